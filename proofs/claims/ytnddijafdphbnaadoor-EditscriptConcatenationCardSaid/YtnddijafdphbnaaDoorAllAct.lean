/- The walks of the four operations: read, remove, insert, swap. -/
import Derived.Test.YtnddijafdphbnaaDoorAllSt
namespace Go.Proofs.YtnddijafdphbnaaDoor.All
open Go.RowKit Go.Proofs.YtnddijafdphbnaaDoorW.PrintWords Go.Proofs.YtnddijafdphbnaaDoorW.PrintLast Go.Proofs.YtnddijafdphbnaaDoorW.PrintMore
set_option linter.unusedVariables false
set_option linter.unusedSimpArgs false

/-- A saturating sum, as the program forms it. -/
def addE (a b : Int) : Int := mn (wrap64 (a + b)) 1099511627776
theorem add_calls (a b : Int) (w : World) : Calls Tryd.prog 36 #[.int .i64 a, .int .i64 b] w fun e w' => e = .returned (.int .i64 (addE a b)) ∧ Below w.heap.size w w' := editscript_add.calls a b (addE a b) w rfl
theorem Fr.keeps' {g B gb : Nat} {ok OK : Nat → Prop} {W W' : World} (h : Fr g B OK W W') (ho : OK = ok2 ok gb) {o : Obj} (hb : W.heap[gb]? = some o) (hne : gb ≠ g) : W'.heap[gb]? = some o := by
 subst ho
 exact Fr.keeps h hb hne
section
variable {A0 : Option Addr} {n0 c0 : Nat} {A1 : Option Addr} {n1 c1 : Nat} {sw : Int} {g gb B : Nat} {ok OK : Nat → Prop} {W W2 W3 : World} {at_ at0 : Int} {out out0 : List Int} {cost cost0 : Int}
theorem fin_plain (hB : B ≤ g) (he : ES A0 n0 c0 A1 n1 c1 sw g B ok W3 at_ out cost) (hf : Fr g B ok W W3) (n : Int) : ES A0 n0 c0 A1 n1 c1 sw g B ok (W3.setCell ⟨g, 5, none⟩ (.int .i64 n)) at_ out n ∧ Fr g B ok W (W3.setCell ⟨g, 5, none⟩ (.int .i64 n)) := ⟨ES.setCost he n, Fr.set hf hB 5 _⟩
theorem fin_box (H : ES A0 n0 c0 A1 n1 c1 sw g B ok W at0 out0 cost0) (hw2 : Below W.heap.size W W2) (hBW : B ≤ W.heap.size) (hgg : W.heap.size ≤ gb) (hok : OK = ok2 ok gb) (hB : B ≤ g) (he : ES A0 n0 c0 A1 n1 c1 sw g B OK W3 at_ out cost) (hf : Fr g B OK W2 W3) (n : Int) : ES A0 n0 c0 A1 n1 c1 sw g B ok (W3.setCell ⟨g, 5, none⟩ (.int .i64 n)) at_ out n ∧ Fr g B ok W (W3.setCell ⟨g, 5, none⟩ (.int .i64 n)) := by
 subst hok
 have f := Fr.set hf hB 5 (.int .i64 n)
 exact ⟨ES.wide (ES.setCost he n) H.2.1 (fun k hk => H.2.2 k (Nat.le_trans (Nat.le_trans hw2.size f.1.size) hk)), Fr.unbox hw2 hBW hgg f⟩
end

set_option maxHeartbeats 4000000 in
set_option maxRecDepth 100000 in
theorem read_end (A0 : Option Addr) (c0 : Nat) (cols : List S33) (A1 : Option Addr) (c1 : Nat) (ins : List Int) (sw : Int) (g : Nat) (ok : Nat → Prop) (w0 W : World) (at_ : Nat) (out : List Int) (cost t : Int) (h : ES A0 cols.length c0 A1 ins.length c1 sw g w0.heap.size ok W at_ out cost) (hB : w0.heap.size ≤ g) (hn : out.length < 1000000) (hl : cols.length ≤ 1000000) (hil : ins.length ≤ 1000000) (hW : Below w0.heap.size w0 W) (hC : Kd.C k33 w0 A0 cols.length cols) (hI : Kd.C (Kd.int .i64) w0 A1 ins.length ins) (he : cols.length ≤ at_) :
  Calls Tryd.prog 58 #[.pointer (some ⟨g, 0, none⟩), .int .i64 t] W fun e W' => e = .returned (.bool false) ∧ Below W.heap.size W W' := by
 have H := Aside0.mk h
 have hC := Aside0.mk hC
 have hI := Aside0.mk hI
 have hW := Aside0.mk hW
 have hn0 := Aside0.mk hn
 have hl := Aside0.mk hl
 have hil := Aside0.mk hil
 have HBW := Aside0.mk (show w0.heap.size ≤ W.heap.size from hW.out.size)
 clear h hn
 have hn := Aside0.mk he
 clear he
 go_enter Tryd.func58, Tryd.ntmps58
 go_wp2_with (first | (go_at_call 62; (with_reducible refine (next_no A0 cols.length c0 A1 ins.length c1 sw g w0.heap.size ok _ at_ out cost H.out hn.out).mono ?_); rintro e w1 ⟨rfl, hb1⟩; have HB1 := Aside0.mk hb1; clear hb1))
 go_ret
 exact ⟨rfl, below_alloc HB1.out _⟩

set_option maxHeartbeats 4000000 in
set_option maxRecDepth 100000 in
theorem remove_end (A0 : Option Addr) (c0 : Nat) (cols : List S33) (A1 : Option Addr) (c1 : Nat) (ins : List Int) (sw : Int) (g : Nat) (ok : Nat → Prop) (w0 W : World) (at_ : Nat) (out : List Int) (cost t : Int) (h : ES A0 cols.length c0 A1 ins.length c1 sw g w0.heap.size ok W at_ out cost) (hB : w0.heap.size ≤ g) (hn : out.length < 1000000) (hl : cols.length ≤ 1000000) (hil : ins.length ≤ 1000000) (hW : Below w0.heap.size w0 W) (hC : Kd.C k33 w0 A0 cols.length cols) (hI : Kd.C (Kd.int .i64) w0 A1 ins.length ins) (he : cols.length ≤ at_) :
  Calls Tryd.prog 59 #[.pointer (some ⟨g, 0, none⟩), .int .i64 t] W fun e W' => e = .returned (.bool false) ∧ Below W.heap.size W W' := by
 have H := Aside0.mk h
 have hC := Aside0.mk hC
 have hI := Aside0.mk hI
 have hW := Aside0.mk hW
 have hn0 := Aside0.mk hn
 have hl := Aside0.mk hl
 have hil := Aside0.mk hil
 have HBW := Aside0.mk (show w0.heap.size ≤ W.heap.size from hW.out.size)
 clear h hn
 have hn := Aside0.mk he
 clear he
 go_enter Tryd.func59, Tryd.ntmps59
 go_wp2_with (first | (go_at_call 62; (with_reducible refine (next_no A0 cols.length c0 A1 ins.length c1 sw g w0.heap.size ok _ at_ out cost H.out hn.out).mono ?_); rintro e w1 ⟨rfl, hb1⟩; have HB1 := Aside0.mk hb1; clear hb1))
 go_ret
 exact ⟨rfl, below_alloc HB1.out _⟩

set_option maxHeartbeats 4000000 in
set_option maxRecDepth 100000 in
theorem read_neg (A0 : Option Addr) (c0 : Nat) (cols : List S33) (A1 : Option Addr) (c1 : Nat) (ins : List Int) (sw : Int) (g : Nat) (ok : Nat → Prop) (w0 W : World) (at_ : Nat) (out : List Int) (cost t : Int) (h : ES A0 cols.length c0 A1 ins.length c1 sw g w0.heap.size ok W at_ out cost) (hB : w0.heap.size ≤ g) (hn : out.length < 1000000) (hl : cols.length ≤ 1000000) (hil : ins.length ≤ 1000000) (hW : Below w0.heap.size w0 W) (hC : Kd.C k33 w0 A0 cols.length cols) (hI : Kd.C (Kd.int .i64) w0 A1 ins.length ins) (he : at_ < cols.length) (col : S33) (hcol : Aside0 (cols[at_] = col)) (ht : t < 0) :
  Calls Tryd.prog 58 #[.pointer (some ⟨g, 0, none⟩), .int .i64 t] W fun e W' => e = .returned (.bool false) ∧ Below W.heap.size W W' := by
 have H := Aside0.mk h
 have hC := Aside0.mk hC
 have hI := Aside0.mk hI
 have hW := Aside0.mk hW
 have hn0 := Aside0.mk hn
 have hl := Aside0.mk hl
 have hil := Aside0.mk hil
 have HBW := Aside0.mk (show w0.heap.size ≤ W.heap.size from hW.out.size)
 clear h hn
 have hn := Aside0.mk he
 have b0 : decide (t < 0) = true := decide_eq_true ht
 clear ht
 go_enter Tryd.func58, Tryd.ntmps58
 go_wp2_with (first | (go_at_call 62; (with_reducible refine (next_yes A0 c0 cols A1 ins.length c1 sw g w0.heap.size ok _ at_ out cost H.out hn.out col hcol.out w0 hW.out hC.out).mono ?_); rintro e w1 ⟨⟨Ar, cr, hAr, rfl⟩, hb1⟩; have HAR := Aside0.mk hAr; have HB1 := Aside0.mk hb1; clear hAr hb1))
 go_ret
 exact ⟨rfl, below_alloc HB1.out _⟩

set_option maxHeartbeats 4000000 in
set_option maxRecDepth 100000 in
theorem read_big (A0 : Option Addr) (c0 : Nat) (cols : List S33) (A1 : Option Addr) (c1 : Nat) (ins : List Int) (sw : Int) (g : Nat) (ok : Nat → Prop) (w0 W : World) (at_ : Nat) (out : List Int) (cost t : Int) (h : ES A0 cols.length c0 A1 ins.length c1 sw g w0.heap.size ok W at_ out cost) (hB : w0.heap.size ≤ g) (hn : out.length < 1000000) (hl : cols.length ≤ 1000000) (hil : ins.length ≤ 1000000) (hW : Below w0.heap.size w0 W) (hC : Kd.C k33 w0 A0 cols.length cols) (hI : Kd.C (Kd.int .i64) w0 A1 ins.length ins) (he : at_ < cols.length) (col : S33) (hcol : Aside0 (cols[at_] = col)) (ht : 0 ≤ t) (ht2 : (col.f1.length : Int) ≤ t) :
  Calls Tryd.prog 58 #[.pointer (some ⟨g, 0, none⟩), .int .i64 t] W fun e W' => e = .returned (.bool false) ∧ Below W.heap.size W W' := by
 have H := Aside0.mk h
 have hC := Aside0.mk hC
 have hI := Aside0.mk hI
 have hW := Aside0.mk hW
 have hn0 := Aside0.mk hn
 have hl := Aside0.mk hl
 have hil := Aside0.mk hil
 have HBW := Aside0.mk (show w0.heap.size ≤ W.heap.size from hW.out.size)
 clear h hn
 have hn := Aside0.mk he
 have b0 : decide (t < 0) = false := decide_eq_false (by omega)
 have b1 : decide ((col.f1.length : Int) ≤ t) = true := decide_eq_true ht2
 clear ht ht2
 go_enter Tryd.func58, Tryd.ntmps58
 go_wp2_with (first | (go_at_call 62; (with_reducible refine (next_yes A0 c0 cols A1 ins.length c1 sw g w0.heap.size ok _ at_ out cost H.out hn.out col hcol.out w0 hW.out hC.out).mono ?_); rintro e w1 ⟨⟨Ar, cr, hAr, rfl⟩, hb1⟩; have HAR := Aside0.mk hAr; have HB1 := Aside0.mk hb1; clear hAr hb1))
 go_ret
 exact ⟨rfl, below_alloc HB1.out _⟩

set_option maxHeartbeats 4000000 in
set_option maxRecDepth 100000 in
theorem read_neg2 (A0 : Option Addr) (c0 : Nat) (cols : List S33) (A1 : Option Addr) (c1 : Nat) (ins : List Int) (sw : Int) (g : Nat) (ok : Nat → Prop) (w0 W : World) (at_ : Nat) (out : List Int) (cost t : Int) (h : ES A0 cols.length c0 A1 ins.length c1 sw g w0.heap.size ok W at_ out cost) (hB : w0.heap.size ≤ g) (hn : out.length < 1000000) (hl : cols.length ≤ 1000000) (hil : ins.length ≤ 1000000) (hW : Below w0.heap.size w0 W) (hC : Kd.C k33 w0 A0 cols.length cols) (hI : Kd.C (Kd.int .i64) w0 A1 ins.length ins) (he : at_ < cols.length) (col : S33) (hcol : Aside0 (cols[at_] = col)) (ht : 0 ≤ t) (ht2 : t < (col.f1.length : Int)) (hr : rd col.f1 t < 0) :
  Calls Tryd.prog 58 #[.pointer (some ⟨g, 0, none⟩), .int .i64 t] W fun e W' => e = .returned (.bool false) ∧ Below W.heap.size W W' := by
 have H := Aside0.mk h
 have hC := Aside0.mk hC
 have hI := Aside0.mk hI
 have hW := Aside0.mk hW
 have hn0 := Aside0.mk hn
 have hl := Aside0.mk hl
 have hil := Aside0.mk hil
 have HBW := Aside0.mk (show w0.heap.size ≤ W.heap.size from hW.out.size)
 clear h hn
 have hn := Aside0.mk he
 have b0 : decide (t < 0) = false := decide_eq_false (by omega)
 have b1 : decide ((col.f1.length : Int) ≤ t) = false := decide_eq_false (by omega)
 have q0 := eq_true ht
 have q1 := eq_true ht2
 have T0 := Aside0.mk ht
 have T1 := Aside0.mk ht2
 clear ht ht2
 have b2 : decide (rd col.f1 t < 0) = true := decide_eq_true hr
 clear hr
 go_enter Tryd.func58, Tryd.ntmps58
 go_upto_region 2 with (first | (go_at_call 62; (with_reducible refine (next_yes A0 c0 cols A1 ins.length c1 sw g w0.heap.size ok _ at_ out cost H.out hn.out col hcol.out w0 hW.out hC.out).mono ?_); rintro e w1 ⟨⟨Ar, cr, hAr, rfl⟩, hb1⟩; have HAR := Aside0.mk hAr; have HB1 := Aside0.mk hb1; obtain ⟨ad, ead, hx⟩ := Kd.at_int hAr t T0.out T1.out; cases ead; clear hAr hb1))
 have HK2 := Aside0.mk (blk_new w1 (.cells #[.int .i64 col.f0, .slice (some ad) col.f1.length cr, .int .i64 col.f2] 33 (0, 0)))
 have HW2 := Aside0.mk (below_alloc HB1.out (.cells #[.int .i64 col.f0, .slice (some ad) col.f1.length cr, .int .i64 col.f2] 33 (0, 0)))
 have HE2 := Aside0.mk (ES.box H.out HW2.out HB1.out.size (blk_lt HK2.out))
 have HGG := Aside0.mk HB1.out.size
 obtain ⟨gb, hgb⟩ : ∃ gb, gb = w1.heap.size := ⟨_, rfl⟩
 obtain ⟨W2, hW2⟩ : ∃ W2 : World, W2 = w1.alloc (.cells #[.int .i64 col.f0, .slice (some ad) col.f1.length cr, .int .i64 col.f2] 33 (0, 0)) := ⟨_, rfl⟩
 rw [← hW2, ← hgb] at HE2 HK2
 rw [← hW2] at HW2
 rw [← hgb] at HGG
 rw [← hW2, ← hgb]
 clear hW2 hgb HB1
 have HGN := Aside0.mk (show gb ≠ g by have h1 := H.out.lt; have h2 := HGG.out; omega)
 obtain ⟨OK, hOK⟩ : ∃ OK, OK = ok2 ok gb := ⟨_, rfl⟩
 rw [← hOK] at HE2
 have HOK := Aside0.mk hOK
 clear hOK
 obtain ⟨⟨vo2, hbk2, _⟩, _⟩ := HE2.out
 have hc23 : W2.cell? ⟨g, 3, none⟩ = some (.int .i64 at_) := (blk_cell hbk2 3).trans rfl
 have hf23 := blk_frozen hbk2 3
 have hab : (at_ : Int) ≤ 1000000 := by have := hn.out; have := hl.out; omega
 have hk21 : W2.cell? ⟨gb, 1, none⟩ = some (.slice (some ad) col.f1.length cr) := (blk_cell HK2.out 1).trans rfl
 have hk22 : W2.cell? ⟨gb, 2, none⟩ = some (.int .i64 col.f2) := (blk_cell HK2.out 2).trans rfl
 have hx0 := Aside0.mk hx
 replace hx := ((Below.trans hW.out (HW2.out.mono hW.out.size)).cell (World.block_lt_of_cell? w0 _ hx)).trans hx
 clear hbk2
 go_wp2
 go_ret
 exact ⟨rfl, HW2.out⟩

set_option maxHeartbeats 4000000 in
set_option maxRecDepth 100000 in
theorem read_yes (A0 : Option Addr) (c0 : Nat) (cols : List S33) (A1 : Option Addr) (c1 : Nat) (ins : List Int) (sw : Int) (g : Nat) (ok : Nat → Prop) (w0 W : World) (at_ : Nat) (out : List Int) (cost t : Int) (h : ES A0 cols.length c0 A1 ins.length c1 sw g w0.heap.size ok W at_ out cost) (hB : w0.heap.size ≤ g) (hn : out.length < 1000000) (hl : cols.length ≤ 1000000) (hil : ins.length ≤ 1000000) (hW : Below w0.heap.size w0 W) (hC : Kd.C k33 w0 A0 cols.length cols) (hI : Kd.C (Kd.int .i64) w0 A1 ins.length ins) (he : at_ < cols.length) (col : S33) (hcol : Aside0 (cols[at_] = col)) (ht : 0 ≤ t) (ht2 : t < (col.f1.length : Int)) (hr : 0 ≤ rd col.f1 t) :
  Calls Tryd.prog 58 #[.pointer (some ⟨g, 0, none⟩), .int .i64 t] W fun e W' => e = .returned (.bool true) ∧ ES A0 cols.length c0 A1 ins.length c1 sw g w0.heap.size ok W' ((at_ : Int) + 1) (out ++ [t]) (addE cost (rd col.f1 t)) ∧ Fr g w0.heap.size ok W W' := by
 have H := Aside0.mk h
 have hC := Aside0.mk hC
 have hI := Aside0.mk hI
 have hW := Aside0.mk hW
 have hn0 := Aside0.mk hn
 have hl := Aside0.mk hl
 have hil := Aside0.mk hil
 have HBW := Aside0.mk (show w0.heap.size ≤ W.heap.size from hW.out.size)
 clear h hn
 have hn := Aside0.mk he
 have b0 : decide (t < 0) = false := decide_eq_false (by omega)
 have b1 : decide ((col.f1.length : Int) ≤ t) = false := decide_eq_false (by omega)
 have q0 := eq_true ht
 have q1 := eq_true ht2
 have T0 := Aside0.mk ht
 have T1 := Aside0.mk ht2
 clear ht ht2
 have b2 : decide (rd col.f1 t < 0) = false := decide_eq_false (by omega)
 clear hr
 go_enter Tryd.func58, Tryd.ntmps58
 go_upto_region 2 with (first | (go_at_call 62; (with_reducible refine (next_yes A0 c0 cols A1 ins.length c1 sw g w0.heap.size ok _ at_ out cost H.out hn.out col hcol.out w0 hW.out hC.out).mono ?_); rintro e w1 ⟨⟨Ar, cr, hAr, rfl⟩, hb1⟩; have HAR := Aside0.mk hAr; have HB1 := Aside0.mk hb1; obtain ⟨ad, ead, hx⟩ := Kd.at_int hAr t T0.out T1.out; cases ead; clear hAr hb1))
 have HK2 := Aside0.mk (blk_new w1 (.cells #[.int .i64 col.f0, .slice (some ad) col.f1.length cr, .int .i64 col.f2] 33 (0, 0)))
 have HW2 := Aside0.mk (below_alloc HB1.out (.cells #[.int .i64 col.f0, .slice (some ad) col.f1.length cr, .int .i64 col.f2] 33 (0, 0)))
 have HE2 := Aside0.mk (ES.box H.out HW2.out HB1.out.size (blk_lt HK2.out))
 have HGG := Aside0.mk HB1.out.size
 obtain ⟨gb, hgb⟩ : ∃ gb, gb = w1.heap.size := ⟨_, rfl⟩
 obtain ⟨W2, hW2⟩ : ∃ W2 : World, W2 = w1.alloc (.cells #[.int .i64 col.f0, .slice (some ad) col.f1.length cr, .int .i64 col.f2] 33 (0, 0)) := ⟨_, rfl⟩
 rw [← hW2, ← hgb] at HE2 HK2
 rw [← hW2] at HW2
 rw [← hgb] at HGG
 rw [← hW2, ← hgb]
 clear hW2 hgb HB1
 have HGN := Aside0.mk (show gb ≠ g by have h1 := H.out.lt; have h2 := HGG.out; omega)
 obtain ⟨OK, hOK⟩ : ∃ OK, OK = ok2 ok gb := ⟨_, rfl⟩
 rw [← hOK] at HE2
 have HOK := Aside0.mk hOK
 clear hOK
 obtain ⟨⟨vo2, hbk2, _⟩, _⟩ := HE2.out
 have hc23 : W2.cell? ⟨g, 3, none⟩ = some (.int .i64 at_) := (blk_cell hbk2 3).trans rfl
 have hf23 := blk_frozen hbk2 3
 have hab : (at_ : Int) ≤ 1000000 := by have := hn.out; have := hl.out; omega
 have hk21 : W2.cell? ⟨gb, 1, none⟩ = some (.slice (some ad) col.f1.length cr) := (blk_cell HK2.out 1).trans rfl
 have hk22 : W2.cell? ⟨gb, 2, none⟩ = some (.int .i64 col.f2) := (blk_cell HK2.out 2).trans rfl
 have hx0 := Aside0.mk hx
 replace hx := ((Below.trans hW.out (HW2.out.mono hW.out.size)).cell (World.block_lt_of_cell? w0 _ hx)).trans hx
 clear hbk2
 go_upto_region 4 with (fail)
 go_upto_region 6 with (first | (go_at_call 56; (with_reducible refine (emit_calls A0 cols.length c0 A1 ins.length c1 sw g w0.heap.size OK _ ((at_ : Int) + 1) (out) cost t (ES.setAt HE2.out ((at_ : Int) + 1)) hB (by have := hn0.out; (try simp only [List.length_append, List.length_cons, List.length_nil]); omega)).mono ?_); rintro e w4 ⟨rfl, hes4, hfr4⟩; have HE4 := Aside0.mk hes4; have HF4 := Aside0.mk (Fr.trans (Fr.set (Fr.refl g w0.heap.size OK W2) hB 3 (.int .i64 ((at_ : Int) + 1))) hfr4); clear hes4 hfr4))
 obtain ⟨⟨vo4, hbk4, _⟩, _⟩ := HE4.out
 have hc45 : w4.cell? ⟨g, 5, none⟩ = some (.int .i64 cost) := (blk_cell hbk4 5).trans rfl
 have hf45 := blk_frozen hbk4 5
 have HSZ := Aside0.mk (show w0.heap.size ≤ w4.heap.size from Nat.le_trans HBW.out (Nat.le_trans HW2.out.size HF4.out.1.size))
 have hk4 := HF4.out.keeps' (HOK.out) HK2.out HGN.out
 have hk41 : w4.cell? ⟨gb, 1, none⟩ = some (.slice (some ad) col.f1.length cr) := (blk_cell hk4 1).trans rfl
 have hx4 := ((HF4.out.1).cell (World.block_lt_of_cell? w0 _ hx0.out)).trans ((Below.trans hW.out (HW2.out.mono hW.out.size)).cell (World.block_lt_of_cell? w0 _ hx0.out) |>.trans hx0.out)
 clear hbk4 hk4
 refine start_ (n := 14) (S := fun w' => w'.cell? ⟨g, 5, none⟩ = some (.int .i64 cost) ∧ w'.cell? ⟨gb, 1, none⟩ = some (.slice (some ad) col.f1.length cr) ∧ w'.cell? (ad.add t.toNat) = some (.int .i64 (rd col.f1 t))) (ds := [10, 13]) #[ff,ff,ff,ff,ff,ff,ff,ff,ff,ff,ff,ff,ff,ff] (by kernel_rfl) rfl rfl ⟨hc45, hk41, hx4⟩ (fun hHeld => ?_)
 refine pv 0 43 ?_
 refine pv 1 44 ?_
 refine pv 2 45 ?_
 refine pv 3 46 ?_
 refine pv 5 48 ?_
 refine pv 7 50 ?_
 refine tv 4 47 hHeld ?_
 refine tv 6 49 hHeld ?_
 refine pv 8 51 ?_
 refine tv 9 52 hHeld ?_
 refine last_ (i := 10) (N := some 53) #[tt,tt,tt,tt,tt,tt,tt,tt,tt,tt,tt,ff,ff,ff] rfl rfl (by kernel_rfl) (by decide) (fun K hK => ?_)
 refine goes_ Tryd.func36 (by kernel_rfl) rfl #[.int .i64 cost, .int .i64 (rd col.f1 t)] (by rfl) rfl rfl (by simp only [List.map_toArray, List.map_cons, List.map_nil]; rfl) ?_
 with_reducible refine (add_calls cost (rd col.f1 t) _).mono ?_
 rintro e w9 ⟨rfl, hb9⟩
 refine ⟨_, rfl, ?_⟩
 have HE9 := Aside0.mk (ES.below (HE4.out.drewN _) hb9)
 have HF9 := Aside0.mk ((HF4.out.drewN _).trans (Fr.below (g := g) (ok := OK) hb9 HSZ.out))
 obtain ⟨⟨vo9, hbk9, _⟩, _⟩ := HE9.out
 have hc95 : w9.cell? ⟨g, 5, none⟩ = some (.int .i64 cost) := (blk_cell hbk9 5).trans rfl
 have hf95 := blk_frozen hbk9 5
 clear hbk9 hb9
 refine hK.out _ _ ?_
 clear hK K
 refine norm_ (a' := ?_) ?_ ?_
 rotate_left
 ·
  show Act.put _ (some 53) _ = _
  simp only [nrm]
  rfl
 refine pv 11 54 ?_
 refine pv 12 55 ?_
 refine last_ (i := 13) (N := none) #[tt,tt,tt,tt,tt,tt,tt,tt,tt,tt,tt,tt,tt,tt] rfl rfl (by kernel_rfl) (by decide) (fun K hK => ?_)
 refine skip_ (w1 := ?_) (by rfl) rfl ?_ ?_
 rotate_left
 ·
  go_simp
  rfl
 refine hK.out _ _ ?_
 clear hK K
 refine done_ (by kernel_rfl) ?_
 go_wp2
 go_ret
 exact ⟨rfl, fin_box H.out HW2.out HBW.out HGG.out HOK.out hB HE9.out HF9.out _⟩

set_option maxHeartbeats 4000000 in
set_option maxRecDepth 100000 in
theorem remove_t (A0 : Option Addr) (c0 : Nat) (cols : List S33) (A1 : Option Addr) (c1 : Nat) (ins : List Int) (sw : Int) (g : Nat) (ok : Nat → Prop) (w0 W : World) (at_ : Nat) (out : List Int) (cost t : Int) (h : ES A0 cols.length c0 A1 ins.length c1 sw g w0.heap.size ok W at_ out cost) (hB : w0.heap.size ≤ g) (hn : out.length < 1000000) (hl : cols.length ≤ 1000000) (hil : ins.length ≤ 1000000) (hW : Below w0.heap.size w0 W) (hC : Kd.C k33 w0 A0 cols.length cols) (hI : Kd.C (Kd.int .i64) w0 A1 ins.length ins) (he : at_ < cols.length) (col : S33) (hcol : Aside0 (cols[at_] = col)) (ht : t ≠ 0) :
  Calls Tryd.prog 59 #[.pointer (some ⟨g, 0, none⟩), .int .i64 t] W fun e W' => e = .returned (.bool false) ∧ Below W.heap.size W W' := by
 have H := Aside0.mk h
 have hC := Aside0.mk hC
 have hI := Aside0.mk hI
 have hW := Aside0.mk hW
 have hn0 := Aside0.mk hn
 have hl := Aside0.mk hl
 have hil := Aside0.mk hil
 have HBW := Aside0.mk (show w0.heap.size ≤ W.heap.size from hW.out.size)
 clear h hn
 have hn := Aside0.mk he
 have b0 : (t != 0) = true := bne_iff_ne.mpr ht
 clear ht
 go_enter Tryd.func59, Tryd.ntmps59
 go_wp2_with (first | (go_at_call 62; (with_reducible refine (next_yes A0 c0 cols A1 ins.length c1 sw g w0.heap.size ok _ at_ out cost H.out hn.out col hcol.out w0 hW.out hC.out).mono ?_); rintro e w1 ⟨⟨Ar, cr, hAr, rfl⟩, hb1⟩; have HAR := Aside0.mk hAr; have HB1 := Aside0.mk hb1; clear hAr hb1))
 go_ret
 exact ⟨rfl, below_alloc HB1.out _⟩

set_option maxHeartbeats 4000000 in
set_option maxRecDepth 100000 in
theorem remove_inf (A0 : Option Addr) (c0 : Nat) (cols : List S33) (A1 : Option Addr) (c1 : Nat) (ins : List Int) (sw : Int) (g : Nat) (ok : Nat → Prop) (w0 W : World) (at_ : Nat) (out : List Int) (cost t : Int) (h : ES A0 cols.length c0 A1 ins.length c1 sw g w0.heap.size ok W at_ out cost) (hB : w0.heap.size ≤ g) (hn : out.length < 1000000) (hl : cols.length ≤ 1000000) (hil : ins.length ≤ 1000000) (hW : Below w0.heap.size w0 W) (hC : Kd.C k33 w0 A0 cols.length cols) (hI : Kd.C (Kd.int .i64) w0 A1 ins.length ins) (he : at_ < cols.length) (col : S33) (hcol : Aside0 (cols[at_] = col)) (ht : t = 0) (hr : 1099511627776 ≤ col.f2) :
  Calls Tryd.prog 59 #[.pointer (some ⟨g, 0, none⟩), .int .i64 t] W fun e W' => e = .returned (.bool false) ∧ Below W.heap.size W W' := by
 have H := Aside0.mk h
 have hC := Aside0.mk hC
 have hI := Aside0.mk hI
 have hW := Aside0.mk hW
 have hn0 := Aside0.mk hn
 have hl := Aside0.mk hl
 have hil := Aside0.mk hil
 have HBW := Aside0.mk (show w0.heap.size ≤ W.heap.size from hW.out.size)
 clear h hn
 have hn := Aside0.mk he
 have b0 : (t != 0) = false := by subst ht; rfl
 have b2 : decide (1099511627776 ≤ col.f2) = true := decide_eq_true hr
 clear hr ht
 go_enter Tryd.func59, Tryd.ntmps59
 go_wp2_with (first | (go_at_call 62; (with_reducible refine (next_yes A0 c0 cols A1 ins.length c1 sw g w0.heap.size ok _ at_ out cost H.out hn.out col hcol.out w0 hW.out hC.out).mono ?_); rintro e w1 ⟨⟨Ar, cr, hAr, rfl⟩, hb1⟩; have HAR := Aside0.mk hAr; have HB1 := Aside0.mk hb1; clear hAr hb1))
 go_ret
 exact ⟨rfl, below_alloc HB1.out _⟩

set_option maxHeartbeats 4000000 in
set_option maxRecDepth 100000 in
theorem remove_yes (A0 : Option Addr) (c0 : Nat) (cols : List S33) (A1 : Option Addr) (c1 : Nat) (ins : List Int) (sw : Int) (g : Nat) (ok : Nat → Prop) (w0 W : World) (at_ : Nat) (out : List Int) (cost t : Int) (h : ES A0 cols.length c0 A1 ins.length c1 sw g w0.heap.size ok W at_ out cost) (hB : w0.heap.size ≤ g) (hn : out.length < 1000000) (hl : cols.length ≤ 1000000) (hil : ins.length ≤ 1000000) (hW : Below w0.heap.size w0 W) (hC : Kd.C k33 w0 A0 cols.length cols) (hI : Kd.C (Kd.int .i64) w0 A1 ins.length ins) (he : at_ < cols.length) (col : S33) (hcol : Aside0 (cols[at_] = col)) (ht : t = 0) (hr : col.f2 < 1099511627776) :
  Calls Tryd.prog 59 #[.pointer (some ⟨g, 0, none⟩), .int .i64 t] W fun e W' => e = .returned (.bool true) ∧ ES A0 cols.length c0 A1 ins.length c1 sw g w0.heap.size ok W' ((at_ : Int) + 1) out (addE cost col.f2) ∧ Fr g w0.heap.size ok W W' := by
 have H := Aside0.mk h
 have hC := Aside0.mk hC
 have hI := Aside0.mk hI
 have hW := Aside0.mk hW
 have hn0 := Aside0.mk hn
 have hl := Aside0.mk hl
 have hil := Aside0.mk hil
 have HBW := Aside0.mk (show w0.heap.size ≤ W.heap.size from hW.out.size)
 clear h hn
 have hn := Aside0.mk he
 have b0 : (t != 0) = false := by subst ht; rfl
 have b2 : decide (1099511627776 ≤ col.f2) = false := decide_eq_false (by omega)
 clear hr ht
 go_enter Tryd.func59, Tryd.ntmps59
 go_upto_region 2 with (first | (go_at_call 62; (with_reducible refine (next_yes A0 c0 cols A1 ins.length c1 sw g w0.heap.size ok _ at_ out cost H.out hn.out col hcol.out w0 hW.out hC.out).mono ?_); rintro e w1 ⟨⟨Ar, cr, hAr, rfl⟩, hb1⟩; have HAR := Aside0.mk hAr; have HB1 := Aside0.mk hb1; clear hAr hb1))
 have HK2 := Aside0.mk (blk_new w1 (.cells #[.int .i64 col.f0, .slice Ar col.f1.length cr, .int .i64 col.f2] 33 (0, 0)))
 have HW2 := Aside0.mk (below_alloc HB1.out (.cells #[.int .i64 col.f0, .slice Ar col.f1.length cr, .int .i64 col.f2] 33 (0, 0)))
 have HE2 := Aside0.mk (ES.box H.out HW2.out HB1.out.size (blk_lt HK2.out))
 have HGG := Aside0.mk HB1.out.size
 obtain ⟨gb, hgb⟩ : ∃ gb, gb = w1.heap.size := ⟨_, rfl⟩
 obtain ⟨W2, hW2⟩ : ∃ W2 : World, W2 = w1.alloc (.cells #[.int .i64 col.f0, .slice Ar col.f1.length cr, .int .i64 col.f2] 33 (0, 0)) := ⟨_, rfl⟩
 rw [← hW2, ← hgb] at HE2 HK2
 rw [← hW2] at HW2
 rw [← hgb] at HGG
 rw [← hW2, ← hgb]
 clear hW2 hgb HB1
 have HGN := Aside0.mk (show gb ≠ g by have h1 := H.out.lt; have h2 := HGG.out; omega)
 obtain ⟨OK, hOK⟩ : ∃ OK, OK = ok2 ok gb := ⟨_, rfl⟩
 rw [← hOK] at HE2
 have HOK := Aside0.mk hOK
 clear hOK
 obtain ⟨⟨vo2, hbk2, _⟩, _⟩ := HE2.out
 have hc23 : W2.cell? ⟨g, 3, none⟩ = some (.int .i64 at_) := (blk_cell hbk2 3).trans rfl
 have hf23 := blk_frozen hbk2 3
 have hab : (at_ : Int) ≤ 1000000 := by have := hn.out; have := hl.out; omega
 have hk21 : W2.cell? ⟨gb, 1, none⟩ = some (.slice Ar col.f1.length cr) := (blk_cell HK2.out 1).trans rfl
 have hk22 : W2.cell? ⟨gb, 2, none⟩ = some (.int .i64 col.f2) := (blk_cell HK2.out 2).trans rfl
 clear hbk2
 go_upto_region 5 with (fail)
 obtain ⟨w4, hw4⟩ : ∃ w4, w4 = W2.setCell ⟨g, 3, none⟩ (.int .i64 ((at_ : Int) + 1)) := ⟨_, rfl⟩
 have HE4 := Aside0.mk (ES.setAt HE2.out ((at_ : Int) + 1))
 have HF4 := Aside0.mk (Fr.set (Fr.refl g w0.heap.size OK W2) hB 3 (.int .i64 ((at_ : Int) + 1)))
 rw [← hw4] at HE4 HF4 ⊢
 clear hw4
 obtain ⟨⟨vo4, hbk4, _⟩, _⟩ := HE4.out
 have hc45 : w4.cell? ⟨g, 5, none⟩ = some (.int .i64 cost) := (blk_cell hbk4 5).trans rfl
 have hf45 := blk_frozen hbk4 5
 have HSZ := Aside0.mk (show w0.heap.size ≤ w4.heap.size from Nat.le_trans HBW.out (Nat.le_trans HW2.out.size HF4.out.1.size))
 have hk4 := HF4.out.keeps' (HOK.out) HK2.out HGN.out
 have hk42 : w4.cell? ⟨gb, 2, none⟩ = some (.int .i64 col.f2) := (blk_cell hk4 2).trans rfl
 clear hbk4 hk4
 refine start_ (n := 11) (S := fun w' => w'.cell? ⟨g, 5, none⟩ = some (.int .i64 cost) ∧ w'.cell? ⟨gb, 2, none⟩ = some (.int .i64 col.f2)) (ds := [7, 10]) #[ff,ff,ff,ff,ff,ff,ff,ff,ff,ff,ff] (by kernel_rfl) rfl rfl ⟨hc45, hk42⟩ (fun hHeld => ?_)
 refine pv 0 30 ?_
 refine pv 1 31 ?_
 refine pv 2 32 ?_
 refine pv 3 33 ?_
 refine pv 5 35 ?_
 refine tv 4 34 hHeld ?_
 refine tv 6 36 hHeld ?_
 refine last_ (i := 7) (N := some 37) #[tt,tt,tt,tt,tt,tt,tt,tt,ff,ff,ff] rfl rfl (by kernel_rfl) (by decide) (fun K hK => ?_)
 refine goes_ Tryd.func36 (by kernel_rfl) rfl #[.int .i64 cost, .int .i64 (col.f2)] (by rfl) rfl rfl (by simp only [List.map_toArray, List.map_cons, List.map_nil]; rfl) ?_
 with_reducible refine (add_calls cost (col.f2) _).mono ?_
 rintro e w9 ⟨rfl, hb9⟩
 refine ⟨_, rfl, ?_⟩
 have HE9 := Aside0.mk (ES.below (HE4.out.drewN _) hb9)
 have HF9 := Aside0.mk ((HF4.out.drewN _).trans (Fr.below (g := g) (ok := OK) hb9 HSZ.out))
 obtain ⟨⟨vo9, hbk9, _⟩, _⟩ := HE9.out
 have hc95 : w9.cell? ⟨g, 5, none⟩ = some (.int .i64 cost) := (blk_cell hbk9 5).trans rfl
 have hf95 := blk_frozen hbk9 5
 clear hbk9 hb9
 refine hK.out _ _ ?_
 clear hK K
 refine norm_ (a' := ?_) ?_ ?_
 rotate_left
 ·
  show Act.put _ (some 37) _ = _
  simp only [nrm]
  rfl
 refine pv 8 38 ?_
 refine pv 9 39 ?_
 refine last_ (i := 10) (N := none) #[tt,tt,tt,tt,tt,tt,tt,tt,tt,tt,tt] rfl rfl (by kernel_rfl) (by decide) (fun K hK => ?_)
 refine skip_ (w1 := ?_) (by rfl) rfl ?_ ?_
 rotate_left
 ·
  go_simp
  rfl
 refine hK.out _ _ ?_
 clear hK K
 refine done_ (by kernel_rfl) ?_
 go_wp2
 go_ret
 exact ⟨rfl, fin_box H.out HW2.out HBW.out HGG.out HOK.out hB HE9.out HF9.out _⟩

set_option maxHeartbeats 4000000 in
set_option maxRecDepth 100000 in
theorem insert_neg (A0 : Option Addr) (c0 : Nat) (cols : List S33) (A1 : Option Addr) (c1 : Nat) (ins : List Int) (sw : Int) (g : Nat) (ok : Nat → Prop) (w0 W : World) (at_ : Nat) (out : List Int) (cost t : Int) (h : ES A0 cols.length c0 A1 ins.length c1 sw g w0.heap.size ok W at_ out cost) (hB : w0.heap.size ≤ g) (hn : out.length < 1000000) (hl : cols.length ≤ 1000000) (hil : ins.length ≤ 1000000) (hW : Below w0.heap.size w0 W) (hC : Kd.C k33 w0 A0 cols.length cols) (hI : Kd.C (Kd.int .i64) w0 A1 ins.length ins) (ht : t < 0) :
  Calls Tryd.prog 60 #[.pointer (some ⟨g, 0, none⟩), .int .i64 t] W fun e W' => e = .returned (.bool false) ∧ Below W.heap.size W W' := by
 have H := Aside0.mk h
 have hC := Aside0.mk hC
 have hI := Aside0.mk hI
 have hW := Aside0.mk hW
 have hn0 := Aside0.mk hn
 have hl := Aside0.mk hl
 have hil := Aside0.mk hil
 have HBW := Aside0.mk (show w0.heap.size ≤ W.heap.size from hW.out.size)
 clear h hn
 have b0 : decide (t < 0) = true := decide_eq_true ht
 clear ht
 go_enter Tryd.func60, Tryd.ntmps60
 go_wp2
 go_ret
 exact ⟨rfl, Below.refl _ _⟩

set_option maxHeartbeats 4000000 in
set_option maxRecDepth 100000 in
theorem insert_big (A0 : Option Addr) (c0 : Nat) (cols : List S33) (A1 : Option Addr) (c1 : Nat) (ins : List Int) (sw : Int) (g : Nat) (ok : Nat → Prop) (w0 W : World) (at_ : Nat) (out : List Int) (cost t : Int) (h : ES A0 cols.length c0 A1 ins.length c1 sw g w0.heap.size ok W at_ out cost) (hB : w0.heap.size ≤ g) (hn : out.length < 1000000) (hl : cols.length ≤ 1000000) (hil : ins.length ≤ 1000000) (hW : Below w0.heap.size w0 W) (hC : Kd.C k33 w0 A0 cols.length cols) (hI : Kd.C (Kd.int .i64) w0 A1 ins.length ins) (ht : 0 ≤ t) (ht2 : (ins.length : Int) ≤ t) :
  Calls Tryd.prog 60 #[.pointer (some ⟨g, 0, none⟩), .int .i64 t] W fun e W' => e = .returned (.bool false) ∧ Below W.heap.size W W' := by
 have H := Aside0.mk h
 have hC := Aside0.mk hC
 have hI := Aside0.mk hI
 have hW := Aside0.mk hW
 have hn0 := Aside0.mk hn
 have hl := Aside0.mk hl
 have hil := Aside0.mk hil
 have HBW := Aside0.mk (show w0.heap.size ≤ W.heap.size from hW.out.size)
 clear h hn
 obtain ⟨⟨vo, hbk, _⟩, _⟩ := H.out
 have hc1 : W.cell? ⟨g, 1, none⟩ = some (.slice A1 ins.length c1) := (blk_cell hbk 1).trans rfl
 clear hbk
 have b0 : decide (t < 0) = false := decide_eq_false (by omega)
 have b1 : decide ((ins.length : Int) ≤ t) = true := decide_eq_true ht2
 clear ht ht2
 go_enter Tryd.func60, Tryd.ntmps60
 go_wp2
 go_ret
 exact ⟨rfl, Below.refl _ _⟩

set_option maxHeartbeats 4000000 in
set_option maxRecDepth 100000 in
theorem insert_yes (A0 : Option Addr) (c0 : Nat) (cols : List S33) (A1 : Option Addr) (c1 : Nat) (ins : List Int) (sw : Int) (g : Nat) (ok : Nat → Prop) (w0 W : World) (at_ : Nat) (out : List Int) (cost t : Int) (h : ES A0 cols.length c0 A1 ins.length c1 sw g w0.heap.size ok W at_ out cost) (hB : w0.heap.size ≤ g) (hn : out.length < 1000000) (hl : cols.length ≤ 1000000) (hil : ins.length ≤ 1000000) (hW : Below w0.heap.size w0 W) (hC : Kd.C k33 w0 A0 cols.length cols) (hI : Kd.C (Kd.int .i64) w0 A1 ins.length ins) (ht : 0 ≤ t) (ht2 : t < (ins.length : Int)) :
  Calls Tryd.prog 60 #[.pointer (some ⟨g, 0, none⟩), .int .i64 t] W fun e W' => e = .returned (.bool true) ∧ ES A0 cols.length c0 A1 ins.length c1 sw g w0.heap.size ok W' (at_ : Int) (out ++ [t]) (addE cost (rd ins t)) ∧ Fr g w0.heap.size ok W W' := by
 have H := Aside0.mk h
 have hC := Aside0.mk hC
 have hI := Aside0.mk hI
 have hW := Aside0.mk hW
 have hn0 := Aside0.mk hn
 have hl := Aside0.mk hl
 have hil := Aside0.mk hil
 have HBW := Aside0.mk (show w0.heap.size ≤ W.heap.size from hW.out.size)
 clear h hn
 have b0 : decide (t < 0) = false := decide_eq_false (by omega)
 have b1 : decide ((ins.length : Int) ≤ t) = false := decide_eq_false (by omega)
 have q0 := eq_true ht
 have q1 := eq_true ht2
 have T0 := Aside0.mk ht
 have T1 := Aside0.mk ht2
 clear ht ht2
 obtain ⟨ad, ead, hx⟩ := Kd.at_int hI.out t T0.out T1.out
 cases ead
 obtain ⟨⟨vo, hbk, _⟩, _⟩ := H.out
 have hc1 : W.cell? ⟨g, 1, none⟩ = some (.slice (some ad) ins.length c1) := (blk_cell hbk 1).trans rfl
 clear hbk
 go_enter Tryd.func60, Tryd.ntmps60
 go_upto_region 4 with (first | (go_at_call 56; (with_reducible refine (emit_calls A0 cols.length c0 (some ad) ins.length c1 sw g w0.heap.size ok _ ((at_ : Int)) (out) cost t (H.out) hB (by have := hn0.out; (try simp only [List.length_append, List.length_cons, List.length_nil]); omega)).mono ?_); rintro e w4 ⟨rfl, hes4, hfr4⟩; have HE4 := Aside0.mk hes4; have HF4 := Aside0.mk (Fr.trans (Fr.refl g w0.heap.size ok W) hfr4); clear hes4 hfr4))
 obtain ⟨⟨vo4, hbk4, _⟩, _⟩ := HE4.out
 have hc45 : w4.cell? ⟨g, 5, none⟩ = some (.int .i64 cost) := (blk_cell hbk4 5).trans rfl
 have hf45 := blk_frozen hbk4 5
 have hc41 : w4.cell? ⟨g, 1, none⟩ = some (.slice (some ad) ins.length c1) := (blk_cell hbk4 1).trans rfl
 have HSZ := Aside0.mk (show w0.heap.size ≤ w4.heap.size from Nat.le_trans HBW.out HF4.out.1.size)
 have hx4 := ((HF4.out.1).cell (World.block_lt_of_cell? w0 _ hx)).trans (bc hW.out hx)
 clear hbk4
 refine start_ (n := 17) (S := fun w' => w'.cell? ⟨g, 5, none⟩ = some (.int .i64 cost) ∧ w'.cell? ⟨g, 1, none⟩ = some (.slice (some ad) ins.length c1) ∧ w'.cell? (ad.add t.toNat) = some (.int .i64 (rd ins t))) (ds := [13, 16]) #[ff,ff,ff,ff,ff,ff,ff,ff,ff,ff,ff,ff,ff,ff,ff,ff,ff] (by kernel_rfl) rfl rfl ⟨hc45, hc41, hx4⟩ (fun hHeld => ?_)
 refine pv 0 20 ?_
 refine pv 1 21 ?_
 refine pv 2 22 ?_
 refine pv 3 23 ?_
 refine pv 5 25 ?_
 refine pv 6 26 ?_
 refine pv 7 27 ?_
 refine pv 8 28 ?_
 refine pv 10 30 ?_
 refine tv 4 24 hHeld ?_
 refine tv 9 29 hHeld ?_
 refine pv 11 31 ?_
 refine tv 12 32 hHeld ?_
 refine last_ (i := 13) (N := some 33) #[tt,tt,tt,tt,tt,tt,tt,tt,tt,tt,tt,tt,tt,tt,ff,ff,ff] rfl rfl (by kernel_rfl) (by decide) (fun K hK => ?_)
 refine goes_ Tryd.func36 (by kernel_rfl) rfl #[.int .i64 cost, .int .i64 (rd ins t)] (by rfl) rfl rfl (by simp only [List.map_toArray, List.map_cons, List.map_nil]; rfl) ?_
 with_reducible refine (add_calls cost (rd ins t) _).mono ?_
 rintro e w9 ⟨rfl, hb9⟩
 refine ⟨_, rfl, ?_⟩
 have HE9 := Aside0.mk (ES.below (HE4.out.drewN _) hb9)
 have HF9 := Aside0.mk ((HF4.out.drewN _).trans (Fr.below (g := g) (ok := ok) hb9 HSZ.out))
 obtain ⟨⟨vo9, hbk9, _⟩, _⟩ := HE9.out
 have hc95 : w9.cell? ⟨g, 5, none⟩ = some (.int .i64 cost) := (blk_cell hbk9 5).trans rfl
 have hf95 := blk_frozen hbk9 5
 clear hbk9 hb9
 refine hK.out _ _ ?_
 clear hK K
 refine norm_ (a' := ?_) ?_ ?_
 rotate_left
 ·
  show Act.put _ (some 33) _ = _
  simp only [nrm]
  rfl
 refine pv 14 34 ?_
 refine pv 15 35 ?_
 refine last_ (i := 16) (N := none) #[tt,tt,tt,tt,tt,tt,tt,tt,tt,tt,tt,tt,tt,tt,tt,tt,tt] rfl rfl (by kernel_rfl) (by decide) (fun K hK => ?_)
 refine skip_ (w1 := ?_) (by rfl) rfl ?_ ?_
 rotate_left
 ·
  go_simp
  rfl
 refine hK.out _ _ ?_
 clear hK K
 refine done_ (by kernel_rfl) ?_
 go_wp2
 go_ret
 exact ⟨rfl, fin_plain hB HE9.out HF9.out _⟩

set_option maxHeartbeats 4000000 in
set_option maxRecDepth 100000 in
theorem swap_t (A0 : Option Addr) (c0 : Nat) (cols : List S33) (A1 : Option Addr) (c1 : Nat) (ins : List Int) (sw : Int) (g : Nat) (ok : Nat → Prop) (w0 W : World) (at_ : Nat) (out : List Int) (cost t : Int) (h : ES A0 cols.length c0 A1 ins.length c1 sw g w0.heap.size ok W at_ out cost) (hB : w0.heap.size ≤ g) (hn : out.length < 1000000) (hl : cols.length ≤ 1000000) (hil : ins.length ≤ 1000000) (hW : Below w0.heap.size w0 W) (hC : Kd.C k33 w0 A0 cols.length cols) (hI : Kd.C (Kd.int .i64) w0 A1 ins.length ins) (ht : t ≠ 0) :
  Calls Tryd.prog 61 #[.pointer (some ⟨g, 0, none⟩), .int .i64 t] W fun e W' => e = .returned (.bool false) ∧ Below W.heap.size W W' := by
 have H := Aside0.mk h
 have hC := Aside0.mk hC
 have hI := Aside0.mk hI
 have hW := Aside0.mk hW
 have hn0 := Aside0.mk hn
 have hl := Aside0.mk hl
 have hil := Aside0.mk hil
 have HBW := Aside0.mk (show w0.heap.size ≤ W.heap.size from hW.out.size)
 clear h hn
 have b0 : (t != 0) = true := bne_iff_ne.mpr ht
 clear ht
 obtain ⟨⟨vo, hbk, _⟩, _⟩ := H.out
 have hc0 : W.cell? ⟨g, 0, none⟩ = some (.slice A0 cols.length c0) := (blk_cell hbk 0).trans rfl
 have hc1 : W.cell? ⟨g, 1, none⟩ = some (.slice A1 ins.length c1) := (blk_cell hbk 1).trans rfl
 have hc2 : W.cell? ⟨g, 2, none⟩ = some (.int .i64 sw) := (blk_cell hbk 2).trans rfl
 have hc3 : W.cell? ⟨g, 3, none⟩ = some (.int .i64 at_) := (blk_cell hbk 3).trans rfl
 have hu25 := Tryd.underlying25
 clear hbk
 go_enter Tryd.func61, Tryd.ntmps61
 go_upto_region 1 with (fail)
 refine start_ (n := 14) (S := fun w' => w'.cell? ⟨g, 0, none⟩ = some (.slice A0 cols.length c0) ∧ w'.cell? ⟨g, 1, none⟩ = some (.slice A1 ins.length c1) ∧ w'.cell? ⟨g, 2, none⟩ = some (.int .i64 sw) ∧ w'.cell? ⟨g, 3, none⟩ = some (.int .i64 at_)) (ds := []) #[ff,ff,ff,ff,ff,ff,ff,ff,ff,ff,ff,ff,ff,ff] (by kernel_rfl) rfl rfl ⟨hc0, hc1, hc2, hc3⟩ (fun hHeld => ?_)
 refine pv 0 5 ?_
 refine pv 1 6 ?_
 refine pv 2 7 ?_
 refine qv 3 8 ?_
 refine qv 4 9 ?_
 refine qv 5 10 ?_
 refine qv 6 11 ?_
 refine qv 7 12 ?_
 refine qv 8 13 ?_
 refine qv 9 14 ?_
 refine qv 10 15 ?_
 refine qv 11 16 ?_
 refine qv 12 17 ?_
 refine pv 13 18 ?_
 refine done_ (by kernel_rfl) ?_
 go_wp2
 go_ret
 exact ⟨rfl, pw_below_drewN (Below.refl _ _) _⟩

set_option maxHeartbeats 4000000 in
set_option maxRecDepth 100000 in
theorem swap_no (A0 : Option Addr) (c0 : Nat) (cols : List S33) (A1 : Option Addr) (c1 : Nat) (ins : List Int) (sw : Int) (g : Nat) (ok : Nat → Prop) (w0 W : World) (at_ : Nat) (out : List Int) (cost t : Int) (h : ES A0 cols.length c0 A1 ins.length c1 sw g w0.heap.size ok W at_ out cost) (hB : w0.heap.size ≤ g) (hn : out.length < 1000000) (hl : cols.length ≤ 1000000) (hil : ins.length ≤ 1000000) (hW : Below w0.heap.size w0 W) (hC : Kd.C k33 w0 A0 cols.length cols) (hI : Kd.C (Kd.int .i64) w0 A1 ins.length ins) (hcc0 : cols.length ≤ c0) (hcc1 : ins.length ≤ c1) (ht : t = 0) (hs : editscript_swappable.f cols ins sw at_ = some false) :
  Calls Tryd.prog 61 #[.pointer (some ⟨g, 0, none⟩), .int .i64 t] W fun e W' => e = .returned (.bool false) ∧ Below W.heap.size W W' := by
 have H := Aside0.mk h
 have hC := Aside0.mk hC
 have hI := Aside0.mk hI
 have hW := Aside0.mk hW
 have hn0 := Aside0.mk hn
 have hl := Aside0.mk hl
 have hil := Aside0.mk hil
 have HBW := Aside0.mk (show w0.heap.size ≤ W.heap.size from hW.out.size)
 clear h hn
 have b0 : (t != 0) = false := by subst ht; rfl
 clear ht
 have HS := Aside0.mk hs
 have HCC0 := Aside0.mk hcc0
 have HCC1 := Aside0.mk hcc1
 clear hs hcc0 hcc1
 obtain ⟨⟨vo, hbk, _⟩, _⟩ := H.out
 have hc0 : W.cell? ⟨g, 0, none⟩ = some (.slice A0 cols.length c0) := (blk_cell hbk 0).trans rfl
 have hc1 : W.cell? ⟨g, 1, none⟩ = some (.slice A1 ins.length c1) := (blk_cell hbk 1).trans rfl
 have hc2 : W.cell? ⟨g, 2, none⟩ = some (.int .i64 sw) := (blk_cell hbk 2).trans rfl
 have hc3 : W.cell? ⟨g, 3, none⟩ = some (.int .i64 at_) := (blk_cell hbk 3).trans rfl
 have hu25 := Tryd.underlying25
 clear hbk
 go_enter Tryd.func61, Tryd.ntmps61
 go_upto_region 1 with (fail)
 refine start_ (n := 14) (S := fun w' => w'.cell? ⟨g, 0, none⟩ = some (.slice A0 cols.length c0) ∧ w'.cell? ⟨g, 1, none⟩ = some (.slice A1 ins.length c1) ∧ w'.cell? ⟨g, 2, none⟩ = some (.int .i64 sw) ∧ w'.cell? ⟨g, 3, none⟩ = some (.int .i64 at_)) (ds := [11]) #[ff,ff,ff,ff,ff,ff,ff,ff,ff,ff,ff,ff,ff,ff] (by kernel_rfl) rfl rfl ⟨hc0, hc1, hc2, hc3⟩ (fun hHeld => ?_)
 refine pv 0 5 ?_
 refine pv 1 6 ?_
 refine pv 2 7 ?_
 refine pv 3 8 ?_
 refine pv 4 9 ?_
 refine pv 5 10 ?_
 refine pv 7 12 ?_
 refine pv 8 13 ?_
 refine pv 9 14 ?_
 refine tv 6 11 hHeld ?_
 refine tv 10 15 hHeld ?_
 refine last_ (i := 11) (N := some 16) #[tt,tt,tt,tt,tt,tt,tt,tt,tt,tt,tt,tt,ff,ff] rfl rfl (by kernel_rfl) (by decide) (fun K hK => ?_)
 refine goes_ Tryd.func39 (by kernel_rfl) rfl #[.agg #[.slice A0 cols.length c0, .slice A1 ins.length c1, .int .i64 sw], .int .i64 (at_ : Int)] (by rfl) rfl rfl (by simp only [List.map_toArray, List.map_cons, List.map_nil]; rfl) ?_
 with_reducible refine (editscript_swappable.calls A0 c0 cols A1 c1 ins sw at_ false _ (Kd.C_below hC.out (below_drew hW.out)) HCC0.out (Kd.C_below hI.out (below_drew hW.out)) HCC1.out HS.out).mono ?_
 rintro e w1 ⟨rfl, hb1⟩
 refine ⟨_, rfl, ?_⟩
 have HB1 := Aside0.mk (Below.trans (below_drew (Below.refl W.heap.size W)) hb1)
 have HE1 := Aside0.mk (ES.below (H.out.below (below_drew (Below.refl _ _))) hb1)
 clear hb1
 refine hK.out _ _ ?_
 clear hK K
 refine norm_ (a' := ?_) ?_ ?_
 rotate_left
 ·
  show Act.put _ (some 16) _ = _
  simp only [nrm]
  rfl
 refine pv 12 17 ?_
 refine pv 13 18 ?_
 refine done_ (by kernel_rfl) ?_
 go_wp2
 go_ret
 exact ⟨rfl, HB1.out⟩

set_option maxHeartbeats 4000000 in
set_option maxRecDepth 100000 in
theorem swap_yes (A0 : Option Addr) (c0 : Nat) (cols : List S33) (A1 : Option Addr) (c1 : Nat) (ins : List Int) (sw : Int) (g : Nat) (ok : Nat → Prop) (w0 W : World) (at_ : Nat) (out : List Int) (cost t : Int) (h : ES A0 cols.length c0 A1 ins.length c1 sw g w0.heap.size ok W at_ out cost) (hB : w0.heap.size ≤ g) (hn : out.length < 1000000) (hl : cols.length ≤ 1000000) (hil : ins.length ≤ 1000000) (hW : Below w0.heap.size w0 W) (hC : Kd.C k33 w0 A0 cols.length cols) (hI : Kd.C (Kd.int .i64) w0 A1 ins.length ins) (hcc0 : cols.length ≤ c0) (hcc1 : ins.length ≤ c1) (ht : t = 0) (hs : editscript_swappable.f cols ins sw at_ = some true) (he : at_ + 1 < cols.length) :
  Calls Tryd.prog 61 #[.pointer (some ⟨g, 0, none⟩), .int .i64 t] W fun e W' => e = .returned (.bool true) ∧ ES A0 cols.length c0 A1 ins.length c1 sw g w0.heap.size ok W' ((at_ : Int) + 2) (out ++ [(rd_T33 cols ((at_ : Int) + 1)).f0, (rd_T33 cols (at_ : Int)).f0]) (addE cost sw) ∧ Fr g w0.heap.size ok W W' := by
 have H := Aside0.mk h
 have hC := Aside0.mk hC
 have hI := Aside0.mk hI
 have hW := Aside0.mk hW
 have hn0 := Aside0.mk hn
 have hl := Aside0.mk hl
 have hil := Aside0.mk hil
 have HBW := Aside0.mk (show w0.heap.size ≤ W.heap.size from hW.out.size)
 clear h hn
 have b0 : (t != 0) = false := by subst ht; rfl
 clear ht
 have HS := Aside0.mk hs
 have HCC0 := Aside0.mk hcc0
 have HCC1 := Aside0.mk hcc1
 clear hs hcc0 hcc1
 have hwr : wrap64 ((at_ : Int) + 1) = (at_ : Int) + 1 := by have := hl.out; unfold wrap64; omega
 obtain ⟨j, hj⟩ : ∃ j : Int, wrap64 ((at_ : Int) + 1) = j := ⟨_, rfl⟩
 rw [hj] at hwr
 have hjw : IntKind.i64.wrap ((at_ : Int) + 1) = j := (i64_w _).trans hj
 have HJ := Aside0.mk hj
 clear hj
 obtain ⟨ad, Az, cz, ead, hy, hy1, hy2, hy3, hy4⟩ := at_T33 hC.out (at_ : Int) (by omega) (by omega)
 obtain ⟨ad2, Az2, cz2, ead2, hz, hz1, hz2, hz3, hz4⟩ := at_T33 hC.out j (by rw [hwr]; omega) (by rw [hwr]; omega)
 cases ead
 cases ead2
 clear hy1 hy2 hy3 hy4 hz1 hz2 hz3 hz4
 simp only [Int.toNat_natCast] at hy
 have HY := Aside0.mk hy
 have HZ := Aside0.mk hz
 clear hy hz
 obtain ⟨⟨vo, hbk, _⟩, _⟩ := H.out
 have hc0 : W.cell? ⟨g, 0, none⟩ = some (.slice (some ad) cols.length c0) := (blk_cell hbk 0).trans rfl
 have hc1 : W.cell? ⟨g, 1, none⟩ = some (.slice A1 ins.length c1) := (blk_cell hbk 1).trans rfl
 have hc2 : W.cell? ⟨g, 2, none⟩ = some (.int .i64 sw) := (blk_cell hbk 2).trans rfl
 have hc3 : W.cell? ⟨g, 3, none⟩ = some (.int .i64 at_) := (blk_cell hbk 3).trans rfl
 have hu25 := Tryd.underlying25
 clear hbk
 go_enter Tryd.func61, Tryd.ntmps61
 go_upto_region 1 with (fail)
 refine start_ (n := 14) (S := fun w' => w'.cell? ⟨g, 0, none⟩ = some (.slice (some ad) cols.length c0) ∧ w'.cell? ⟨g, 1, none⟩ = some (.slice A1 ins.length c1) ∧ w'.cell? ⟨g, 2, none⟩ = some (.int .i64 sw) ∧ w'.cell? ⟨g, 3, none⟩ = some (.int .i64 at_)) (ds := [11]) #[ff,ff,ff,ff,ff,ff,ff,ff,ff,ff,ff,ff,ff,ff] (by kernel_rfl) rfl rfl ⟨hc0, hc1, hc2, hc3⟩ (fun hHeld => ?_)
 refine pv 0 5 ?_
 refine pv 1 6 ?_
 refine pv 2 7 ?_
 refine pv 3 8 ?_
 refine pv 4 9 ?_
 refine pv 5 10 ?_
 refine pv 7 12 ?_
 refine pv 8 13 ?_
 refine pv 9 14 ?_
 refine tv 6 11 hHeld ?_
 refine tv 10 15 hHeld ?_
 refine last_ (i := 11) (N := some 16) #[tt,tt,tt,tt,tt,tt,tt,tt,tt,tt,tt,tt,ff,ff] rfl rfl (by kernel_rfl) (by decide) (fun K hK => ?_)
 refine goes_ Tryd.func39 (by kernel_rfl) rfl #[.agg #[.slice (some ad) cols.length c0, .slice A1 ins.length c1, .int .i64 sw], .int .i64 (at_ : Int)] (by rfl) rfl rfl (by simp only [List.map_toArray, List.map_cons, List.map_nil]; rfl) ?_
 with_reducible refine (editscript_swappable.calls (some ad) c0 cols A1 c1 ins sw at_ true _ (Kd.C_below hC.out (below_drew hW.out)) HCC0.out (Kd.C_below hI.out (below_drew hW.out)) HCC1.out HS.out).mono ?_
 rintro e w1 ⟨rfl, hb1⟩
 refine ⟨_, rfl, ?_⟩
 have HB1 := Aside0.mk (Below.trans (below_drew (Below.refl W.heap.size W)) hb1)
 have HE1 := Aside0.mk (ES.below (H.out.below (below_drew (Below.refl _ _))) hb1)
 clear hb1
 refine hK.out _ _ ?_
 clear hK K
 refine norm_ (a' := ?_) ?_ ?_
 rotate_left
 ·
  show Act.put _ (some 16) _ = _
  simp only [nrm]
  rfl
 refine pv 12 17 ?_
 refine pv 13 18 ?_
 refine done_ (by kernel_rfl) ?_
 have q0 := eq_true (show (0 : Int) ≤ (at_ : Int) by omega)
 have q1 := eq_true (show (at_ : Int) < (cols.length : Int) by omega)
 have q2 := eq_true (show (0 : Int) ≤ j by rw [hwr]; omega)
 have q3 := eq_true (show j < (cols.length : Int) by rw [hwr]; omega)
 have HWR := Aside0.mk hwr
 clear hwr
 have hab : (at_ : Int) ≤ 1000000 := by have := hl.out; omega
 have HF1 := Aside0.mk (Fr.below (g := g) (ok := ok) HB1.out HBW.out)
 clear hHeld
 go_upto_region 3 with (fail)
 obtain ⟨⟨vo1, hbk1, _⟩, _⟩ := HE1.out
 have hd10 : w1.cell? ⟨g, 0, none⟩ = some (.slice (some ad) cols.length c0) := (blk_cell hbk1 0).trans rfl
 have hd13 : w1.cell? ⟨g, 3, none⟩ = some (.int .i64 at_) := (blk_cell hbk1 3).trans rfl
 have hx1 := ((HF1.out.1).cell (World.block_lt_of_cell? w0 _ HZ.out)).trans ((hW.out.cell (World.block_lt_of_cell? w0 _ HZ.out)).trans HZ.out)
 clear hbk1
 refine start_ (n := 15) (S := fun w' => w'.cell? ⟨g, 0, none⟩ = some (.slice (some ad) cols.length c0) ∧ w'.cell? ⟨g, 3, none⟩ = some (.int .i64 at_) ∧ w'.cell? (ad.add (j.toNat * 3)) = some (.int .i64 (rd_T33 cols j).f0)) (ds := [14]) #[ff,ff,ff,ff,ff,ff,ff,ff,ff,ff,ff,ff,ff,ff,ff] (by kernel_rfl) rfl rfl ⟨hd10, hd13, hx1⟩ (fun hHeld => ?_)
 refine pv 0 19 ?_
 refine pv 1 20 ?_
 refine pv 2 21 ?_
 refine pv 3 22 ?_
 refine pv 4 23 ?_
 refine pv 6 25 ?_
 refine pv 7 26 ?_
 refine pv 8 27 ?_
 refine tv 5 24 hHeld ?_
 refine tv 9 28 hHeld ?_
 refine pv 10 29 ?_
 refine pv 11 30 ?_
 refine pv 12 31 ?_
 refine tv 13 32 hHeld ?_
 refine last_ (i := 14) (N := some 33) #[tt,tt,tt,tt,tt,tt,tt,tt,tt,tt,tt,tt,tt,tt,tt] rfl rfl (by kernel_rfl) (by decide) (fun K hK => ?_)
 refine goes_ Tryd.func56 (by kernel_rfl) rfl #[.pointer (some ⟨g, 0, none⟩), .int .i64 (rd_T33 cols j).f0] (by rfl) rfl rfl (by simp only [List.map_toArray, List.map_cons, List.map_nil]; rfl) ?_
 with_reducible refine (emit_calls (some ad) cols.length c0 A1 ins.length c1 sw g w0.heap.size ok _ (at_ : Int) out cost (rd_T33 cols j).f0 (HE1.out.below (below_drew (Below.refl _ _))) hB (by have := hn0.out; (try simp only [List.length_append, List.length_cons, List.length_nil]); omega)).mono ?_
 rintro e w2 ⟨rfl, hes, hfr⟩
 refine ⟨_, rfl, ?_⟩
 have HE2 := Aside0.mk hes
 have HF2 := Aside0.mk ((HF1.out.drewN 1).trans hfr)
 clear hes hfr
 refine hK.out _ _ ?_
 clear hK K
 refine norm_ (a' := ?_) ?_ ?_
 rotate_left
 ·
  show Act.put _ (some 33) _ = _
  simp only [nrm]
  rfl
 refine done_ (by kernel_rfl) ?_
 clear hHeld hd10 hd13 hx1
 go_upto_region 4 with (fail)
 obtain ⟨⟨vo2, hbk2, _⟩, _⟩ := HE2.out
 have hd20 : w2.cell? ⟨g, 0, none⟩ = some (.slice (some ad) cols.length c0) := (blk_cell hbk2 0).trans rfl
 have hd23 : w2.cell? ⟨g, 3, none⟩ = some (.int .i64 at_) := (blk_cell hbk2 3).trans rfl
 have hx2 := ((HF2.out.1).cell (World.block_lt_of_cell? w0 _ HY.out)).trans ((hW.out.cell (World.block_lt_of_cell? w0 _ HY.out)).trans HY.out)
 clear hbk2
 refine start_ (n := 14) (S := fun w' => w'.cell? ⟨g, 0, none⟩ = some (.slice (some ad) cols.length c0) ∧ w'.cell? ⟨g, 3, none⟩ = some (.int .i64 at_) ∧ w'.cell? (ad.add (at_ * 3)) = some (.int .i64 (rd_T33 cols (at_ : Int)).f0)) (ds := [13]) #[ff,ff,ff,ff,ff,ff,ff,ff,ff,ff,ff,ff,ff,ff] (by kernel_rfl) rfl rfl ⟨hd20, hd23, hx2⟩ (fun hHeld => ?_)
 refine pv 0 34 ?_
 refine pv 1 35 ?_
 refine pv 2 36 ?_
 refine pv 3 37 ?_
 refine pv 4 38 ?_
 refine pv 6 40 ?_
 refine pv 7 41 ?_
 refine pv 8 42 ?_
 refine tv 5 39 hHeld ?_
 refine tv 9 43 hHeld ?_
 refine pv 10 44 ?_
 refine pv 11 45 ?_
 refine tv 12 46 hHeld ?_
 refine last_ (i := 13) (N := some 47) #[tt,tt,tt,tt,tt,tt,tt,tt,tt,tt,tt,tt,tt,tt] rfl rfl (by kernel_rfl) (by decide) (fun K hK => ?_)
 refine goes_ Tryd.func56 (by kernel_rfl) rfl #[.pointer (some ⟨g, 0, none⟩), .int .i64 (rd_T33 cols (at_ : Int)).f0] (by rfl) rfl rfl (by simp only [List.map_toArray, List.map_cons, List.map_nil]; rfl) ?_
 with_reducible refine (emit_calls (some ad) cols.length c0 A1 ins.length c1 sw g w0.heap.size ok _ (at_ : Int) (out ++ [(rd_T33 cols j).f0]) cost (rd_T33 cols (at_ : Int)).f0 (HE2.out.below (below_drew (Below.refl _ _))) hB (by have := hn0.out; (try simp only [List.length_append, List.length_cons, List.length_nil]); omega)).mono ?_
 rintro e w3 ⟨rfl, hes, hfr⟩
 refine ⟨_, rfl, ?_⟩
 have HE3 := Aside0.mk hes
 have HF3 := Aside0.mk ((HF2.out.drewN 1).trans hfr)
 clear hes hfr
 refine hK.out _ _ ?_
 clear hK K
 refine norm_ (a' := ?_) ?_ ?_
 rotate_left
 ·
  show Act.put _ (some 47) _ = _
  simp only [nrm]
  rfl
 refine done_ (by kernel_rfl) ?_
 clear hHeld hd20 hd23 hx2
 obtain ⟨⟨vo3, hbk3, _⟩, _⟩ := HE3.out
 have hd33 : w3.cell? ⟨g, 3, none⟩ = some (.int .i64 at_) := (blk_cell hbk3 3).trans rfl
 have hf33 := blk_frozen hbk3 3
 clear hbk3
 go_upto_region 6 with (fail)
 obtain ⟨w4, hw4⟩ : ∃ w4, w4 = w3.setCell ⟨g, 3, none⟩ (.int .i64 ((at_ : Int) + 2)) := ⟨_, rfl⟩
 have HE4 := Aside0.mk (ES.setAt HE3.out ((at_ : Int) + 2))
 have HF4 := Aside0.mk (Fr.set HF3.out hB 3 (.int .i64 ((at_ : Int) + 2)))
 rw [← hw4] at HE4 HF4 ⊢
 clear hw4
 obtain ⟨⟨vo4, hbk4, _⟩, _⟩ := HE4.out
 have hc45 : w4.cell? ⟨g, 5, none⟩ = some (.int .i64 cost) := (blk_cell hbk4 5).trans rfl
 have hf45 := blk_frozen hbk4 5
 have hc42 : w4.cell? ⟨g, 2, none⟩ = some (.int .i64 sw) := (blk_cell hbk4 2).trans rfl
 have HSZ := Aside0.mk (show w0.heap.size ≤ w4.heap.size from Nat.le_trans HBW.out HF4.out.1.size)
 clear hbk4
 refine start_ (n := 14) (S := fun w' => w'.cell? ⟨g, 5, none⟩ = some (.int .i64 cost) ∧ w'.cell? ⟨g, 2, none⟩ = some (.int .i64 sw)) (ds := [10, 13]) #[ff,ff,ff,ff,ff,ff,ff,ff,ff,ff,ff,ff,ff,ff] (by kernel_rfl) rfl rfl ⟨hc45, hc42⟩ (fun hHeld => ?_)
 refine pv 0 55 ?_
 refine pv 1 56 ?_
 refine pv 2 57 ?_
 refine pv 3 58 ?_
 refine pv 5 60 ?_
 refine pv 6 61 ?_
 refine pv 7 62 ?_
 refine pv 8 63 ?_
 refine tv 4 59 hHeld ?_
 refine tv 9 64 hHeld ?_
 refine last_ (i := 10) (N := some 65) #[tt,tt,tt,tt,tt,tt,tt,tt,tt,tt,tt,ff,ff,ff] rfl rfl (by kernel_rfl) (by decide) (fun K hK => ?_)
 refine goes_ Tryd.func36 (by kernel_rfl) rfl #[.int .i64 cost, .int .i64 (sw)] (by rfl) rfl rfl (by simp only [List.map_toArray, List.map_cons, List.map_nil]; rfl) ?_
 with_reducible refine (add_calls cost (sw) _).mono ?_
 rintro e w9 ⟨rfl, hb9⟩
 refine ⟨_, rfl, ?_⟩
 have HE9 := Aside0.mk (ES.below (HE4.out.drewN _) hb9)
 have HF9 := Aside0.mk ((HF4.out.drewN _).trans (Fr.below (g := g) (ok := ok) hb9 HSZ.out))
 obtain ⟨⟨vo9, hbk9, _⟩, _⟩ := HE9.out
 have hc95 : w9.cell? ⟨g, 5, none⟩ = some (.int .i64 cost) := (blk_cell hbk9 5).trans rfl
 have hf95 := blk_frozen hbk9 5
 clear hbk9 hb9
 refine hK.out _ _ ?_
 clear hK K
 refine norm_ (a' := ?_) ?_ ?_
 rotate_left
 ·
  show Act.put _ (some 65) _ = _
  simp only [nrm]
  rfl
 refine pv 11 66 ?_
 refine pv 12 67 ?_
 refine last_ (i := 13) (N := none) #[tt,tt,tt,tt,tt,tt,tt,tt,tt,tt,tt,tt,tt,tt] rfl rfl (by kernel_rfl) (by decide) (fun K hK => ?_)
 refine skip_ (w1 := ?_) (by rfl) rfl ?_ ?_
 rotate_left
 ·
  go_simp
  rfl
 refine hK.out _ _ ?_
 clear hK K
 refine done_ (by kernel_rfl) ?_
 go_wp2
 go_ret
 have hfin := fin_plain hB HE9.out HF9.out (addE cost sw)
 rw [HWR.out, List.append_assoc] at hfin
 exact ⟨rfl, hfin⟩

end Go.Proofs.YtnddijafdphbnaaDoor.All
