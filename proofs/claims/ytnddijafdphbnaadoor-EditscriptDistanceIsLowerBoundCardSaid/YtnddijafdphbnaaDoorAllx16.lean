/- Apply and Cost: what run comes to. -/
import Derived.Test.YtnddijafdphbnaaDoorAllRun
namespace Go.Proofs.YtnddijafdphbnaaDoor.All
open Go.RowKit Go.Proofs.YtnddijafdphbnaaDoorW.PrintWords Go.Proofs.YtnddijafdphbnaaDoorW.PrintLast Go.Proofs.YtnddijafdphbnaaDoorW.PrintMore
set_option linter.unusedVariables false
set_option linter.unusedSimpArgs false

def editscript_Apply.f (k : Nat) (l0_0 : List (S33)) (l0_1 : List Int) (a0_2 : Int) (l1 : List (S49)) : Option (List Int × Int) :=
 if l0_0.length ≤ 1000000 ∧ l0_1.length ≤ 1000000 ∧ l1.length ≤ 1000 then some (match runE l0_0 l0_1 a0_2 l1 with | none => ([], 1) | some r => (r.1, 0)) else none
theorem editscript_Apply.mono : ∀ a0 a1 a2 a3 k, LeO (editscript_Apply.f k a0 a1 a2 a3) (editscript_Apply.f (k + 1) a0 a1 a2 a3) := fun _ _ _ _ _ _ h => h
def editscript_Cost.f (k : Nat) (l0_0 : List (S33)) (l0_1 : List Int) (a0_2 : Int) (l1 : List (S49)) : Option (Int × Int) :=
 if l0_0.length ≤ 1000000 ∧ l0_1.length ≤ 1000000 ∧ l1.length ≤ 1000 then some (match runE l0_0 l0_1 a0_2 l1 with | none => (0, 1) | some r => (r.2, 0)) else none
theorem editscript_Cost.mono : ∀ a0 a1 a2 a3 k, LeO (editscript_Cost.f k a0 a1 a2 a3) (editscript_Cost.f (k + 1) a0 a1 a2 a3) := fun _ _ _ _ _ _ h => h

theorem RunPost.shape {A0 : Option Addr} {c0 : Nat} {cols : List S33} {A1 : Option Addr} {c1 : Nat} {ins : List Int} {sw : Int} {l : List S49} {w : World} {e : Ending} {W' : World} (h : RunPost A0 c0 cols A1 c1 ins sw l w e W') : ∃ P E, e = .returned (.tuple #[P, .int .i64 E]) ∧ Below w.heap.size w W' ∧ (E = 1 ∧ runE cols ins sw l = none ∨ ∃ out c g vo, runE cols ins sw l = some (out, c) ∧ P = .pointer (some ⟨g, 0, none⟩) ∧ E = 0 ∧ W'.heap[g]? = some (.cells #[.slice A0 cols.length c0, .slice A1 ins.length c1, .int .i64 sw, .int .i64 cols.length, vo, .int .i64 c] 58 (0, 0)) ∧ Kd.R (Kd.int .i64) 3 W' w.heap.size (fun _ => True) vo out) := by
 obtain ⟨hb, ⟨h1, rfl⟩ | ⟨out, c, g, vo, h1, rfl, h2, h3⟩⟩ := h
 ·
  exact ⟨_, _, rfl, hb, Or.inl ⟨rfl, h1⟩⟩
 ·
  exact ⟨_, _, rfl, hb, Or.inr ⟨out, c, g, vo, h1, rfl, rfl, h2, h3⟩⟩
set_option maxHeartbeats 4000000 in
set_option maxRecDepth 100000 in
theorem editscript_Apply.calls (k : Nat) (A0_0 : Option Addr) (c0_0 : Nat) (l0_0 : List (S33)) (A0_1 : Option Addr) (c0_1 : Nat) (l0_1 : List Int) (a0_2 : Int) (A1 : Option Addr) (c1 : Nat) (l1 : List (S49)) (r1 : List Int) (r2 : Int) (w : World) (hr0_0 : Kd.C k33 w A0_0 l0_0.length l0_0) (hc0_0 : l0_0.length ≤ c0_0) (hr0_1 : Kd.C (Kd.int .i64) w A0_1 l0_1.length l0_1) (hc0_1 : l0_1.length ≤ c0_1) (hr1 : Kd.C k49 w A1 l1.length l1) (hc1 : l1.length ≤ c1) (hv : VarOk w) (h : editscript_Apply.f k l0_0 l0_1 a0_2 l1 = some (r1, r2)) :
  Calls Tryd.prog 15 #[.agg #[.slice A0_0 l0_0.length c0_0, .slice A0_1 l0_1.length c0_1, .int .i64 a0_2], .slice A1 l1.length c1] w fun e w' => ∃ v0_ : Value, e = .returned (.tuple #[v0_, .int .i64 r2]) ∧ Kd.R (Kd.int .i64) 3 w' w.heap.size (fun _ => True) v0_ r1 ∧ Below w.heap.size w w' := by
 obtain ⟨hg, hr⟩ : (l0_0.length ≤ 1000000 ∧ l0_1.length ≤ 1000000 ∧ l1.length ≤ 1000) ∧ (match runE l0_0 l0_1 a0_2 l1 with | none => (([] : List Int), (1 : Int)) | some r => (r.1, 0)) = (r1, r2) := by
  unfold editscript_Apply.f at h
  split at h
  ·
   exact ⟨by assumption, Option.some.inj h⟩
  ·
   cases h
 have HR00 := Aside0.mk hr0_0
 have HC00 := Aside0.mk hc0_0
 have HR01 := Aside0.mk hr0_1
 have HC01 := Aside0.mk hc0_1
 have HR1 := Aside0.mk hr1
 have HC1 := Aside0.mk hc1
 have HV := Aside0.mk hv
 have HG := Aside0.mk hg
 have HR := Aside0.mk hr
 clear hr0_0 hc0_0 hr0_1 hc0_1 hr1 hc1 hv hg hr h
 have hu25 := Tryd.underlying25
 go_enter Tryd.func15, Tryd.ntmps15
 go_upto_region 2 with (first | (go_at_call 31; (with_reducible refine (run_calls A0_0 c0_0 l0_0 A0_1 c0_1 l0_1 a0_2 A1 c1 l1 _ (Kd.C_alloc HR00.out _) HC00.out (Kd.C_alloc HR01.out _) HC01.out (Kd.C_alloc HR1.out _) HC1.out (HV.out.below (below_alloc (Below.refl _ _) _) rfl) HG.out.1 HG.out.2.1 HG.out.2.2).mono ?_); rintro e w1 hp0; obtain ⟨P, E, rfl, hb, hp⟩ := RunPost.shape hp0; have HBB := Aside0.mk hb; have HP := Aside0.mk hp; clear hp0 hb hp))
 have HB := Aside0.mk (show Below w.heap.size w w1 from (below_alloc (Below.refl _ _) _).trans (HBB.out.mono (by rw [alloc_size]; omega)))
 rcases HP.out with ⟨rfl, hn⟩ | ⟨out, c, g, vo, hs, rfl, rfl, hblk, hro⟩
 ·
  have HN := Aside0.mk hn
  clear hn
  go_wp2
  go_ret2
  have h := HR.out
  rw [HN.out] at h
  obtain ⟨rfl, rfl⟩ := Prod.mk.inj h
  exact ⟨_, rfl, Kd.R_nil _ _ _ _ _, HB.out⟩
 ·
  have HS := Aside0.mk hs
  have HRO := Aside0.mk (Kd.R_lower hro (show w.heap.size ≤ (w.alloc (.cells #[.slice A0_0 l0_0.length c0_0, .slice A0_1 l0_1.length c0_1, .int .i64 a0_2] 25 (0, 0))).heap.size by rw [alloc_size]; omega))
  have hc4 : w1.cell? ⟨g, 4, none⟩ = some vo := (blk_cell hblk 4).trans rfl
  have hc5 : w1.cell? ⟨g, 5, none⟩ = some (.int .i64 c) := (blk_cell hblk 5).trans rfl
  clear hs hblk hro
  go_wp2
  go_ret2
  have h := HR.out
  rw [HS.out] at h
  obtain ⟨rfl, rfl⟩ := Prod.mk.inj h
  exact ⟨_, rfl, HRO.out, HB.out⟩

set_option maxHeartbeats 4000000 in
set_option maxRecDepth 100000 in
theorem editscript_Cost.calls (k : Nat) (A0_0 : Option Addr) (c0_0 : Nat) (l0_0 : List (S33)) (A0_1 : Option Addr) (c0_1 : Nat) (l0_1 : List Int) (a0_2 : Int) (A1 : Option Addr) (c1 : Nat) (l1 : List (S49)) (r1 : Int) (r2 : Int) (w : World) (hr0_0 : Kd.C k33 w A0_0 l0_0.length l0_0) (hc0_0 : l0_0.length ≤ c0_0) (hr0_1 : Kd.C (Kd.int .i64) w A0_1 l0_1.length l0_1) (hc0_1 : l0_1.length ≤ c0_1) (hr1 : Kd.C k49 w A1 l1.length l1) (hc1 : l1.length ≤ c1) (hv : VarOk w) (h : editscript_Cost.f k l0_0 l0_1 a0_2 l1 = some (r1, r2)) :
  Calls Tryd.prog 17 #[.agg #[.slice A0_0 l0_0.length c0_0, .slice A0_1 l0_1.length c0_1, .int .i64 a0_2], .slice A1 l1.length c1] w fun e w' => e = .returned (.tuple #[.int .i64 r1, .int .i64 r2]) ∧ Below w.heap.size w w' := by
 obtain ⟨hg, hr⟩ : (l0_0.length ≤ 1000000 ∧ l0_1.length ≤ 1000000 ∧ l1.length ≤ 1000) ∧ (match runE l0_0 l0_1 a0_2 l1 with | none => ((0 : Int), (1 : Int)) | some r => (r.2, 0)) = (r1, r2) := by
  unfold editscript_Cost.f at h
  split at h
  ·
   exact ⟨by assumption, Option.some.inj h⟩
  ·
   cases h
 have HR00 := Aside0.mk hr0_0
 have HC00 := Aside0.mk hc0_0
 have HR01 := Aside0.mk hr0_1
 have HC01 := Aside0.mk hc0_1
 have HR1 := Aside0.mk hr1
 have HC1 := Aside0.mk hc1
 have HV := Aside0.mk hv
 have HG := Aside0.mk hg
 have HR := Aside0.mk hr
 clear hr0_0 hc0_0 hr0_1 hc0_1 hr1 hc1 hv hg hr h
 have hu25 := Tryd.underlying25
 go_enter Tryd.func17, Tryd.ntmps17
 go_upto_region 2 with (first | (go_at_call 31; (with_reducible refine (run_calls A0_0 c0_0 l0_0 A0_1 c0_1 l0_1 a0_2 A1 c1 l1 _ (Kd.C_alloc HR00.out _) HC00.out (Kd.C_alloc HR01.out _) HC01.out (Kd.C_alloc HR1.out _) HC1.out (HV.out.below (below_alloc (Below.refl _ _) _) rfl) HG.out.1 HG.out.2.1 HG.out.2.2).mono ?_); rintro e w1 hp0; obtain ⟨P, E, rfl, hb, hp⟩ := RunPost.shape hp0; have HBB := Aside0.mk hb; have HP := Aside0.mk hp; clear hp0 hb hp))
 have HB := Aside0.mk (show Below w.heap.size w w1 from (below_alloc (Below.refl _ _) _).trans (HBB.out.mono (by rw [alloc_size]; omega)))
 rcases HP.out with ⟨rfl, hn⟩ | ⟨out, c, g, vo, hs, rfl, rfl, hblk, hro⟩
 ·
  have HN := Aside0.mk hn
  clear hn
  go_wp2
  go_ret2
  have h := HR.out
  rw [HN.out] at h
  obtain ⟨rfl, rfl⟩ := Prod.mk.inj h
  exact ⟨rfl, HB.out⟩
 ·
  have HS := Aside0.mk hs
  have HRO := Aside0.mk (Kd.R_lower hro (show w.heap.size ≤ (w.alloc (.cells #[.slice A0_0 l0_0.length c0_0, .slice A0_1 l0_1.length c0_1, .int .i64 a0_2] 25 (0, 0))).heap.size by rw [alloc_size]; omega))
  have hc4 : w1.cell? ⟨g, 4, none⟩ = some vo := (blk_cell hblk 4).trans rfl
  have hc5 : w1.cell? ⟨g, 5, none⟩ = some (.int .i64 c) := (blk_cell hblk 5).trans rfl
  clear hs hblk hro
  go_wp2
  go_ret2
  have h := HR.out
  rw [HS.out] at h
  obtain ⟨rfl, rfl⟩ := Prod.mk.inj h
  exact ⟨rfl, HB.out⟩
end Go.Proofs.YtnddijafdphbnaaDoor.All
