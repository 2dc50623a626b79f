/- Proves the statement EditscriptAlignIsOptimalCardSaid: Align emits y at exactly the distance, or returns the specified error. No condition beyond the card's own: the listed variable reads as the program's text lays it. -/
import Derived.Test.YtnddijafdphbnaaDoorTie
import Derived.Test.YtnddijafdphbnaaDoorCards
import Derived.Test.YtnddijafdphbnaaDoorAllx3
import Derived.Test.YtnddijafdphbnaaDoorAllx33
import Derived.Test.YtnddijafdphbnaaDoorPureEditscriptAlignIsOptimal
namespace Go.Proofs.YtnddijafdphbnaaDoor.editscriptAlignIsOptimal
open Go.ChangeShapes Go.WideShapes Go.ChangeAt Go.RowKit Go.Deep Go.Joins Go.Proofs.YtnddijafdphbnaaDoor.All
open Go.ChangeMaps (open_string shut_string)
set_option linter.unusedVariables false
theorem door_met (os : Os) (args : Array Value) : laidMetH Tryd.prog listed ((World.doorLaid Tryd.prog 600 os).forCall (fun _ _ => 0) ⟨#[], args, []⟩).memory :=
  laidMetH_of_parts3 (fuel := 8) (laidMet_of_run' 8 (by kernel_rfl) (by kernel_rfl)) (by kernel_rfl) (by kernel_rfl)
set_option maxHeartbeats 4000000 in
set_option maxRecDepth 100000 in
theorem lifted (os : Os) (started : os.Started) (H : Type) (enc : TypeId × Value → H) :
    ReturnsInHanded {} Tryd.checked os 8 .any (fun w args => (Rows.editscriptAlignIsOptimalSpec.pre enc Tryd.prog Tryd.f8 [] false w args ∧ laidMetH Tryd.prog listed w) ∧ sizedMet enc Tryd.prog Tryd.f8 (OpenSpec.ofChange Rows.editscriptAlignIsOptimalSpec) false w args)
      (Rows.editscriptAlignIsOptimalSpec.post enc Tryd.prog Tryd.f8 false true false false) := by
  refine returnsInHanded_of_change_and (C := Tryd.checked) (X := fun w _ => laidMetH Tryd.prog listed w) (fun _ _ _ hh h => h.of_heap hh) own started (by kernel_rfl) Tryd.func8
    (ChangeSpec.witness_shaped (enc := enc) (C := Tryd.checked) (os := os) (X := fun w _ => laidMetH Tryd.prog listed w) false (World.doorLaid Tryd.prog 600 os) #[.agg #[.slice none 0 0, .slice none 0 0, .int .i64 0], .slice none 0 0] 8 rfl (World.shaped_of_RefB (by kernel_rfl) (by kernel_rfl)) (by kernel_rfl) (by kernel_rfl) (by kernel_rfl) (door_met os _)) ?_
  intro W base args ds gs before hval0 hW _ _ hLaid _
  have hval : ∀ (j : Nat) t v, Tryd.f8.params[j]? = some t → args[j]? = some v → Value.okWide Tryd.prog W .any base t v := hval0
  have hW' := hW
  obtain ⟨p, q, hA0, hV, rfl, hfz, hnd⟩ := hW
  have hA : DataW.TrodAll enc Tryd.prog W 0 (fun _ => true) true Tryd.f8.params.toList args.toList ds p := hA0
  rw [Tryd.params8] at hA hval
  obtain ⟨v0, vs0, d0, ds0, p0, q0, hargs, rfl, rfl, h0, r0⟩ := trodAll_cons hA
  obtain ⟨v1, vs1, d1, ds1, p1, q1, rfl, rfl, rfl, h1, r1⟩ := trodAll_cons r0
  obtain ⟨rfl, rfl, rfl⟩ := trodAll_nil r1
  obtain rfl : args = #[v0, v1] := by cases args; simp_all
  obtain ⟨rfl, rfl⟩ := trodVars_none hV
  have k0 := h0
  have lt0 : ∀ x ∈ p0, x.block < W.heap.size := by obtain ⟨m, hm⟩ := k0; exact DataW.trod_lt m _ _ _ hm
  have k1 := h1
  have lt1 : ∀ x ∈ p1, x.block < W.heap.size := by obtain ⟨m, hm⟩ := k1; exact DataW.trod_lt m _ _ _ hm
  obtain ⟨a0, b0, e0, y0, z0, x0, m0, rfl, _, _, s0, t0, u0⟩ := open_agg3 Tryd.underlying25 (by kernel_rfl) cells25 (hval 0 25 v0 rfl rfl) h0
  obtain ⟨A0, c0, l0, rfl, hc0, hC0, wf0⟩ := open_cols s0
  obtain ⟨B0, f0, j0, rfl, hf0, hF0, wg0⟩ := open_ints t0
  obtain ⟨w0, ew0, _, ww0⟩ := DataW.trod_int Tryd.underlying3 u0
  simp only [List.cons.injEq, and_true] at ew0
  subst ew0
  obtain ⟨A1_, len1, cap1, rfl⟩ := okWide_slice Tryd.underlying23 (hval 1 23 v1 rfl rfl)
  obtain ⟨m1, s1⟩ := h1
  obtain ⟨A1, c1, l1, es1, hc1, hC1, wf1⟩ := open_ints s1
  obtain ⟨rfl, rfl, rfl⟩ : A1 = A1_ ∧ l1.length = len1 ∧ c1 = cap1 := by cases es1; exact ⟨rfl, rfl, rfl⟩
  obtain ⟨k, hk⟩ := editscriptAlignIsOptimal_pure l0 j0 w0 l1 wf0 wg0 ww0 wf1
  refine (emendatelaw36_EditscriptAlignIsOptimal.calls k A0 c0 l0 B0 f0 j0 w0 A1 c1 l1 true W hC0 hc0 hF0 hf0 hC1 hc1 (var_of_laid hLaid) hk).mono fun e W' ⟨he, bel⟩ => ?_
  subst he
  exact ⟨_, rfl, _, _, _, [], _, [], hW', trodAll_mk1 (shut_bool Tryd.underlying4 _), (trodAll_cons_mk (Below.trod laidOut (by kernel_rfl) (of_decide_eq_true (by kernel_rfl)) k0 bel lt0) (trodAll_cons_mk (Below.trod laidOut (by kernel_rfl) (of_decide_eq_true (by kernel_rfl)) k1 bel lt1) trodAll_mk0)), rfl, bel.frame _, fun h => by cases h⟩
theorem over : Rows.EditscriptAlignIsOptimalSaid :=
  OpenClaim.holds_of_wide 8 Tryd.f8 rfl rfl rfl rfl rfl rfl rfl ⟨rfl, rfl, rfl, rfl, rfl⟩ rfl rfl rfl rfl rfl (by kernel_rfl) Tryd.func8 (by kernel_rfl)
    (of_decide_eq_true (by kernel_rfl)) (by unfold Func.isWrapper; first | (rw [if_pos (by decide +kernel)]; kernel_rfl) | (rw [if_neg (by decide +kernel)]; exact ⟨rfl, rfl⟩))
    (fun os started H enc _ => lifted os started H enc)
end Go.Proofs.YtnddijafdphbnaaDoor.editscriptAlignIsOptimal
namespace Go.Proofs.YtnddijafdphbnaaDoor
theorem editscriptAlignIsOptimalCard_holds : Rows.EditscriptAlignIsOptimalCardSaid :=
  Claim7.holds_tied_plain_at .later [] [.funcs] true (true, "26b7ea23d7dfeac6089dde5923b7858e2472826515146feaa08ac50ab2c3ed8f") false
    editscriptAlignIsOptimal.over (fun _ h => by cases h) (by kernel_rfl) (fun _ h => by cases h) editscriptAlignIsOptimal_row_tie rfl ⟨rfl, rfl⟩ (by kernel_rfl) rfl
    (fun f fn hf hfn => by
      obtain rfl : f = 8 := Option.some.inj ((show Tryd.prog.funcNamed "emendate/emendatelaw36.EditscriptAlignIsOptimal" = some 8 by kernel_rfl).symm.trans hf) |>.symm
      obtain rfl : fn = Tryd.f8 := (Option.some.inj (Tryd.func8.symm.trans hfn)).symm
      exact ⟨by kernel_rfl, fun j t ht => by
        rw [Tryd.params8] at ht
        have hm : t ∈ [25, 23] := by simpa using Array.mem_of_getElem? ht
        have hall : ([25, 23].all fun u => !Tryd.prog.wantsStandIn u) = true := by kernel_rfl
        exact (show Tryd.prog.wantsStandIn t = false by simpa using List.all_eq_true.1 hall t hm)⟩)
    (by kernel_rfl)
#print axioms editscriptAlignIsOptimalCard_holds
end Go.Proofs.YtnddijafdphbnaaDoor
