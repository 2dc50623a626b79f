/- Proves the statement EditscriptConcatenationCardSaid: the distance of a concatenation is at most the sum of the distances of its parts. No condition beyond the card's own: the listed variable reads as the program's text lays it. -/
import Derived.Test.YtnddijafdphbnaaDoorTie
import Derived.Test.YtnddijafdphbnaaDoorCards
import Derived.Test.YtnddijafdphbnaaDoorAllx3
import Derived.Test.YtnddijafdphbnaaDoorAllx38
import Derived.Test.YtnddijafdphbnaaDoorPureEditscriptConcatenation
namespace Go.Proofs.YtnddijafdphbnaaDoor.editscriptConcatenation
open Go.ChangeShapes Go.WideShapes Go.ChangeAt Go.RowKit Go.Deep Go.Joins Go.Proofs.YtnddijafdphbnaaDoor.All
open Go.ChangeMaps (open_string shut_string)
set_option linter.unusedVariables false
theorem door_met (os : Os) (args : Array Value) : laidMetH Tryd.prog listed ((World.doorLaid Tryd.prog 600 os).forCall (fun _ _ => 0) ⟨#[], args, []⟩).memory :=
  laidMetH_of_parts3 (fuel := 8) (laidMet_of_run' 8 (by kernel_rfl) (by kernel_rfl)) (by kernel_rfl) (by kernel_rfl)
set_option maxHeartbeats 4000000 in
set_option maxRecDepth 100000 in
theorem lifted (os : Os) (started : os.Started) (H : Type) (enc : TypeId × Value → H) :
    ReturnsInHanded {} Tryd.checked os 3 .any (fun w args => (Rows.editscriptConcatenationSpec.pre enc Tryd.prog Tryd.f3 [] false w args ∧ laidMetH Tryd.prog listed w) ∧ sizedMet enc Tryd.prog Tryd.f3 (OpenSpec.ofChange Rows.editscriptConcatenationSpec) false w args)
      (Rows.editscriptConcatenationSpec.post enc Tryd.prog Tryd.f3 false true false false) := by
  refine returnsInHanded_of_change_and (C := Tryd.checked) (X := fun w _ => laidMetH Tryd.prog listed w) (fun _ _ _ hh h => h.of_heap hh) own started (by kernel_rfl) Tryd.func3
    (ChangeSpec.witness_shaped (enc := enc) (C := Tryd.checked) (os := os) (X := fun w _ => laidMetH Tryd.prog listed w) false (World.doorLaid Tryd.prog 600 os) #[.agg #[.slice none 0 0, .slice none 0 0, .int .i64 0], .agg #[.slice none 0 0, .slice none 0 0, .int .i64 0], .agg #[.slice none 0 0, .slice none 0 0]] 8 rfl (World.shaped_of_RefB (by kernel_rfl) (by kernel_rfl)) (by kernel_rfl) (by kernel_rfl) (by kernel_rfl) (door_met os _)) ?_
  intro W base args ds gs before hval0 hW _ _ hLaid _
  have hval : ∀ (j : Nat) t v, Tryd.f3.params[j]? = some t → args[j]? = some v → Value.okWide Tryd.prog W .any base t v := hval0
  have hW' := hW
  obtain ⟨p, q, hA0, hV, rfl, hfz, hnd⟩ := hW
  have hA : DataW.TrodAll enc Tryd.prog W 0 (fun _ => true) true Tryd.f3.params.toList args.toList ds p := hA0
  rw [Tryd.params3] at hA hval
  obtain ⟨v0, vs0, d0, ds0, p0, q0, hargs, rfl, rfl, h0, r0⟩ := trodAll_cons hA
  obtain ⟨v1, vs1, d1, ds1, p1, q1, rfl, rfl, rfl, h1, r1⟩ := trodAll_cons r0
  obtain ⟨v2, vs2, d2, ds2, p2, q2, rfl, rfl, rfl, h2, r2⟩ := trodAll_cons r1
  obtain ⟨rfl, rfl, rfl⟩ := trodAll_nil r2
  obtain rfl : args = #[v0, v1, v2] := by cases args; simp_all
  obtain ⟨rfl, rfl⟩ := trodVars_none hV
  have k0 := h0
  have lt0 : ∀ x ∈ p0, x.block < W.heap.size := by obtain ⟨m, hm⟩ := k0; exact DataW.trod_lt m _ _ _ hm
  have k1 := h1
  have lt1 : ∀ x ∈ p1, x.block < W.heap.size := by obtain ⟨m, hm⟩ := k1; exact DataW.trod_lt m _ _ _ hm
  have k2 := h2
  have lt2 : ∀ x ∈ p2, x.block < W.heap.size := by obtain ⟨m, hm⟩ := k2; exact DataW.trod_lt m _ _ _ hm
  obtain ⟨a0, b0, e0, y0, z0, x0, m0, rfl, _, _, s0, t0, u0⟩ := open_agg3 Tryd.underlying25 (by kernel_rfl) cells25 (hval 0 25 v0 rfl rfl) h0
  obtain ⟨A0, c0, l0, rfl, hc0, hC0, wf0⟩ := open_cols s0
  obtain ⟨B0, f0, j0, rfl, hf0, hF0, wg0⟩ := open_ints t0
  obtain ⟨w0, ew0, _, ww0⟩ := DataW.trod_int Tryd.underlying3 u0
  simp only [List.cons.injEq, and_true] at ew0
  subst ew0
  obtain ⟨a1, b1, e1, y1, z1, x1, m1, rfl, _, _, s1, t1, u1⟩ := open_agg3 Tryd.underlying25 (by kernel_rfl) cells25 (hval 1 25 v1 rfl rfl) h1
  obtain ⟨A1, c1, l1, rfl, hc1, hC1, wf1⟩ := open_cols s1
  obtain ⟨B1, f1, j1, rfl, hf1, hF1, wg1⟩ := open_ints t1
  obtain ⟨w1, ew1, _, ww1⟩ := DataW.trod_int Tryd.underlying3 u1
  simp only [List.cons.injEq, and_true] at ew1
  subst ew1
  obtain ⟨cs2, rfl, hsz2, _⟩ : ∃ cs, v2 = .agg cs ∧ cs.size = Tryd.prog.cellsOf 26 ∧ Row.okWide Tryd.prog W .any base 26 cs := by
    have := hval 2 26 v2 rfl rfl
    simpa [Value.okWide, Tryd.underlying26] using this
  rw [cells26] at hsz2
  obtain ⟨g2, g2_, rfl⟩ := array2 hsz2
  obtain ⟨m2, s2⟩ := h2
  obtain ⟨xs2, n2, _, _, _, hx2, hf2⟩ := DataW.trod_array Tryd.underlying26 s2
  have t2 : DataW.trod enc Tryd.prog W 0 (fun _ => true) true n2 23 [g2] = xs2[0]? := by
    have z := hf2 0 (by omega)
    rw [cells23] at z
    exact z
  have u2 : DataW.trod enc Tryd.prog W 0 (fun _ => true) true n2 23 [g2_] = xs2[1]? := by
    have z := hf2 1 (by omega)
    rw [cells23] at z
    exact z
  rw [List.getElem?_eq_getElem (by omega)] at t2 u2
  obtain ⟨A2, c2, l2, et2, hc2, hC2, wf2⟩ := open_ints t2
  obtain ⟨B2, f2, j2, eu2, hf2_, hF2, wg2⟩ := open_ints u2
  subst et2 eu2
  obtain ⟨k, hk⟩ := editscriptConcatenation_pure l0 j0 w0 l1 j1 w1 l2 j2 
  refine (emendatelaw36_EditscriptConcatenation.calls k A0 c0 l0 B0 f0 j0 w0 A1 c1 l1 B1 f1 j1 w1 A2 c2 l2 B2 f2 j2 true W hC0 hc0 hF0 hf0 hC1 hc1 hF1 hf1 hC2 hc2 hF2 hf2_ (var_of_laid hLaid) hk).mono fun e W' ⟨he, bel⟩ => ?_
  subst he
  exact ⟨_, rfl, _, _, _, [], _, [], hW', trodAll_mk1 (shut_bool Tryd.underlying4 _), (trodAll_cons_mk (Below.trod laidOut (by kernel_rfl) (of_decide_eq_true (by kernel_rfl)) k0 bel lt0) (trodAll_cons_mk (Below.trod laidOut (by kernel_rfl) (of_decide_eq_true (by kernel_rfl)) k1 bel lt1) (trodAll_cons_mk (Below.trod laidOut (by kernel_rfl) (of_decide_eq_true (by kernel_rfl)) k2 bel lt2) trodAll_mk0))), rfl, bel.frame _, fun h => by cases h⟩
theorem over : Rows.EditscriptConcatenationSaid :=
  OpenClaim.holds_of_wide 3 Tryd.f3 rfl rfl rfl rfl rfl rfl rfl ⟨rfl, rfl, rfl, rfl, rfl⟩ rfl rfl rfl rfl rfl (by kernel_rfl) Tryd.func3 (by kernel_rfl)
    (of_decide_eq_true (by kernel_rfl)) (by unfold Func.isWrapper; first | (rw [if_pos (by decide +kernel)]; kernel_rfl) | (rw [if_neg (by decide +kernel)]; exact ⟨rfl, rfl⟩))
    (fun os started H enc _ => lifted os started H enc)
end Go.Proofs.YtnddijafdphbnaaDoor.editscriptConcatenation
namespace Go.Proofs.YtnddijafdphbnaaDoor
theorem editscriptConcatenationCard_holds : Rows.EditscriptConcatenationCardSaid :=
  Claim7.holds_tied_plain_at .later [] [.funcs] true (true, "26b7ea23d7dfeac6089dde5923b7858e2472826515146feaa08ac50ab2c3ed8f") false
    editscriptConcatenation.over (fun _ h => by cases h) (by kernel_rfl) (fun _ h => by cases h) editscriptConcatenation_row_tie rfl ⟨rfl, rfl⟩ (by kernel_rfl) rfl
    (fun f fn hf hfn => by
      obtain rfl : f = 3 := Option.some.inj ((show Tryd.prog.funcNamed "emendate/emendatelaw36.EditscriptConcatenation" = some 3 by kernel_rfl).symm.trans hf) |>.symm
      obtain rfl : fn = Tryd.f3 := (Option.some.inj (Tryd.func3.symm.trans hfn)).symm
      exact ⟨by kernel_rfl, fun j t ht => by
        rw [Tryd.params3] at ht
        have hm : t ∈ [25, 25, 26] := by simpa using Array.mem_of_getElem? ht
        have hall : ([25, 25, 26].all fun u => !Tryd.prog.wantsStandIn u) = true := by kernel_rfl
        exact (show Tryd.prog.wantsStandIn t = false by simpa using List.all_eq_true.1 hall t hm)⟩)
    (by kernel_rfl)
#print axioms editscriptConcatenationCard_holds
end Go.Proofs.YtnddijafdphbnaaDoor
