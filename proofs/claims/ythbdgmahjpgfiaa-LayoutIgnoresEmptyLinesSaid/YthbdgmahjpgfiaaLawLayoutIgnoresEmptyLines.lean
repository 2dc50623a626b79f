/- Proves the statement LayoutIgnoresEmptyLinesSaid: for every input the law returns true and leaves its arguments as they were: an empty line in front of the line of a token changes no kind. No condition. -/
import Derived.Test.YthbdgmahjpgfiaaAllOpen
import Derived.Test.YthbdgmahjpgfiaaAllx21
import Derived.Test.YthbdgmahjpgfiaaPureLayoutIgnoresEmptyLines
namespace Go.Proofs.Ythbdgmahjpgfiaa.layoutIgnoresEmptyLines
open Go.ChangeShapes Go.WideShapes Go.ChangeAt Go.RowKit Go.Deep Go.Joins Go.Proofs.Ythbdgmahjpgfiaa.All
open Go.ChangeMaps (open_string shut_string)
set_option linter.unusedVariables false
set_option maxRecDepth 100000 in
theorem lifted (os : Os) (started : os.Started) (H : Type) (enc : TypeId × Value → H) :
    ReturnsInHanded {} Try.checked os 8 .any (Rows.layoutIgnoresEmptyLinesSpec.pre6 enc Try.prog Try.f8 Rows.layoutIgnoresEmptyLinesRow.domain false) (Rows.layoutIgnoresEmptyLinesSpec.post enc Try.prog Try.f8 false true false false) := by
  refine returnsInHanded_of_change_sized (C := Try.checked) own started (by kernel_rfl) Try.func8
    (ChangeSpec.witness6 (enc := enc) (C := Try.checked) false ⟨#[], #[.agg #[.slice none 0 0, .string ByteArray.empty, .int .i64 0], .int .u8 0], []⟩ 8 (by kernel_rfl) (by kernel_rfl) (by kernel_rfl) (by kernel_rfl)) ?_
  intro W base args ds gs before hval0 hW hcnd hsz0 _
  have hval : ∀ (j : Nat) t v, Try.f8.params[j]? = some t → args[j]? = some v → Value.okWide Try.prog W .any base t v := hval0
  have hW' := hW
  obtain ⟨p, q, hA0, hV, rfl, hfz, hnd⟩ := hW
  have hA : DataW.TrodAll enc Try.prog W 0 (fun _ => true) true Try.f8.params.toList args.toList ds p := hA0
  rw [Try.params8] at hA hval
  obtain ⟨v0, vs0, d0, ds0, p0, q0, hargs, rfl, rfl, h0, r0⟩ := trodAll_cons hA
  obtain ⟨v1, vs1, d1, ds1, p1, q1, rfl, rfl, rfl, h1, r1⟩ := trodAll_cons r0
  obtain ⟨rfl, rfl, rfl⟩ := trodAll_nil r1
  obtain rfl : args = #[v0, v1] := by cases args; simp_all
  obtain ⟨rfl, rfl⟩ := trodVars_none hV
  have k0 := h0
  have lt0 : ∀ x ∈ p0, x.block < W.heap.size := by obtain ⟨m, hm⟩ := k0; exact DataW.trod_lt m _ _ _ hm
  obtain ⟨c0, c1, c2, y0, y1, y2, n, rfl, _, _, t0, t1, t2⟩ := open_agg3 Try.underlying24 (by kernel_rfl) cells24 (hval 0 24 v0 rfl rfl) h0
  have e0 : ∃ A len cap, c0 = .slice A len cap := by
    rcases DataW.trod_slice Try.underlying22 t0 with ⟨e, _⟩ | ⟨a, len, cap, _, _, _, _, e, _⟩
    · exact ⟨none, 0, 0, by simpa using e⟩
    · exact ⟨some a, len, cap, by simpa using e⟩
  obtain ⟨A, len, cap, rfl⟩ := e0
  obtain ⟨l, rfl, hcap, hC, hwf⟩ := open_toks t0
  obtain ⟨s, e1, _, ws⟩ := DataW.trod_string Try.underlying9 t1
  obtain ⟨d, e2, _, wd⟩ := DataW.trod_int Try.underlying3 t2
  simp only [List.cons.injEq, and_true] at e1 e2
  subst e1 e2
  obtain ⟨a1, rfl, rfl, rfl, w1⟩ := open_int Try.underlying5 (hval 1 5 v1 rfl rfl) h1
  obtain ⟨k, hk⟩ := layoutIgnoresEmptyLines_pure l s d a1 hwf ws wd w1
  refine (emendatelaw15_LayoutIgnoresEmptyLines.calls k A cap l s d a1 true W hC hcap hk).mono fun e W' ⟨he, bel⟩ => ?_
  subst he
  exact ⟨_, rfl, _, _, _, [], _, [], hW', trodAll_mk1 (shut_bool Try.underlying4 _), (trodAll_cons_mk (Below.trod laidOut (by kernel_rfl) (of_decide_eq_true (by kernel_rfl)) k0 bel lt0) (trodAll_cons_mk (shut_int Try.underlying5 w1) trodAll_mk0)), rfl, bel.frame _, fun h => by cases h⟩
theorem over : Rows.layoutIgnoresEmptyLinesRow.holds Try.pinned (OpenSpec.ofChange Rows.layoutIgnoresEmptyLinesSpec) :=
  OpenClaim.holds_of_wide 8 Try.f8 rfl rfl rfl rfl rfl rfl rfl ⟨rfl, rfl, rfl, rfl, rfl⟩ rfl rfl rfl rfl rfl (by kernel_rfl) Try.func8 (by kernel_rfl)
    (of_decide_eq_true (by kernel_rfl)) (by unfold Func.isWrapper; first | (rw [if_pos (by decide +kernel)]; kernel_rfl) | (rw [if_neg (by decide +kernel)]; exact ⟨rfl, rfl⟩))
    (fun os started H enc _ => lifted os started H enc)
end Go.Proofs.Ythbdgmahjpgfiaa.layoutIgnoresEmptyLines
namespace Go.Proofs.Ythbdgmahjpgfiaa
/-- The row, under a short name, for the claim. -/
theorem layoutIgnoresEmptyLines_holds : Rows.LayoutIgnoresEmptyLinesSaid := layoutIgnoresEmptyLines.over
#print axioms layoutIgnoresEmptyLines_holds
end Go.Proofs.Ythbdgmahjpgfiaa
