/- LayoutStripRestores over lists and numbers. -/
import Derived.Test.YthbdgmahjpgfiaaAllx17
import Derived.Test.YthbdgmahjpgfiaaAllForm
namespace Go.Proofs.Ythbdgmahjpgfiaa.layoutStripRestores
open Go.RowKit Go.Proofs.Ythbdgmahjpgfiaa.All Go.Proofs.YthbdgmahjpgfiaaW.PrintWords
set_option linter.unusedVariables false
set_option linter.unusedSimpArgs false
theorem layoutStripRestores_pure (l : List S33) (s : ByteArray) (d : Int) (hwf : ∀ t ∈ l, Wf t) (hs : s.size ≤ maxLen) (hd : (Lit.int .i64 d).wf = true) : ∃ k, emendatelaw15_LayoutStripRestores.f k l s d = some true := by
  refine Ev.rounds ?_
  unfold emendatelaw15_LayoutStripRestores.f
  refine Ev.bind awake_ev ?_
  simp only [if_true]
  obtain ⟨b, h1, h2⟩ := fair_or l s d
  refine Ev.bind h1 ?_
  cases b with
  | false =>
    simp only [Bool.false_eq_true, if_false]
    refine Ev.step (f := fun _ => some true) (fun k => ?_) (Ev.now _)
    simp only [emendatelaw15_LayoutStripRestores.j0]
    rw [if_pos trivial]
  | true =>
    have hF := h2 rfl
    obtain ⟨b, h3, h4⟩ := plain_or l s d (by have := hF.1; omega)
    simp only [if_true]
    refine Ev.bind h3 ?_
    cases b with
    | false =>
      refine Ev.step (f := fun _ => some true) (fun k => ?_) (Ev.now _)
      simp only [emendatelaw15_LayoutStripRestores.j0]
      rw [if_pos (by rfl)]
    | true =>
      have hp := h4 rfl
      have hlen := apply_len l s d
      have hl : (applyF l s d).length ≤ 1000000 := by have := hF.1; omega
      refine Ev.step (f := fun k => (layout_Apply.f k l s d).bind fun t253 => ((layout_Strip.f k t253 d).bind fun t256 => ((emendateref12_Same.f k t256 l).bind fun t259 => (some t259)))) (fun k => ?_) ?_
      · simp only [emendatelaw15_LayoutStripRestores.j0]
        rw [if_neg (by simp)]
      refine Ev.bind (apply_ev l s d hF.ready) ?_
      refine Ev.bind (stripP d (applyF l s d) hl) ?_
      rw [apply_keep l s d hp]
      exact Ev.bind (same_refl l (by have := hF.1; omega)) (Ev.now _)
end Go.Proofs.Ythbdgmahjpgfiaa.layoutStripRestores
