/- LayoutApplyMatchesReference over lists and numbers. -/
import Derived.Test.YthbdgmahjpgfiaaAllx13
import Derived.Test.YthbdgmahjpgfiaaAllRef
namespace Go.Proofs.Ythbdgmahjpgfiaa.layoutApplyMatchesReference
open Go.RowKit Go.Proofs.Ythbdgmahjpgfiaa.All Go.Proofs.YthbdgmahjpgfiaaW.PrintWords
set_option linter.unusedVariables false
theorem layoutApplyMatchesReference_pure (l : List S33) (s : ByteArray) (d : Int) (hwf : ∀ t ∈ l, Wf t) (hs : s.size ≤ maxLen) (hd : (Lit.int .i64 d).wf = true) : ∃ k, emendatelaw15_LayoutApplyMatchesReference.f k l s d = some true := by
  refine Ev.rounds ?_
  unfold emendatelaw15_LayoutApplyMatchesReference.f
  refine Ev.bind awake_ev ?_
  simp only [if_true]
  obtain ⟨b, h1, h2⟩ := fair_or l s d
  refine Ev.bind h1 ?_
  cases b with
  | false =>
    simp only [Bool.false_eq_true, if_false]
    exact Ev.now _
  | true =>
    have hF := h2 rfl
    simp only [if_true]
    refine Ev.bind (apply_ev l s d hF.ready) ?_
    refine Ev.bind (ref_ev l s d hF.ready) ?_
    exact Ev.bind (same_refl _ (by have h1 := hF.1; have h2 := apply_len l s d; omega)) (Ev.now _)
end Go.Proofs.Ythbdgmahjpgfiaa.layoutApplyMatchesReference
