/- LayoutBalanced over lists and numbers. -/
import Derived.Test.YthbdgmahjpgfiaaAllx16
import Derived.Test.YthbdgmahjpgfiaaAllForm
namespace Go.Proofs.Ythbdgmahjpgfiaa.layoutBalanced
open Go.RowKit Go.Proofs.Ythbdgmahjpgfiaa.All Go.Proofs.YthbdgmahjpgfiaaW.PrintWords
set_option linter.unusedVariables false
set_option linter.unusedSimpArgs false
theorem layoutBalanced_pure (l : List S33) (s : ByteArray) (d : Int) (hwf : ∀ t ∈ l, Wf t) (hs : s.size ≤ maxLen) (hd : (Lit.int .i64 d).wf = true) : ∃ k, emendatelaw15_LayoutBalanced.f k l s d = some true := by
  refine Ev.rounds ?_
  unfold emendatelaw15_LayoutBalanced.f
  refine Ev.bind awake_ev ?_
  simp only [if_true]
  obtain ⟨b, h1, h2⟩ := fair_or l s d
  refine Ev.bind h1 ?_
  cases b with
  | false =>
    simp only [Bool.false_eq_true, if_false]
    refine Ev.step (f := fun _ => some true) (fun k => ?_) (Ev.now _)
    simp only [emendatelaw15_LayoutBalanced.j0]
    rw [if_pos trivial]
  | true =>
    have hF := h2 rfl
    obtain ⟨b, h3, h4⟩ := plain_or l s d (by have := hF.1; omega)
    simp only [if_true]
    refine Ev.bind h3 ?_
    cases b with
    | false =>
      refine Ev.step (f := fun _ => some true) (fun k => ?_) (Ev.now _)
      simp only [emendatelaw15_LayoutBalanced.j0]
      rw [if_pos (by rfl)]
    | true =>
      have hp := h4 rfl
      have hb := apply_bal l s d hp
      have hlen := apply_len l s d
      have hl : (applyF l s d).length ≤ 1000000 := by have := hF.1; omega
      have hd2 : -100000 ≤ d ∧ d ≤ 100000 := by have := hF.2.2.1; have := hF.2.2.2.1; omega
      refine Ev.step (f := fun k => (layout_Apply.f k l s d).bind fun t244 => ((emendateref15_Balanced.f k t244 d).bind fun t247 => (if t247 = true then ((layout_Balanced.f k t244 d).bind fun t248 => (some t248)) else (some false)))) (fun k => ?_) ?_
      · simp only [emendatelaw15_LayoutBalanced.j0]
        rw [if_neg (by simp)]
      refine Ev.bind (apply_ev l s d hF.ready) ?_
      have hR := balR d hd2 (applyF l s d) hl (fun t ht => by
        rcases apply_mem l s d t ht with h | ⟨k, at_, hk, rfl⟩
        · exact (hwf t h).in64
        · show -9223372036854775808 ≤ k ∧ k ≤ 9223372036854775807
          omega)
      have hP := balP d hd2 (applyF l s d) hl
      rw [hb, show okB (some 0) = true from rfl] at hR hP
      refine Ev.bind hR ?_
      simp only [if_true]
      exact Ev.bind hP (Ev.now _)
end Go.Proofs.Ythbdgmahjpgfiaa.layoutBalanced
