/- LayoutStripMatchesReference over lists and numbers. -/
import Derived.Test.YthbdgmahjpgfiaaAllx19
import Derived.Test.YthbdgmahjpgfiaaAllForm
namespace Go.Proofs.Ythbdgmahjpgfiaa.layoutStripMatchesReference
open Go.RowKit Go.Proofs.Ythbdgmahjpgfiaa.All Go.Proofs.YthbdgmahjpgfiaaW.PrintWords
set_option linter.unusedVariables false
set_option linter.unusedSimpArgs false
theorem out_ (l : List S33) (d : Int) : Ev (fun k => emendatelaw15_LayoutStripMatchesReference.j0 k l d true) true := by
  refine Ev.step (f := fun _ => some true) (fun k => ?_) (Ev.now _)
  simp only [emendatelaw15_LayoutStripMatchesReference.j0]
  rw [if_pos trivial]
theorem layoutStripMatchesReference_pure (l : List S33) (d : Int) (hwf : ∀ t ∈ l, Wf t) (hd : (Lit.int .i64 d).wf = true) : ∃ k, emendatelaw15_LayoutStripMatchesReference.f k l d = some true := by
  refine Ev.rounds ?_
  unfold emendatelaw15_LayoutStripMatchesReference.f
  refine Ev.bind awake_ev ?_
  simp only [if_true]
  by_cases c1 : (l.length : Int) > 60
  · simp only [if_pos c1]
    exact out_ l d
  · simp only [if_neg c1]
    by_cases c2 : d < (-1000)
    · simp only [if_pos c2]
      exact out_ l d
    · simp only [if_neg c2]
      by_cases c3 : d > 1000
      · rw [decide_eq_true c3]
        exact out_ l d
      · rw [decide_eq_false c3]
        have hl : l.length ≤ 1000000 := by omega
        refine Ev.step (f := fun k => (layout_Strip.f k l d).bind fun t266 => ((emendateref15_Strip.f k l d).bind fun t269 => ((emendateref12_Same.f k t266 t269).bind fun t272 => (if t272 = true then ((layout_Balanced.f k l d).bind fun t273 => ((emendateref15_Balanced.f k l d).bind fun t274 => (some (t273 == t274)))) else (some false))))) (fun k => ?_) ?_
        · simp only [emendatelaw15_LayoutStripMatchesReference.j0]
          rw [if_neg (by simp)]
        refine Ev.bind (stripP d l hl) ?_
        refine Ev.bind (stripR d l hl) ?_
        refine Ev.bind (same_refl _ (by have := keep_len d l; omega)) ?_
        simp only [if_true]
        refine Ev.bind (balP d (by omega) l hl) ?_
        refine Ev.bind (balR d (by omega) l hl (fun t ht => (hwf t ht).in64)) ?_
        rw [show ∀ b : Bool, (b == b) = true by decide]
        exact Ev.now _
end Go.Proofs.Ythbdgmahjpgfiaa.layoutStripMatchesReference
