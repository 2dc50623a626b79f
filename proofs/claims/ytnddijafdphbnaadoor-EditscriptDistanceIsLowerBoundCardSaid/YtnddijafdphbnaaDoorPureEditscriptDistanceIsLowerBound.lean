/- The law DistanceIsLowerBound, in plain Lean. -/
import Derived.Test.YtnddijafdphbnaaDoorAllx32
import Derived.Test.YtnddijafdphbnaaDoorAllPg
namespace Go.Proofs.YtnddijafdphbnaaDoor.All
open Go.RowKit Go.Proofs.YtnddijafdphbnaaDoorW.PrintWords Go.Proofs.YtnddijafdphbnaaDoorW.PrintLast Go.Proofs.YtnddijafdphbnaaDoorW.PrintMore
set_option linter.unusedVariables false
set_option linter.unusedSimpArgs false
theorem editscriptDistanceIsLowerBound_pure (l : List S33) (j : List Int) (w : Int) (m : List S49) (wf : ∀ c ∈ l, WfC c) (wg : ∀ n ∈ j, WfI n) (ww : (Go.Lit.int .i64 w).wf = true) (wm : ∀ t ∈ m, WfO t) : ∃ k, emendatelaw36_EditscriptDistanceIsLowerBound.f k l j w m = some true := by
  refine Ev.rounds (g := fun k => emendatelaw36_EditscriptDistanceIsLowerBound.f k l j w m) ?_
  obtain ⟨b, hb, hb2⟩ := fair_ev l j w
  refine Ev.congr (fun k => rfl) (Ev.bind awake_ev (Ev.congr (fun k => by rw [if_pos rfl]) (Ev.bind hb ?_)))
  have yes : Ev (fun k => emendatelaw36_EditscriptDistanceIsLowerBound.j0 k m true l j w) true := Ev.step (f := fun _ => some true) (fun k => by simp only [emendatelaw36_EditscriptDistanceIsLowerBound.j0]; rw [if_pos trivial]) (Ev.now _)
  cases b with
  | false => exact Ev.congr (f := fun k => emendatelaw36_EditscriptDistanceIsLowerBound.j0 k m true l j w) (fun k => by rw [if_neg (by simp)]) yes
  | true =>
    have G := hb2 rfl
    by_cases h : (m.length : Int) > 20
    · exact Ev.congr (f := fun k => emendatelaw36_EditscriptDistanceIsLowerBound.j0 k m true l j w) (fun k => by rw [if_pos rfl, decide_eq_true h]) yes
    · refine Ev.congr (f := fun k => emendatelaw36_EditscriptDistanceIsLowerBound.j0 k m false l j w) (fun k => by rw [if_pos rfl, decide_eq_false h]) ?_
      have er := run_ev (l := m) G (by omega)
      refine Ev.succ (g := fun k => emendatelaw36_EditscriptDistanceIsLowerBound.j0 k m false l j w) ?_
      simp only [emendatelaw36_EditscriptDistanceIsLowerBound.j0, Bool.false_eq_true, if_false]
      refine Ev.bind er ?_
      cases hr : runE l j w m with
      | none => exact Ev.congr (f := fun _ => some true) (fun k => by rw [if_neg (by simp)]) (Ev.now _)
      | some r =>
        obtain ⟨y, d⟩ := r
        have hlen := runE_len hr
        obtain ⟨e, p, hd⟩ := runE_sp G hr
        have D := dist_isD G (p.proper G.col)
        have h1 := D.least e p.path
        have h2 := D.hi
        have h3 : distE l j w y ≤ d := by
          rw [hd]
          unfold sat
          split <;> omega
        refine Ev.congr (fun k => by rw [if_pos rfl]) (Ev.bind (dist_ev G (y := y) (by omega)) (Ev.congr (f := fun _ => some true) (fun k => ?_) (Ev.now _)))
        rw [decide_eq_true h3]
end Go.Proofs.YtnddijafdphbnaaDoor.All
