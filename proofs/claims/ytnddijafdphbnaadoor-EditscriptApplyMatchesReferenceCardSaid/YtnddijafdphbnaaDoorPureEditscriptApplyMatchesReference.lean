/- The law ApplyMatchesReference, in plain Lean. -/
import Derived.Test.YtnddijafdphbnaaDoorAllx26
import Derived.Test.YtnddijafdphbnaaDoorAllPg
namespace Go.Proofs.YtnddijafdphbnaaDoor.All
open Go.RowKit Go.Proofs.YtnddijafdphbnaaDoorW.PrintWords Go.Proofs.YtnddijafdphbnaaDoorW.PrintLast Go.Proofs.YtnddijafdphbnaaDoorW.PrintMore
set_option linter.unusedVariables false
set_option linter.unusedSimpArgs false
theorem editscriptApplyMatchesReference_pure (l : List S33) (j : List Int) (w : Int) (m : List S49) (wf : ∀ c ∈ l, WfC c) (wg : ∀ n ∈ j, WfI n) (ww : (Go.Lit.int .i64 w).wf = true) (wm : ∀ t ∈ m, WfO t) : ∃ k, emendatelaw36_EditscriptApplyMatchesReference.f k l j w m = some true := by
  refine Ev.rounds (g := fun k => emendatelaw36_EditscriptApplyMatchesReference.f k l j w m) ?_
  obtain ⟨b, hb, hb2⟩ := fair_ev l j w
  refine Ev.congr (fun k => rfl) (Ev.bind awake_ev (Ev.congr (fun k => by rw [if_pos rfl]) (Ev.bind hb ?_)))
  have yes : Ev (fun k => emendatelaw36_EditscriptApplyMatchesReference.j0 k m true l j w) true := Ev.step (f := fun _ => some true) (fun k => by simp only [emendatelaw36_EditscriptApplyMatchesReference.j0]; rw [if_pos trivial]) (Ev.now _)
  cases b with
  | false => exact Ev.congr (f := fun k => emendatelaw36_EditscriptApplyMatchesReference.j0 k m true l j w) (fun k => by rw [if_neg (by simp)]) yes
  | true =>
    have G := hb2 rfl
    by_cases h : (m.length : Int) > 40
    · exact Ev.congr (f := fun k => emendatelaw36_EditscriptApplyMatchesReference.j0 k m true l j w) (fun k => by rw [if_pos rfl, decide_eq_true h]) yes
    · refine Ev.congr (f := fun k => emendatelaw36_EditscriptApplyMatchesReference.j0 k m false l j w) (fun k => by rw [if_pos rfl, decide_eq_false h]) ?_
      have hn := G.n
      have hm := G.m
      have hg : l.length ≤ 1000000 ∧ j.length ≤ 1000000 ∧ m.length ≤ 1000 := ⟨by omega, by omega, by omega⟩
      have er := run_ev (l := m) G (by omega)
      cases hr : runE l j w m with
      | none =>
        rw [hr] at er
        have e1 : Ev (fun k => editscript_Apply.f k l j w m) ([], 1) := Ev.congr (f := fun _ => some ([], 1)) (fun k => by unfold editscript_Apply.f; rw [if_pos hg, hr]) (Ev.now _)
        have e3 : Ev (fun k => editscript_Cost.f k l j w m) (0, 1) := Ev.congr (f := fun _ => some (0, 1)) (fun k => by unfold editscript_Cost.f; rw [if_pos hg, hr]) (Ev.now _)
        have e2 : Ev (fun k => emendateref36_Apply.f k l j w m) ([], 1) := Ev.congr (fun k => rfl) (Ev.bind er (Ev.congr (f := fun _ => some ([], 1)) (fun k => by rw [if_neg (by simp)]) (Ev.now _)))
        have e4 : Ev (fun k => emendateref36_Cost.f k l j w m) (0, 1) := Ev.congr (fun k => rfl) (Ev.bind er (Ev.congr (f := fun _ => some (0, 1)) (fun k => by rw [if_neg (by simp)]) (Ev.now _)))
        refine Ev.succ (g := fun k => emendatelaw36_EditscriptApplyMatchesReference.j0 k m false l j w) ?_
        simp only [emendatelaw36_EditscriptApplyMatchesReference.j0, Bool.false_eq_true, if_false]
        exact Ev.bind e1 (Ev.bind e2 (Ev.bind e3 (Ev.bind e4 (Ev.congr (fun k => by rw [if_pos rfl, if_pos rfl, if_pos rfl]) (Ev.bind (ints_refl [] (by simp)) (Ev.now _))))))
      | some r =>
        obtain ⟨y, d⟩ := r
        rw [hr] at er
        have hlen := runE_len hr
        have e1 : Ev (fun k => editscript_Apply.f k l j w m) (y, 0) := Ev.congr (f := fun _ => some (y, 0)) (fun k => by unfold editscript_Apply.f; rw [if_pos hg, hr]) (Ev.now _)
        have e3 : Ev (fun k => editscript_Cost.f k l j w m) (d, 0) := Ev.congr (f := fun _ => some (d, 0)) (fun k => by unfold editscript_Cost.f; rw [if_pos hg, hr]) (Ev.now _)
        have e2 : Ev (fun k => emendateref36_Apply.f k l j w m) (y, 0) := Ev.congr (fun k => rfl) (Ev.bind er (Ev.congr (f := fun _ => some (y, 0)) (fun k => by rw [if_pos rfl]) (Ev.now _)))
        have e4 : Ev (fun k => emendateref36_Cost.f k l j w m) (d, 0) := Ev.congr (fun k => rfl) (Ev.bind er (Ev.congr (f := fun _ => some (d, 0)) (fun k => by rw [if_pos rfl]) (Ev.now _)))
        refine Ev.succ (g := fun k => emendatelaw36_EditscriptApplyMatchesReference.j0 k m false l j w) ?_
        simp only [emendatelaw36_EditscriptApplyMatchesReference.j0, Bool.false_eq_true, if_false]
        exact Ev.bind e1 (Ev.bind e2 (Ev.bind e3 (Ev.bind e4 (Ev.congr (fun k => by rw [if_pos rfl, if_pos rfl, if_pos rfl]) (Ev.bind (ints_refl y (by omega)) (Ev.now _))))))
end Go.Proofs.YtnddijafdphbnaaDoor.All
