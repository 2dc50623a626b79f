/- The law AlignIsOptimal, in plain Lean. -/
import Derived.Test.YtnddijafdphbnaaDoorAllx33
import Derived.Test.YtnddijafdphbnaaDoorAllPh
namespace Go.Proofs.YtnddijafdphbnaaDoor.All
open Go.RowKit Go.Proofs.YtnddijafdphbnaaDoorW.PrintWords Go.Proofs.YtnddijafdphbnaaDoorW.PrintLast Go.Proofs.YtnddijafdphbnaaDoorW.PrintMore
set_option linter.unusedVariables false
set_option linter.unusedSimpArgs false
theorem editscriptAlignIsOptimal_pure (l : List S33) (j : List Int) (w : Int) (y : List Int) (wf : ∀ c ∈ l, WfC c) (wg : ∀ n ∈ j, WfI n) (ww : (Go.Lit.int .i64 w).wf = true) (wy : ∀ n ∈ y, WfI n) : ∃ k, emendatelaw36_EditscriptAlignIsOptimal.f k l j w y = some true := by
  refine Ev.rounds (g := fun k => emendatelaw36_EditscriptAlignIsOptimal.f k l j w y) ?_
  obtain ⟨b, hb, hb2⟩ := fair_ev l j w
  refine Ev.congr (fun k => rfl) (Ev.bind awake_ev (Ev.congr (fun k => by rw [if_pos rfl]) (Ev.bind hb ?_)))
  have yes : Ev (fun k => emendatelaw36_EditscriptAlignIsOptimal.j0 k y true l j w) true := Ev.step (f := fun _ => some true) (fun k => by simp only [emendatelaw36_EditscriptAlignIsOptimal.j0]; rw [if_pos trivial]) (Ev.now _)
  cases b with
  | false => exact Ev.congr (f := fun k => emendatelaw36_EditscriptAlignIsOptimal.j0 k y true l j w) (fun k => by rw [if_neg (by simp)]) yes
  | true =>
    have G := hb2 rfl
    by_cases h : (y.length : Int) > 12
    · exact Ev.congr (f := fun k => emendatelaw36_EditscriptAlignIsOptimal.j0 k y true l j w) (fun k => by rw [if_pos rfl, decide_eq_true h]) yes
    · refine Ev.congr (f := fun k => emendatelaw36_EditscriptAlignIsOptimal.j0 k y false l j w) (fun k => by rw [if_pos rfl, decide_eq_false h]) ?_
      have hn := G.n
      have e1 := align_ev (y := y) G (by omega)
      have e2 := rdist_ev (y := y) G (by omega)
      have e3 := terms_ev l j w y (by omega)
      refine Ev.succ (g := fun k => emendatelaw36_EditscriptAlignIsOptimal.j0 k y false l j w) ?_
      simp only [emendatelaw36_EditscriptAlignIsOptimal.j0, Bool.false_eq_true, if_false]
      refine Ev.bind e1 (Ev.bind e2 ?_)
      by_cases hy : Proper j y
      · rw [decide_eq_true hy] at e3
        by_cases hD : Dd l j w y 0 0 ≥ 1099511627776
        · have ea : alignE l j w y = ([], 6) := by unfold alignE; rw [if_pos hy, if_pos hD]
          have ed : distE l j w y = Dd l j w y 0 0 := by unfold distE; rw [if_pos hy]
          rw [ea, ed]
          refine Ev.congr (fun k => by rw [if_neg (show ¬ ((6 : Int) = 0) by decide), if_pos (show ((([] : List S49).length : Int) = 0) from rfl), if_neg (show ¬ ((6 : Int) = 1) by decide), if_pos rfl]) ?_
          refine Ev.bind e3 (Ev.congr (f := fun _ => some true) (fun k => ?_) (Ev.now _))
          rw [if_pos rfl, decide_eq_true hD]
        · have ea : alignE l j w y = (alE l j w y (l.length + y.length + 1) 0 0, 0) := by unfold alignE; rw [if_pos hy, if_neg hD]
          have ed : distE l j w y = Dd l j w y 0 0 := by unfold distE; rw [if_pos hy]
          have p := al_sp G hy (l.length + y.length + 1) 0 0 (Nat.zero_le _) (Nat.zero_le _) (by omega) (by omega)
          rw [List.drop_zero, List.drop_zero] at p
          have hr := sp_runE G p
          have hlen := al_len G hy (l.length + y.length + 1) 0 0
          have er := run_ev (l := alE l j w y (l.length + y.length + 1) 0 0) G (by omega)
          have hs : sat 0 (Dd l j w y 0 0) = Dd l j w y 0 0 := by unfold sat; rw [if_pos (by omega)]; omega
          rw [hr, hs] at er
          rw [ea, ed]
          refine Ev.congr (fun k => by rw [if_pos rfl]) (Ev.bind er (Ev.congr (fun k => by rw [if_pos rfl, if_pos rfl, if_pos (by omega)]) (Ev.bind (ints_refl y (by omega)) (Ev.now _))))
      · rw [decide_eq_false hy] at e3
        have ea : alignE l j w y = ([], 1) := by unfold alignE; rw [if_neg hy]
        rw [ea]
        refine Ev.congr (fun k => by rw [if_neg (show ¬ ((1 : Int) = 0) by decide), if_pos (show ((([] : List S49).length : Int) = 0) from rfl), if_pos rfl]) ?_
        refine Ev.bind e3 (Ev.congr (f := fun _ => some true) (fun k => ?_) (Ev.now _))
        rw [if_neg (by simp)]
end Go.Proofs.YtnddijafdphbnaaDoor.All
