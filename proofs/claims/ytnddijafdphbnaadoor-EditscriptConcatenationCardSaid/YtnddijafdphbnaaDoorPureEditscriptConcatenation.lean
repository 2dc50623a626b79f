/- The law Concatenation, in plain Lean. -/
import Derived.Test.YtnddijafdphbnaaDoorAllx38
import Derived.Test.YtnddijafdphbnaaDoorAllPd
import Derived.Test.YtnddijafdphbnaaDoorAllx16
namespace Go.Proofs.YtnddijafdphbnaaDoor.All
open Go.RowKit Go.Proofs.YtnddijafdphbnaaDoorW.PrintWords Go.Proofs.YtnddijafdphbnaaDoorW.PrintLast Go.Proofs.YtnddijafdphbnaaDoorW.PrintMore
set_option linter.unusedVariables false
set_option linter.unusedSimpArgs false
theorem eq_l0 (a b : List Int) (hl : a.length ≤ 1000000) (hb : a.length = b.length) : ∀ (d i : Nat), i + d = a.length → Ev (fun k => emendateref27_SameInts.l0 k a b (i : Int)) (decide (a.drop i = b.drop i))
  | 0, i, h => by
    rw [List.drop_eq_nil_of_le (show a.length ≤ i by omega), List.drop_eq_nil_of_le (show b.length ≤ i by omega), decide_eq_true rfl]
    exact Ev.step (f := fun _ => some true) (fun k => by simp only [emendateref27_SameInts.l0]; rw [if_neg (by omega)]) (Ev.now _)
  | d + 1, i, h => by
    have hi : i < a.length := by omega
    have hj : i < b.length := by omega
    have ea := rdi a i hi
    have eb := rdi b i hj
    rw [drop_cons hi, drop_cons hj]
    by_cases he : a[i] = b[i]
    · have e : decide (a[i] :: a.drop (i + 1) = b[i] :: b.drop (i + 1)) = decide (a.drop (i + 1) = b.drop (i + 1)) := decide_eq_decide.2 ⟨fun h => (List.cons.inj h).2, fun h => by rw [he, h]⟩
      rw [e]
      refine Ev.step (fun k => ?_) (eq_l0 a b hl hb d (i + 1) (by omega))
      simp only [emendateref27_SameInts.l0]
      rw [if_pos (by omega), if_pos (by omega), if_pos (by omega), ea, eb, if_pos he, wnat i (by omega)]
    · rw [decide_eq_false (fun h => he (List.cons.inj h).1)]
      refine Ev.step (f := fun _ => some false) (fun k => ?_) (Ev.now _)
      simp only [emendateref27_SameInts.l0]
      rw [if_pos (by omega), if_pos (by omega), if_pos (by omega), ea, eb, if_neg he]
theorem eq_ev (a b : List Int) (hl : a.length ≤ 1000000) : Ev (fun k => emendateref27_SameInts.f k a b) (decide (a = b)) := by
  by_cases hb : a.length = b.length
  · have := eq_l0 a b hl hb a.length 0 (by omega)
    rw [List.drop_zero, List.drop_zero] at this
    exact Ev.congr (fun k => by unfold emendateref27_SameInts.f; rw [if_pos (by omega)]; rfl) this
  · rw [decide_eq_false (fun h => hb (by rw [h]))]
    exact Ev.congr (f := fun _ => some false) (fun k => by unfold emendateref27_SameInts.f; rw [if_neg (by omega)]) (Ev.now _)
theorem Good.append {a b : List S33} {ins : List Int} {sw : Int} (Ga : Good a ins sw) (Gb : Good b ins sw) (h : a.length + b.length ≤ 8) : Good (a ++ b) ins sw :=
  ⟨by rw [List.length_append]; exact h, Ga.m, Ga.sw0, Ga.sw1, fun c hc => by
    rcases List.mem_append.1 hc with hc | hc
    · exact Ga.col c hc
    · exact Gb.col c hc, Ga.insb⟩
theorem con_j0 {a b : List S33} {ins : List Int} {sw : Int} {y z : List Int} (Ga : Good a ins sw) (Gb : Good b ins sw) (h : a.length + b.length ≤ 8) (hy : y.length ≤ 6) (hz : z.length ≤ 6) : Ev (fun k => emendatelaw36_EditscriptConcatenation.j0 k false a ins sw b ins sw y z) true := by
  have Gc := Ga.append Gb h
  have na := Ga.n
  have nb := Gb.n
  have hd := dist_append (y := y) (z := z) Ga Gb Gc
  have ba := dist_bounds (y := y) Ga
  have bb := dist_bounds (y := z) Gb
  have e1 := dist_ev (y := y ++ z) Gc (by rw [List.length_append]; omega)
  have e2 := dist_ev (y := y) Ga (by omega)
  have e3 := dist_ev (y := z) Gb (by omega)
  have hw : wrap64 (distE a ins sw y + distE b ins sw z) = distE a ins sw y + distE b ins sw z := by
    generalize distE a ins sw y = p at *
    generalize distE b ins sw z = q at *
    unfold wrap64
    omega
  refine Ev.step (g := fun k => emendatelaw36_EditscriptConcatenation.j0 k false a ins sw b ins sw y z) (f := fun k => (editscript_Distance.f k (a ++ b) ins sw (y ++ z)).bind fun t => (editscript_Distance.f k a ins sw y).bind fun u => (editscript_Distance.f k b ins sw z).bind fun v => some (decide (t ≤ wrap64 (u + v)))) (fun k => ?_) (Ev.bind e1 (Ev.bind e2 (Ev.bind e3 (Ev.congr (f := fun _ => some true) (fun k => ?_) (Ev.now _)))))
  · simp only [emendatelaw36_EditscriptConcatenation.j0, Bool.false_eq_true, if_false, Option.bind_some, List.nil_append, List.length_nil]
    rw [if_pos (by omega), if_pos (by omega), if_pos (by omega), if_pos (by omega)]
  · rw [hw, decide_eq_true hd]
theorem editscriptConcatenation_pure (l0 : List S33) (j0 : List Int) (w0 : Int) (l1 : List S33) (j1 : List Int) (w1 : Int) (y z : List Int) : ∃ k, emendatelaw36_EditscriptConcatenation.f k l0 j0 w0 l1 j1 w1 y z = some true := by
  refine Ev.rounds (g := fun k => emendatelaw36_EditscriptConcatenation.f k l0 j0 w0 l1 j1 w1 y z) ?_
  obtain ⟨b, hb, hb2⟩ := fair_ev l0 j0 w0
  obtain ⟨c, hc, hc2⟩ := fair_ev l1 j1 w1
  have yes : Ev (fun k => emendatelaw36_EditscriptConcatenation.j0 k true l0 j0 w0 l1 j1 w1 y z) true := Ev.step (f := fun _ => some true) (fun k => by simp only [emendatelaw36_EditscriptConcatenation.j0]; rw [if_pos trivial]) (Ev.now _)
  refine Ev.congr (fun k => rfl) (Ev.bind awake_ev (Ev.congr (fun k => by rw [if_pos rfl]) (Ev.bind hb ?_)))
  cases b with
  | false => exact Ev.congr (f := fun k => emendatelaw36_EditscriptConcatenation.j0 k true l0 j0 w0 l1 j1 w1 y z) (fun k => by rw [if_neg (by simp)]) yes
  | true =>
    have Ga := hb2 rfl
    refine Ev.congr (fun k => by rw [if_pos rfl]) ?_
    refine Ev.bind hc ?_
    cases c with
    | false => exact Ev.congr (f := fun k => emendatelaw36_EditscriptConcatenation.j0 k true l0 j0 w0 l1 j1 w1 y z) (fun k => by rw [if_neg (by simp)]) yes
    | true =>
      have Gb := hc2 rfl
      have na := Ga.n
      have nb := Gb.n
      have ma := Ga.m
      by_cases hy : (y.length : Int) > 6
      · exact Ev.congr (f := fun k => emendatelaw36_EditscriptConcatenation.j0 k true l0 j0 w0 l1 j1 w1 y z) (fun k => by rw [if_pos rfl, if_pos hy]) yes
      by_cases hz : (z.length : Int) > 6
      · exact Ev.congr (f := fun k => emendatelaw36_EditscriptConcatenation.j0 k true l0 j0 w0 l1 j1 w1 y z) (fun k => by rw [if_pos rfl, if_neg hy, if_pos hz]) yes
      refine Ev.congr (fun k => by rw [if_pos rfl, if_neg hy, if_neg hz]) ?_
      refine Ev.bind (eq_ev j0 j1 (by omega)) ?_
      by_cases hj : j0 = j1
      · by_cases hw : w0 = w1
        · by_cases hn : wrap64 ((l0.length : Int) + (l1.length : Int)) > 8
          · exact Ev.congr (f := fun k => emendatelaw36_EditscriptConcatenation.j0 k true l0 j0 w0 l1 j1 w1 y z) (fun k => by rw [decide_eq_true hj, if_pos rfl, if_pos hw, decide_eq_true hn]) yes
          · have hle : l0.length + l1.length ≤ 8 := by unfold wrap64 at hn; omega
            subst hj hw
            exact Ev.congr (f := fun k => emendatelaw36_EditscriptConcatenation.j0 k false l0 j0 w0 l1 j0 w0 y z) (fun k => by rw [decide_eq_true rfl, if_pos rfl, if_pos rfl, decide_eq_false hn]) (con_j0 Ga Gb hle (by omega) (by omega))
        · exact Ev.congr (f := fun k => emendatelaw36_EditscriptConcatenation.j0 k true l0 j0 w0 l1 j1 w1 y z) (fun k => by rw [decide_eq_true hj, if_pos rfl, if_neg hw]) yes
      · exact Ev.congr (f := fun k => emendatelaw36_EditscriptConcatenation.j0 k true l0 j0 w0 l1 j1 w1 y z) (fun k => by rw [decide_eq_false hj, if_neg (by simp)]) yes
end Go.Proofs.YtnddijafdphbnaaDoor.All
