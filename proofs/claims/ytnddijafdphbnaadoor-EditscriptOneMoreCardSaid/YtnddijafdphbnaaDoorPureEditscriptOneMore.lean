/- The law OneMore, in plain Lean. -/
import Derived.Test.YtnddijafdphbnaaDoorAllx25
import Derived.Test.YtnddijafdphbnaaDoorAllPd
namespace Go.Proofs.YtnddijafdphbnaaDoor.All
open Go.RowKit Go.Proofs.YtnddijafdphbnaaDoorW.PrintWords Go.Proofs.YtnddijafdphbnaaDoorW.PrintLast Go.Proofs.YtnddijafdphbnaaDoorW.PrintMore
set_option linter.unusedVariables false
set_option linter.unusedSimpArgs false
theorem one_true (l : List S33) (j : List Int) (w : Int) (y : List Int) (t : Int) : Ev (fun k => emendatelaw36_EditscriptOneMore.j0 k y t true l j w) true :=
  Ev.step (f := fun _ => some true) (fun k => by simp only [emendatelaw36_EditscriptOneMore.j0]; rw [if_pos trivial]) (Ev.now _)
theorem dist_ins {l : List S33} {ins : List Int} {sw : Int} {y : List Int} {t : Int} (G : Good l ins sw) (h0 : 0 ≤ t) (h1 : t < (ins.length : Int)) : distE l ins sw (y ++ [t]) ≤ distE l ins sw y + rd ins t := by
  have b0 := dist_bounds (y := y ++ [t]) G
  have b1 := dist_bounds (y := y) G
  have hi : 0 ≤ rd ins t := by
    have := G.insb t.toNat (by omega)
    rw [Int.toNat_of_nonneg h0] at this
    omega
  by_cases hy : Proper ins y
  · have d0 := dist_isD G hy
    have d1 := dist_isD G (y := y ++ [t]) (Proper.append.2 ⟨hy, fun s hs => by rw [List.mem_singleton.1 hs]; exact ⟨h0, h1⟩⟩)
    by_cases h : distE l ins sw y < 1099511627776
    · exact d1.least _ (((d0.some h).append (Path.ins (t := t) Path.nil)).cast (by simp) rfl (by omega))
    · omega
  · have : distE l ins sw y = 1099511627776 := by unfold distE; rw [if_neg hy]
    omega
theorem dist_del {l : List S33} {ins : List Int} {sw : Int} {y : List Int} {c : S33} (G : Good (l ++ [c]) ins sw) (Gl : Good l ins sw) : distE (l ++ [c]) ins sw y ≤ distE l ins sw y + c.f2 := by
  have b0 := dist_bounds (y := y) G
  have b1 := dist_bounds (y := y) Gl
  have hc := G.col c (by simp)
  have c0 := hc.del0
  by_cases hy : Proper ins y
  · have d0 := dist_isD Gl hy
    have d1 := dist_isD G hy
    by_cases h : distE l ins sw y < 1099511627776
    · by_cases h2 : c.f2 < 1099511627776
      · exact d1.least _ (((d0.some h).append (Path.del h2 Path.nil)).cast rfl (by simp) (by omega))
      · omega
    · omega
  · have : distE l ins sw y = 1099511627776 := by unfold distE; rw [if_neg hy]
    omega
theorem editscriptOneMore_pure (l : List S33) (j : List Int) (w : Int) (y : List Int) (t : Int) (wf : ∀ c ∈ l, WfC c) (wg : ∀ n ∈ j, WfI n) (ww : (Go.Lit.int .i64 w).wf = true) (wy : ∀ n ∈ y, WfI n) (wt : (Go.Lit.int .u8 t).wf = true) : ∃ k, emendatelaw36_EditscriptOneMore.f k l j w y t = some true := by
  refine Ev.rounds (g := fun k => emendatelaw36_EditscriptOneMore.f k l j w y t) ?_
  have tru := one_true l j w y t
  have ht : 0 ≤ t ∧ t ≤ 255 := by
    simp [Go.Lit.wf, Go.IntKind.min, Go.IntKind.max, Go.IntKind.signed, Go.IntKind.bits] at wt
    omega
  obtain ⟨b, hb, hb2⟩ := fair_ev l j w
  refine Ev.congr (fun k => rfl) (Ev.bind awake_ev (Ev.congr (fun k => by rw [if_pos rfl]) (Ev.bind hb ?_)))
  cases b with
  | false => exact Ev.congr (fun k => by rw [if_neg (by simp)]) tru
  | true =>
    have G := hb2 rfl
    refine Ev.congr (fun k => by rw [if_pos rfl]) ?_
    by_cases h1 : (y.length : Int) > 10
    · exact Ev.congr (fun k => by rw [if_pos h1]) tru
    refine Ev.congr (fun k => by rw [if_neg h1]) ?_
    by_cases h2 : (j.length : Int) = 0
    · exact Ev.congr (fun k => by rw [if_pos h2]) tru
    refine Ev.congr (fun k => by rw [if_neg h2]) ?_
    by_cases h3 : (l.length : Int) = 0
    · have : ((l.length : Int) == 0) = true := beq_iff_eq.2 h3
      rw [this]
      exact tru
    have h3' : ((l.length : Int) == 0) = false := beq_eq_false_iff_ne.2 h3
    rw [h3']
    have hjn : 0 < j.length := by omega
    have hln : 0 < l.length := by omega
    have gn := G.n
    have gm := G.m
    have hw : wrap64 t = t := by unfold wrap64; omega
    obtain ⟨q, hq⟩ : ∃ q : Int, q = Int.tmod (wrap64 t) (j.length : Int) := ⟨_, rfl⟩
    have hq2 : q = t % (j.length : Int) := by rw [hq, hw, Int.tmod_eq_emod_of_nonneg ht.1]
    have q0 : 0 ≤ q := by rw [hq2]; exact Int.emod_nonneg _ (by omega)
    have q1 : q < (j.length : Int) := by rw [hq2]; exact Int.emod_lt_of_pos _ (by omega)
    have hwl : wrap64 ((l.length : Int) - 1) = ((l.length - 1 : Nat) : Int) := by unfold wrap64; omega
    have iq : 1 ≤ rd j q ∧ rd j q ≤ 60000 := by
      have := G.insb q.toNat (by omega)
      rwa [Int.toNat_of_nonneg q0] at this
    have gl : l.length - 1 < l.length := by omega
    have gc := G.col _ (List.getElem_mem gl)
    have e0 := dist_ev (y := y) G (by omega)
    have e1 := dist_ev (y := y ++ [q]) G (by simp; omega)
    have G2 := G.take (l.length - 1)
    have e2 := dist_ev (y := y) G2 (by omega)
    have b0 := dist_bounds (y := y) G
    have b2 := dist_bounds (y := y) G2
    have m1 := dist_ins (y := y) G q0 q1
    have split : l = l.take (l.length - 1) ++ [l[l.length - 1]] := by
      have : l.take (l.length - 1 + 1) = l.take (l.length - 1) ++ [l[l.length - 1]] := List.take_succ_eq_append_getElem gl
      rw [← this, List.take_of_length_le (by omega)]
    have m2 : distE l j w y ≤ distE (l.take (l.length - 1)) j w y + (l[l.length - 1]).f2 := by
      have := dist_del (l := l.take (l.length - 1)) (c := l[l.length - 1]) (ins := j) (sw := w) (y := y) (by rw [← split]; exact G) G2
      rwa [← split] at this
    have w1 : wrap64 (distE l j w y + rd j q) = distE l j w y + rd j q := by unfold wrap64; omega
    have w2 : wrap64 (distE (l.take (l.length - 1)) j w y + (l[l.length - 1]).f2) = distE (l.take (l.length - 1)) j w y + (l[l.length - 1]).f2 := by
      have := gc.del1
      have := gc.del0
      unfold wrap64
      omega
    refine Ev.step (f := fun k => (editscript_Distance.f k l j w y).bind fun t347 => (editscript_Distance.f k l j w (y ++ [q])).bind fun t360 => if t360 ≤ (wrap64 (t347 + rd j q)) then ((editscript_Distance.f k (l.take (l.length - 1)) j w y).bind fun t367 => some (decide (t347 ≤ (wrap64 (t367 + (l[l.length - 1]).f2))))) else some false) (fun k => ?_) ?_
    · simp only [emendatelaw36_EditscriptOneMore.j0]
      rw [if_neg (by simp), if_neg h2]
      simp only [Option.bind_some, List.nil_append, List.length_nil, List.length_singleton]
      rw [← hq, hwl]
      simp only [Int.toNat_natCast]
      have a1 : 0 + y.length < 17592186044416 := by omega
      have a2 : y.length + 1 < 17592186044416 := by omega
      have a3 : (0 : Int) ≤ ((l.length - 1 : Nat) : Int) := by omega
      have a4 : ((l.length - 1 : Nat) : Int) ≤ (l.length : Int) := by omega
      have a5 : ((l.length - 1 : Nat) : Int) < (l.length : Int) := by omega
      simp only [if_pos a1, if_pos a2, if_pos a3, if_pos a4, if_pos a5, if_pos q0, if_pos q1, rdn l _ gl]
    · refine Ev.bind e0 (Ev.bind e1 (Ev.congr (fun k => by rw [w1, if_pos m1]) (Ev.bind e2 ?_)))
      rw [w2, decide_eq_true m2]
      exact Ev.now _
end Go.Proofs.YtnddijafdphbnaaDoor.All
