/- What holds of each law: the fixed examples; parts of an input. Plain Lean, no program in sight. -/
import Derived.Test.YtnddijafdphbnaaDoorAllPc
import Derived.Test.YtnddijafdphbnaaDoorAllx19
import Derived.Test.YtnddijafdphbnaaDoorAllx3
namespace Go.Proofs.YtnddijafdphbnaaDoor.All
open Go.RowKit Go.Proofs.YtnddijafdphbnaaDoorW.PrintWords Go.Proofs.YtnddijafdphbnaaDoorW.PrintLast Go.Proofs.YtnddijafdphbnaaDoorW.PrintMore
set_option linter.unusedVariables false
set_option linter.unusedSimpArgs false
set_option maxRecDepth 100000 in
theorem awake_ok : emendatelaw36_awake.f 200 = some true := by kernel_rfl
theorem awake_ev : Ev (fun k => emendatelaw36_awake.f k) true := Ev.of (fun k => emendatelaw36_awake.mono k) awake_ok
theorem Good.take {cols : List S33} {ins : List Int} {sw : Int} (G : Good cols ins sw) (n : Nat) : Good (cols.take n) ins sw :=
 ⟨by have := G.n; rw [List.length_take]; omega, G.m, G.sw0, G.sw1, fun c hc => G.col c (List.mem_of_mem_take hc), G.insb⟩
theorem Proper.append {ins y z : List Int} : Proper ins (y ++ z) ↔ Proper ins y ∧ Proper ins z :=
 ⟨fun h => ⟨fun t ht => h t (List.mem_append_left _ ht), fun t ht => h t (List.mem_append_right _ ht)⟩, fun h t ht => by
  rcases List.mem_append.1 ht with ht | ht
  ·
   exact h.1 t ht
  ·
   exact h.2 t ht⟩
theorem dist_bounds {cols : List S33} {ins : List Int} {sw : Int} {y : List Int} (G : Good cols ins sw) : 0 ≤ distE cols ins sw y ∧ distE cols ins sw y ≤ 1099511627776 := by
 by_cases hy : Proper ins y
 ·
  have := dist_isD G hy
  exact ⟨this.lo, this.hi⟩
 ·
  unfold distE
  rw [if_neg hy]
  omega
/-- The parts' ways, one behind the other. -/
theorem dist_append {a b : List S33} {ins : List Int} {sw : Int} {y z : List Int} (Ga : Good a ins sw) (Gb : Good b ins sw) (Gc : Good (a ++ b) ins sw) : distE (a ++ b) ins sw (y ++ z) ≤ distE a ins sw y + distE b ins sw z := by
 have bc := dist_bounds (y := y ++ z) Gc
 have ba := dist_bounds (y := y) Ga
 have bb := dist_bounds (y := z) Gb
 by_cases hy : Proper ins y
 ·
  by_cases hz : Proper ins z
  ·
   have da := dist_isD Ga hy
   have db := dist_isD Gb hz
   have dc := dist_isD Gc (Proper.append.2 ⟨hy, hz⟩)
   by_cases h1 : distE a ins sw y < 1099511627776
   ·
    by_cases h2 : distE b ins sw z < 1099511627776
    ·
     exact dc.least _ ((da.some h1).append (db.some h2))
    ·
     omega
   ·
    omega
  ·
   have : distE b ins sw z = 1099511627776 := by unfold distE; rw [if_neg hz]
   omega
 ·
  have : distE a ins sw y = 1099511627776 := by unfold distE; rw [if_neg hy]
  omega
end Go.Proofs.YtnddijafdphbnaaDoor.All
