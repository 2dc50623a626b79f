/- Two tokens that may be exchanged. -/
import Derived.Test.YtnddijafdphbnaaDoorAllx0
import Derived.Test.YtnddijafdphbnaaDoorAllx4
namespace Go.Proofs.YtnddijafdphbnaaDoor.All
open Go.RowKit Go.Proofs.YtnddijafdphbnaaDoorW.PrintWords Go.Proofs.YtnddijafdphbnaaDoorW.PrintLast Go.Proofs.YtnddijafdphbnaaDoorW.PrintMore
set_option linter.unusedVariables false
set_option linter.unusedSimpArgs false
def swp (cols : List S33) (sw : Int) (a : Nat) : Prop := 0 < sw ∧ a + 1 < cols.length ∧ 0 ≤ (rd_T33 cols (a : Int)).f0 ∧ 0 ≤ (rd_T33 cols ((a : Int) + 1)).f0
instance (cols : List S33) (sw : Int) (a : Nat) : Decidable (swp cols sw a) := by unfold swp; infer_instance
variable {cols : List S33} {ins : List Int} {sw : Int}
theorem rd_at {l : List S33} {a : Nat} (h : a < l.length) : l[a] = rd_T33 l (a : Int) := by simp [rd_T33, List.getD, h]

theorem swp_iff (hl : cols.length ≤ 1000000) (a : Nat) (ha : a ≤ cols.length) : editscript_swappable.f cols ins sw a = some (decide (swp cols sw a)) := by
 have hw : wrap64 ((a : Int) + 1) = (a : Int) + 1 := by unfold wrap64; omega
 unfold editscript_swappable.f swp
 rw [hw]
 by_cases h1 : 0 < sw
 ·
  by_cases h2 : a + 1 < cols.length
  ·
   rw [if_pos (by omega), if_pos (by omega), if_pos (by omega), if_pos (by omega)]
   by_cases h3 : 0 ≤ (rd_T33 cols (a : Int)).f0
   ·
    rw [if_pos (by omega), if_pos (by omega)]
    simp [h1, h2, h3]
   ·
    rw [if_neg (by omega)]
    simp [h1, h2, h3]
  ·
   rw [if_pos (by omega), if_neg (by omega)]
   simp [h2]
 ·
  rw [if_neg (by omega)]
  simp [h1]

end Go.Proofs.YtnddijafdphbnaaDoor.All
