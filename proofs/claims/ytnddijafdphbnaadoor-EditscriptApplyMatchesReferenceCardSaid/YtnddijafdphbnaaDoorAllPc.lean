/- The least cost is the least cost of a script. Plain Lean, no program in sight. -/
import Derived.Test.YtnddijafdphbnaaDoorAllPa
import Derived.Test.YtnddijafdphbnaaDoorAllScr
namespace Go.Proofs.YtnddijafdphbnaaDoor.All
open Go.RowKit Go.Proofs.YtnddijafdphbnaaDoorW.PrintWords Go.Proofs.YtnddijafdphbnaaDoorW.PrintLast Go.Proofs.YtnddijafdphbnaaDoorW.PrintMore
set_option linter.unusedVariables false
set_option linter.unusedSimpArgs false

/-- A way to read the tokens as the terminals, and what it costs. -/
inductive Path (ins : List Int) (sw : Int) : List S33 → List Int → Int → Prop
 | nil : Path ins sw [] [] 0
 | read {c : S33} {t : Int} {l : List S33} {y : List Int} {d : Int} (h : 0 ≤ rd c.f1 t) : Path ins sw l y d → Path ins sw (c :: l) (t :: y) (rd c.f1 t + d)
 | del {c : S33} {l : List S33} {y : List Int} {d : Int} (h : c.f2 < 1099511627776) : Path ins sw l y d → Path ins sw (c :: l) y (c.f2 + d)
 | ins {t : Int} {l : List S33} {y : List Int} {d : Int} : Path ins sw l y d → Path ins sw l (t :: y) (rd ins t + d)
 | swap {c e : S33} {l : List S33} {y : List Int} {d : Int} (h0 : 0 < sw) (h1 : 0 ≤ c.f0) (h2 : 0 ≤ e.f0) : Path ins sw l y d → Path ins sw (c :: e :: l) (e.f0 :: c.f0 :: y) (sw + d)
theorem Path.cast {ins : List Int} {sw : Int} {a b : List S33} {y z : List Int} {c d : Int} (h : Path ins sw a y c) (h1 : a = b) (h2 : y = z) (h3 : c = d) : Path ins sw b z d := by subst h1 h2 h3; exact h
theorem Path.append {ins : List Int} {sw : Int} {a b : List S33} {y z : List Int} {c d : Int} (h : Path ins sw a y c) (k : Path ins sw b z d) : Path ins sw (a ++ b) (y ++ z) (c + d) := by
 induction h with
 | nil => exact k.cast rfl rfl (by omega)
 | read h _ ih => exact (Path.read h ih).cast rfl rfl (by omega)
 | del h _ ih => exact (Path.del h ih).cast rfl rfl (by omega)
 | ins _ ih => exact (Path.ins ih).cast rfl rfl (by omega)
 | swap h0 h1 h2 _ ih => exact (Path.swap h0 h1 h2 ih).cast rfl rfl (by omega)

section
variable {cols : List S33} {ins : List Int} {sw : Int} {y : List Int}
/-- What is known of a least cost. -/
structure IsD (cols : List S33) (ins : List Int) (sw : Int) (y : List Int) (d : Int) : Prop where
 lo : 0 ≤ d
 hi : d ≤ 1099511627776
 least : ∀ c, Path ins sw cols y c → d ≤ c
 some : d < 1099511627776 → Path ins sw cols y d
end
end Go.Proofs.YtnddijafdphbnaaDoor.All
