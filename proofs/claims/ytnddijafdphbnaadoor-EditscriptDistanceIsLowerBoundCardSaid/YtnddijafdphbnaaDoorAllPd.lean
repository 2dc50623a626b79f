/- What holds of each law: the fixed examples; parts of an input. Plain Lean, no program in sight. -/
import Derived.Test.YtnddijafdphbnaaDoorAllPc
import Derived.Test.YtnddijafdphbnaaDoorAllx19
import Derived.Test.YtnddijafdphbnaaDoorAllOpen
namespace Go.Proofs.YtnddijafdphbnaaDoor.All
open Go.RowKit Go.Proofs.YtnddijafdphbnaaDoorW.PrintWords Go.Proofs.YtnddijafdphbnaaDoorW.PrintLast Go.Proofs.YtnddijafdphbnaaDoorW.PrintMore
set_option linter.unusedVariables false
set_option linter.unusedSimpArgs false
set_option maxRecDepth 100000 in
theorem awake_ok : emendatelaw36_awake.f 200 = some true := by kernel_rfl
theorem awake_ev : Ev (fun k => emendatelaw36_awake.f k) true := Ev.of (fun k => emendatelaw36_awake.mono k) awake_ok
theorem Good.take {cols : List S33} {ins : List Int} {sw : Int} (G : Good cols ins sw) (n : Nat) : Good (cols.take n) ins sw :=
 ⟨by have := G.n; rw [List.length_take]; omega, G.m, G.sw0, G.sw1, fun c hc => G.col c (List.mem_of_mem_take hc), G.insb⟩
theorem Proper.append {ins y z : List Int} : Proper ins (y ++ z) ↔ Proper ins y ∧ Proper ins z :=
 ⟨fun h => ⟨fun t ht => h t (List.mem_append_left _ ht), fun t ht => h t (List.mem_append_right _ ht)⟩, fun h t ht => by
  rcases List.mem_append.1 ht with ht | ht
  ·
   exact h.1 t ht
  ·
   exact h.2 t ht⟩
end Go.Proofs.YtnddijafdphbnaaDoor.All
