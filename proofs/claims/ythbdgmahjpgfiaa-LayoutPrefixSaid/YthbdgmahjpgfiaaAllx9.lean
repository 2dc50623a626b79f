/- The contract of layout.Apply, in the form in which the printed texts take it. -/
import Derived.Test.YthbdgmahjpgfiaaAllx0
import Derived.Test.YthbdgmahjpgfiaaAllApp
namespace Go.Proofs.Ythbdgmahjpgfiaa.All
open Go.RowKit Go.Proofs.YthbdgmahjpgfiaaW.PrintWords Go.Proofs.YthbdgmahjpgfiaaW.PrintLast Go.Proofs.YthbdgmahjpgfiaaW.PrintMore
theorem layout_Apply.calls (k : Nat) (A0 : Option Addr) (c0 : Nat) (l0 : List (S33)) (a1 : ByteArray) (a2 : Int) (r : List (S33)) (w : World) (hr0 : Kd.C k33 w A0 l0.length l0) (hc0 : l0.length ≤ c0) (h : layout_Apply.f k l0 a1 a2 = some r) :
    Calls Try.prog 13 #[.slice A0 l0.length c0, .string a1, .int .i64 a2] w fun e w' => ∃ v0_ : Value, e = .returned (v0_) ∧ Kd.R k33 33 w' w.heap.size (fun _ => True) v0_ r ∧ Below w.heap.size w w' := by
  unfold layout_Apply.f at h
  split at h
  · rename_i hR
    obtain rfl := Option.some.inj h
    exact apply_calls A0 c0 l0 a1 a2 w hr0 hc0 hR
  · cases h
end Go.Proofs.Ythbdgmahjpgfiaa.All
