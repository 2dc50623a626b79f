/- A script, read as a way through the tokens: what it emits, what it costs. Plain Lean, no program in sight. -/
import Derived.Test.YtnddijafdphbnaaDoorAllPf
import Derived.Test.YtnddijafdphbnaaDoorAllPc
import Derived.Test.YtnddijafdphbnaaDoorAllx9
import Derived.Test.YtnddijafdphbnaaDoorAllx10
import Derived.Test.YtnddijafdphbnaaDoorAllPd
import Derived.Test.YtnddijafdphbnaaDoorAllx2
namespace Go.Proofs.YtnddijafdphbnaaDoor.All
open Go.RowKit Go.Proofs.YtnddijafdphbnaaDoorW.PrintWords Go.Proofs.YtnddijafdphbnaaDoorW.PrintLast Go.Proofs.YtnddijafdphbnaaDoorW.PrintMore
set_option linter.unusedVariables false
set_option linter.unusedSimpArgs false

theorem Ev.succ {α : Type} {g : Nat → Option α} {r : α} (h : Ev (fun k => g (k + 1)) r) : Ev g r := Ev.step (fun k => rfl) h
theorem ints_l0 (l : List Int) (hl : l.length ≤ 1000000) : ∀ (d i : Nat), i + d = l.length → Ev (fun k => emendateref27_SameInts.l0 k l l (i : Int)) true
 | 0, i, h => Ev.step (f := fun _ => some true) (fun k => by simp only [emendateref27_SameInts.l0]; rw [if_neg (by omega)]) (Ev.now _)
 | d + 1, i, h => Ev.step (f := fun k => emendateref27_SameInts.l0 k l l ((i + 1 : Nat) : Int)) (fun k => by
   simp only [emendateref27_SameInts.l0]
   rw [if_pos (by omega), if_pos (by omega), if_pos (by omega), if_pos trivial, wnat i (by omega)]) (ints_l0 l hl d (i + 1) (by omega))
theorem ints_refl (l : List Int) (hl : l.length ≤ 1000000) : Ev (fun k => emendateref27_SameInts.f k l l) true :=
 Ev.congr (f := fun k => emendateref27_SameInts.l0 k l l ((0 : Nat) : Int)) (fun k => by unfold emendateref27_SameInts.f; rw [if_pos rfl]; rfl) (ints_l0 l hl l.length 0 (by omega))

/-- A script that reads the tokens as the terminals, and what it costs. -/
inductive SP (ins : List Int) (sw : Int) : List S49 → List S33 → List Int → Int → Prop
 | nil : SP ins sw [] [] [] 0
 | read {c : S33} {t : Int} {m : List S49} {l : List S33} {y : List Int} {d : Int} (h0 : 0 ≤ t) (h1 : t < (c.f1.length : Int)) (h : 0 ≤ rd c.f1 t) : SP ins sw m l y d → SP ins sw (⟨1, t⟩ :: m) (c :: l) (t :: y) (rd c.f1 t + d)
 | del {c : S33} {m : List S49} {l : List S33} {y : List Int} {d : Int} (h : c.f2 < 1099511627776) : SP ins sw m l y d → SP ins sw (⟨2, 0⟩ :: m) (c :: l) y (c.f2 + d)
 | ins {t : Int} {m : List S49} {l : List S33} {y : List Int} {d : Int} (h0 : 0 ≤ t) (h1 : t < (ins.length : Int)) : SP ins sw m l y d → SP ins sw (⟨3, t⟩ :: m) l (t :: y) (rd ins t + d)
 | swap {c e : S33} {m : List S49} {l : List S33} {y : List Int} {d : Int} (h0 : 0 < sw) (h1 : 0 ≤ c.f0) (h2 : 0 ≤ e.f0) : SP ins sw m l y d → SP ins sw (⟨4, 0⟩ :: m) (c :: e :: l) (e.f0 :: c.f0 :: y) (sw + d)
theorem SP.cast {ins : List Int} {sw : Int} {m p : List S49} {a b : List S33} {y z : List Int} {c d : Int} (h : SP ins sw m a y c) (h0 : m = p) (h1 : a = b) (h2 : y = z) (h3 : c = d) : SP ins sw p b z d := by subst h0 h1 h2 h3; exact h
section
variable {cols : List S33} {ins : List Int} {sw : Int} {y : List Int}
theorem SP.lo (G : Good cols ins sw) {m : List S49} {a : List S33} {d : Int} (h : SP ins sw m a y d) (hg : ∀ c ∈ a, GoodC ins.length c) : 0 ≤ d := by
 induction h with
 | nil => exact Int.le_refl _
 | read h0 h1 h _ ih =>
  have := ih (fun c hc => hg c (List.mem_cons_of_mem _ hc))
  omega
 | del h _ ih =>
  have := ih (fun c hc => hg c (List.mem_cons_of_mem _ hc))
  have := (hg _ List.mem_cons_self).del0
  omega
 | @ins t _ _ _ _ h0 h1 _ ih =>
  have := ih hg
  have h2 := (G.insb t.toNat (by omega)).1
  rw [Int.toNat_of_nonneg h0] at h2
  omega
 | swap h0 h1 h2 _ ih =>
  have := ih (fun c hc => hg c (List.mem_cons_of_mem _ (List.mem_cons_of_mem _ hc)))
  omega
theorem Good.drop (G : Good cols ins sw) (i : Nat) : ∀ c ∈ cols.drop i, GoodC ins.length c := fun c hc => G.col c (List.mem_of_mem_drop hc)

/-! ### Running a script -/
/-! ### Align's script -/
end
theorem runE_len {cols : List S33} {ins : List Int} {sw : Int} {m : List S49} {y : List Int} {d : Int} (h : runE cols ins sw m = some (y, d)) : y.length ≤ 2 * m.length := by
 unfold runE at h
 cases hr : runAll cols ins sw m (0, [], 0) with
 | none => rw [hr] at h; cases h
 | some s =>
  rw [hr, Option.bind_some] at h
  have := (runAll_len hr).1
  split at h
  ·
   have h := Option.some.inj h
   rw [h] at this
   simpa using this
  ·
   cases h
end Go.Proofs.YtnddijafdphbnaaDoor.All
