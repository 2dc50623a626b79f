/- The arguments of this seat's laws, opened: a list of tokens, a case of tokens, text and number. -/
import Derived.Test.YthbdgmahjpgfiaaRows
import Derived.Test.YthbdgmahjpgfiaaAllx0
import Derived.WalkKit
import Derived.ProofKit
import Derived.OpenShut
import Derived.ShutString
import Derived.ChangeOld
import Derived.Below
import Derived.SizedLaws
import Derived.Deep.Slices
import Derived.Deep.Strs
import Derived.Lib.SmallJoins
namespace Go.Proofs.Ythbdgmahjpgfiaa.All
open Go.ChangeShapes Go.WideShapes Go.ChangeAt Go.RowKit Go.Deep Go.Joins
open Go.ChangeMaps (open_string shut_string)
open Go.Proofs.YthbdgmahjpgfiaaW.PrintWords Go.Proofs.YthbdgmahjpgfiaaW.PrintLast Go.Proofs.YthbdgmahjpgfiaaW.PrintMore
set_option linter.unusedVariables false

theorem own : ownKnob Try.prog.godebug = none := by kernel_rfl
theorem laidOut : laidOutB Try.prog = true := by kernel_rfl

/-- Each number is of its kind. -/
def Wf (t : S33) : Prop := (Lit.int .i64 t.f0).wf = true ∧ (Lit.int .i64 t.f1).wf = true ∧ t.f2.size ≤ maxLen ∧ (Lit.int .i64 t.f3).wf = true

instance : Inhabited S33 := ⟨z33⟩

section
variable {H : Type} {enc : TypeId × Value → H} {w : World} {spare : Nat → Bool} {held : Bool}

theorem list4 {α : Type} {l : List α} (h : l.length = 4) : ∃ a b c d, l = [a, b, c, d] := by
  match l, h with
  | [a, b, c, d], _ => exact ⟨a, b, c, d, rfl⟩

theorem cells33 : Try.prog.cellsOf 33 = 4 := by kernel_rfl
theorem cells3 : Try.prog.cellsOf 3 = 1 := by kernel_rfl
theorem cells9 : Try.prog.cellsOf 9 = 1 := by kernel_rfl
theorem cells22 : Try.prog.cellsOf 22 = 1 := by kernel_rfl
theorem cells24 : Try.prog.cellsOf 24 = 3 := by kernel_rfl

theorem open_tok {fuel : Nat} {cs : List Value} {x : DataW H × List MemPlace} (h : DataW.trod enc Try.prog w 0 spare held fuel 33 cs = some x) : ∃ t : S33, k33.K w t cs ∧ Wf t := by
  obtain ⟨xs, n, _, _, hl, hxl, hf⟩ := DataW.trod_struct Try.underlying33 h
  rw [cells33] at hl
  obtain ⟨a, b, c, d, rfl⟩ := list4 hl
  have h0 : DataW.trod enc Try.prog w 0 spare held n 3 [a] = xs[0]? := by
    have z : DataW.trod enc Try.prog w 0 spare held n 3 ((([a, b, c, d] : List Value).drop 0).take (Try.prog.cellsOf 3)) = xs[0]? := hf 0 _ rfl
    rw [cells3] at z
    exact z
  have h1 : DataW.trod enc Try.prog w 0 spare held n 3 [b] = xs[1]? := by
    have z : DataW.trod enc Try.prog w 0 spare held n 3 ((([a, b, c, d] : List Value).drop 1).take (Try.prog.cellsOf 3)) = xs[1]? := hf 1 _ rfl
    rw [cells3] at z
    exact z
  have h2 : DataW.trod enc Try.prog w 0 spare held n 9 [c] = xs[2]? := by
    have z : DataW.trod enc Try.prog w 0 spare held n 9 ((([a, b, c, d] : List Value).drop 2).take (Try.prog.cellsOf 9)) = xs[2]? := hf 2 _ rfl
    rw [cells9] at z
    exact z
  have h3 : DataW.trod enc Try.prog w 0 spare held n 3 [d] = xs[3]? := by
    have z : DataW.trod enc Try.prog w 0 spare held n 3 ((([a, b, c, d] : List Value).drop 3).take (Try.prog.cellsOf 3)) = xs[3]? := hf 3 _ rfl
    rw [cells3] at z
    exact z
  have g : ∀ (i : Nat) {t : TypeId} {c : List Value}, DataW.trod enc Try.prog w 0 spare held n t c = xs[i]? → i < xs.length → ∃ y, DataW.trod enc Try.prog w 0 spare held n t c = some y := fun i {t c} hh hi => ⟨xs[i], by rw [hh, List.getElem?_eq_getElem hi]⟩
  have hx4 : xs.length = 4 := hxl
  obtain ⟨y0, h0⟩ := g 0 h0 (by omega)
  obtain ⟨y1, h1⟩ := g 1 h1 (by omega)
  obtain ⟨y2, h2⟩ := g 2 h2 (by omega)
  obtain ⟨y3, h3⟩ := g 3 h3 (by omega)
  obtain ⟨n0, e0, _, w0⟩ := DataW.trod_int Try.underlying3 h0
  obtain ⟨n1, e1, _, w1⟩ := DataW.trod_int Try.underlying3 h1
  obtain ⟨s2, e2, _, w2⟩ := DataW.trod_string Try.underlying9 h2
  obtain ⟨n3, e3, _, w3⟩ := DataW.trod_int Try.underlying3 h3
  simp only [List.cons.injEq, and_true] at e0 e1 e2 e3
  subst e0 e1 e2 e3
  exact ⟨⟨n0, n1, s2, n3⟩, k33_mk w ⟨n0, n1, s2, n3⟩, w0, w1, w2, w3⟩

theorem open_toks {fuel : Nat} {a : Option Addr} {len cap : Nat} {x : DataW H × List MemPlace} (h : DataW.trod enc Try.prog w 0 (fun _ => true) held fuel 22 [.slice a len cap] = some x) :
    ∃ l : List S33, len = l.length ∧ l.length ≤ cap ∧ Kd.C k33 w a l.length l ∧ ∀ t ∈ l, Wf t := by
  rcases open_slice Try.underlying22 h with ⟨hcs, _⟩ | ⟨ad, len', cap', m, n, D, Pl, hcs, _, hl, hm, hmm, _, hx⟩
  · simp only [List.cons.injEq, and_true, Value.slice.injEq] at hcs
    obtain ⟨rfl, rfl, rfl⟩ := hcs
    exact ⟨[], rfl, Nat.le_refl _, Kd.C_nil _ _, fun t ht => by cases ht⟩
  · simp only [List.cons.injEq, and_true, Value.slice.injEq] at hcs
    obtain ⟨rfl, rfl, rfl⟩ := hcs
    have hmc : m = cap := by simpa using hmm
    obtain ⟨f, hfx⟩ := choose_lt (α := S33) (n := len) (p := fun i t => ∃ c : List Value, c.length = 4 ∧ (k33.K w t c ∧ Wf t) ∧ ∀ j u, c[j]? = some u → w.cell? (ad.add (i * 4 + j)) = some u) (fun i hi => by
      obtain ⟨cs', h1, h2⟩ := hx i (by omega)
      rw [cells33] at h1
      obtain ⟨t, hK, hW⟩ := open_tok h2
      obtain ⟨_, hlen, hcell⟩ := World.cells?_some h1
      refine ⟨t, cs', hlen, ⟨hK, hW⟩, fun j u hj => ?_⟩
      have h5 : j < cs'.length := (List.getElem?_eq_some_iff.1 hj).1
      have := hcell j (by omega)
      rw [Go.Deep.add_add] at this
      rw [this]
      exact hj)
    refine ⟨(List.range len).map f, by simp, by simpa using hl, ⟨rfl, ?_, fun hn => ⟨ad, rfl, fun j p hj => ?_⟩⟩, fun t ht => ?_⟩
    · have h1 : ((List.range len).map f).length = len := by simp
      rw [h1]
      unfold maxLen at hm
      omega
    · obtain ⟨hj1, hj2⟩ := List.getElem?_eq_some_iff.1 hj
      have hj3 : j < len := by simpa using hj1
      simp at hj2
      subst hj2
      obtain ⟨c, h1, ⟨h2, _⟩, h3⟩ := hfx j hj3
      exact ⟨c, h1, h2, h3⟩
    · obtain ⟨i, hi, rfl⟩ := List.mem_map.1 ht
      obtain ⟨c, _, ⟨_, h2⟩, _⟩ := hfx i (by simpa using hi)
      exact h2
end
end Go.Proofs.Ythbdgmahjpgfiaa.All
