/- The arguments of this seat's laws, opened: an input, lists of numbers and of operations; what the listed variable holds. -/
import Derived.Test.YtnddijafdphbnaaDoorRows
import Derived.Test.YtnddijafdphbnaaDoorAllScr
import Derived.WalkKit
import Derived.ProofKit
import Derived.OpenShut
import Derived.ShutString
import Derived.ChangeOld
import Derived.Below
import Derived.SizedLaws
import Derived.LaidMore
import Derived.Stop.Joined
import Derived.Deep.Slices
import Derived.Deep.Strs
import Derived.Lib.SmallJoins
namespace Go.Proofs.YtnddijafdphbnaaDoor.All
open Go.ChangeShapes Go.WideShapes Go.ChangeAt Go.RowKit Go.Deep Go.Joins
open Go.ChangeMaps (open_string shut_string)
open Go.Proofs.YtnddijafdphbnaaDoorW.PrintWords Go.Proofs.YtnddijafdphbnaaDoorW.PrintLast Go.Proofs.YtnddijafdphbnaaDoorW.PrintMore
set_option linter.unusedVariables false

theorem own : ownKnob Tryd.prog.godebug = none := by kernel_rfl
theorem laidOut : laidOutB Tryd.prog = true := by kernel_rfl
instance : Inhabited S33 := ⟨z33⟩
instance : Inhabited S49 := ⟨z49⟩

/-- Each number is of its kind. -/
def WfI (n : Int) : Prop := (Lit.int .i64 n).wf = true
def WfC (t : S33) : Prop := WfI t.f0 ∧ (∀ n ∈ t.f1, WfI n) ∧ WfI t.f2
def WfO (t : S49) : Prop := WfI t.f0 ∧ WfI t.f1

theorem cells33 : Tryd.prog.cellsOf 33 = 3 := by kernel_rfl
theorem cells3 : Tryd.prog.cellsOf 3 = 1 := by kernel_rfl
theorem cells23 : Tryd.prog.cellsOf 23 = 1 := by kernel_rfl
theorem cells49 : Tryd.prog.cellsOf 49 = 2 := by kernel_rfl
theorem cells25 : Tryd.prog.cellsOf 25 = 3 := by kernel_rfl
theorem cells67 : Tryd.prog.cellsOf 67 = 1 := by kernel_rfl
theorem cells68 : Tryd.prog.cellsOf 68 = 5 := by kernel_rfl

theorem list2 {α : Type} {l : List α} (h : l.length = 2) : ∃ a b, l = [a, b] := by
 match l, h with
 | [a, b], _ => exact ⟨a, b, rfl⟩
theorem list3 {α : Type} {l : List α} (h : l.length = 3) : ∃ a b c, l = [a, b, c] := by
 match l, h with
 | [a, b, c], _ => exact ⟨a, b, c, rfl⟩
theorem list5 {α : Type} {l : List α} (h : l.length = 5) : ∃ a b c d e, l = [a, b, c, d, e] := by
 match l, h with
 | [a, b, c, d, e], _ => exact ⟨a, b, c, d, e, rfl⟩

section
variable {H : Type} {enc : TypeId × Value → H} {w : World} {spare : Nat → Bool} {held : Bool}

theorem open_num {fuel : Nat} {cs : List Value} {x : DataW H × List MemPlace} (h : DataW.trod enc Tryd.prog w 0 spare held fuel 3 cs = some x) : ∃ n : Int, (Kd.int .i64).K w n cs ∧ WfI n := by
 obtain ⟨n, e, _, hw⟩ := DataW.trod_int Tryd.underlying3 h
 exact ⟨n, e, hw⟩

/-- A slice, its elements opened one by one. -/
theorem open_list {α : Type} [Inhabited α] {d : Kd α} {Wf : α → Prop} {t e : TypeId} (ht : Tryd.prog.underlying t = some (.slice e)) (hc : Tryd.prog.cellsOf e = d.sz)
  (hel : ∀ {fuel : Nat} {cs : List Value} {x : DataW H × List MemPlace}, DataW.trod enc Tryd.prog w 0 (fun _ => true) held fuel e cs = some x → ∃ a, d.K w a cs ∧ Wf a)
  {fuel : Nat} {a : Option Addr} {len cap : Nat} {x : DataW H × List MemPlace} (h : DataW.trod enc Tryd.prog w 0 (fun _ => true) held fuel t [.slice a len cap] = some x) :
  ∃ l : List α, len = l.length ∧ l.length ≤ cap ∧ Kd.C d w a l.length l ∧ ∀ t ∈ l, Wf t := by
 rcases open_slice ht h with ⟨hcs, _⟩ | ⟨ad, len', cap', m, n, D, Pl, hcs, _, hl, hm, hmm, _, hx⟩
 ·
  simp only [List.cons.injEq, and_true, Value.slice.injEq] at hcs
  obtain ⟨rfl, rfl, rfl⟩ := hcs
  exact ⟨[], rfl, Nat.le_refl _, Kd.C_nil _ _, fun t ht => by cases ht⟩
 ·
  simp only [List.cons.injEq, and_true, Value.slice.injEq] at hcs
  obtain ⟨rfl, rfl, rfl⟩ := hcs
  have hmc : m = cap := by simpa using hmm
  obtain ⟨f, hfx⟩ := choose_lt (α := α) (n := len) (p := fun i t => ∃ c : List Value, c.length = d.sz ∧ (d.K w t c ∧ Wf t) ∧ ∀ j u, c[j]? = some u → w.cell? (ad.add (i * d.sz + j)) = some u) (fun i hi => by
   obtain ⟨cs', h1, h2⟩ := hx i (by omega)
   rw [hc] at h1
   obtain ⟨t, hK, hW⟩ := hel h2
   obtain ⟨_, hlen, hcell⟩ := World.cells?_some h1
   refine ⟨t, cs', hlen, ⟨hK, hW⟩, fun j u hj => ?_⟩
   have h5 : j < cs'.length := (List.getElem?_eq_some_iff.1 hj).1
   have := hcell j (by omega)
   rw [Go.Deep.add_add] at this
   rw [this]
   exact hj)
  refine ⟨(List.range len).map f, by simp, by simpa using hl, ⟨rfl, ?_, fun hn => ⟨ad, rfl, fun j p hj => ?_⟩⟩, fun t ht => ?_⟩
  ·
   have h1 : ((List.range len).map f).length = len := by simp
   rw [h1]
   unfold maxLen at hm
   omega
  ·
   obtain ⟨hj1, hj2⟩ := List.getElem?_eq_some_iff.1 hj
   have hj3 : j < len := by simpa using hj1
   simp at hj2
   subst hj2
   obtain ⟨c, h1, ⟨h2, _⟩, h3⟩ := hfx j hj3
   exact ⟨c, h1, h2, h3⟩
  ·
   obtain ⟨i, hi, rfl⟩ := List.mem_map.1 ht
   obtain ⟨c, _, ⟨_, h2⟩, _⟩ := hfx i (by simpa using hi)
   exact h2

theorem slice_form {t e : TypeId} (ht : Tryd.prog.underlying t = some (.slice e)) {fuel : Nat} {c0 : Value} {x : DataW H × List MemPlace} (h : DataW.trod enc Tryd.prog w 0 (fun _ => true) held fuel t [c0] = some x) : ∃ A len cap, c0 = .slice A len cap := by
 rcases DataW.trod_slice ht h with ⟨e, _⟩ | ⟨a, len, cap, _, _, _, _, e, _⟩
 ·
  exact ⟨none, 0, 0, by simpa using e⟩
 ·
  exact ⟨some a, len, cap, by simpa using e⟩

theorem open_ints {fuel : Nat} {c0 : Value} {x : DataW H × List MemPlace} (h : DataW.trod enc Tryd.prog w 0 (fun _ => true) held fuel 23 [c0] = some x) :
  ∃ (A : Option Addr) (cap : Nat) (l : List Int), c0 = .slice A l.length cap ∧ l.length ≤ cap ∧ Kd.C (Kd.int .i64) w A l.length l ∧ ∀ t ∈ l, WfI t := by
 obtain ⟨A, len, cap, rfl⟩ := slice_form Tryd.underlying23 h
 obtain ⟨l, rfl, h1, h2, h3⟩ := open_list (d := Kd.int .i64) (Wf := WfI) Tryd.underlying23 cells3 (fun h => open_num h) h
 exact ⟨A, cap, l, rfl, h1, h2, h3⟩

theorem open_col {fuel : Nat} {cs : List Value} {x : DataW H × List MemPlace} (h : DataW.trod enc Tryd.prog w 0 (fun _ => true) held fuel 33 cs = some x) : ∃ t : S33, k33.K w t cs ∧ WfC t := by
 obtain ⟨xs, n, _, _, hl, hxl, hf⟩ := DataW.trod_struct Tryd.underlying33 h
 rw [cells33] at hl
 obtain ⟨a, b, c, rfl⟩ := list3 hl
 have h0 : DataW.trod enc Tryd.prog w 0 (fun _ => true) held n 3 [a] = xs[0]? := by
  have z : DataW.trod enc Tryd.prog w 0 (fun _ => true) held n 3 ((([a, b, c] : List Value).drop 0).take (Tryd.prog.cellsOf 3)) = xs[0]? := hf 0 _ rfl
  rw [cells3] at z
  exact z
 have h1 : DataW.trod enc Tryd.prog w 0 (fun _ => true) held n 23 [b] = xs[1]? := by
  have z : DataW.trod enc Tryd.prog w 0 (fun _ => true) held n 23 ((([a, b, c] : List Value).drop 1).take (Tryd.prog.cellsOf 23)) = xs[1]? := hf 1 _ rfl
  rw [cells23] at z
  exact z
 have h2 : DataW.trod enc Tryd.prog w 0 (fun _ => true) held n 3 [c] = xs[2]? := by
  have z : DataW.trod enc Tryd.prog w 0 (fun _ => true) held n 3 ((([a, b, c] : List Value).drop 2).take (Tryd.prog.cellsOf 3)) = xs[2]? := hf 2 _ rfl
  rw [cells3] at z
  exact z
 have g : ∀ (i : Nat) {t : TypeId} {c : List Value}, DataW.trod enc Tryd.prog w 0 (fun _ => true) held n t c = xs[i]? → i < xs.length → ∃ y, DataW.trod enc Tryd.prog w 0 (fun _ => true) held n t c = some y := fun i {t c} hh hi => ⟨xs[i], by rw [hh, List.getElem?_eq_getElem hi]⟩
 have hx3 : xs.length = 3 := hxl
 obtain ⟨y0, h0⟩ := g 0 h0 (by omega)
 obtain ⟨y1, h1⟩ := g 1 h1 (by omega)
 obtain ⟨y2, h2⟩ := g 2 h2 (by omega)
 obtain ⟨n0, e0, _, w0⟩ := DataW.trod_int Tryd.underlying3 h0
 obtain ⟨A, cap, l, rfl, hcap, hC, hwf⟩ := open_ints h1
 obtain ⟨n2, e2, _, w2⟩ := DataW.trod_int Tryd.underlying3 h2
 simp only [List.cons.injEq, and_true] at e0 e2
 subst e0 e2
 exact ⟨⟨n0, l, n2⟩, k33_mk w ⟨n0, l, n2⟩ hcap hC, w0, hwf, w2⟩
theorem open_op {fuel : Nat} {cs : List Value} {x : DataW H × List MemPlace} (h : DataW.trod enc Tryd.prog w 0 (fun _ => true) held fuel 49 cs = some x) : ∃ t : S49, k49.K w t cs ∧ WfO t := by
 obtain ⟨xs, n, _, _, hl, hxl, hf⟩ := DataW.trod_struct Tryd.underlying49 h
 rw [cells49] at hl
 obtain ⟨a, b, rfl⟩ := list2 hl
 have h0 : DataW.trod enc Tryd.prog w 0 (fun _ => true) held n 3 [a] = xs[0]? := by
  have z : DataW.trod enc Tryd.prog w 0 (fun _ => true) held n 3 ((([a, b] : List Value).drop 0).take (Tryd.prog.cellsOf 3)) = xs[0]? := hf 0 _ rfl
  rw [cells3] at z
  exact z
 have h1 : DataW.trod enc Tryd.prog w 0 (fun _ => true) held n 3 [b] = xs[1]? := by
  have z : DataW.trod enc Tryd.prog w 0 (fun _ => true) held n 3 ((([a, b] : List Value).drop 1).take (Tryd.prog.cellsOf 3)) = xs[1]? := hf 1 _ rfl
  rw [cells3] at z
  exact z
 have g : ∀ (i : Nat) {t : TypeId} {c : List Value}, DataW.trod enc Tryd.prog w 0 (fun _ => true) held n t c = xs[i]? → i < xs.length → ∃ y, DataW.trod enc Tryd.prog w 0 (fun _ => true) held n t c = some y := fun i {t c} hh hi => ⟨xs[i], by rw [hh, List.getElem?_eq_getElem hi]⟩
 have hx2 : xs.length = 2 := hxl
 obtain ⟨y0, h0⟩ := g 0 h0 (by omega)
 obtain ⟨y1, h1⟩ := g 1 h1 (by omega)
 obtain ⟨n0, e0, _, w0⟩ := DataW.trod_int Tryd.underlying3 h0
 obtain ⟨n1, e1, _, w1⟩ := DataW.trod_int Tryd.underlying3 h1
 simp only [List.cons.injEq, and_true] at e0 e1
 subst e0 e1
 exact ⟨⟨n0, n1⟩, k49_mk w ⟨n0, n1⟩, w0, w1⟩
theorem open_cols {fuel : Nat} {c0 : Value} {x : DataW H × List MemPlace} (h : DataW.trod enc Tryd.prog w 0 (fun _ => true) held fuel 22 [c0] = some x) :
  ∃ (A : Option Addr) (cap : Nat) (l : List S33), c0 = .slice A l.length cap ∧ l.length ≤ cap ∧ Kd.C k33 w A l.length l ∧ ∀ t ∈ l, WfC t := by
 obtain ⟨A, len, cap, rfl⟩ := slice_form Tryd.underlying22 h
 obtain ⟨l, rfl, h1, h2, h3⟩ := open_list (d := k33) (Wf := WfC) Tryd.underlying22 cells33 (fun h => open_col h) h
 exact ⟨A, cap, l, rfl, h1, h2, h3⟩
theorem open_ops {fuel : Nat} {c0 : Value} {x : DataW H × List MemPlace} (h : DataW.trod enc Tryd.prog w 0 (fun _ => true) held fuel 35 [c0] = some x) :
  ∃ (A : Option Addr) (cap : Nat) (l : List S49), c0 = .slice A l.length cap ∧ l.length ≤ cap ∧ Kd.C k49 w A l.length l ∧ ∀ t ∈ l, WfO t := by
 obtain ⟨A, len, cap, rfl⟩ := slice_form Tryd.underlying35 h
 obtain ⟨l, rfl, h1, h2, h3⟩ := open_list (d := k49) (Wf := WfO) Tryd.underlying35 cells49 (fun h => open_op h) h
 exact ⟨A, cap, l, rfl, h1, h2, h3⟩
end

/-- What the law's premise lists. -/
def listed : List (String × DataW Unit) := [("emendate/editscript.actions", Rows.laid_emendate_editscript_actions)]
theorem gActions : Tryd.prog.globalNamed "emendate/editscript.actions" = some 0 := by kernel_rfl
theorem tActions : (Tryd.prog.globals[0]?).map (·.type) = some 68 := by kernel_rfl
/-- What the premise gives the walks: the four functions in their cells. -/
theorem var_of_laid {W : World} (h : laidMetH Tryd.prog listed W) : VarOk W := by
 obtain ⟨g, t, cs, fuel, p, hg, ht, hv, hd⟩ := h.funcs (List.mem_singleton.2 rfl)
 obtain rfl := Option.some.inj (gActions.symm.trans hg)
 obtain rfl := Option.some.inj (tActions.symm.trans ht)
 have hd' : DataW.trod (funcToken Tryd.prog) Tryd.prog W 0 (fun _ => true) true fuel 68 cs.toList = some (.agg [.nil, .held [40, 42, 101, 109, 101, 110, 100, 97, 116, 101, 47, 101, 100, 105, 116, 115, 99, 114, 105, 112, 116, 46, 115, 116, 97, 116, 101, 41, 46, 114, 101, 97, 100], .held [40, 42, 101, 109, 101, 110, 100, 97, 116, 101, 47, 101, 100, 105, 116, 115, 99, 114, 105, 112, 116, 46, 115, 116, 97, 116, 101, 41, 46, 114, 101, 109, 111, 118, 101], .held [40, 42, 101, 109, 101, 110, 100, 97, 116, 101, 47, 101, 100, 105, 116, 115, 99, 114, 105, 112, 116, 46, 115, 116, 97, 116, 101, 41, 46, 105, 110, 115, 101, 114, 116], .held [40, 42, 101, 109, 101, 110, 100, 97, 116, 101, 47, 101, 100, 105, 116, 115, 99, 114, 105, 112, 116, 46, 115, 116, 97, 116, 101, 41, 46, 115, 119, 97, 112]], p) := hd
 obtain ⟨xs, m, _, hx, hl, hxl, hf⟩ := DataW.trod_array Tryd.underlying68 hd'
 rw [cells68] at hl
 obtain ⟨c0, c1, c2, c3, c4, hcs⟩ := list5 hl
 have g : ∀ (i : Nat), W.cell? ⟨0, i, none⟩ = cs.toList[i]? := fun i => by rw [World.var?_cell hg hv i]; simp
 have hx1 : xs.map (·.1) = [.nil, .held [40, 42, 101, 109, 101, 110, 100, 97, 116, 101, 47, 101, 100, 105, 116, 115, 99, 114, 105, 112, 116, 46, 115, 116, 97, 116, 101, 41, 46, 114, 101, 97, 100], .held [40, 42, 101, 109, 101, 110, 100, 97, 116, 101, 47, 101, 100, 105, 116, 115, 99, 114, 105, 112, 116, 46, 115, 116, 97, 116, 101, 41, 46, 114, 101, 109, 111, 118, 101], .held [40, 42, 101, 109, 101, 110, 100, 97, 116, 101, 47, 101, 100, 105, 116, 115, 99, 114, 105, 112, 116, 46, 115, 116, 97, 116, 101, 41, 46, 105, 110, 115, 101, 114, 116], .held [40, 42, 101, 109, 101, 110, 100, 97, 116, 101, 47, 101, 100, 105, 116, 115, 99, 114, 105, 112, 116, 46, 115, 116, 97, 116, 101, 41, 46, 115, 119, 97, 112]] := by
  have := (Prod.mk.inj hx).1
  injection this with h
  exact h.symm
 have e : ∀ (i : Nat) (c : Value) (d : DataW (List UInt8)), i < 5 → cs.toList[i]? = some c → ((xs.map (·.1))[i]? = some d) → ∃ q, DataW.trod (funcToken Tryd.prog) Tryd.prog W 0 (fun _ => true) true m 67 [c] = some (d, q) := by
  intro i c d hi hc hd
  have h1 := hf i hi
  rw [cells67, Nat.mul_one] at h1
  have h2 : (cs.toList.drop i).take 1 = [c] := by
   obtain ⟨hlt, he⟩ := List.getElem?_eq_some_iff.1 hc
   rw [List.drop_eq_getElem_cons hlt, he]
   rfl
  rw [h2] at h1
  rw [List.getElem?_map] at hd
  cases hy : xs[i]? with
  | none => rw [hy] at hd; cases hd
  | some y =>
   rw [hy] at hd h1
   simp only [Option.map_some, Option.some.injEq] at hd
   exact ⟨y.2, by rw [h1, ← hd]⟩
 obtain ⟨q1, r1⟩ := e 1 c1 _ (by omega) (by rw [hcs]; rfl) (by rw [hx1]; rfl)
 obtain ⟨q2, r2⟩ := e 2 c2 _ (by omega) (by rw [hcs]; rfl) (by rw [hx1]; rfl)
 obtain ⟨q3, r3⟩ := e 3 c3 _ (by omega) (by rw [hcs]; rfl) (by rw [hx1]; rfl)
 obtain ⟨q4, r4⟩ := e 4 c4 _ (by omega) (by rw [hcs]; rfl) (by rw [hx1]; rfl)
 obtain rfl := func_of_trod (f0 := 58) Tryd.underlying67 (by kernel_rfl) r1
 obtain rfl := func_of_trod (f0 := 59) Tryd.underlying67 (by kernel_rfl) r2
 obtain rfl := func_of_trod (f0 := 60) Tryd.underlying67 (by kernel_rfl) r3
 obtain rfl := func_of_trod (f0 := 61) Tryd.underlying67 (by kernel_rfl) r4
 exact ⟨by rw [g, hcs]; rfl, by rw [g, hcs]; rfl, by rw [g, hcs]; rfl, by rw [g, hcs]; rfl⟩
end Go.Proofs.YtnddijafdphbnaaDoor.All
