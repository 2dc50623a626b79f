/- Some texts, one behind the other. -/
import Derived.Test.YtnddijafdphbnaaDoorProg
import Derived.Below
import Derived.Deep.Draws
import Derived.Deep.AppendLies
import Derived.Maps.AppendAt
import Derived.OwnWalk
import Derived.Laws.BytesArg
import Derived.Laws.MakeOwn
import Derived.Laws.OwnMore
import Derived.Deep.OwnRows
import Derived.Tactics
import Derived.Lib.ConvBytes
import Derived.Laws.Slices
import Derived.WalkKit
import Derived.KernelRfl
import Derived.RowKit3
import Derived.Deep.LoopGhost
import Derived.Deep.QuietTactic
import Derived.BigQuiet
import Derived.WideLaws
import Derived.Deep.DeepCutAuto
import Derived.Deep.CutBlock
import Derived.Deep.RegionHeld3
import Derived.Laws.Rows
import Derived.Lib.AppendStr
import Derived.ArgAppend
import Derived.Laws.IdiomCopy
import Derived.OrdersHeld
import Derived.Laws.BitsLemmas
import Derived.RowKit
import Derived.Test.YtnddijafdphbnaaDoorWWords
import Derived.Test.YtnddijafdphbnaaDoorWMore
section
-- Printed by wip/tools/wprint.py (a program of this session over the kit's printer). Not trusted: Lean checks it.
namespace Go.Proofs.YtnddijafdphbnaaDoor.All
open Go.RowKit Go.Proofs.YtnddijafdphbnaaDoorW.PrintWords Go.Proofs.YtnddijafdphbnaaDoorW.PrintLast Go.Proofs.YtnddijafdphbnaaDoorW.PrintMore
attribute [local go_sem] max2_int min2_int max_two min_two max_three min_three max_four min_four   -- for this text's walks alone
set_option linter.unusedVariables false
set_option linter.unusedSimpArgs false
abbrev tt : Bool := true
abbrev ff : Bool := false
theorem nrm : (∀ (a : Act) (v : Value), Act.put a none v = a) ∧ (∀ (a : Act) (d : Tmp) (v : Value), Act.put a (some d) v = { a with tmps := a.tmps.setIfInBounds d v }) ∧ (∀ (l : List Value) (i : Nat) (v : Value), l.toArray.setIfInBounds i v = (l.set i v).toArray) ∧ (∀ (v : Value) (l : List Value) (w : Value), (v :: l).set 0 w = w :: l) ∧ (∀ (v : Value) (l : List Value) (n : Nat) (w : Value), (v :: l).set (n + 1) w = v :: l.set n w) ∧ (∀ n : Int, IntKind.i64.wrap n = wrap64 n) ∧ (∀ n : Int, IntKind.i32.wrap n = wrap32 n) :=
 ⟨fun _ _ => rfl, fun _ _ _ => rfl, fun _ _ _ => List.setIfInBounds_toArray .., fun _ _ _ => rfl, fun _ _ _ _ => rfl, i64_w, i32_w⟩
theorem nrl : (∀ (l : List Bool) (i : Nat) (v : Bool), l.toArray.setIfInBounds i v = (l.set i v).toArray) ∧ (∀ (v : Bool) (l : List Bool) (w : Bool), (v :: l).set 0 w = w :: l) ∧ (∀ (v : Bool) (l : List Bool) (n : Nat) (w : Bool), (v :: l).set (n + 1) w = v :: l.set n w) := ⟨fun _ _ _ => List.setIfInBounds_toArray .., fun _ _ _ => rfl, fun _ _ _ _ => rfl⟩
section
variable {P : Program} {md : Region.Mode} {ops : Array Oper} {Q : Exit → Act → World → Prop} {S : World → Prop} {ds : List Nat} {oi : Oper} {v : Value} {fuel : Nat} {l l' : Array Bool} {a a' : Act} {w : World}
theorem pu (i : Nat) (N : Tmp) (h : wpAnyLast P md ops Q S ds fuel l' a' w) (hi : ops[i]? = some oi := by exact rfl) (hN : oi.dst = some N := by exact rfl) (hc : anyB md ops l (l.setIfInBounds i true) i = true := by exact any_of HT_.out (by kernel_rfl)) (hQ : ∀ c a w, Q (.panic c) (a.put oi.dst v) w → Q (.panic c) a w := by exact fun _ _ _ h => h) (hy : Yields P ops oi v a := by (refine Or.inl ⟨by rfl, ?_⟩; intro w'; go_simp; with_reducible rfl)) (ha : a.put (some N) v = a' := by (simp only [nrm]; rfl)) (hl : l.setIfInBounds i true = l' := by (simp only [nrl]; rfl)) : wpAnyLast P md ops Q S ds (fuel + 1) l a w := pure_ l' hi hN (hl ▸ hc) hQ hy ha h
theorem pv (i : Nat) (N : Tmp) (h : wpAnyLast P md ops Q S ds fuel l' a' w) (hi : ops[i]? = some oi := by exact rfl) (hN : oi.dst = some N := by exact rfl) (hc : anyB md ops l (l.setIfInBounds i true) i = true := by kernel_rfl) (hQ : ∀ c a w, Q (.panic c) (a.put oi.dst v) w → Q (.panic c) a w := by exact fun _ _ _ h => h) (hy : Yields P ops oi v a := by (refine Or.inl ⟨by rfl, ?_⟩; intro w'; go_simp; with_reducible rfl)) (ha : a.put (some N) v = a' := by (simp only [nrm]; rfl)) (hl : l.setIfInBounds i true = l' := by (simp only [nrl]; rfl)) : wpAnyLast P md ops Q S ds (fuel + 1) l a w := pure_ l' hi hN (hl ▸ hc) hQ hy ha h
theorem qu (i : Nat) (N : Tmp) (h : wpAnyLast P md ops Q S ds fuel l' a' w) (hi : ops[i]? = some oi := by exact rfl) (hN : oi.dst = some N := by exact rfl) (hc : anyB md ops l (l.setIfInBounds i true) i = true := by exact any_of HT_.out (by kernel_rfl)) (hQ : ∀ c a w, Q (.panic c) (a.put oi.dst undef) w → Q (.panic c) a w := by exact fun _ _ _ h => h) (hy : Yields P ops oi undef a := by exact Or.inr ⟨by rfl, rfl⟩) (ha : a.put (some N) undef = a' := by (simp only [nrm]; rfl)) (hl : l.setIfInBounds i true = l' := by (simp only [nrl]; rfl)) : wpAnyLast P md ops Q S ds (fuel + 1) l a w := pure_ l' hi hN (hl ▸ hc) hQ hy ha h
theorem qv (i : Nat) (N : Tmp) (h : wpAnyLast P md ops Q S ds fuel l' a' w) (hi : ops[i]? = some oi := by exact rfl) (hN : oi.dst = some N := by exact rfl) (hc : anyB md ops l (l.setIfInBounds i true) i = true := by kernel_rfl) (hQ : ∀ c a w, Q (.panic c) (a.put oi.dst undef) w → Q (.panic c) a w := by exact fun _ _ _ h => h) (hy : Yields P ops oi undef a := by exact Or.inr ⟨by rfl, rfl⟩) (ha : a.put (some N) undef = a' := by (simp only [nrm]; rfl)) (hl : l.setIfInBounds i true = l' := by (simp only [nrl]; rfl)) : wpAnyLast P md ops Q S ds (fuel + 1) l a w := pure_ l' hi hN (hl ▸ hc) hQ hy ha h
theorem tu (i : Nat) (N : Tmp) (hS : S w) (h : wpAnyLast P md ops Q S ds fuel l' a' w) (hi : ops[i]? = some oi := by exact rfl) (hN : oi.dst = some N := by exact rfl) (hc : takeB md ops ds l (l.setIfInBounds i true) i = true := by exact take_ofW HT_.out HW_.out (by kernel_rfl)) (hQ : ∀ c a w, Q (.panic c) (a.put oi.dst v) w → Q (.panic c) a w := by exact fun _ _ _ h => h) (hy : YieldsIf P ops S oi v a := by (refine Or.inl ⟨by rfl, ?_⟩; intro w' hs; (repeat (obtain ⟨_, hs⟩ := hs)); go_simp; with_reducible rfl)) (ha : a.put (some N) v = a' := by (simp only [nrm]; rfl)) (hl : l.setIfInBounds i true = l' := by (simp only [nrl]; rfl)) : wpAnyLast P md ops Q S ds (fuel + 1) l a w := take_ l' hi hN (hl ▸ hc) hQ hy hS ha h
theorem tv (i : Nat) (N : Tmp) (hS : S w) (h : wpAnyLast P md ops Q S ds fuel l' a' w) (hi : ops[i]? = some oi := by exact rfl) (hN : oi.dst = some N := by exact rfl) (hc : takeB md ops ds l (l.setIfInBounds i true) i = true := by kernel_rfl) (hQ : ∀ c a w, Q (.panic c) (a.put oi.dst v) w → Q (.panic c) a w := by exact fun _ _ _ h => h) (hy : YieldsIf P ops S oi v a := by (refine Or.inl ⟨by rfl, ?_⟩; intro w' hs; (repeat (obtain ⟨_, hs⟩ := hs)); go_simp; with_reducible rfl)) (ha : a.put (some N) v = a' := by (simp only [nrm]; rfl)) (hl : l.setIfInBounds i true = l' := by (simp only [nrl]; rfl)) : wpAnyLast P md ops Q S ds (fuel + 1) l a w := take_ l' hi hN (hl ▸ hc) hQ hy hS ha h
end
section
variable {A B C D E F : Prop}
theorem pR (h : A) (g : A → B := by (intro h; (with_reducible repeat (first | apply Kd.R_alloc | apply Kd.R_drewN | apply Kd.R_drew)); exact h)) : B := g h
theorem pN (h : A) (g : A → B := by (intro h; (with_reducible repeat (first | apply Kd.N_alloc | apply Kd.N_drewN | apply Kd.N_drew)); exact h)) : B := g h
theorem pS (h : A) (g : A → B := by (intro h; (with_reducible repeat (first | apply Kd.S_alloc | apply Kd.S_drewN | apply Kd.S_drew)); exact h)) : B := g h
theorem pk (h : A) (g : A → B := by (intro h; (with_reducible repeat (first | refine blk_drewN ?_ _ | refine blk_drew ?_ | refine blk_alloc ?_ _)); exact h)) : B := g h
theorem pB (h : A) (g : A → B := by (intro h; repeat (first | (with_reducible first | exact h | apply below_alloc | apply pw_below_drewN | apply below_drew1) | exact h))) : B := g h
theorem pb (h : A) (k : C) (g : A → C → B := by (intro h k; repeat (first | (with_reducible first | exact h | apply below_alloc | apply pw_below_drewN | apply below_drew1 | refine below_set ?_ k) | exact h))) : B := g h k
theorem pc (h : A) (k : C) (j : D) (g : A → C → D → B := by (intro h k j; repeat (first | (with_reducible first | exact h | apply below_alloc | apply pw_below_drewN | apply below_drew1 | refine below_set ?_ k | refine below_set ?_ j) | exact h))) : B := g h k j
theorem sd (h : A) (g : A → B := by (intro h; repeat (first | exact h | (with_reducible refine Kd.C_alloc ?_ _) | (with_reducible refine Kd.C_drewN ?_ _) | (with_reducible refine Kd.C_drew ?_)))) : B := g h
theorem od [Decidable A] (h : decide A = true := by first | (with_reducible assumption) | assumption) : A := of_decide_eq_true h
theorem er (h : A := by first | rfl | (simp [errW_none, errW_some] <;> rfl) | (simp [*, errW_none, errW_some] <;> rfl)) : A := h
theorem rr (h : A := by first | rfl | (simp; done) | (simp [*]; done)) : A := h
theorem bc {w W : World} {a : Addr} {v : Value} (h : Below w.heap.size w W) (k : w.cell? a = some v) : W.cell? a = some v := (h.cell (World.block_lt_of_cell? w _ k)).trans k
theorem bb {w w1 w2 : World} {g : Nat} {o : Obj} (h : w.heap[g]? = some o) (hb : Below w1.heap.size w1 w2) (k : w.heap[g]? = some o → w1.heap[g]? = some o := by (intro h; (with_reducible repeat (first | refine blk_drewN ?_ _ | refine blk_drew ?_ | refine blk_alloc ?_ _)); exact h)) : w2.heap[g]? = some o := blk_below (k h) hb
theorem gl {P : Program} {ops : Array Oper} {Q : Exit → Act → World → Prop} {rest : List Oper} {oi : Oper} {a : Act} {w : World} (N : Option Tmp) {f : FuncId} {fn : Func} {az : Array Operand} {ts : Array TypeId} (hf : P.funcs[f]? = some fn) (args : Array Value) (h : Calls P f args w fun e w' => ∃ v, e = .returned v ∧ wpList P ops Q rest (a.put N v) w') (hd : oi.dst = N := by exact rfl) (hg : oi.guard = none := by exact rfl) (hname : (fn.name == "runtime.NumGoroutine") = false := by kernel_rfl) (hb : fn.body.isSome = true := by exact rfl) (hop : oi.op = .call { callee := .value (.func f), args := az, argTypes := ts } := by exact rfl) (hargs : az.map a.eval = args := by ((try simp only [List.map_toArray, List.map_cons, List.map_nil]); first | done | rfl | (simp only [List.length_drop, List.length_take]; rfl))) : wpList P ops Q (oi :: rest) a w := goesL_ N hd hg hf hname hb args hop hargs h
theorem cz2 {w : World} {g : Nat} {t : TypeId} {x0 x1 : Value} (h : w.heap[g]? = some (.cells #[x0, x1] t (0, 0))) : w.cell? ⟨g, 0, none⟩ = some x0 ∧ w.cell? ⟨g, 1, none⟩ = some x1 ∧ w.frozen? ⟨g, 0, none⟩ = false ∧ w.frozen? ⟨g, 1, none⟩ = false := ⟨(blk_cell h 0).trans rfl, (blk_cell h 1).trans rfl, blk_frozen h 0, blk_frozen h 1⟩
theorem cz3 {w : World} {g : Nat} {t : TypeId} {x0 x1 x2 : Value} (h : w.heap[g]? = some (.cells #[x0, x1, x2] t (0, 0))) : w.cell? ⟨g, 0, none⟩ = some x0 ∧ w.cell? ⟨g, 1, none⟩ = some x1 ∧ w.cell? ⟨g, 2, none⟩ = some x2 ∧ w.frozen? ⟨g, 0, none⟩ = false ∧ w.frozen? ⟨g, 1, none⟩ = false ∧ w.frozen? ⟨g, 2, none⟩ = false := ⟨(blk_cell h 0).trans rfl, (blk_cell h 1).trans rfl, (blk_cell h 2).trans rfl, blk_frozen h 0, blk_frozen h 1, blk_frozen h 2⟩
theorem cz5 {w : World} {g : Nat} {t : TypeId} {x0 x1 x2 x3 x4 : Value} (h : w.heap[g]? = some (.cells #[x0, x1, x2, x3, x4] t (0, 0))) : w.cell? ⟨g, 0, none⟩ = some x0 ∧ w.cell? ⟨g, 1, none⟩ = some x1 ∧ w.cell? ⟨g, 2, none⟩ = some x2 ∧ w.cell? ⟨g, 3, none⟩ = some x3 ∧ w.cell? ⟨g, 4, none⟩ = some x4 ∧ w.frozen? ⟨g, 0, none⟩ = false ∧ w.frozen? ⟨g, 1, none⟩ = false ∧ w.frozen? ⟨g, 2, none⟩ = false ∧ w.frozen? ⟨g, 3, none⟩ = false ∧ w.frozen? ⟨g, 4, none⟩ = false := ⟨(blk_cell h 0).trans rfl, (blk_cell h 1).trans rfl, (blk_cell h 2).trans rfl, (blk_cell h 3).trans rfl, (blk_cell h 4).trans rfl, blk_frozen h 0, blk_frozen h 1, blk_frozen h 2, blk_frozen h 3, blk_frozen h 4⟩
end

def errW : Option Int → Value
 | none => .nilIface
 | some c => .iface 0 (.int .i64 c)
theorem errW_none : errW none = .nilIface := rfl
theorem errW_some (c : Int) : errW (some c) = .iface 0 (.int .i64 c) := rfl

theorem info3 : (Tryd.prog.info? 3).map (fun i => (i.zero, i.size, i.bytes)) = some (some (.int .i64 0), 1, 8) := by kernel_rfl
theorem info23 : (Tryd.prog.info? 23).map (fun i => (i.zero, i.size, i.bytes)) = some (some (.slice none 0 0), 1, 24) := by kernel_rfl
theorem info33 : (Tryd.prog.info? 33).map (fun i => (i.zero, i.size, i.bytes)) = some (some (.agg #[(.int .i64 0), (.slice none 0 0), (.int .i64 0)]), 3, 40) := by kernel_rfl
theorem info49 : (Tryd.prog.info? 49).map (fun i => (i.zero, i.size, i.bytes)) = some (some (.agg #[(.int .i64 0), (.int .i64 0)]), 2, 16) := by kernel_rfl
theorem info64 : (Tryd.prog.info? 64).map (fun i => (i.zero, i.size, i.bytes)) = some (some (.agg #[(.int .i64 0), (.int .i64 0), (.int .i64 0), (.int .i64 0), (.int .i64 0)]), 5, 40) := by kernel_rfl
-- the values' own types
def rd_L1 (xs : List (List Int)) (i : Int) : (List Int) := xs.getD i.toNat ([] : List Int)
theorem at_L1 {w : World} {A : Option Addr} {n : Nat} {xs : List (List Int)} (h : Kd.C (Kd.slice 3 (Kd.int .i64)) w A n xs) (i : Int) (h0 : 0 ≤ i) (h1 : i < n) : ∃ ad A0 c0, A = some ad ∧ w.cell? (ad.add i.toNat) = some (.slice A0 (rd_L1 xs i).length c0) ∧ (rd_L1 xs i).length ≤ c0 ∧ (Kd.int .i64).C w A0 (rd_L1 xs i).length (rd_L1 xs i) := by
 obtain ⟨ad, c, e, _, hK, hc0⟩ := Kd.C_get h ([] : List Int) i h0 h1
 have hc : ∀ j u, c[j]? = some u → w.cell? (ad.add (i.toNat * 1 + j)) = some u := hc0
 obtain ⟨A0, c0, rfl, l0, g0⟩ := hK
 exact ⟨ad, A0, c0, e, by have hq := hc 0 _ rfl; rwa [Nat.mul_one, Nat.add_zero] at hq, l0, g0⟩

/-! #### struct type 33 -/
structure S33 where
 f0 : Int
 f1 : (List Int)
 f2 : Int
def z33 : S33 := ⟨(0 : Int), ([] : List Int), (0 : Int)⟩
def k33 : Kd S33 := Kd.iso (Kd.pair (Kd.int .i64) (Kd.pair (Kd.slice 3 (Kd.int .i64)) (Kd.int .i64))) (fun x : S33 => (x.f0, x.f1, x.f2))
theorem k33_open {w : World} {x : S33} {cs : List Value} (h : k33.K w x cs) : ∃ A1 c1, cs = [.int .i64 x.f0, .slice A1 x.f1.length c1, .int .i64 x.f2] ∧ x.f1.length ≤ c1 ∧ (Kd.int .i64).C w A1 x.f1.length x.f1 := by
 obtain ⟨_, _, rfl, rfl, ⟨_, _, rfl, ⟨A1, c1, rfl, l1, g1⟩, rfl⟩⟩ := h
 exact ⟨A1, c1, rfl, l1, g1⟩
theorem k33_mk (w : World) (x : S33) {A1 : Option Addr} {c1 : Nat} (l1 : x.f1.length ≤ c1) (g1 : (Kd.int .i64).C w A1 x.f1.length x.f1) : k33.K w x [.int .i64 x.f0, .slice A1 x.f1.length c1, .int .i64 x.f2] := ⟨[.int .i64 x.f0], [.slice A1 x.f1.length c1, .int .i64 x.f2], rfl, rfl, ⟨[.slice A1 x.f1.length c1], [.int .i64 x.f2], rfl, ⟨A1, c1, rfl, l1, g1⟩, rfl⟩⟩
theorem k33_mkF (W : World) (ok : Nat → Prop) (x : S33) {A1 : Option Addr} {c1 : Nat} (l1 : x.f1.length ≤ c1) (g1 : Kd.F (Kd.int .i64) W ok A1 x.f1.length x.f1) : Kd.FK k33 W ok x [.int .i64 x.f0, .slice A1 x.f1.length c1, .int .i64 x.f2] := fun W2 hW => k33_mk W2 x l1 (g1 W2 hW)
def rd_T33 (xs : List S33) (i : Int) : S33 := xs.getD i.toNat z33
theorem at_T33 {w : World} {A : Option Addr} {n : Nat} {xs : List S33} (h : Kd.C k33 w A n xs) (i : Int) (h0 : 0 ≤ i) (h1 : i < n) : ∃ ad A1 c1, A = some ad ∧ w.cell? (ad.add (i.toNat * 3)) = some (.int .i64 (rd_T33 xs i).f0) ∧ w.cell? ⟨(ad.add (i.toNat * 3)).block, (ad.add (i.toNat * 3)).off + 1, none⟩ = some (.slice A1 (rd_T33 xs i).f1.length c1) ∧ w.cell? ⟨(ad.add (i.toNat * 3)).block, (ad.add (i.toNat * 3)).off + 2, none⟩ = some (.int .i64 (rd_T33 xs i).f2) ∧ (rd_T33 xs i).f1.length ≤ c1 ∧ (Kd.int .i64).C w A1 (rd_T33 xs i).f1.length (rd_T33 xs i).f1 := by
 obtain ⟨ad, c, e, _, hK, hc0⟩ := Kd.C_get h z33 i h0 h1
 have hc : ∀ j u, c[j]? = some u → w.cell? (ad.add (i.toNat * 3 + j)) = some u := hc0
 obtain ⟨A1, c1, rfl, l1, g1⟩ := k33_open hK
 exact ⟨ad, A1, c1, e, hc 0 _ rfl, by rw [← add_field _ _ 1 (by omega)]; exact hc 1 _ rfl, by rw [← add_field _ _ 2 (by omega)]; exact hc 2 _ rfl, l1, g1⟩

/-! #### struct type 49 -/
structure S49 where
 f0 : Int
 f1 : Int
def z49 : S49 := ⟨(0 : Int), (0 : Int)⟩
def k49 : Kd S49 := Kd.iso (Kd.pair (Kd.int .i64) (Kd.int .i64)) (fun x : S49 => (x.f0, x.f1))
theorem k49_open {w : World} {x : S49} {cs : List Value} (h : k49.K w x cs) : cs = [.int .i64 x.f0, .int .i64 x.f1] := by
 obtain ⟨_, _, rfl, rfl, rfl⟩ := h
 exact rfl
theorem k49_mk (w : World) (x : S49)  : k49.K w x [.int .i64 x.f0, .int .i64 x.f1] := ⟨[.int .i64 x.f0], [.int .i64 x.f1], rfl, rfl, rfl⟩
theorem k49_mkM (w : World) (base : Nat) (ok : Nat → Prop) (x : S49)  : k49.M w base ok x [.int .i64 x.f0, .int .i64 x.f1] := ⟨[.int .i64 x.f0], [.int .i64 x.f1], rfl, rfl, rfl⟩
def rd_T49 (xs : List S49) (i : Int) : S49 := xs.getD i.toNat z49
theorem at_T49 {w : World} {A : Option Addr} {n : Nat} {xs : List S49} (h : Kd.C k49 w A n xs) (i : Int) (h0 : 0 ≤ i) (h1 : i < n) : ∃ ad , A = some ad ∧ w.cell? (ad.add (i.toNat * 2)) = some (.int .i64 (rd_T49 xs i).f0) ∧ w.cell? ⟨(ad.add (i.toNat * 2)).block, (ad.add (i.toNat * 2)).off + 1, none⟩ = some (.int .i64 (rd_T49 xs i).f1) := by
 obtain ⟨ad, c, e, _, hK, hc0⟩ := Kd.C_get h z49 i h0 h1
 have hc : ∀ j u, c[j]? = some u → w.cell? (ad.add (i.toNat * 2 + j)) = some u := hc0
 obtain rfl := k49_open hK
 exact ⟨ad, e, hc 0 _ rfl, by rw [← add_field _ _ 1 (by omega)]; exact hc 1 _ rfl⟩

/-! #### struct type 64 -/
structure S64 where
 f0 : S49
 f1 : Int
 f2 : Int
 f3 : Int
def z64 : S64 := ⟨z49, (0 : Int), (0 : Int), (0 : Int)⟩
def k64 : Kd S64 := Kd.iso (Kd.pair k49 (Kd.pair (Kd.int .i64) (Kd.pair (Kd.int .i64) (Kd.int .i64)))) (fun x : S64 => (x.f0, x.f1, x.f2, x.f3))
theorem k64_open {w : World} {x : S64} {cs : List Value} (h : k64.K w x cs) : cs = [.int .i64 x.f0.f0, .int .i64 x.f0.f1, .int .i64 x.f1, .int .i64 x.f2, .int .i64 x.f3] := by
 obtain ⟨_, _, rfl, s0, ⟨_, _, rfl, rfl, ⟨_, _, rfl, rfl, rfl⟩⟩⟩ := h
 obtain rfl := k49_open s0
 exact rfl
theorem k64_mkM (w : World) (base : Nat) (ok : Nat → Prop) (x : S64)  : k64.M w base ok x [.int .i64 x.f0.f0, .int .i64 x.f0.f1, .int .i64 x.f1, .int .i64 x.f2, .int .i64 x.f3] := ⟨[.int .i64 x.f0.f0, .int .i64 x.f0.f1], [.int .i64 x.f1, .int .i64 x.f2, .int .i64 x.f3], rfl, (k49_mkM w base ok x.f0 ), ⟨[.int .i64 x.f1], [.int .i64 x.f2, .int .i64 x.f3], rfl, rfl, ⟨[.int .i64 x.f2], [.int .i64 x.f3], rfl, rfl, rfl⟩⟩⟩
def rd_T64 (xs : List S64) (i : Int) : S64 := xs.getD i.toNat z64
theorem at_T64 {w : World} {A : Option Addr} {n : Nat} {xs : List S64} (h : Kd.C k64 w A n xs) (i : Int) (h0 : 0 ≤ i) (h1 : i < n) : ∃ ad , A = some ad ∧ w.cell? (ad.add (i.toNat * 5)) = some (.int .i64 (rd_T64 xs i).f0.f0) ∧ w.cell? ⟨(ad.add (i.toNat * 5)).block, (ad.add (i.toNat * 5)).off + 1, none⟩ = some (.int .i64 (rd_T64 xs i).f0.f1) ∧ w.cell? ⟨(ad.add (i.toNat * 5)).block, (ad.add (i.toNat * 5)).off + 2, none⟩ = some (.int .i64 (rd_T64 xs i).f1) ∧ w.cell? ⟨(ad.add (i.toNat * 5)).block, (ad.add (i.toNat * 5)).off + 3, none⟩ = some (.int .i64 (rd_T64 xs i).f2) ∧ w.cell? ⟨(ad.add (i.toNat * 5)).block, (ad.add (i.toNat * 5)).off + 4, none⟩ = some (.int .i64 (rd_T64 xs i).f3) := by
 obtain ⟨ad, c, e, _, hK, hc0⟩ := Kd.C_get h z64 i h0 h1
 have hc : ∀ j u, c[j]? = some u → w.cell? (ad.add (i.toNat * 5 + j)) = some u := hc0
 obtain rfl := k64_open hK
 exact ⟨ad, e, hc 0 _ rfl, by rw [← add_field _ _ 1 (by omega)]; exact hc 1 _ rfl, by rw [← add_field _ _ 2 (by omega)]; exact hc 2 _ rfl, by rw [← add_field _ _ 3 (by omega)]; exact hc 3 _ rfl, by rw [← add_field _ _ 4 (by omega)]; exact hc 4 _ rfl⟩

end Go.Proofs.YtnddijafdphbnaaDoor.All
end
section
-- Printed by wip/tools/wprint.py (a program of this session over the kit's printer). Not trusted: Lean checks it.
namespace Go.Proofs.YtnddijafdphbnaaDoor.All
open Go.RowKit Go.Proofs.YtnddijafdphbnaaDoorW.PrintWords Go.Proofs.YtnddijafdphbnaaDoorW.PrintLast Go.Proofs.YtnddijafdphbnaaDoorW.PrintMore
attribute [local go_sem] max2_int min2_int max_two min_two max_three min_three max_four min_four   -- for this text's walks alone
set_option linter.unusedVariables false
set_option linter.unusedSimpArgs false

/-! ### editscript_swappable: function 39 -/
def editscript_swappable.f (l0_0 : List (S33)) (l0_1 : List Int) (a0_2 : Int) (a1 : Int) : Option (Bool) := if a0_2 > 0 then (if (wrap64 (a1 + 1)) < (l0_0.length : Int) then (if 0 ≤ a1 then (if a1 < (l0_0.length : Int) then (if ((rd_T33 l0_0 a1).f0) ≥ 0 then (if 0 ≤ (wrap64 (a1 + 1)) then (some (decide (((rd_T33 l0_0 (wrap64 (a1 + 1))).f0) ≥ 0))) else (none)) else (some false)) else (none)) else (none)) else (some false)) else (some false)
set_option maxHeartbeats 8000000 in
set_option maxRecDepth 100000 in
theorem editscript_swappable.calls (A0_0 : Option Addr) (c0_0 : Nat) (l0_0 : List (S33)) (A0_1 : Option Addr) (c0_1 : Nat) (l0_1 : List Int) (a0_2 : Int) (a1 : Int) (r : Bool) (w : World) (hr0_0 : Kd.C k33 w A0_0 l0_0.length l0_0) (hc0_0 : l0_0.length ≤ c0_0) (hr0_1 : Kd.C (Kd.int .i64) w A0_1 l0_1.length l0_1) (hc0_1 : l0_1.length ≤ c0_1) (h : editscript_swappable.f l0_0 l0_1 a0_2 a1 = some r) :
  Calls Tryd.prog 39 #[.agg #[.slice A0_0 l0_0.length c0_0, .slice A0_1 l0_1.length c0_1, .int .i64 a0_2], .int .i64 a1] w fun e w' => e = .returned (.bool r) ∧ Below w.heap.size w w' := by
 have hu25 := Tryd.underlying25
 have HR0_0 := Aside0.mk hr0_0
 have HC0_0 := Aside0.mk hc0_0
 clear hr0_0 hc0_0
 have HR0_1 := Aside0.mk hr0_1
 have HC0_1 := Aside0.mk hc0_1
 clear hr0_1 hc0_1
 have HB := Aside0.mk (Below.refl w.heap.size w)
 have H : (if a0_2 > 0 then (if (wrap64 (a1 + 1)) < (l0_0.length : Int) then (if 0 ≤ a1 then (if a1 < (l0_0.length : Int) then (if ((rd_T33 l0_0 a1).f0) ≥ 0 then (if 0 ≤ (wrap64 (a1 + 1)) then (some (decide (((rd_T33 l0_0 (wrap64 (a1 + 1))).f0) ≥ 0))) else (none)) else (some false)) else (none)) else (none)) else (some false)) else (some false)) = some r := h
 clear h
 by_cases c3 : a0_2 > 0
 ·
  rw [if_pos c3] at H
  have c3b0 : decide (0 < a0_2) = true := decide_eq_true c3
  clear c3
  by_cases c4 : (wrap64 (a1 + 1)) < (l0_0.length : Int)
  ·
   rw [if_pos c4] at H
   have c4b0 : decide ((wrap64 (a1 + 1)) < (l0_0.length : Int)) = true := decide_eq_true c4
   clear c4
   by_cases c5 : 0 ≤ a1
   ·
    rw [if_pos c5] at H
    have c5b0 : decide (0 ≤ a1) = true := decide_eq_true c5
    clear c5
    by_cases c6 : a1 < (l0_0.length : Int)
    ·
     rw [if_pos c6] at H
     have c6b0 : decide (a1 < (l0_0.length : Int)) = true := decide_eq_true c6
     clear c6
     by_cases c7 : ((rd_T33 l0_0 a1).f0) ≥ 0
     ·
      rw [if_pos c7] at H
      have c7b0 : decide (0 ≤ ((rd_T33 l0_0 a1).f0)) = true := decide_eq_true c7
      clear c7
      obtain ⟨ji8, hji8⟩ : ∃ j_ : Int, (wrap64 (a1 + 1)) = j_ := ⟨_, rfl⟩
      replace H : (if 0 ≤ (ji8) then (some (decide (((rd_T33 l0_0 (ji8)).f0) ≥ 0))) else (none)) = some r := by first | (rw [hji8] at H; exact H) | (simp only [hji8] at H ⊢; exact H)
      (try rw [hji8] at c4b0)
      have hji8w : (IntKind.i64.wrap (a1 + 1)) = ji8 := (i64_w _).trans hji8
      by_cases c9 : 0 ≤ (ji8)
      ·
       rw [if_pos c9] at H
       have c9b0 : decide (0 ≤ (ji8)) = true := decide_eq_true c9
       clear c9
       obtain rfl := Option.some.inj H
       go_enter Tryd.func39, Tryd.ntmps39
       go_wp2_with (first | ((with_reducible refine gate_dst (N := 2) rfl ?_); (try (refine gate_guard (by rfl) ?_; dsimp only)); refine box_event ?hg (N := 2) ?hd (cs := #[.slice A0_0 l0_0.length c0_0, .slice A0_1 l0_1.length c0_1, .int .i64 a0_2]) (t := 25) ?hr ?_; (case hd => rfl); (case hg => rfl); (case hr => first | (go_simp; done) | (go_simp; rfl)); intro gb105 hg w10 hbox hb; have n0_ := Aside0.mk (below_step (pB HB.out) hb); have n1_ := Aside0.mk (hbox); have n2_ := Aside0.mk ((by rw [hg]; exact (below_size (pB HB.out)) : w.heap.size ≤ gb105)); have n3_ := Aside0.mk ((by rw [hg]; exact (below_size (pB HB.out)) : w.heap.size ≤ gb105)); clear HB; have HB := n0_; have BK105 := n1_; have GW105 := n2_; have GE105 := n3_; clear n0_ n1_ n2_ n3_; clear hb hbox hg; obtain ⟨hcz11_0, hcz11_1, hcz11_2, hfz11_0, hfz11_1, hfz11_2⟩ := cz3 BK105.out; have p106 : 0 ≤ (a1 : Int) := od; have q106 : a1 < (l0_0.length : Int) := od; obtain ⟨ad106, A106_1, c106_1, e106, hx106_0, hx106_1, hx106_2, hl106_1, hi106_1⟩ := at_T33 HR0_0.out a1 p106 q106; cases e106; replace hx106_0 := bc HB.out hx106_0; replace hx106_1 := bc HB.out hx106_1; replace hx106_2 := bc HB.out hx106_2; have HR106_1 := Aside0.mk hi106_1; have HC106_1 := Aside0.mk hl106_1; clear hi106_1 hl106_1; replace p106 := eq_true p106; replace q106 := eq_true q106; have p107 : 0 ≤ ((ji8) : Int) := od; have q107 : (ji8) < (l0_0.length : Int) := od; obtain ⟨ad107, A107_1, c107_1, e107, hx107_0, hx107_1, hx107_2, hl107_1, hi107_1⟩ := at_T33 HR0_0.out (ji8) p107 q107; obtain rfl : ad106 = ad107 := (by injection e107); replace hx107_0 := bc HB.out hx107_0; replace hx107_1 := bc HB.out hx107_1; replace hx107_2 := bc HB.out hx107_2; have HR107_1 := Aside0.mk hi107_1; have HC107_1 := Aside0.mk hl107_1; clear hi107_1 hl107_1; replace p107 := eq_true p107; replace q107 := eq_true q107))
       go_ret
       exact ⟨by first | rfl | (simp [errW_none, errW_some] <;> rfl) | (simp only [← hji8]; first | rfl | (simp [errW_none, errW_some] <;> rfl)) | (simp [*, errW_none, errW_some] <;> rfl), pb HB.out GE105.out⟩
      ·
       rw [if_neg c9] at H
       exact absurd H (by simp)
     ·
      rw [if_neg c7] at H
      have c7b0 : decide (0 ≤ ((rd_T33 l0_0 a1).f0)) = false := decide_eq_false c7
      clear c7
      obtain rfl := Option.some.inj H
      go_enter Tryd.func39, Tryd.ntmps39
      go_wp2_with (first | ((with_reducible refine gate_dst (N := 2) rfl ?_); (try (refine gate_guard (by rfl) ?_; dsimp only)); refine box_event ?hg (N := 2) ?hd (cs := #[.slice A0_0 l0_0.length c0_0, .slice A0_1 l0_1.length c0_1, .int .i64 a0_2]) (t := 25) ?hr ?_; (case hd => rfl); (case hg => rfl); (case hr => first | (go_simp; done) | (go_simp; rfl)); intro gb105 hg w12 hbox hb; have n0_ := Aside0.mk (below_step (pB HB.out) hb); have n1_ := Aside0.mk (hbox); have n2_ := Aside0.mk ((by rw [hg]; exact (below_size (pB HB.out)) : w.heap.size ≤ gb105)); have n3_ := Aside0.mk ((by rw [hg]; exact (below_size (pB HB.out)) : w.heap.size ≤ gb105)); clear HB; have HB := n0_; have BK105 := n1_; have GW105 := n2_; have GE105 := n3_; clear n0_ n1_ n2_ n3_; clear hb hbox hg; obtain ⟨hcz13_0, hcz13_1, hcz13_2, hfz13_0, hfz13_1, hfz13_2⟩ := cz3 BK105.out; have p106 : 0 ≤ (a1 : Int) := od; have q106 : a1 < (l0_0.length : Int) := od; obtain ⟨ad106, A106_1, c106_1, e106, hx106_0, hx106_1, hx106_2, hl106_1, hi106_1⟩ := at_T33 HR0_0.out a1 p106 q106; cases e106; replace hx106_0 := bc HB.out hx106_0; replace hx106_1 := bc HB.out hx106_1; replace hx106_2 := bc HB.out hx106_2; have HR106_1 := Aside0.mk hi106_1; have HC106_1 := Aside0.mk hl106_1; clear hi106_1 hl106_1; replace p106 := eq_true p106; replace q106 := eq_true q106))
      go_ret
      exact ⟨er, pb HB.out GE105.out⟩
    ·
     rw [if_neg c6] at H
     exact absurd H (by simp)
   ·
    rw [if_neg c5] at H
    exact absurd H (by simp)
  ·
   rw [if_neg c4] at H
   have c4b0 : decide ((wrap64 (a1 + 1)) < (l0_0.length : Int)) = false := decide_eq_false c4
   clear c4
   obtain rfl := Option.some.inj H
   go_enter Tryd.func39, Tryd.ntmps39
   go_wp2_with (first | ((with_reducible refine gate_dst (N := 2) rfl ?_); (try (refine gate_guard (by rfl) ?_; dsimp only)); refine box_event ?hg (N := 2) ?hd (cs := #[.slice A0_0 l0_0.length c0_0, .slice A0_1 l0_1.length c0_1, .int .i64 a0_2]) (t := 25) ?hr ?_; (case hd => rfl); (case hg => rfl); (case hr => first | (go_simp; done) | (go_simp; rfl)); intro gb105 hg w14 hbox hb; have n0_ := Aside0.mk (below_step (pB HB.out) hb); have n1_ := Aside0.mk (hbox); have n2_ := Aside0.mk ((by rw [hg]; exact (below_size (pB HB.out)) : w.heap.size ≤ gb105)); have n3_ := Aside0.mk ((by rw [hg]; exact (below_size (pB HB.out)) : w.heap.size ≤ gb105)); clear HB; have HB := n0_; have BK105 := n1_; have GW105 := n2_; have GE105 := n3_; clear n0_ n1_ n2_ n3_; clear hb hbox hg; obtain ⟨hcz15_0, hcz15_1, hcz15_2, hfz15_0, hfz15_1, hfz15_2⟩ := cz3 BK105.out))
   go_ret
   exact ⟨er, pb HB.out GE105.out⟩
 ·
  rw [if_neg c3] at H
  have c3b0 : decide (0 < a0_2) = false := decide_eq_false c3
  clear c3
  obtain rfl := Option.some.inj H
  go_enter Tryd.func39, Tryd.ntmps39
  go_wp2_with (first | ((with_reducible refine gate_dst (N := 2) rfl ?_); (try (refine gate_guard (by rfl) ?_; dsimp only)); refine box_event ?hg (N := 2) ?hd (cs := #[.slice A0_0 l0_0.length c0_0, .slice A0_1 l0_1.length c0_1, .int .i64 a0_2]) (t := 25) ?hr ?_; (case hd => rfl); (case hg => rfl); (case hr => first | (go_simp; done) | (go_simp; rfl)); intro gb105 hg w16 hbox hb; have n0_ := Aside0.mk (below_step (pB HB.out) hb); have n1_ := Aside0.mk (hbox); have n2_ := Aside0.mk ((by rw [hg]; exact (below_size (pB HB.out)) : w.heap.size ≤ gb105)); have n3_ := Aside0.mk ((by rw [hg]; exact (below_size (pB HB.out)) : w.heap.size ≤ gb105)); clear HB; have HB := n0_; have BK105 := n1_; have GW105 := n2_; have GE105 := n3_; clear n0_ n1_ n2_ n3_; clear hb hbox hg; obtain ⟨hcz17_0, hcz17_1, hcz17_2, hfz17_0, hfz17_1, hfz17_2⟩ := cz3 BK105.out))
  go_ret
  exact ⟨er, pb HB.out GE105.out⟩

end Go.Proofs.YtnddijafdphbnaaDoor.All
end
section
-- Printed by wip/tools/wprint.py (a program of this session over the kit's printer). Not trusted: Lean checks it.
namespace Go.Proofs.YtnddijafdphbnaaDoor.All
open Go.RowKit Go.Proofs.YtnddijafdphbnaaDoorW.PrintWords Go.Proofs.YtnddijafdphbnaaDoorW.PrintLast Go.Proofs.YtnddijafdphbnaaDoorW.PrintMore
attribute [local go_sem] max2_int min2_int max_two min_two max_three min_three max_four min_four   -- for this text's walks alone
set_option linter.unusedVariables false
set_option linter.unusedSimpArgs false

/-! ### editscript_add: function 36 -/
def editscript_add.f (a0 : Int) (a1 : Int) : Option (Int) := some (mn (wrap64 (a0 + a1)) 1099511627776)
set_option maxHeartbeats 8000000 in
set_option maxRecDepth 100000 in
theorem editscript_add.calls (a0 : Int) (a1 : Int) (r : Int) (w : World) (h : editscript_add.f a0 a1 = some r) :
  Calls Tryd.prog 36 #[.int .i64 a0, .int .i64 a1] w fun e w' => e = .returned (.int .i64 r) ∧ Below w.heap.size w w' := by
 have HB := Aside0.mk (Below.refl w.heap.size w)
 have H : (some (mn (wrap64 (a0 + a1)) 1099511627776)) = some r := h
 clear h
 obtain ⟨ji3, hji3⟩ : ∃ j_ : Int, (mn (wrap64 (a0 + a1)) 1099511627776) = j_ := ⟨_, rfl⟩
 replace H : (some ji3) = some r := by first | (rw [hji3] at H; exact H) | (simp only [hji3] at H ⊢; exact H)
 (try (have hji3h : ji3 ≤ 1099511627776 := by (rw [← hji3]; unfold mn; (repeat' split) <;> omega)))
 (try (have hji3g : ji3 ≤ 64 := by omega))
 have hji3_ : (if 1099511627776 < (wrap64 (a0 + a1)) then 1099511627776 else (wrap64 (a0 + a1))) = ji3 := hji3
 obtain rfl := Option.some.inj H
 go_enter Tryd.func36, Tryd.ntmps36
 go_wp2
 go_ret
 exact ⟨by first | rfl | (simp [errW_none, errW_some] <;> rfl) | (simp only [← hji3]; first | rfl | (simp [errW_none, errW_some] <;> rfl)) | (simp [*, errW_none, errW_some] <;> rfl), pB HB.out⟩

end Go.Proofs.YtnddijafdphbnaaDoor.All
end
section
/- The state of a script that is being applied: what its methods leave alone; the walks of next and emit. -/
namespace Go.Proofs.YtnddijafdphbnaaDoor.All
open Go.RowKit Go.Proofs.YtnddijafdphbnaaDoorW.PrintWords Go.Proofs.YtnddijafdphbnaaDoorW.PrintLast Go.Proofs.YtnddijafdphbnaaDoorW.PrintMore
set_option linter.unusedVariables false
set_option linter.unusedSimpArgs false

/-- The state at block g: the input's three fields, the tokens consumed, the terminals emitted, the cost; ok: the blocks in which the terminals may lie. -/
def ES (A0 : Option Addr) (n0 c0 : Nat) (A1 : Option Addr) (n1 c1 : Nat) (sw : Int) (g B : Nat) (ok : Nat → Prop) (W : World) (at_ : Int) (out : List Int) (cost : Int) : Prop :=
 (∃ vo, W.heap[g]? = some (.cells #[.slice A0 n0 c0, .slice A1 n1 c1, .int .i64 sw, .int .i64 at_, vo, .int .i64 cost] 58 (0, 0)) ∧ Kd.R (Kd.int .i64) 3 W B ok vo out) ∧ (∀ k, ok k → k ≠ g) ∧ (∀ k, W.heap.size ≤ k → ok k)

/-- What a method of the state leaves alone: what lies below B, and each block that is neither the state nor one of its rows. -/
def Fr (g B : Nat) (ok : Nat → Prop) (W W' : World) : Prop := Below B W W' ∧ ∀ k, k < W.heap.size → k ≠ g → ¬ ok k → W'.heap[k]? = W.heap[k]?

theorem Fr.refl (g B : Nat) (ok : Nat → Prop) (W : World) : Fr g B ok W W := ⟨Below.refl _ _, fun _ _ _ _ => rfl⟩
theorem Fr.trans {g B : Nat} {ok : Nat → Prop} {W W1 W2 : World} (h : Fr g B ok W W1) (k : Fr g B ok W1 W2) : Fr g B ok W W2 :=
 ⟨h.1.trans k.1, fun i hi hg ho => (k.2 i (Nat.lt_of_lt_of_le hi h.1.size) hg ho).trans (h.2 i hi hg ho)⟩
theorem Fr.drewN {g B : Nat} {ok : Nat → Prop} {W W1 : World} (h : Fr g B ok W W1) (n : Nat) : Fr g B ok W (W1.drewN n) := ⟨pw_below_drewN h.1 n, h.2⟩
theorem Fr.set {g B : Nat} {ok : Nat → Prop} {W W1 : World} (h : Fr g B ok W W1) (hB : B ≤ g) (j : Nat) (u : Value) : Fr g B ok W (W1.setCell ⟨g, j, none⟩ u) :=
 ⟨Below.setCell h.1 hB _, fun i hi hg ho => (Below.heap_setCell W1 ⟨g, j, none⟩ u i hg).trans (h.2 i hi hg ho)⟩
theorem Fr.grown {g B : Nat} {ok : Nat → Prop} {W W1 : World} {row : Option Nat} (hg : W.grownBy W1 row) (hr : ∀ k, row = some k → ok k ∧ B ≤ k) (hB : B ≤ W.heap.size) : Fr g B ok W W1 :=
 ⟨Below.grown (Below.refl _ _) hg hB (fun k hk => (hr k hk).2), fun i hi _ ho => hg.block i hi (fun e => ho (hr i e.symm).1)⟩
theorem Fr.below {g B : Nat} {ok : Nat → Prop} {W W1 : World} (h : Below W.heap.size W W1) (hB : B ≤ W.heap.size) : Fr g B ok W W1 := ⟨h.mono hB, fun i hi _ _ => h.block i hi⟩

section
variable {A0 : Option Addr} {n0 c0 : Nat} {A1 : Option Addr} {n1 c1 : Nat} {sw : Int} {g B : Nat} {ok : Nat → Prop} {W W1 : World} {at_ : Int} {out : List Int} {cost : Int}
theorem ES.lt (h : ES A0 n0 c0 A1 n1 c1 sw g B ok W at_ out cost) : g < W.heap.size := by
 obtain ⟨⟨vo, hb, _⟩, _⟩ := h
 exact blk_lt hb
theorem ES.below (h : ES A0 n0 c0 A1 n1 c1 sw g B ok W at_ out cost) (hb : Below W.heap.size W W1) : ES A0 n0 c0 A1 n1 c1 sw g B ok W1 at_ out cost := by
 obtain ⟨⟨vo, h0, h1⟩, h2, h3⟩ := h
 exact ⟨⟨vo, (hb.block g (blk_lt h0)).trans h0, Kd.R_below h1 hb⟩, h2, fun k hk => h3 k (Nat.le_trans hb.size hk)⟩
theorem ES.drewN (h : ES A0 n0 c0 A1 n1 c1 sw g B ok W at_ out cost) (n : Nat) : ES A0 n0 c0 A1 n1 c1 sw g B ok (W.drewN n) at_ out cost := h.below (pw_below_drewN (Below.refl _ _) n)
/-- A field that holds a number is written. -/
theorem ES.setAt (h : ES A0 n0 c0 A1 n1 c1 sw g B ok W at_ out cost) (n : Int) : ES A0 n0 c0 A1 n1 c1 sw g B ok (W.setCell ⟨g, 3, none⟩ (.int .i64 n)) n out cost := by
 obtain ⟨⟨vo, h0, h1⟩, h2, h3⟩ := h
 exact ⟨⟨vo, blk_set h0 3 _, Kd.R_far (p := ⟨g, 3, none⟩) h1 h2 _⟩, h2, fun k hk => h3 k (by simpa [World.setCell] using hk)⟩
theorem ES.setCost (h : ES A0 n0 c0 A1 n1 c1 sw g B ok W at_ out cost) (n : Int) : ES A0 n0 c0 A1 n1 c1 sw g B ok (W.setCell ⟨g, 5, none⟩ (.int .i64 n)) at_ out n := by
 obtain ⟨⟨vo, h0, h1⟩, h2, h3⟩ := h
 exact ⟨⟨vo, blk_set h0 5 _, Kd.R_far (p := ⟨g, 5, none⟩) h1 h2 _⟩, h2, fun k hk => h3 k (by simpa [World.setCell] using hk)⟩
end

theorem box3 {W8 : World} {gb : Nat} {z0 z1 z2 : Value} (h : W8.heap[gb]? = some (.cells #[z0, z1, z2] 33 (0, 0))) (u0 u1 u2 : Value) :
  (((W8.setCell ⟨gb, 0, none⟩ u0).setCell ⟨gb, 1, none⟩ u1).setCell ⟨gb, 2, none⟩ u2).heap[gb]? = some (.cells #[u0, u1, u2] 33 (0, 0)) := by
 have := blk_set (blk_set (blk_set h 0 u0) 1 u1) 2 u2
 simpa using this

def ok2 (ok : Nat → Prop) (gb : Nat) (k : Nat) : Prop := ok k ∧ k ≠ gb
/-- A block that has been made since is none of the state's rows. -/
theorem ES.box {A0 : Option Addr} {n0 c0 : Nat} {A1 : Option Addr} {n1 c1 : Nat} {sw : Int} {g B : Nat} {ok : Nat → Prop} {W W1 : World} {at_ : Int} {out : List Int} {cost : Int} (h : ES A0 n0 c0 A1 n1 c1 sw g B ok W at_ out cost) (hb : Below W.heap.size W W1) {gb : Nat} (h0 : W.heap.size ≤ gb) (h1 : gb < W1.heap.size) : ES A0 n0 c0 A1 n1 c1 sw g B (ok2 ok gb) W1 at_ out cost := by
 obtain ⟨⟨vo, k0, k1⟩, k2, k3⟩ := h
 exact ⟨⟨vo, (hb.block g (blk_lt k0)).trans k0, Kd.R_below (Kd.R_elderB k1 gb h0) hb⟩, fun k hk => k2 k hk.1, fun k hk => ⟨k3 k (Nat.le_trans hb.size hk), by omega⟩⟩
theorem ES.wide {A0 : Option Addr} {n0 c0 : Nat} {A1 : Option Addr} {n1 c1 : Nat} {sw : Int} {g gb B : Nat} {ok : Nat → Prop} {W : World} {at_ : Int} {out : List Int} {cost : Int} (h : ES A0 n0 c0 A1 n1 c1 sw g B (ok2 ok gb) W at_ out cost) (h2 : ∀ k, ok k → k ≠ g) (h3 : ∀ k, W.heap.size ≤ k → ok k) : ES A0 n0 c0 A1 n1 c1 sw g B ok W at_ out cost := by
 obtain ⟨⟨vo, k0, k1⟩, _, _⟩ := h
 exact ⟨⟨vo, k0, Kd.R_mono k1 (fun _ hk => hk.1)⟩, h2, h3⟩
theorem Fr.keeps {g B gb : Nat} {ok : Nat → Prop} {W W' : World} (h : Fr g B (ok2 ok gb) W W') {o : Obj} (hb : W.heap[gb]? = some o) (hne : gb ≠ g) : W'.heap[gb]? = some o :=
 (h.2 gb (blk_lt hb) hne (fun hk => hk.2 rfl)).trans hb
/-- What a method leaves alone that has made a block of its own. -/
theorem Fr.unbox {g B gb : Nat} {ok : Nat → Prop} {W W1 W' : World} (hb : Below W.heap.size W W1) (hB : B ≤ W.heap.size) (h0 : W.heap.size ≤ gb) (h : Fr g B (ok2 ok gb) W1 W') : Fr g B ok W W' :=
 ⟨(hb.mono hB).trans h.1, fun i hi hg ho => (h.2 i (Nat.lt_of_lt_of_le hi hb.size) hg (fun hk => ho hk.1)).trans (hb.block i hi)⟩

/-- emit: a terminal is appended. -/
theorem emit_calls (A0 : Option Addr) (n0 c0 : Nat) (A1 : Option Addr) (n1 c1 : Nat) (sw : Int) (g B : Nat) (ok : Nat → Prop) (W : World) (at_ : Int) (out : List Int) (cost t : Int) (h : ES A0 n0 c0 A1 n1 c1 sw g B ok W at_ out cost) (hB : B ≤ g) (hn : out.length < 10000000) :
  Calls Tryd.prog 56 #[.pointer (some ⟨g, 0, none⟩), .int .i64 t] W fun e W' => e = .returned (.tuple #[]) ∧ ES A0 n0 c0 A1 n1 c1 sw g B ok W' at_ (out ++ [t]) cost ∧ Fr g B ok W W' := by
 have hgl := h.lt
 obtain ⟨⟨vo, hb0, hro0⟩, hok0, hfr0⟩ := h
 obtain ⟨A, c, rfl⟩ := Kd.R_slice hro0
 have HBLK := Aside0.mk hb0
 have hro := Aside0.mk hro0
 have hok := Aside0.mk hok0
 have hfr := Aside0.mk hfr0
 have hBW : B ≤ W.heap.size := Nat.le_trans hB (Nat.le_of_lt hgl)
 have hc4 : W.cell? ⟨g, 4, none⟩ = some (.slice A out.length c) := (blk_cell hb0 4).trans rfl
 clear hb0 hro0 hok0 hfr0
 go_enter Tryd.func56, Tryd.ntmps56
 go_wp2_with (first | ((with_reducible refine gate_builtin (b := .append) (xs := #[.tmp 10, .tmp 12]) rfl ?_); at_builtin; refine Kd.R_append (Kd.int .i64) (w0 := W) (W := W) B rfl (.tmp 10) (.tmp 12) 23 3 (.int .i64 0) 8 rfl Tryd.underlying23 info3 rfl (by decide) (by omega) (.slice A out.length c) out t [.int .i64 t] ok (fun _ => False) rfl rfl ?aP (fun _ hk => hk.elim) ?aF ?aO ?aB ?aS ?aL ?_; (case aP => exact rfl); (case aF => exact (fun k hk => hfr.out k hk)); (case aO => exact hro.out); (case aB => exact Below.refl _ _); (case aS => exact hBW); (case aL => omega); intro v1 w1 ho hb hg hat; obtain ⟨A2, c2, rfl⟩ := Kd.R_slice ho; have hlen : (out ++ [t]).length = out.length + 1 := (by simp); rw [hlen] at ho; clear hlen; have hb1 := blk_grown (w := W) HBLK.out hg (Kd.R_away hro.out hok.out); have hc14 : w1.cell? ⟨g, 4, none⟩ = some (.slice A out.length c) := (blk_cell hb1 4).trans rfl; have hf14 := blk_frozen hb1 4; have HFM := Aside0.mk (Fr.grown (g := g) (B := B) (ok := ok) hg (fun k hk => ⟨hro.out.1 k hk, Kd.R_base hro.out k hk⟩) hBW); have HSZ := Aside0.mk (show W.heap.size ≤ w1.heap.size from hb.size); have HB1 := Aside0.mk hb1; have HO1 := Aside0.mk ho; clear hb1 ho hb hg hat))
 go_end0
 exact ⟨rfl, ⟨⟨_, blk_set HB1.out 4 _, Kd.R_far (p := ⟨g, 4, none⟩) HO1.out hok.out _⟩, hok.out, fun k hk => hfr.out k (Nat.le_trans HSZ.out (by simpa [World.setCell] using hk))⟩, Fr.set HFM.out hB _ _⟩

/-- next, behind the last token. -/
theorem next_no (A0 : Option Addr) (n0 c0 : Nat) (A1 : Option Addr) (n1 c1 : Nat) (sw : Int) (g B : Nat) (ok : Nat → Prop) (W : World) (at_ : Nat) (out : List Int) (cost : Int) (h : ES A0 n0 c0 A1 n1 c1 sw g B ok W at_ out cost) (hn : n0 ≤ at_) :
  Calls Tryd.prog 62 #[.pointer (some ⟨g, 0, none⟩)] W fun e W' => e = .returned (.tuple #[.agg #[.int .i64 0, .slice none 0 0, .int .i64 0], .bool false]) ∧ Below W.heap.size W W' := by
 obtain ⟨⟨vo, hb0, _⟩, _⟩ := h
 have hgl := blk_lt hb0
 have hc0 : W.cell? ⟨g, 0, none⟩ = some (.slice A0 n0 c0) := (blk_cell hb0 0).trans rfl
 have hc3 : W.cell? ⟨g, 3, none⟩ = some (.int .i64 at_) := (blk_cell hb0 3).trans rfl
 have b0 : decide ((n0 : Int) ≤ (at_ : Int)) = true := decide_eq_true (by omega)
 have b1 : decide (n0 ≤ at_) = true := decide_eq_true hn
 clear hb0 hn
 go_enter Tryd.func62, Tryd.ntmps62
 go_wp2
 repeat (go_quiet (fail); try go_wp2)
 refine bodyPost_ret (results_ct rfl _ _ W.heap.size 33 #[.int .i64 0, .slice none 0 0, .int .i64 0] (0, 0) _ rfl (box3 (blk_drewN (blk_new W _) _) _ _ _) Tryd.underlying33 rfl (by kernel_rfl)) rfl ?_
 exact ⟨rfl, Below.setCell (Below.setCell (Below.setCell (pw_below_drewN (below_alloc (Below.refl _ _) _) _) (Nat.le_refl _) _) (Nat.le_refl _) _) (Nat.le_refl _) _⟩

/-- next, at a token. -/
theorem next_yes (A0 : Option Addr) (c0 : Nat) (cols : List S33) (A1 : Option Addr) (n1 c1 : Nat) (sw : Int) (g B : Nat) (ok : Nat → Prop) (W : World) (at_ : Nat) (out : List Int) (cost : Int) (h : ES A0 cols.length c0 A1 n1 c1 sw g B ok W at_ out cost) (hn : at_ < cols.length) (col : S33) (hcol : cols[at_] = col) (w0 : World) (hW : Below w0.heap.size w0 W) (hC : Kd.C k33 w0 A0 cols.length cols) :
  Calls Tryd.prog 62 #[.pointer (some ⟨g, 0, none⟩)] W fun e W' => (∃ A c, Kd.C (Kd.int .i64) w0 A col.f1.length col.f1 ∧ e = .returned (.tuple #[.agg #[.int .i64 col.f0, .slice A col.f1.length c, .int .i64 col.f2], .bool true])) ∧ Below W.heap.size W W' := by
 obtain ⟨⟨vo, hb0, _⟩, _⟩ := h
 have hgl := blk_lt hb0
 obtain ⟨ad, Ar, cr, e, hx0, hx1, hx2, hxc⟩ := at_T33 hC (at_ : Int) (by omega) (by omega)
 have hr : rd_T33 cols (at_ : Int) = col := by rw [← hcol]; simp [rd_T33, List.getD, hn]
 rw [hr] at hx0 hx1 hx2 hxc
 simp only [Int.toNat_natCast] at hx0 hx1 hx2
 replace hx0 := (hW.cell (World.block_lt_of_cell? w0 _ hx0)).trans hx0
 replace hx1 := (hW.cell (World.block_lt_of_cell? w0 _ hx1)).trans hx1
 replace hx2 := (hW.cell (World.block_lt_of_cell? w0 _ hx2)).trans hx2
 cases e
 have hc0 : W.cell? ⟨g, 0, none⟩ = some (.slice (some ad) cols.length c0) := (blk_cell hb0 0).trans rfl
 have hc3 : W.cell? ⟨g, 3, none⟩ = some (.int .i64 at_) := (blk_cell hb0 3).trans rfl
 have b0 : decide ((cols.length : Int) ≤ (at_ : Int)) = false := decide_eq_false (by omega)
 have b1 : decide (cols.length ≤ at_) = false := decide_eq_false (by omega)
 have q0 := eq_true (show (0 : Int) ≤ (at_ : Int) by omega)
 have q1 := eq_true (show (at_ : Int) < (cols.length : Int) by omega)
 have HX := Aside0.mk hxc
 clear hb0 hn hr hC hxc hcol hW
 go_enter Tryd.func62, Tryd.ntmps62
 go_wp2
 go_quiet (fail)
 go_wp2
 refine start_ (n := 13) (S := fun w' => w'.cell? ⟨g, 0, none⟩ = some (.slice (some ad) cols.length c0) ∧ w'.cell? ⟨g, 3, none⟩ = some (.int .i64 at_) ∧ w'.cell? (ad.add (at_ * 3)) = some (.int .i64 col.f0) ∧ w'.cell? ⟨(ad.add (at_ * 3)).block, (ad.add (at_ * 3)).off + 1, none⟩ = some (.slice Ar col.f1.length cr) ∧ w'.cell? ⟨(ad.add (at_ * 3)).block, (ad.add (at_ * 3)).off + 2, none⟩ = some (.int .i64 col.f2)) (ds := [11]) #[ff,ff,ff,ff,ff,ff,ff,ff,ff,ff,ff,ff,ff] (by kernel_rfl) rfl rfl ⟨(World.cell?_alloc_lt _ _ _ (World.block_lt_of_cell? _ _ (hc0))).trans (hc0), (World.cell?_alloc_lt _ _ _ (World.block_lt_of_cell? _ _ (hc3))).trans (hc3), (World.cell?_alloc_lt _ _ _ (World.block_lt_of_cell? _ _ (hx0))).trans (hx0), (World.cell?_alloc_lt _ _ _ (World.block_lt_of_cell? _ _ (hx1))).trans (hx1), (World.cell?_alloc_lt _ _ _ (World.block_lt_of_cell? _ _ (hx2))).trans (hx2)⟩ (fun hHeld => ?_)
 refine pv 0 16 ?_
 refine pv 1 17 ?_
 refine pv 2 18 ?_
 refine pv 3 19 ?_
 refine pv 5 21 ?_
 refine pv 6 22 ?_
 refine pv 7 23 ?_
 refine tv 4 20 hHeld ?_
 refine tv 8 24 hHeld ?_
 refine pv 9 25 ?_
 refine tv 10 26 hHeld ?_
 refine last_ (i := 11) (N := none) #[tt,tt,tt,tt,tt,tt,tt,tt,tt,tt,tt,tt,ff] rfl rfl (by kernel_rfl) (by decide) (fun K hK => ?_)
 refine skip_ (w1 := ?_) (by rfl) rfl ?_ ?_
 rotate_left
 ·
  go_simp
  rfl
 refine hK.out _ _ ?_
 clear hK K
 refine pv 12 3 ?_
 refine done_ (by kernel_rfl) ?_
 go_wp2
 refine bodyPost_ret (results_ct rfl _ _ W.heap.size 33 #[.int .i64 col.f0, .slice Ar col.f1.length cr, .int .i64 col.f2] (0, 0) _ rfl (box3 (blk_drewN (blk_new W _) _) _ _ _) Tryd.underlying33 rfl (by kernel_rfl)) rfl ?_
 exact ⟨⟨Ar, cr, HX.out.2, rfl⟩, Below.setCell (Below.setCell (Below.setCell (pw_below_drewN (below_alloc (Below.refl _ _) _) _) (Nat.le_refl _) _) (Nat.le_refl _) _) (Nat.le_refl _) _⟩
end Go.Proofs.YtnddijafdphbnaaDoor.All
end
