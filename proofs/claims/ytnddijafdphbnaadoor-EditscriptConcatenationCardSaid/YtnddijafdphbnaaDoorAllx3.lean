/- Some texts, one behind the other. -/
import Derived.Test.YtnddijafdphbnaaDoorAllSt
import Derived.Test.YtnddijafdphbnaaDoorAllAct
import Derived.Test.YtnddijafdphbnaaDoorRows
import Derived.WalkKit
import Derived.ProofKit
import Derived.OpenShut
import Derived.ShutString
import Derived.ChangeOld
import Derived.Below
import Derived.SizedLaws
import Derived.LaidMore
import Derived.Stop.Joined
import Derived.Deep.Slices
import Derived.Deep.Strs
import Derived.Lib.SmallJoins
section
/- Two tokens that may be exchanged. -/
namespace Go.Proofs.YtnddijafdphbnaaDoor.All
open Go.RowKit Go.Proofs.YtnddijafdphbnaaDoorW.PrintWords Go.Proofs.YtnddijafdphbnaaDoorW.PrintLast Go.Proofs.YtnddijafdphbnaaDoorW.PrintMore
set_option linter.unusedVariables false
set_option linter.unusedSimpArgs false
def swp (cols : List S33) (sw : Int) (a : Nat) : Prop := 0 < sw ∧ a + 1 < cols.length ∧ 0 ≤ (rd_T33 cols (a : Int)).f0 ∧ 0 ≤ (rd_T33 cols ((a : Int) + 1)).f0
instance (cols : List S33) (sw : Int) (a : Nat) : Decidable (swp cols sw a) := by unfold swp; infer_instance
variable {cols : List S33} {ins : List Int} {sw : Int}
theorem rd_at {l : List S33} {a : Nat} (h : a < l.length) : l[a] = rd_T33 l (a : Int) := by simp [rd_T33, List.getD, h]

theorem swp_iff (hl : cols.length ≤ 1000000) (a : Nat) (ha : a ≤ cols.length) : editscript_swappable.f cols ins sw a = some (decide (swp cols sw a)) := by
 have hw : wrap64 ((a : Int) + 1) = (a : Int) + 1 := by unfold wrap64; omega
 unfold editscript_swappable.f swp
 rw [hw]
 by_cases h1 : 0 < sw
 ·
  by_cases h2 : a + 1 < cols.length
  ·
   rw [if_pos (by omega), if_pos (by omega), if_pos (by omega), if_pos (by omega)]
   by_cases h3 : 0 ≤ (rd_T33 cols (a : Int)).f0
   ·
    rw [if_pos (by omega), if_pos (by omega)]
    simp [h1, h2, h3]
   ·
    rw [if_neg (by omega)]
    simp [h1, h2, h3]
  ·
   rw [if_pos (by omega), if_neg (by omega)]
   simp [h2]
 ·
  rw [if_neg (by omega)]
  simp [h1]

end Go.Proofs.YtnddijafdphbnaaDoor.All
end
section
/- What a script does: the plain fold. -/
namespace Go.Proofs.YtnddijafdphbnaaDoor.All
open Go.RowKit Go.Proofs.YtnddijafdphbnaaDoorW.PrintWords Go.Proofs.YtnddijafdphbnaaDoorW.PrintLast Go.Proofs.YtnddijafdphbnaaDoorW.PrintMore
set_option linter.unusedVariables false
set_option linter.unusedSimpArgs false

/-- The state of a script: tokens consumed, terminals emitted, the cost. -/
abbrev RS := Nat × List Int × Int
/-- One operation; none: it is not valid here. -/
def actE (cols : List S33) (ins : List Int) (sw : Int) (k t : Int) (s : RS) : Option RS :=
 if k = 1 then (if s.1 < cols.length ∧ 0 ≤ t ∧ t < ((rd_T33 cols (s.1 : Int)).f1.length : Int) ∧ 0 ≤ rd (rd_T33 cols (s.1 : Int)).f1 t then some (s.1 + 1, s.2.1 ++ [t], addE s.2.2 (rd (rd_T33 cols (s.1 : Int)).f1 t)) else none)
 else if k = 2 then (if s.1 < cols.length ∧ t = 0 ∧ (rd_T33 cols (s.1 : Int)).f2 < 1099511627776 then some (s.1 + 1, s.2.1, addE s.2.2 (rd_T33 cols (s.1 : Int)).f2) else none)
 else if k = 3 then (if 0 ≤ t ∧ t < (ins.length : Int) then some (s.1, s.2.1 ++ [t], addE s.2.2 (rd ins t)) else none)
 else if k = 4 then (if t = 0 ∧ swp cols sw s.1 then some (s.1 + 2, s.2.1 ++ [(rd_T33 cols ((s.1 : Int) + 1)).f0, (rd_T33 cols (s.1 : Int)).f0], addE s.2.2 sw) else none)
 else none
def runAll (cols : List S33) (ins : List Int) (sw : Int) : List S49 → RS → Option RS
 | [], s => some s
 | o :: l, s => (actE cols ins sw o.f0 o.f1 s).bind (runAll cols ins sw l)
/-- What a script emits, and what it costs; none: it is not valid. -/
def runE (cols : List S33) (ins : List Int) (sw : Int) (l : List S49) : Option (List Int × Int) :=
 (runAll cols ins sw l (0, [], 0)).bind fun s => if s.1 = cols.length then some s.2 else none
theorem runAll_snoc (cols : List S33) (ins : List Int) (sw : Int) (o : S49) : ∀ (l : List S49) (s : RS), runAll cols ins sw (l ++ [o]) s = (runAll cols ins sw l s).bind (actE cols ins sw o.f0 o.f1)
 | [], s => by simp [runAll]
 | a :: l, s => by
  simp only [List.cons_append, runAll]
  cases actE cols ins sw a.f0 a.f1 s with
  | none => rfl
  | some s' => exact runAll_snoc cols ins sw o l s'
theorem runAll_append (cols : List S33) (ins : List Int) (sw : Int) (m : List S49) : ∀ (l : List S49) (s : RS), runAll cols ins sw (l ++ m) s = (runAll cols ins sw l s).bind (runAll cols ins sw m)
 | [], s => by simp [runAll]
 | a :: l, s => by
  simp only [List.cons_append, runAll]
  cases actE cols ins sw a.f0 a.f1 s with
  | none => rfl
  | some s' => exact runAll_append cols ins sw m l s'
theorem actE_len {cols : List S33} {ins : List Int} {sw k t : Int} {s s' : RS} (h : actE cols ins sw k t s = some s') : s'.2.1.length ≤ s.2.1.length + 2 ∧ (s.1 ≤ cols.length → s'.1 ≤ cols.length) := by
 unfold actE at h
 split at h
 ·
  split at h
  ·
   cases h
   simp
   omega
  ·
   cases h
 split at h
 ·
  split at h
  ·
   cases h
   simp
   omega
  ·
   cases h
 split at h
 ·
  split at h
  ·
   cases h
   simp
  ·
   cases h
 split at h
 ·
  split at h
  ·
   rename_i hs
   cases h
   have := hs.2.2.1
   simp
   omega
  ·
   cases h
 ·
  cases h
theorem runAll_len {cols : List S33} {ins : List Int} {sw : Int} : ∀ {l : List S49} {s s' : RS}, runAll cols ins sw l s = some s' → s'.2.1.length ≤ s.2.1.length + 2 * l.length ∧ (s.1 ≤ cols.length → s'.1 ≤ cols.length)
 | [], s, s', h => by simp only [runAll, Option.some.injEq] at h; subst h; exact ⟨by simp, id⟩
 | o :: l, s, s', h => by
  simp only [runAll] at h
  cases ha : actE cols ins sw o.f0 o.f1 s with
  | none => rw [ha] at h; cases h
  | some s1 =>
   rw [ha] at h
   have h1 := actE_len ha
   have h2 := runAll_len h
   simp only [List.length_cons]
   exact ⟨by omega, fun h => h2.2 (h1.2 h)⟩
theorem runAll_take {cols : List S33} {ins : List Int} {sw : Int} {l : List S49} {i : Nat} (hi : i < l.length) {s : RS} : runAll cols ins sw (l.take (i + 1)) s = (runAll cols ins sw (l.take i) s).bind (actE cols ins sw (l[i]).f0 (l[i]).f1) := by
 rw [List.take_succ_eq_append_getElem hi, runAll_snoc]
/-- A prefix that fails fails the script. -/
theorem runE_none {cols : List S33} {ins : List Int} {sw : Int} {l : List S49} {i : Nat} (h : runAll cols ins sw (l.take i) (0, [], 0) = none) : runE cols ins sw l = none := by
 unfold runE
 rw [← List.take_append_drop i l, runAll_append, h]
 rfl

/-- The package's variable: the actions of the four kinds of operation. -/
def VarOk (w : World) : Prop := w.cell? ⟨0, 1, none⟩ = some (.func (.func 58) #[] #[]) ∧ w.cell? ⟨0, 2, none⟩ = some (.func (.func 59) #[] #[]) ∧ w.cell? ⟨0, 3, none⟩ = some (.func (.func 60) #[] #[]) ∧ w.cell? ⟨0, 4, none⟩ = some (.func (.func 61) #[] #[])
theorem VarOk.below {B : Nat} {w W : World} (h : VarOk w) (hb : Below B w W) (hB : B = w.heap.size) : VarOk W := by
 subst hB
 obtain ⟨h1, h2, h3, h4⟩ := h
 exact ⟨(hb.cell (World.block_lt_of_cell? w _ h1)).trans h1, (hb.cell (World.block_lt_of_cell? w _ h2)).trans h2, (hb.cell (World.block_lt_of_cell? w _ h3)).trans h3, (hb.cell (World.block_lt_of_cell? w _ h4)).trans h4⟩

/-- A call of a function that lies in a slot. -/
theorem goesV_ {P : Program} {ops : Array Oper} {Q : Exit → Act → World → Prop} {oi : Oper} {N : Option Tmp} {a : Act} {w : World} {K : Act → World → Prop} {f : FuncId} {fn : Func} {o : Operand} {az : Array Operand} {ts : Array TypeId} (hf : P.funcs[f]? = some fn) (hname : (fn.name == "runtime.NumGoroutine") = false) (hb : fn.body.isSome = true) (args : Array Value)
  (hw : Region.wanted oi (yielded ops a.tmps) = true) (hN : oi.dst = N) (hop : oi.op = .call { callee := .value o, args := az, argTypes := ts }) (hv : a.eval o = .func (.func f) #[] #[]) (hargs : az.map a.eval = args)
  (h : Calls P f args w fun e w' => ∃ v, e = .returned v ∧ K (a.put N v) w') : if Region.wanted oi (yielded ops a.tmps) = true then Oper.wp P oi a w K Q else K (a.put N undef) w := by
 refine call_ f args hw hN ?_ h
 have he := enters_ hf hname hb args w
 unfold execOp
 simp [hop, resolve, Deferred.ofValue, invoke, hv, hargs, he]

section
variable (A0 : Option Addr) (c0 : Nat) (cols : List S33) (A1 : Option Addr) (c1 : Nat) (ins : List Int) (sw : Int) (g : Nat) (ok : Nat → Prop) (w0 : World)
/-- What an action comes to. -/
def ActPost (k t : Int) (s : RS) (W : World) (e : Ending) (W' : World) : Prop :=
 ∃ b : Bool, e = .returned (.bool b) ∧ (b = false → actE cols ins sw k t s = none ∧ Below W.heap.size W W') ∧ (b = true → ∃ s' : RS, actE cols ins sw k t s = some s' ∧ ES A0 cols.length c0 A1 ins.length c1 sw g w0.heap.size ok W' (s'.1 : Int) s'.2.1 s'.2.2 ∧ Fr g w0.heap.size ok W W')
end
variable {A0 : Option Addr} {c0 : Nat} {cols : List S33} {A1 : Option Addr} {c1 : Nat} {ins : List Int} {sw : Int} {g : Nat} {ok : Nat → Prop} {w0 : World}
theorem post_no {k t : Int} {s : RS} {W : World} {e : Ending} {W' : World} (hf : actE cols ins sw k t s = none) (h : e = .returned (.bool false) ∧ Below W.heap.size W W') : ActPost A0 c0 cols A1 c1 ins sw g ok w0 k t s W e W' :=
 ⟨false, h.1, fun _ => ⟨hf, h.2⟩, fun hh => nomatch hh⟩
theorem post_yes {k t : Int} {s : RS} {W : World} {e : Ending} {W' : World} {a : Int} {out : List Int} {c : Int} {s' : RS} (hf : actE cols ins sw k t s = some s') (h1 : (s'.1 : Int) = a) (h2 : s'.2.1 = out) (h3 : s'.2.2 = c) (h : e = .returned (.bool true) ∧ ES A0 cols.length c0 A1 ins.length c1 sw g w0.heap.size ok W' a out c ∧ Fr g w0.heap.size ok W W') : ActPost A0 c0 cols A1 c1 ins sw g ok w0 k t s W e W' :=
 ⟨true, h.1, (fun hh => nomatch hh), fun _ => ⟨s', hf, by rw [h1, h2, h3]; exact h.2.1, h.2.2⟩⟩
theorem act_read (W : World) (s : RS) (t : Int) (h : ES A0 cols.length c0 A1 ins.length c1 sw g w0.heap.size ok W (s.1 : Int) s.2.1 s.2.2) (hB : w0.heap.size ≤ g) (hn : s.2.1.length < 1000000) (hl : cols.length ≤ 1000000) (hil : ins.length ≤ 1000000) (hW : Below w0.heap.size w0 W) (hC : Kd.C k33 w0 A0 cols.length cols) (hI : Kd.C (Kd.int .i64) w0 A1 ins.length ins) :
  Calls Tryd.prog 58 #[.pointer (some ⟨g, 0, none⟩), .int .i64 t] W (ActPost A0 c0 cols A1 c1 ins sw g ok w0 1 t s W) := by
 by_cases he : s.1 < cols.length
 ·
  have hc : Aside0 (cols[s.1] = rd_T33 cols (s.1 : Int)) := ⟨rd_at he⟩
  by_cases h0 : 0 ≤ t
  ·
   by_cases h1 : t < ((rd_T33 cols (s.1 : Int)).f1.length : Int)
   ·
    by_cases h2 : 0 ≤ rd (rd_T33 cols (s.1 : Int)).f1 t
    ·
     refine (read_yes A0 c0 cols A1 c1 ins sw g ok w0 W s.1 s.2.1 s.2.2 t h hB hn hl hil hW hC hI he _ hc h0 h1 h2).mono fun e W' hp => ?_
     exact post_yes (s' := (s.1 + 1, s.2.1 ++ [t], addE s.2.2 (rd (rd_T33 cols (s.1 : Int)).f1 t))) (by unfold actE; rw [if_pos rfl, if_pos ⟨he, h0, h1, h2⟩]) (by simp) rfl rfl hp
    ·
     refine (read_neg2 A0 c0 cols A1 c1 ins sw g ok w0 W s.1 s.2.1 s.2.2 t h hB hn hl hil hW hC hI he _ hc h0 h1 (by omega)).mono fun e W' hp => ?_
     exact post_no (by unfold actE; rw [if_pos rfl, if_neg (fun hh => h2 hh.2.2.2)]) hp
   ·
    refine (read_big A0 c0 cols A1 c1 ins sw g ok w0 W s.1 s.2.1 s.2.2 t h hB hn hl hil hW hC hI he _ hc h0 (by omega)).mono fun e W' hp => ?_
    exact post_no (by unfold actE; rw [if_pos rfl, if_neg (fun hh => h1 hh.2.2.1)]) hp
  ·
   refine (read_neg A0 c0 cols A1 c1 ins sw g ok w0 W s.1 s.2.1 s.2.2 t h hB hn hl hil hW hC hI he _ hc (by omega)).mono fun e W' hp => ?_
   exact post_no (by unfold actE; rw [if_pos rfl, if_neg (fun hh => h0 hh.2.1)]) hp
 ·
  refine (read_end A0 c0 cols A1 c1 ins sw g ok w0 W s.1 s.2.1 s.2.2 t h hB hn hl hil hW hC hI (by omega)).mono fun e W' hp => ?_
  exact post_no (by unfold actE; rw [if_pos rfl, if_neg (fun hh => he hh.1)]) hp
theorem act_remove (W : World) (s : RS) (t : Int) (h : ES A0 cols.length c0 A1 ins.length c1 sw g w0.heap.size ok W (s.1 : Int) s.2.1 s.2.2) (hB : w0.heap.size ≤ g) (hn : s.2.1.length < 1000000) (hl : cols.length ≤ 1000000) (hil : ins.length ≤ 1000000) (hW : Below w0.heap.size w0 W) (hC : Kd.C k33 w0 A0 cols.length cols) (hI : Kd.C (Kd.int .i64) w0 A1 ins.length ins) :
  Calls Tryd.prog 59 #[.pointer (some ⟨g, 0, none⟩), .int .i64 t] W (ActPost A0 c0 cols A1 c1 ins sw g ok w0 2 t s W) := by
 by_cases he : s.1 < cols.length
 ·
  have hc : Aside0 (cols[s.1] = rd_T33 cols (s.1 : Int)) := ⟨rd_at he⟩
  by_cases h0 : t = 0
  ·
   by_cases h1 : (rd_T33 cols (s.1 : Int)).f2 < 1099511627776
   ·
    refine (remove_yes A0 c0 cols A1 c1 ins sw g ok w0 W s.1 s.2.1 s.2.2 t h hB hn hl hil hW hC hI he _ hc h0 h1).mono fun e W' hp => ?_
    exact post_yes (s' := (s.1 + 1, s.2.1, addE s.2.2 (rd_T33 cols (s.1 : Int)).f2)) (by unfold actE; rw [if_neg (by decide), if_pos rfl, if_pos ⟨he, h0, h1⟩]) (by simp) rfl rfl hp
   ·
    refine (remove_inf A0 c0 cols A1 c1 ins sw g ok w0 W s.1 s.2.1 s.2.2 t h hB hn hl hil hW hC hI he _ hc h0 (by omega)).mono fun e W' hp => ?_
    exact post_no (by unfold actE; rw [if_neg (by decide), if_pos rfl, if_neg (fun hh => h1 hh.2.2)]) hp
  ·
   refine (remove_t A0 c0 cols A1 c1 ins sw g ok w0 W s.1 s.2.1 s.2.2 t h hB hn hl hil hW hC hI he _ hc h0).mono fun e W' hp => ?_
   exact post_no (by unfold actE; rw [if_neg (by decide), if_pos rfl, if_neg (fun hh => h0 hh.2.1)]) hp
 ·
  refine (remove_end A0 c0 cols A1 c1 ins sw g ok w0 W s.1 s.2.1 s.2.2 t h hB hn hl hil hW hC hI (by omega)).mono fun e W' hp => ?_
  exact post_no (by unfold actE; rw [if_neg (by decide), if_pos rfl, if_neg (fun hh => he hh.1)]) hp
theorem act_insert (W : World) (s : RS) (t : Int) (h : ES A0 cols.length c0 A1 ins.length c1 sw g w0.heap.size ok W (s.1 : Int) s.2.1 s.2.2) (hB : w0.heap.size ≤ g) (hn : s.2.1.length < 1000000) (hl : cols.length ≤ 1000000) (hil : ins.length ≤ 1000000) (hW : Below w0.heap.size w0 W) (hC : Kd.C k33 w0 A0 cols.length cols) (hI : Kd.C (Kd.int .i64) w0 A1 ins.length ins) :
  Calls Tryd.prog 60 #[.pointer (some ⟨g, 0, none⟩), .int .i64 t] W (ActPost A0 c0 cols A1 c1 ins sw g ok w0 3 t s W) := by
 by_cases h0 : 0 ≤ t
 ·
  by_cases h1 : t < (ins.length : Int)
  ·
   refine (insert_yes A0 c0 cols A1 c1 ins sw g ok w0 W s.1 s.2.1 s.2.2 t h hB hn hl hil hW hC hI h0 h1).mono fun e W' hp => ?_
   exact post_yes (s' := (s.1, s.2.1 ++ [t], addE s.2.2 (rd ins t))) (by unfold actE; rw [if_neg (by decide), if_neg (by decide), if_pos rfl, if_pos ⟨h0, h1⟩]) rfl rfl rfl hp
  ·
   refine (insert_big A0 c0 cols A1 c1 ins sw g ok w0 W s.1 s.2.1 s.2.2 t h hB hn hl hil hW hC hI h0 (by omega)).mono fun e W' hp => ?_
   exact post_no (by unfold actE; rw [if_neg (by decide), if_neg (by decide), if_pos rfl, if_neg (fun hh => h1 hh.2)]) hp
 ·
  refine (insert_neg A0 c0 cols A1 c1 ins sw g ok w0 W s.1 s.2.1 s.2.2 t h hB hn hl hil hW hC hI (by omega)).mono fun e W' hp => ?_
  exact post_no (by unfold actE; rw [if_neg (by decide), if_neg (by decide), if_pos rfl, if_neg (fun hh => h0 hh.1)]) hp
theorem act_swap (W : World) (s : RS) (t : Int) (h : ES A0 cols.length c0 A1 ins.length c1 sw g w0.heap.size ok W (s.1 : Int) s.2.1 s.2.2) (hB : w0.heap.size ≤ g) (hn : s.2.1.length < 1000000) (hl : cols.length ≤ 1000000) (hil : ins.length ≤ 1000000) (hW : Below w0.heap.size w0 W) (hC : Kd.C k33 w0 A0 cols.length cols) (hI : Kd.C (Kd.int .i64) w0 A1 ins.length ins) (hcc0 : cols.length ≤ c0) (hcc1 : ins.length ≤ c1) (ha : s.1 ≤ cols.length) :
  Calls Tryd.prog 61 #[.pointer (some ⟨g, 0, none⟩), .int .i64 t] W (ActPost A0 c0 cols A1 c1 ins sw g ok w0 4 t s W) := by
 by_cases h0 : t = 0
 ·
  have hs := swp_iff (ins := ins) (sw := sw) hl s.1 ha
  by_cases h1 : swp cols sw s.1
  ·
   rw [decide_eq_true h1] at hs
   refine (swap_yes A0 c0 cols A1 c1 ins sw g ok w0 W s.1 s.2.1 s.2.2 t h hB hn hl hil hW hC hI hcc0 hcc1 h0 hs h1.2.1).mono fun e W' hp => ?_
   exact post_yes (s' := (s.1 + 2, s.2.1 ++ [(rd_T33 cols ((s.1 : Int) + 1)).f0, (rd_T33 cols (s.1 : Int)).f0], addE s.2.2 sw)) (by unfold actE; rw [if_neg (by decide), if_neg (by decide), if_neg (by decide), if_pos rfl, if_pos ⟨h0, h1⟩]) (by simp) rfl rfl hp
  ·
   rw [decide_eq_false h1] at hs
   refine (swap_no A0 c0 cols A1 c1 ins sw g ok w0 W s.1 s.2.1 s.2.2 t h hB hn hl hil hW hC hI hcc0 hcc1 h0 hs).mono fun e W' hp => ?_
   exact post_no (by unfold actE; rw [if_neg (by decide), if_neg (by decide), if_neg (by decide), if_pos rfl, if_neg (fun hh => h1 hh.2)]) hp
 ·
  refine (swap_t A0 c0 cols A1 c1 ins sw g ok w0 W s.1 s.2.1 s.2.2 t h hB hn hl hil hW hC hI h0).mono fun e W' hp => ?_
  exact post_no (by unfold actE; rw [if_neg (by decide), if_neg (by decide), if_neg (by decide), if_pos rfl, if_neg (fun hh => h0 hh.1)]) hp
/-- The action that lies at a kind's place. -/
theorem act_fn (w : World) (hv : VarOk w) (k : Int) (h0 : 1 ≤ k) (h1 : k ≤ 4) : ∃ f fn, w.cell? ⟨0, k.toNat, none⟩ = some (.func (.func f) #[] #[]) ∧ Tryd.prog.funcs[f]? = some fn ∧ (fn.name == "runtime.NumGoroutine") = false ∧ fn.body.isSome = true ∧
  ∀ (A0 : Option Addr) (c0 : Nat) (cols : List S33) (A1 : Option Addr) (c1 : Nat) (ins : List Int) (sw : Int) (g : Nat) (ok : Nat → Prop) (w0 W : World) (s : RS) (t : Int), ES A0 cols.length c0 A1 ins.length c1 sw g w0.heap.size ok W (s.1 : Int) s.2.1 s.2.2 → w0.heap.size ≤ g → s.2.1.length < 1000000 → cols.length ≤ 1000000 → ins.length ≤ 1000000 → Below w0.heap.size w0 W → Kd.C k33 w0 A0 cols.length cols → Kd.C (Kd.int .i64) w0 A1 ins.length ins → cols.length ≤ c0 → ins.length ≤ c1 → s.1 ≤ cols.length →
   Calls Tryd.prog f #[.pointer (some ⟨g, 0, none⟩), .int .i64 t] W (ActPost A0 c0 cols A1 c1 ins sw g ok w0 k t s W) := by
 obtain ⟨v1, v2, v3, v4⟩ := hv
 have hk : k = 1 ∨ k = 2 ∨ k = 3 ∨ k = 4 := by omega
 rcases hk with rfl | rfl | rfl | rfl
 ·
  exact ⟨58, Tryd.f58, v1, Tryd.func58, by kernel_rfl, rfl, fun A0 c0 cols A1 c1 ins sw g ok w0 W s t h hB hn hl hil hW hC hI _ _ _ => act_read W s t h hB hn hl hil hW hC hI⟩
 ·
  exact ⟨59, Tryd.f59, v2, Tryd.func59, by kernel_rfl, rfl, fun A0 c0 cols A1 c1 ins sw g ok w0 W s t h hB hn hl hil hW hC hI _ _ _ => act_remove W s t h hB hn hl hil hW hC hI⟩
 ·
  exact ⟨60, Tryd.f60, v3, Tryd.func60, by kernel_rfl, rfl, fun A0 c0 cols A1 c1 ins sw g ok w0 W s t h hB hn hl hil hW hC hI _ _ _ => act_insert W s t h hB hn hl hil hW hC hI⟩
 ·
  exact ⟨61, Tryd.f61, v4, Tryd.func61, by kernel_rfl, rfl, fun A0 c0 cols A1 c1 ins sw g ok w0 W s t h hB hn hl hil hW hC hI h2 h3 h4 => act_swap W s t h hB hn hl hil hW hC hI h2 h3 h4⟩
end Go.Proofs.YtnddijafdphbnaaDoor.All
end
section
/- The arguments of this seat's laws, opened: an input, lists of numbers and of operations; what the listed variable holds. -/
namespace Go.Proofs.YtnddijafdphbnaaDoor.All
open Go.ChangeShapes Go.WideShapes Go.ChangeAt Go.RowKit Go.Deep Go.Joins
open Go.ChangeMaps (open_string shut_string)
open Go.Proofs.YtnddijafdphbnaaDoorW.PrintWords Go.Proofs.YtnddijafdphbnaaDoorW.PrintLast Go.Proofs.YtnddijafdphbnaaDoorW.PrintMore
set_option linter.unusedVariables false

theorem own : ownKnob Tryd.prog.godebug = none := by kernel_rfl
theorem laidOut : laidOutB Tryd.prog = true := by kernel_rfl
instance : Inhabited S33 := ⟨z33⟩
instance : Inhabited S49 := ⟨z49⟩

/-- Each number is of its kind. -/
def WfI (n : Int) : Prop := (Lit.int .i64 n).wf = true
def WfC (t : S33) : Prop := WfI t.f0 ∧ (∀ n ∈ t.f1, WfI n) ∧ WfI t.f2
def WfO (t : S49) : Prop := WfI t.f0 ∧ WfI t.f1

theorem cells33 : Tryd.prog.cellsOf 33 = 3 := by kernel_rfl
theorem cells3 : Tryd.prog.cellsOf 3 = 1 := by kernel_rfl
theorem cells23 : Tryd.prog.cellsOf 23 = 1 := by kernel_rfl
theorem cells49 : Tryd.prog.cellsOf 49 = 2 := by kernel_rfl
theorem cells25 : Tryd.prog.cellsOf 25 = 3 := by kernel_rfl
theorem cells26 : Tryd.prog.cellsOf 26 = 2 := by kernel_rfl
theorem cells67 : Tryd.prog.cellsOf 67 = 1 := by kernel_rfl
theorem cells68 : Tryd.prog.cellsOf 68 = 5 := by kernel_rfl

theorem list2 {α : Type} {l : List α} (h : l.length = 2) : ∃ a b, l = [a, b] := by
 match l, h with
 | [a, b], _ => exact ⟨a, b, rfl⟩
theorem list3 {α : Type} {l : List α} (h : l.length = 3) : ∃ a b c, l = [a, b, c] := by
 match l, h with
 | [a, b, c], _ => exact ⟨a, b, c, rfl⟩
theorem list5 {α : Type} {l : List α} (h : l.length = 5) : ∃ a b c d e, l = [a, b, c, d, e] := by
 match l, h with
 | [a, b, c, d, e], _ => exact ⟨a, b, c, d, e, rfl⟩

section
variable {H : Type} {enc : TypeId × Value → H} {w : World} {spare : Nat → Bool} {held : Bool}

theorem open_num {fuel : Nat} {cs : List Value} {x : DataW H × List MemPlace} (h : DataW.trod enc Tryd.prog w 0 spare held fuel 3 cs = some x) : ∃ n : Int, (Kd.int .i64).K w n cs ∧ WfI n := by
 obtain ⟨n, e, _, hw⟩ := DataW.trod_int Tryd.underlying3 h
 exact ⟨n, e, hw⟩

/-- A slice, its elements opened one by one. -/
theorem open_list {α : Type} [Inhabited α] {d : Kd α} {Wf : α → Prop} {t e : TypeId} (ht : Tryd.prog.underlying t = some (.slice e)) (hc : Tryd.prog.cellsOf e = d.sz)
  (hel : ∀ {fuel : Nat} {cs : List Value} {x : DataW H × List MemPlace}, DataW.trod enc Tryd.prog w 0 (fun _ => true) held fuel e cs = some x → ∃ a, d.K w a cs ∧ Wf a)
  {fuel : Nat} {a : Option Addr} {len cap : Nat} {x : DataW H × List MemPlace} (h : DataW.trod enc Tryd.prog w 0 (fun _ => true) held fuel t [.slice a len cap] = some x) :
  ∃ l : List α, len = l.length ∧ l.length ≤ cap ∧ Kd.C d w a l.length l ∧ ∀ t ∈ l, Wf t := by
 rcases open_slice ht h with ⟨hcs, _⟩ | ⟨ad, len', cap', m, n, D, Pl, hcs, _, hl, hm, hmm, _, hx⟩
 ·
  simp only [List.cons.injEq, and_true, Value.slice.injEq] at hcs
  obtain ⟨rfl, rfl, rfl⟩ := hcs
  exact ⟨[], rfl, Nat.le_refl _, Kd.C_nil _ _, fun t ht => by cases ht⟩
 ·
  simp only [List.cons.injEq, and_true, Value.slice.injEq] at hcs
  obtain ⟨rfl, rfl, rfl⟩ := hcs
  have hmc : m = cap := by simpa using hmm
  obtain ⟨f, hfx⟩ := choose_lt (α := α) (n := len) (p := fun i t => ∃ c : List Value, c.length = d.sz ∧ (d.K w t c ∧ Wf t) ∧ ∀ j u, c[j]? = some u → w.cell? (ad.add (i * d.sz + j)) = some u) (fun i hi => by
   obtain ⟨cs', h1, h2⟩ := hx i (by omega)
   rw [hc] at h1
   obtain ⟨t, hK, hW⟩ := hel h2
   obtain ⟨_, hlen, hcell⟩ := World.cells?_some h1
   refine ⟨t, cs', hlen, ⟨hK, hW⟩, fun j u hj => ?_⟩
   have h5 : j < cs'.length := (List.getElem?_eq_some_iff.1 hj).1
   have := hcell j (by omega)
   rw [Go.Deep.add_add] at this
   rw [this]
   exact hj)
  refine ⟨(List.range len).map f, by simp, by simpa using hl, ⟨rfl, ?_, fun hn => ⟨ad, rfl, fun j p hj => ?_⟩⟩, fun t ht => ?_⟩
  ·
   have h1 : ((List.range len).map f).length = len := by simp
   rw [h1]
   unfold maxLen at hm
   omega
  ·
   obtain ⟨hj1, hj2⟩ := List.getElem?_eq_some_iff.1 hj
   have hj3 : j < len := by simpa using hj1
   simp at hj2
   subst hj2
   obtain ⟨c, h1, ⟨h2, _⟩, h3⟩ := hfx j hj3
   exact ⟨c, h1, h2, h3⟩
  ·
   obtain ⟨i, hi, rfl⟩ := List.mem_map.1 ht
   obtain ⟨c, _, ⟨_, h2⟩, _⟩ := hfx i (by simpa using hi)
   exact h2

theorem slice_form {t e : TypeId} (ht : Tryd.prog.underlying t = some (.slice e)) {fuel : Nat} {c0 : Value} {x : DataW H × List MemPlace} (h : DataW.trod enc Tryd.prog w 0 (fun _ => true) held fuel t [c0] = some x) : ∃ A len cap, c0 = .slice A len cap := by
 rcases DataW.trod_slice ht h with ⟨e, _⟩ | ⟨a, len, cap, _, _, _, _, e, _⟩
 ·
  exact ⟨none, 0, 0, by simpa using e⟩
 ·
  exact ⟨some a, len, cap, by simpa using e⟩

theorem open_ints {fuel : Nat} {c0 : Value} {x : DataW H × List MemPlace} (h : DataW.trod enc Tryd.prog w 0 (fun _ => true) held fuel 23 [c0] = some x) :
  ∃ (A : Option Addr) (cap : Nat) (l : List Int), c0 = .slice A l.length cap ∧ l.length ≤ cap ∧ Kd.C (Kd.int .i64) w A l.length l ∧ ∀ t ∈ l, WfI t := by
 obtain ⟨A, len, cap, rfl⟩ := slice_form Tryd.underlying23 h
 obtain ⟨l, rfl, h1, h2, h3⟩ := open_list (d := Kd.int .i64) (Wf := WfI) Tryd.underlying23 cells3 (fun h => open_num h) h
 exact ⟨A, cap, l, rfl, h1, h2, h3⟩

theorem open_col {fuel : Nat} {cs : List Value} {x : DataW H × List MemPlace} (h : DataW.trod enc Tryd.prog w 0 (fun _ => true) held fuel 33 cs = some x) : ∃ t : S33, k33.K w t cs ∧ WfC t := by
 obtain ⟨xs, n, _, _, hl, hxl, hf⟩ := DataW.trod_struct Tryd.underlying33 h
 rw [cells33] at hl
 obtain ⟨a, b, c, rfl⟩ := list3 hl
 have h0 : DataW.trod enc Tryd.prog w 0 (fun _ => true) held n 3 [a] = xs[0]? := by
  have z : DataW.trod enc Tryd.prog w 0 (fun _ => true) held n 3 ((([a, b, c] : List Value).drop 0).take (Tryd.prog.cellsOf 3)) = xs[0]? := hf 0 _ rfl
  rw [cells3] at z
  exact z
 have h1 : DataW.trod enc Tryd.prog w 0 (fun _ => true) held n 23 [b] = xs[1]? := by
  have z : DataW.trod enc Tryd.prog w 0 (fun _ => true) held n 23 ((([a, b, c] : List Value).drop 1).take (Tryd.prog.cellsOf 23)) = xs[1]? := hf 1 _ rfl
  rw [cells23] at z
  exact z
 have h2 : DataW.trod enc Tryd.prog w 0 (fun _ => true) held n 3 [c] = xs[2]? := by
  have z : DataW.trod enc Tryd.prog w 0 (fun _ => true) held n 3 ((([a, b, c] : List Value).drop 2).take (Tryd.prog.cellsOf 3)) = xs[2]? := hf 2 _ rfl
  rw [cells3] at z
  exact z
 have g : ∀ (i : Nat) {t : TypeId} {c : List Value}, DataW.trod enc Tryd.prog w 0 (fun _ => true) held n t c = xs[i]? → i < xs.length → ∃ y, DataW.trod enc Tryd.prog w 0 (fun _ => true) held n t c = some y := fun i {t c} hh hi => ⟨xs[i], by rw [hh, List.getElem?_eq_getElem hi]⟩
 have hx3 : xs.length = 3 := hxl
 obtain ⟨y0, h0⟩ := g 0 h0 (by omega)
 obtain ⟨y1, h1⟩ := g 1 h1 (by omega)
 obtain ⟨y2, h2⟩ := g 2 h2 (by omega)
 obtain ⟨n0, e0, _, w0⟩ := DataW.trod_int Tryd.underlying3 h0
 obtain ⟨A, cap, l, rfl, hcap, hC, hwf⟩ := open_ints h1
 obtain ⟨n2, e2, _, w2⟩ := DataW.trod_int Tryd.underlying3 h2
 simp only [List.cons.injEq, and_true] at e0 e2
 subst e0 e2
 exact ⟨⟨n0, l, n2⟩, k33_mk w ⟨n0, l, n2⟩ hcap hC, w0, hwf, w2⟩
theorem open_op {fuel : Nat} {cs : List Value} {x : DataW H × List MemPlace} (h : DataW.trod enc Tryd.prog w 0 (fun _ => true) held fuel 49 cs = some x) : ∃ t : S49, k49.K w t cs ∧ WfO t := by
 obtain ⟨xs, n, _, _, hl, hxl, hf⟩ := DataW.trod_struct Tryd.underlying49 h
 rw [cells49] at hl
 obtain ⟨a, b, rfl⟩ := list2 hl
 have h0 : DataW.trod enc Tryd.prog w 0 (fun _ => true) held n 3 [a] = xs[0]? := by
  have z : DataW.trod enc Tryd.prog w 0 (fun _ => true) held n 3 ((([a, b] : List Value).drop 0).take (Tryd.prog.cellsOf 3)) = xs[0]? := hf 0 _ rfl
  rw [cells3] at z
  exact z
 have h1 : DataW.trod enc Tryd.prog w 0 (fun _ => true) held n 3 [b] = xs[1]? := by
  have z : DataW.trod enc Tryd.prog w 0 (fun _ => true) held n 3 ((([a, b] : List Value).drop 1).take (Tryd.prog.cellsOf 3)) = xs[1]? := hf 1 _ rfl
  rw [cells3] at z
  exact z
 have g : ∀ (i : Nat) {t : TypeId} {c : List Value}, DataW.trod enc Tryd.prog w 0 (fun _ => true) held n t c = xs[i]? → i < xs.length → ∃ y, DataW.trod enc Tryd.prog w 0 (fun _ => true) held n t c = some y := fun i {t c} hh hi => ⟨xs[i], by rw [hh, List.getElem?_eq_getElem hi]⟩
 have hx2 : xs.length = 2 := hxl
 obtain ⟨y0, h0⟩ := g 0 h0 (by omega)
 obtain ⟨y1, h1⟩ := g 1 h1 (by omega)
 obtain ⟨n0, e0, _, w0⟩ := DataW.trod_int Tryd.underlying3 h0
 obtain ⟨n1, e1, _, w1⟩ := DataW.trod_int Tryd.underlying3 h1
 simp only [List.cons.injEq, and_true] at e0 e1
 subst e0 e1
 exact ⟨⟨n0, n1⟩, k49_mk w ⟨n0, n1⟩, w0, w1⟩
theorem open_cols {fuel : Nat} {c0 : Value} {x : DataW H × List MemPlace} (h : DataW.trod enc Tryd.prog w 0 (fun _ => true) held fuel 22 [c0] = some x) :
  ∃ (A : Option Addr) (cap : Nat) (l : List S33), c0 = .slice A l.length cap ∧ l.length ≤ cap ∧ Kd.C k33 w A l.length l ∧ ∀ t ∈ l, WfC t := by
 obtain ⟨A, len, cap, rfl⟩ := slice_form Tryd.underlying22 h
 obtain ⟨l, rfl, h1, h2, h3⟩ := open_list (d := k33) (Wf := WfC) Tryd.underlying22 cells33 (fun h => open_col h) h
 exact ⟨A, cap, l, rfl, h1, h2, h3⟩
theorem open_ops {fuel : Nat} {c0 : Value} {x : DataW H × List MemPlace} (h : DataW.trod enc Tryd.prog w 0 (fun _ => true) held fuel 35 [c0] = some x) :
  ∃ (A : Option Addr) (cap : Nat) (l : List S49), c0 = .slice A l.length cap ∧ l.length ≤ cap ∧ Kd.C k49 w A l.length l ∧ ∀ t ∈ l, WfO t := by
 obtain ⟨A, len, cap, rfl⟩ := slice_form Tryd.underlying35 h
 obtain ⟨l, rfl, h1, h2, h3⟩ := open_list (d := k49) (Wf := WfO) Tryd.underlying35 cells49 (fun h => open_op h) h
 exact ⟨A, cap, l, rfl, h1, h2, h3⟩
end

/-- What the law's premise lists. -/
def listed : List (String × DataW Unit) := [("emendate/editscript.actions", Rows.laid_emendate_editscript_actions)]
theorem gActions : Tryd.prog.globalNamed "emendate/editscript.actions" = some 0 := by kernel_rfl
theorem tActions : (Tryd.prog.globals[0]?).map (·.type) = some 68 := by kernel_rfl
/-- What the premise gives the walks: the four functions in their cells. -/
theorem var_of_laid {W : World} (h : laidMetH Tryd.prog listed W) : VarOk W := by
 obtain ⟨g, t, cs, fuel, p, hg, ht, hv, hd⟩ := h.funcs (List.mem_singleton.2 rfl)
 obtain rfl := Option.some.inj (gActions.symm.trans hg)
 obtain rfl := Option.some.inj (tActions.symm.trans ht)
 have hd' : DataW.trod (funcToken Tryd.prog) Tryd.prog W 0 (fun _ => true) true fuel 68 cs.toList = some (.agg [.nil, .held [40, 42, 101, 109, 101, 110, 100, 97, 116, 101, 47, 101, 100, 105, 116, 115, 99, 114, 105, 112, 116, 46, 115, 116, 97, 116, 101, 41, 46, 114, 101, 97, 100], .held [40, 42, 101, 109, 101, 110, 100, 97, 116, 101, 47, 101, 100, 105, 116, 115, 99, 114, 105, 112, 116, 46, 115, 116, 97, 116, 101, 41, 46, 114, 101, 109, 111, 118, 101], .held [40, 42, 101, 109, 101, 110, 100, 97, 116, 101, 47, 101, 100, 105, 116, 115, 99, 114, 105, 112, 116, 46, 115, 116, 97, 116, 101, 41, 46, 105, 110, 115, 101, 114, 116], .held [40, 42, 101, 109, 101, 110, 100, 97, 116, 101, 47, 101, 100, 105, 116, 115, 99, 114, 105, 112, 116, 46, 115, 116, 97, 116, 101, 41, 46, 115, 119, 97, 112]], p) := hd
 obtain ⟨xs, m, _, hx, hl, hxl, hf⟩ := DataW.trod_array Tryd.underlying68 hd'
 rw [cells68] at hl
 obtain ⟨c0, c1, c2, c3, c4, hcs⟩ := list5 hl
 have g : ∀ (i : Nat), W.cell? ⟨0, i, none⟩ = cs.toList[i]? := fun i => by rw [World.var?_cell hg hv i]; simp
 have hx1 : xs.map (·.1) = [.nil, .held [40, 42, 101, 109, 101, 110, 100, 97, 116, 101, 47, 101, 100, 105, 116, 115, 99, 114, 105, 112, 116, 46, 115, 116, 97, 116, 101, 41, 46, 114, 101, 97, 100], .held [40, 42, 101, 109, 101, 110, 100, 97, 116, 101, 47, 101, 100, 105, 116, 115, 99, 114, 105, 112, 116, 46, 115, 116, 97, 116, 101, 41, 46, 114, 101, 109, 111, 118, 101], .held [40, 42, 101, 109, 101, 110, 100, 97, 116, 101, 47, 101, 100, 105, 116, 115, 99, 114, 105, 112, 116, 46, 115, 116, 97, 116, 101, 41, 46, 105, 110, 115, 101, 114, 116], .held [40, 42, 101, 109, 101, 110, 100, 97, 116, 101, 47, 101, 100, 105, 116, 115, 99, 114, 105, 112, 116, 46, 115, 116, 97, 116, 101, 41, 46, 115, 119, 97, 112]] := by
  have := (Prod.mk.inj hx).1
  injection this with h
  exact h.symm
 have e : ∀ (i : Nat) (c : Value) (d : DataW (List UInt8)), i < 5 → cs.toList[i]? = some c → ((xs.map (·.1))[i]? = some d) → ∃ q, DataW.trod (funcToken Tryd.prog) Tryd.prog W 0 (fun _ => true) true m 67 [c] = some (d, q) := by
  intro i c d hi hc hd
  have h1 := hf i hi
  rw [cells67, Nat.mul_one] at h1
  have h2 : (cs.toList.drop i).take 1 = [c] := by
   obtain ⟨hlt, he⟩ := List.getElem?_eq_some_iff.1 hc
   rw [List.drop_eq_getElem_cons hlt, he]
   rfl
  rw [h2] at h1
  rw [List.getElem?_map] at hd
  cases hy : xs[i]? with
  | none => rw [hy] at hd; cases hd
  | some y =>
   rw [hy] at hd h1
   simp only [Option.map_some, Option.some.injEq] at hd
   exact ⟨y.2, by rw [h1, ← hd]⟩
 obtain ⟨q1, r1⟩ := e 1 c1 _ (by omega) (by rw [hcs]; rfl) (by rw [hx1]; rfl)
 obtain ⟨q2, r2⟩ := e 2 c2 _ (by omega) (by rw [hcs]; rfl) (by rw [hx1]; rfl)
 obtain ⟨q3, r3⟩ := e 3 c3 _ (by omega) (by rw [hcs]; rfl) (by rw [hx1]; rfl)
 obtain ⟨q4, r4⟩ := e 4 c4 _ (by omega) (by rw [hcs]; rfl) (by rw [hx1]; rfl)
 obtain rfl := func_of_trod (f0 := 58) Tryd.underlying67 (by kernel_rfl) r1
 obtain rfl := func_of_trod (f0 := 59) Tryd.underlying67 (by kernel_rfl) r2
 obtain rfl := func_of_trod (f0 := 60) Tryd.underlying67 (by kernel_rfl) r3
 obtain rfl := func_of_trod (f0 := 61) Tryd.underlying67 (by kernel_rfl) r4
 exact ⟨by rw [g, hcs]; rfl, by rw [g, hcs]; rfl, by rw [g, hcs]; rfl, by rw [g, hcs]; rfl⟩
end Go.Proofs.YtnddijafdphbnaaDoor.All
end
section
-- Printed by wip/tools/wprint.py (a program of this session over the kit's printer). Not trusted: Lean checks it.
namespace Go.Proofs.YtnddijafdphbnaaDoor.All
open Go.RowKit Go.Proofs.YtnddijafdphbnaaDoorW.PrintWords Go.Proofs.YtnddijafdphbnaaDoorW.PrintLast Go.Proofs.YtnddijafdphbnaaDoorW.PrintMore
attribute [local go_sem] max2_int min2_int max_two min_two max_three min_three max_four min_four   -- for this text's walks alone
set_option linter.unusedVariables false
set_option linter.unusedSimpArgs false

/-! ### editscript_proper: function 29 -/
def editscript_proper.l0 : Nat → List Int → Int → Int → List (S33) → List Int → Int → Option (Bool)
 | 0, _, _, _, _, _, _ => none
 | k + 1, x7, x8, x9, x104000, x104001, x104002 => if x9 < x8 then (if 0 ≤ x9 then (if x9 < (x7.length : Int) then (if (rd x7 x9) < 0 then (some false) else (if (rd x7 x9) ≥ (x104001.length : Int) then (some false) else (editscript_proper.l0 k x7 x8 (wrap64 (x9 + 1)) x104000 x104001 x104002))) else (none)) else (none)) else (some true)
def editscript_proper.f (k : Nat) (l0_0 : List (S33)) (l0_1 : List Int) (a0_2 : Int) (l1 : List Int) : Option (Bool) := editscript_proper.l0 k l1 (l1.length : Int) 0 l0_0 l0_1 a0_2
theorem editscript_proper.mono_l : ∀ k, (∀ y0 y1 y2 y3 y4 y5, LeO (editscript_proper.l0 k y0 y1 y2 y3 y4 y5) (editscript_proper.l0 (k + 1) y0 y1 y2 y3 y4 y5))
 | 0 => fun _ _ _ _ _ _ r h => by simp [editscript_proper.l0] at h
 | k + 1 => by
  have ih0 := editscript_proper.mono_l k
  ·
   intro y0 y1 y2 y3 y4 y5
   unfold editscript_proper.l0
   repeat' first
   | (with_reducible exact ih0 _ _ _ _ _ _)
   | (with_reducible exact LeO.refl _)
   | (with_reducible exact LeO.none _)
   | (with_reducible refine LeO.ite ?_ ?_)
   | (with_reducible refine LeO.bind ?_ (fun _ => ?_))
   | exact ih0 _ _ _ _ _ _
   | exact LeO.none _
   | refine LeO.ite ?_ ?_
   | refine LeO.bind ?_ (fun _ => ?_)
theorem editscript_proper.mono : ∀ a0 a1 a2 a3 k, LeO (editscript_proper.f k a0 a1 a2 a3) (editscript_proper.f (k + 1) a0 a1 a2 a3) := by
 intro a0 a1 a2 a3 k
 have ih0 := editscript_proper.mono_l k
 unfold editscript_proper.f
 repeat' first
   | (with_reducible exact ih0 _ _ _ _ _ _)
   | (with_reducible exact LeO.refl _)
   | (with_reducible exact LeO.none _)
   | (with_reducible refine LeO.ite ?_ ?_)
   | (with_reducible refine LeO.bind ?_ (fun _ => ?_))
   | exact ih0 _ _ _ _ _ _
   | exact LeO.none _
   | refine LeO.ite ?_ ?_
   | refine LeO.bind ?_ (fun _ => ?_)
set_option maxHeartbeats 8000000 in
set_option maxRecDepth 100000 in
theorem editscript_proper.calls (k : Nat) (A0_0 : Option Addr) (c0_0 : Nat) (l0_0 : List (S33)) (A0_1 : Option Addr) (c0_1 : Nat) (l0_1 : List Int) (a0_2 : Int) (A1 : Option Addr) (c1 : Nat) (l1 : List Int) (r : Bool) (w : World) (hr0_0 : Kd.C k33 w A0_0 l0_0.length l0_0) (hc0_0 : l0_0.length ≤ c0_0) (hr0_1 : Kd.C (Kd.int .i64) w A0_1 l0_1.length l0_1) (hc0_1 : l0_1.length ≤ c0_1) (hr1 : Kd.C (Kd.int .i64) w A1 l1.length l1) (hc1 : l1.length ≤ c1) (h : editscript_proper.f k l0_0 l0_1 a0_2 l1 = some r) :
  Calls Tryd.prog 29 #[.agg #[.slice A0_0 l0_0.length c0_0, .slice A0_1 l0_1.length c0_1, .int .i64 a0_2], .slice A1 l1.length c1] w fun e w' => e = .returned (.bool r) ∧ Below w.heap.size w w' := by
 have hu25 := Tryd.underlying25
 have HR0_0 := Aside0.mk hr0_0
 have HC0_0 := Aside0.mk hc0_0
 clear hr0_0 hc0_0
 have HR0_1 := Aside0.mk hr0_1
 have HC0_1 := Aside0.mk hc0_1
 clear hr0_1 hc0_1
 have HR1 := Aside0.mk hr1
 have HC1 := Aside0.mk hc1
 clear hr1 hc1
 have HB := Aside0.mk (Below.refl w.heap.size w)
 have H : (editscript_proper.l0 k l1 (l1.length : Int) 0 l0_0 l0_1 a0_2) = some r := h
 clear h
 have H' := Aside0.mk H
 clear H
 go_enter Tryd.func29, Tryd.ntmps29
 go_wp2_with (first | ((with_reducible refine gate_dst (N := 2) rfl ?_); (try (refine gate_guard (by rfl) ?_; dsimp only)); refine box_event ?hg (N := 2) ?hd (cs := #[.slice A0_0 l0_0.length c0_0, .slice A0_1 l0_1.length c0_1, .int .i64 a0_2]) (t := 25) ?hr ?_; (case hd => rfl); (case hg => rfl); (case hr => first | (go_simp; done) | (go_simp; rfl)); intro gb103 hg w3 hbox hb; have n0_ := Aside0.mk (below_step (pB HB.out) hb); have n1_ := Aside0.mk (hbox); have n2_ := Aside0.mk ((by rw [hg]; exact (below_size (pB HB.out)) : w.heap.size ≤ gb103)); have n3_ := Aside0.mk ((by rw [hg]; exact (below_size (pB HB.out)) : w.heap.size ≤ gb103)); clear HB; have HB := n0_; have BK103 := n1_; have GW103 := n2_; have GE103 := n3_; clear n0_ n1_ n2_ n3_; clear hb hbox hg))
 go_loopg [9] k (fun kq v9 w' => ∃ (x9_1 : Int), v9 = .int .i64 x9_1 ∧ Aside0 (editscript_proper.l0 kq l1 (l1.length : Int) x9_1 l0_0 l0_1 a0_2 = some r) ∧ Aside0 (kq ≤ k) ∧ Aside0 (w'.heap[gb103]? = some (.cells #[(.slice A0_0 l0_0.length c0_0), (.slice A0_1 l0_1.length c0_1), .int .i64 a0_2] 25 (0, 0))) ∧ Aside0 (Below w.heap.size w w'))
 case atStart => exact ⟨(0), rr, H', ⟨Nat.le_refl _⟩, ⟨by (with_reducible repeat (first | refine blk_drewN ?_ _ | refine blk_drew ?_ | refine blk_alloc ?_ _)); exact BK103.out⟩, ⟨pb HB.out GE103.out⟩⟩
 case round =>
  clear H'
  try clear c1
  obtain ⟨x9_1, rfl, HA, HK1, BK103, HB⟩ := hrel
  cases gk with
  | zero => exact absurd HA.out (by simp [editscript_proper.l0])
  | succ k1 =>
   have H := HA.out
   clear HA
   simp only [editscript_proper.l0] at H
   by_cases c4 : x9_1 < (l1.length : Int)
   ·
    rw [if_pos c4] at H
    have c4b0 : decide (x9_1 < (l1.length : Int)) = true := decide_eq_true c4
    clear c4
    by_cases c5 : 0 ≤ x9_1
    ·
     rw [if_pos c5] at H
     have c5b0 : decide (0 ≤ x9_1) = true := decide_eq_true c5
     clear c5
     by_cases c6 : x9_1 < (l1.length : Int)
     ·
      rw [if_pos c6] at H
      have c6b0 : decide (x9_1 < (l1.length : Int)) = true := decide_eq_true c6
      clear c6
      by_cases c7 : (rd l1 x9_1) < 0
      ·
       rw [if_pos c7] at H
       have c7b0 : decide ((rd l1 x9_1) < 0) = true := decide_eq_true c7
       clear c7
       obtain rfl := Option.some.inj H
       have p104 : 0 ≤ (x9_1 : Int) := od
       have q104 : x9_1 < (l1.length : Int) := od
       obtain ⟨ad104, e104, hx104_0⟩ := Kd.at_int HR1.out x9_1 p104 q104
       cases e104
       replace hx104_0 := bc HB.out hx104_0
       replace p104 := eq_true p104
       replace q104 := eq_true q104
       go_wp2
       go_ret
       exact ⟨er, pb HB.out GE103.out⟩
      ·
       rw [if_neg c7] at H
       have c7b0 : decide ((rd l1 x9_1) < 0) = false := decide_eq_false c7
       clear c7
       by_cases c8 : (rd l1 x9_1) ≥ (l0_1.length : Int)
       ·
        rw [if_pos c8] at H
        have c8b0 : decide ((l0_1.length : Int) ≤ (rd l1 x9_1)) = true := decide_eq_true c8
        clear c8
        obtain rfl := Option.some.inj H
        have p104 : 0 ≤ (x9_1 : Int) := od
        have q104 : x9_1 < (l1.length : Int) := od
        obtain ⟨ad104, e104, hx104_0⟩ := Kd.at_int HR1.out x9_1 p104 q104
        cases e104
        replace hx104_0 := bc HB.out hx104_0
        replace p104 := eq_true p104
        replace q104 := eq_true q104
        obtain ⟨hcz9_0, hcz9_1, hcz9_2, hfz9_0, hfz9_1, hfz9_2⟩ := cz3 BK103.out
        go_wp2
        go_ret
        exact ⟨er, pb HB.out GE103.out⟩
       ·
        rw [if_neg c8] at H
        have c8b0 : decide ((l0_1.length : Int) ≤ (rd l1 x9_1)) = false := decide_eq_false c8
        clear c8
        have H' := Aside0.mk H
        clear H
        have p104 : 0 ≤ (x9_1 : Int) := od
        have q104 : x9_1 < (l1.length : Int) := od
        obtain ⟨ad104, e104, hx104_0⟩ := Kd.at_int HR1.out x9_1 p104 q104
        cases e104
        replace hx104_0 := bc HB.out hx104_0
        replace p104 := eq_true p104
        replace q104 := eq_true q104
        obtain ⟨hcz10_0, hcz10_1, hcz10_2, hfz10_0, hfz10_1, hfz10_2⟩ := cz3 BK103.out
        go_wp2
        go_roundg k1
        case measure => have := HK1.out; omega
        case rel => exact ⟨(wrap64 (x9_1 + 1)), rr, H', ⟨by have := HK1.out; omega⟩, ⟨by (with_reducible repeat (first | refine blk_drewN ?_ _ | refine blk_drew ?_ | refine blk_alloc ?_ _)); exact BK103.out⟩, ⟨pb HB.out GE103.out⟩⟩
     ·
      rw [if_neg c6] at H
      exact absurd H (by simp)
    ·
     rw [if_neg c5] at H
     exact absurd H (by simp)
   ·
    rw [if_neg c4] at H
    have c4b0 : decide (x9_1 < (l1.length : Int)) = false := decide_eq_false c4
    clear c4
    obtain rfl := Option.some.inj H
    go_wp2
    go_ret
    exact ⟨er, pb HB.out GE103.out⟩

end Go.Proofs.YtnddijafdphbnaaDoor.All
end
