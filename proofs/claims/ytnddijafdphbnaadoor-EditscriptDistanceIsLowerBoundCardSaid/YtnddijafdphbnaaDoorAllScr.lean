/- What a script does: the plain fold. -/
import Derived.Test.YtnddijafdphbnaaDoorAllAct
import Derived.Test.YtnddijafdphbnaaDoorAllSwp
namespace Go.Proofs.YtnddijafdphbnaaDoor.All
open Go.RowKit Go.Proofs.YtnddijafdphbnaaDoorW.PrintWords Go.Proofs.YtnddijafdphbnaaDoorW.PrintLast Go.Proofs.YtnddijafdphbnaaDoorW.PrintMore
set_option linter.unusedVariables false
set_option linter.unusedSimpArgs false

/-- The state of a script: tokens consumed, terminals emitted, the cost. -/
abbrev RS := Nat × List Int × Int
/-- One operation; none: it is not valid here. -/
def actE (cols : List S33) (ins : List Int) (sw : Int) (k t : Int) (s : RS) : Option RS :=
 if k = 1 then (if s.1 < cols.length ∧ 0 ≤ t ∧ t < ((rd_T33 cols (s.1 : Int)).f1.length : Int) ∧ 0 ≤ rd (rd_T33 cols (s.1 : Int)).f1 t then some (s.1 + 1, s.2.1 ++ [t], addE s.2.2 (rd (rd_T33 cols (s.1 : Int)).f1 t)) else none)
 else if k = 2 then (if s.1 < cols.length ∧ t = 0 ∧ (rd_T33 cols (s.1 : Int)).f2 < 1099511627776 then some (s.1 + 1, s.2.1, addE s.2.2 (rd_T33 cols (s.1 : Int)).f2) else none)
 else if k = 3 then (if 0 ≤ t ∧ t < (ins.length : Int) then some (s.1, s.2.1 ++ [t], addE s.2.2 (rd ins t)) else none)
 else if k = 4 then (if t = 0 ∧ swp cols sw s.1 then some (s.1 + 2, s.2.1 ++ [(rd_T33 cols ((s.1 : Int) + 1)).f0, (rd_T33 cols (s.1 : Int)).f0], addE s.2.2 sw) else none)
 else none
def runAll (cols : List S33) (ins : List Int) (sw : Int) : List S49 → RS → Option RS
 | [], s => some s
 | o :: l, s => (actE cols ins sw o.f0 o.f1 s).bind (runAll cols ins sw l)
/-- What a script emits, and what it costs; none: it is not valid. -/
def runE (cols : List S33) (ins : List Int) (sw : Int) (l : List S49) : Option (List Int × Int) :=
 (runAll cols ins sw l (0, [], 0)).bind fun s => if s.1 = cols.length then some s.2 else none
theorem runAll_snoc (cols : List S33) (ins : List Int) (sw : Int) (o : S49) : ∀ (l : List S49) (s : RS), runAll cols ins sw (l ++ [o]) s = (runAll cols ins sw l s).bind (actE cols ins sw o.f0 o.f1)
 | [], s => by simp [runAll]
 | a :: l, s => by
  simp only [List.cons_append, runAll]
  cases actE cols ins sw a.f0 a.f1 s with
  | none => rfl
  | some s' => exact runAll_snoc cols ins sw o l s'
theorem runAll_append (cols : List S33) (ins : List Int) (sw : Int) (m : List S49) : ∀ (l : List S49) (s : RS), runAll cols ins sw (l ++ m) s = (runAll cols ins sw l s).bind (runAll cols ins sw m)
 | [], s => by simp [runAll]
 | a :: l, s => by
  simp only [List.cons_append, runAll]
  cases actE cols ins sw a.f0 a.f1 s with
  | none => rfl
  | some s' => exact runAll_append cols ins sw m l s'
theorem actE_len {cols : List S33} {ins : List Int} {sw k t : Int} {s s' : RS} (h : actE cols ins sw k t s = some s') : s'.2.1.length ≤ s.2.1.length + 2 ∧ (s.1 ≤ cols.length → s'.1 ≤ cols.length) := by
 unfold actE at h
 split at h
 ·
  split at h
  ·
   cases h
   simp
   omega
  ·
   cases h
 split at h
 ·
  split at h
  ·
   cases h
   simp
   omega
  ·
   cases h
 split at h
 ·
  split at h
  ·
   cases h
   simp
  ·
   cases h
 split at h
 ·
  split at h
  ·
   rename_i hs
   cases h
   have := hs.2.2.1
   simp
   omega
  ·
   cases h
 ·
  cases h
theorem runAll_len {cols : List S33} {ins : List Int} {sw : Int} : ∀ {l : List S49} {s s' : RS}, runAll cols ins sw l s = some s' → s'.2.1.length ≤ s.2.1.length + 2 * l.length ∧ (s.1 ≤ cols.length → s'.1 ≤ cols.length)
 | [], s, s', h => by simp only [runAll, Option.some.injEq] at h; subst h; exact ⟨by simp, id⟩
 | o :: l, s, s', h => by
  simp only [runAll] at h
  cases ha : actE cols ins sw o.f0 o.f1 s with
  | none => rw [ha] at h; cases h
  | some s1 =>
   rw [ha] at h
   have h1 := actE_len ha
   have h2 := runAll_len h
   simp only [List.length_cons]
   exact ⟨by omega, fun h => h2.2 (h1.2 h)⟩
theorem runAll_take {cols : List S33} {ins : List Int} {sw : Int} {l : List S49} {i : Nat} (hi : i < l.length) {s : RS} : runAll cols ins sw (l.take (i + 1)) s = (runAll cols ins sw (l.take i) s).bind (actE cols ins sw (l[i]).f0 (l[i]).f1) := by
 rw [List.take_succ_eq_append_getElem hi, runAll_snoc]
/-- A prefix that fails fails the script. -/
theorem runE_none {cols : List S33} {ins : List Int} {sw : Int} {l : List S49} {i : Nat} (h : runAll cols ins sw (l.take i) (0, [], 0) = none) : runE cols ins sw l = none := by
 unfold runE
 rw [← List.take_append_drop i l, runAll_append, h]
 rfl

/-- The package's variable: the actions of the four kinds of operation. -/
def VarOk (w : World) : Prop := w.cell? ⟨0, 1, none⟩ = some (.func (.func 58) #[] #[]) ∧ w.cell? ⟨0, 2, none⟩ = some (.func (.func 59) #[] #[]) ∧ w.cell? ⟨0, 3, none⟩ = some (.func (.func 60) #[] #[]) ∧ w.cell? ⟨0, 4, none⟩ = some (.func (.func 61) #[] #[])
theorem VarOk.below {B : Nat} {w W : World} (h : VarOk w) (hb : Below B w W) (hB : B = w.heap.size) : VarOk W := by
 subst hB
 obtain ⟨h1, h2, h3, h4⟩ := h
 exact ⟨(hb.cell (World.block_lt_of_cell? w _ h1)).trans h1, (hb.cell (World.block_lt_of_cell? w _ h2)).trans h2, (hb.cell (World.block_lt_of_cell? w _ h3)).trans h3, (hb.cell (World.block_lt_of_cell? w _ h4)).trans h4⟩

/-- A call of a function that lies in a slot. -/
theorem goesV_ {P : Program} {ops : Array Oper} {Q : Exit → Act → World → Prop} {oi : Oper} {N : Option Tmp} {a : Act} {w : World} {K : Act → World → Prop} {f : FuncId} {fn : Func} {o : Operand} {az : Array Operand} {ts : Array TypeId} (hf : P.funcs[f]? = some fn) (hname : (fn.name == "runtime.NumGoroutine") = false) (hb : fn.body.isSome = true) (args : Array Value)
  (hw : Region.wanted oi (yielded ops a.tmps) = true) (hN : oi.dst = N) (hop : oi.op = .call { callee := .value o, args := az, argTypes := ts }) (hv : a.eval o = .func (.func f) #[] #[]) (hargs : az.map a.eval = args)
  (h : Calls P f args w fun e w' => ∃ v, e = .returned v ∧ K (a.put N v) w') : if Region.wanted oi (yielded ops a.tmps) = true then Oper.wp P oi a w K Q else K (a.put N undef) w := by
 refine call_ f args hw hN ?_ h
 have he := enters_ hf hname hb args w
 unfold execOp
 simp [hop, resolve, Deferred.ofValue, invoke, hv, hargs, he]

section
variable (A0 : Option Addr) (c0 : Nat) (cols : List S33) (A1 : Option Addr) (c1 : Nat) (ins : List Int) (sw : Int) (g : Nat) (ok : Nat → Prop) (w0 : World)
/-- What an action comes to. -/
def ActPost (k t : Int) (s : RS) (W : World) (e : Ending) (W' : World) : Prop :=
 ∃ b : Bool, e = .returned (.bool b) ∧ (b = false → actE cols ins sw k t s = none ∧ Below W.heap.size W W') ∧ (b = true → ∃ s' : RS, actE cols ins sw k t s = some s' ∧ ES A0 cols.length c0 A1 ins.length c1 sw g w0.heap.size ok W' (s'.1 : Int) s'.2.1 s'.2.2 ∧ Fr g w0.heap.size ok W W')
end
variable {A0 : Option Addr} {c0 : Nat} {cols : List S33} {A1 : Option Addr} {c1 : Nat} {ins : List Int} {sw : Int} {g : Nat} {ok : Nat → Prop} {w0 : World}
theorem post_no {k t : Int} {s : RS} {W : World} {e : Ending} {W' : World} (hf : actE cols ins sw k t s = none) (h : e = .returned (.bool false) ∧ Below W.heap.size W W') : ActPost A0 c0 cols A1 c1 ins sw g ok w0 k t s W e W' :=
 ⟨false, h.1, fun _ => ⟨hf, h.2⟩, fun hh => nomatch hh⟩
theorem post_yes {k t : Int} {s : RS} {W : World} {e : Ending} {W' : World} {a : Int} {out : List Int} {c : Int} {s' : RS} (hf : actE cols ins sw k t s = some s') (h1 : (s'.1 : Int) = a) (h2 : s'.2.1 = out) (h3 : s'.2.2 = c) (h : e = .returned (.bool true) ∧ ES A0 cols.length c0 A1 ins.length c1 sw g w0.heap.size ok W' a out c ∧ Fr g w0.heap.size ok W W') : ActPost A0 c0 cols A1 c1 ins sw g ok w0 k t s W e W' :=
 ⟨true, h.1, (fun hh => nomatch hh), fun _ => ⟨s', hf, by rw [h1, h2, h3]; exact h.2.1, h.2.2⟩⟩
theorem act_read (W : World) (s : RS) (t : Int) (h : ES A0 cols.length c0 A1 ins.length c1 sw g w0.heap.size ok W (s.1 : Int) s.2.1 s.2.2) (hB : w0.heap.size ≤ g) (hn : s.2.1.length < 1000000) (hl : cols.length ≤ 1000000) (hil : ins.length ≤ 1000000) (hW : Below w0.heap.size w0 W) (hC : Kd.C k33 w0 A0 cols.length cols) (hI : Kd.C (Kd.int .i64) w0 A1 ins.length ins) :
  Calls Tryd.prog 58 #[.pointer (some ⟨g, 0, none⟩), .int .i64 t] W (ActPost A0 c0 cols A1 c1 ins sw g ok w0 1 t s W) := by
 by_cases he : s.1 < cols.length
 ·
  have hc : Aside0 (cols[s.1] = rd_T33 cols (s.1 : Int)) := ⟨rd_at he⟩
  by_cases h0 : 0 ≤ t
  ·
   by_cases h1 : t < ((rd_T33 cols (s.1 : Int)).f1.length : Int)
   ·
    by_cases h2 : 0 ≤ rd (rd_T33 cols (s.1 : Int)).f1 t
    ·
     refine (read_yes A0 c0 cols A1 c1 ins sw g ok w0 W s.1 s.2.1 s.2.2 t h hB hn hl hil hW hC hI he _ hc h0 h1 h2).mono fun e W' hp => ?_
     exact post_yes (s' := (s.1 + 1, s.2.1 ++ [t], addE s.2.2 (rd (rd_T33 cols (s.1 : Int)).f1 t))) (by unfold actE; rw [if_pos rfl, if_pos ⟨he, h0, h1, h2⟩]) (by simp) rfl rfl hp
    ·
     refine (read_neg2 A0 c0 cols A1 c1 ins sw g ok w0 W s.1 s.2.1 s.2.2 t h hB hn hl hil hW hC hI he _ hc h0 h1 (by omega)).mono fun e W' hp => ?_
     exact post_no (by unfold actE; rw [if_pos rfl, if_neg (fun hh => h2 hh.2.2.2)]) hp
   ·
    refine (read_big A0 c0 cols A1 c1 ins sw g ok w0 W s.1 s.2.1 s.2.2 t h hB hn hl hil hW hC hI he _ hc h0 (by omega)).mono fun e W' hp => ?_
    exact post_no (by unfold actE; rw [if_pos rfl, if_neg (fun hh => h1 hh.2.2.1)]) hp
  ·
   refine (read_neg A0 c0 cols A1 c1 ins sw g ok w0 W s.1 s.2.1 s.2.2 t h hB hn hl hil hW hC hI he _ hc (by omega)).mono fun e W' hp => ?_
   exact post_no (by unfold actE; rw [if_pos rfl, if_neg (fun hh => h0 hh.2.1)]) hp
 ·
  refine (read_end A0 c0 cols A1 c1 ins sw g ok w0 W s.1 s.2.1 s.2.2 t h hB hn hl hil hW hC hI (by omega)).mono fun e W' hp => ?_
  exact post_no (by unfold actE; rw [if_pos rfl, if_neg (fun hh => he hh.1)]) hp
theorem act_remove (W : World) (s : RS) (t : Int) (h : ES A0 cols.length c0 A1 ins.length c1 sw g w0.heap.size ok W (s.1 : Int) s.2.1 s.2.2) (hB : w0.heap.size ≤ g) (hn : s.2.1.length < 1000000) (hl : cols.length ≤ 1000000) (hil : ins.length ≤ 1000000) (hW : Below w0.heap.size w0 W) (hC : Kd.C k33 w0 A0 cols.length cols) (hI : Kd.C (Kd.int .i64) w0 A1 ins.length ins) :
  Calls Tryd.prog 59 #[.pointer (some ⟨g, 0, none⟩), .int .i64 t] W (ActPost A0 c0 cols A1 c1 ins sw g ok w0 2 t s W) := by
 by_cases he : s.1 < cols.length
 ·
  have hc : Aside0 (cols[s.1] = rd_T33 cols (s.1 : Int)) := ⟨rd_at he⟩
  by_cases h0 : t = 0
  ·
   by_cases h1 : (rd_T33 cols (s.1 : Int)).f2 < 1099511627776
   ·
    refine (remove_yes A0 c0 cols A1 c1 ins sw g ok w0 W s.1 s.2.1 s.2.2 t h hB hn hl hil hW hC hI he _ hc h0 h1).mono fun e W' hp => ?_
    exact post_yes (s' := (s.1 + 1, s.2.1, addE s.2.2 (rd_T33 cols (s.1 : Int)).f2)) (by unfold actE; rw [if_neg (by decide), if_pos rfl, if_pos ⟨he, h0, h1⟩]) (by simp) rfl rfl hp
   ·
    refine (remove_inf A0 c0 cols A1 c1 ins sw g ok w0 W s.1 s.2.1 s.2.2 t h hB hn hl hil hW hC hI he _ hc h0 (by omega)).mono fun e W' hp => ?_
    exact post_no (by unfold actE; rw [if_neg (by decide), if_pos rfl, if_neg (fun hh => h1 hh.2.2)]) hp
  ·
   refine (remove_t A0 c0 cols A1 c1 ins sw g ok w0 W s.1 s.2.1 s.2.2 t h hB hn hl hil hW hC hI he _ hc h0).mono fun e W' hp => ?_
   exact post_no (by unfold actE; rw [if_neg (by decide), if_pos rfl, if_neg (fun hh => h0 hh.2.1)]) hp
 ·
  refine (remove_end A0 c0 cols A1 c1 ins sw g ok w0 W s.1 s.2.1 s.2.2 t h hB hn hl hil hW hC hI (by omega)).mono fun e W' hp => ?_
  exact post_no (by unfold actE; rw [if_neg (by decide), if_pos rfl, if_neg (fun hh => he hh.1)]) hp
theorem act_insert (W : World) (s : RS) (t : Int) (h : ES A0 cols.length c0 A1 ins.length c1 sw g w0.heap.size ok W (s.1 : Int) s.2.1 s.2.2) (hB : w0.heap.size ≤ g) (hn : s.2.1.length < 1000000) (hl : cols.length ≤ 1000000) (hil : ins.length ≤ 1000000) (hW : Below w0.heap.size w0 W) (hC : Kd.C k33 w0 A0 cols.length cols) (hI : Kd.C (Kd.int .i64) w0 A1 ins.length ins) :
  Calls Tryd.prog 60 #[.pointer (some ⟨g, 0, none⟩), .int .i64 t] W (ActPost A0 c0 cols A1 c1 ins sw g ok w0 3 t s W) := by
 by_cases h0 : 0 ≤ t
 ·
  by_cases h1 : t < (ins.length : Int)
  ·
   refine (insert_yes A0 c0 cols A1 c1 ins sw g ok w0 W s.1 s.2.1 s.2.2 t h hB hn hl hil hW hC hI h0 h1).mono fun e W' hp => ?_
   exact post_yes (s' := (s.1, s.2.1 ++ [t], addE s.2.2 (rd ins t))) (by unfold actE; rw [if_neg (by decide), if_neg (by decide), if_pos rfl, if_pos ⟨h0, h1⟩]) rfl rfl rfl hp
  ·
   refine (insert_big A0 c0 cols A1 c1 ins sw g ok w0 W s.1 s.2.1 s.2.2 t h hB hn hl hil hW hC hI h0 (by omega)).mono fun e W' hp => ?_
   exact post_no (by unfold actE; rw [if_neg (by decide), if_neg (by decide), if_pos rfl, if_neg (fun hh => h1 hh.2)]) hp
 ·
  refine (insert_neg A0 c0 cols A1 c1 ins sw g ok w0 W s.1 s.2.1 s.2.2 t h hB hn hl hil hW hC hI (by omega)).mono fun e W' hp => ?_
  exact post_no (by unfold actE; rw [if_neg (by decide), if_neg (by decide), if_pos rfl, if_neg (fun hh => h0 hh.1)]) hp
theorem act_swap (W : World) (s : RS) (t : Int) (h : ES A0 cols.length c0 A1 ins.length c1 sw g w0.heap.size ok W (s.1 : Int) s.2.1 s.2.2) (hB : w0.heap.size ≤ g) (hn : s.2.1.length < 1000000) (hl : cols.length ≤ 1000000) (hil : ins.length ≤ 1000000) (hW : Below w0.heap.size w0 W) (hC : Kd.C k33 w0 A0 cols.length cols) (hI : Kd.C (Kd.int .i64) w0 A1 ins.length ins) (hcc0 : cols.length ≤ c0) (hcc1 : ins.length ≤ c1) (ha : s.1 ≤ cols.length) :
  Calls Tryd.prog 61 #[.pointer (some ⟨g, 0, none⟩), .int .i64 t] W (ActPost A0 c0 cols A1 c1 ins sw g ok w0 4 t s W) := by
 by_cases h0 : t = 0
 ·
  have hs := swp_iff (ins := ins) (sw := sw) hl s.1 ha
  by_cases h1 : swp cols sw s.1
  ·
   rw [decide_eq_true h1] at hs
   refine (swap_yes A0 c0 cols A1 c1 ins sw g ok w0 W s.1 s.2.1 s.2.2 t h hB hn hl hil hW hC hI hcc0 hcc1 h0 hs h1.2.1).mono fun e W' hp => ?_
   exact post_yes (s' := (s.1 + 2, s.2.1 ++ [(rd_T33 cols ((s.1 : Int) + 1)).f0, (rd_T33 cols (s.1 : Int)).f0], addE s.2.2 sw)) (by unfold actE; rw [if_neg (by decide), if_neg (by decide), if_neg (by decide), if_pos rfl, if_pos ⟨h0, h1⟩]) (by simp) rfl rfl hp
  ·
   rw [decide_eq_false h1] at hs
   refine (swap_no A0 c0 cols A1 c1 ins sw g ok w0 W s.1 s.2.1 s.2.2 t h hB hn hl hil hW hC hI hcc0 hcc1 h0 hs).mono fun e W' hp => ?_
   exact post_no (by unfold actE; rw [if_neg (by decide), if_neg (by decide), if_neg (by decide), if_pos rfl, if_neg (fun hh => h1 hh.2)]) hp
 ·
  refine (swap_t A0 c0 cols A1 c1 ins sw g ok w0 W s.1 s.2.1 s.2.2 t h hB hn hl hil hW hC hI h0).mono fun e W' hp => ?_
  exact post_no (by unfold actE; rw [if_neg (by decide), if_neg (by decide), if_neg (by decide), if_pos rfl, if_neg (fun hh => h0 hh.1)]) hp
/-- The action that lies at a kind's place. -/
theorem act_fn (w : World) (hv : VarOk w) (k : Int) (h0 : 1 ≤ k) (h1 : k ≤ 4) : ∃ f fn, w.cell? ⟨0, k.toNat, none⟩ = some (.func (.func f) #[] #[]) ∧ Tryd.prog.funcs[f]? = some fn ∧ (fn.name == "runtime.NumGoroutine") = false ∧ fn.body.isSome = true ∧
  ∀ (A0 : Option Addr) (c0 : Nat) (cols : List S33) (A1 : Option Addr) (c1 : Nat) (ins : List Int) (sw : Int) (g : Nat) (ok : Nat → Prop) (w0 W : World) (s : RS) (t : Int), ES A0 cols.length c0 A1 ins.length c1 sw g w0.heap.size ok W (s.1 : Int) s.2.1 s.2.2 → w0.heap.size ≤ g → s.2.1.length < 1000000 → cols.length ≤ 1000000 → ins.length ≤ 1000000 → Below w0.heap.size w0 W → Kd.C k33 w0 A0 cols.length cols → Kd.C (Kd.int .i64) w0 A1 ins.length ins → cols.length ≤ c0 → ins.length ≤ c1 → s.1 ≤ cols.length →
   Calls Tryd.prog f #[.pointer (some ⟨g, 0, none⟩), .int .i64 t] W (ActPost A0 c0 cols A1 c1 ins sw g ok w0 k t s W) := by
 obtain ⟨v1, v2, v3, v4⟩ := hv
 have hk : k = 1 ∨ k = 2 ∨ k = 3 ∨ k = 4 := by omega
 rcases hk with rfl | rfl | rfl | rfl
 ·
  exact ⟨58, Tryd.f58, v1, Tryd.func58, by kernel_rfl, rfl, fun A0 c0 cols A1 c1 ins sw g ok w0 W s t h hB hn hl hil hW hC hI _ _ _ => act_read W s t h hB hn hl hil hW hC hI⟩
 ·
  exact ⟨59, Tryd.f59, v2, Tryd.func59, by kernel_rfl, rfl, fun A0 c0 cols A1 c1 ins sw g ok w0 W s t h hB hn hl hil hW hC hI _ _ _ => act_remove W s t h hB hn hl hil hW hC hI⟩
 ·
  exact ⟨60, Tryd.f60, v3, Tryd.func60, by kernel_rfl, rfl, fun A0 c0 cols A1 c1 ins sw g ok w0 W s t h hB hn hl hil hW hC hI _ _ _ => act_insert W s t h hB hn hl hil hW hC hI⟩
 ·
  exact ⟨61, Tryd.f61, v4, Tryd.func61, by kernel_rfl, rfl, fun A0 c0 cols A1 c1 ins sw g ok w0 W s t h hB hn hl hil hW hC hI h2 h3 h4 => act_swap W s t h hB hn hl hil hW hC hI h2 h3 h4⟩
end Go.Proofs.YtnddijafdphbnaaDoor.All
