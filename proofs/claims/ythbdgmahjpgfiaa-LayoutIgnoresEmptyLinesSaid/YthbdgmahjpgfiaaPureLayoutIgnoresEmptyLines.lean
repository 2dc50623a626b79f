/- LayoutIgnoresEmptyLines over lists and numbers. -/
import Derived.Test.YthbdgmahjpgfiaaAllx21
import Derived.Test.YthbdgmahjpgfiaaAllRef
namespace Go.Proofs.Ythbdgmahjpgfiaa.layoutIgnoresEmptyLines
open Go.RowKit Go.Proofs.Ythbdgmahjpgfiaa.All Go.Proofs.YthbdgmahjpgfiaaW.PrintWords
set_option linter.unusedVariables false
set_option linter.unusedSimpArgs false

/-! ### the text with one line feed more -/
def put (s : ByteArray) (p : Nat) : ByteArray := (s.extract 0 p ++ (⟨#[10]⟩ : ByteArray)) ++ s.extract p s.size
theorem bt_data (s : ByteArray) (n : Nat) : bt s (n : Int) = match s.data[n]? with | some b => (b.toNat : Int) | none => 0 := by
  unfold bt
  simp only [Int.toNat_natCast]
  by_cases h : n < s.size
  · have h2 : n < s.data.size := h
    rw [dif_pos h, Array.getElem?_eq_getElem h2]
    rfl
  · have h2 : ¬ n < s.data.size := h
    rw [dif_neg h, Array.getElem?_eq_none (by omega)]
theorem put_data (s : ByteArray) (p : Nat) : (put s p).data = (s.data.extract 0 p ++ #[10]) ++ s.data.extract p s.size := by
  unfold put
  rw [ByteArray.data_append, ByteArray.data_append, ByteArray.data_extract, ByteArray.data_extract]
theorem size_data (s : ByteArray) : s.data.size = s.size := rfl
theorem put_lo (s : ByteArray) (p n : Nat) (hp : p ≤ s.size) (h : n < p) : bt (put s p) (n : Int) = bt s (n : Int) := by
  have h1 : (s.data.extract 0 p).size = p := by rw [Array.size_extract, size_data]; omega
  rw [bt_data, bt_data, put_data, Array.getElem?_append, if_pos (by rw [Array.size_append, h1]; simp; omega), Array.getElem?_append, if_pos (by omega), Array.getElem?_extract, if_pos (by rw [size_data]; omega), Nat.zero_add]
theorem put_at (s : ByteArray) (p : Nat) (hp : p ≤ s.size) : bt (put s p) (p : Int) = 10 := by
  have h1 : (s.data.extract 0 p).size = p := by rw [Array.size_extract, size_data]; omega
  rw [bt_data, put_data, Array.getElem?_append, if_pos (by rw [Array.size_append, h1]; simp), Array.getElem?_append, if_neg (by omega), h1, Nat.sub_self]
  rfl
theorem put_hi (s : ByteArray) (p n : Nat) (hp : p ≤ s.size) (h : p ≤ n) (hn : n < s.size) : bt (put s p) ((n + 1 : Nat) : Int) = bt s (n : Int) := by
  have h1 : (s.data.extract 0 p).size = p := by rw [Array.size_extract, size_data]; omega
  have h2 : (s.data.extract 0 p ++ #[(10 : UInt8)]).size = p + 1 := by rw [Array.size_append, h1]; rfl
  rw [bt_data, bt_data, put_data, Array.getElem?_append, if_neg (by omega), h2, Array.getElem?_extract, if_pos (by rw [size_data]; omega)]
  congr 2
  omega
theorem put_size (s : ByteArray) (p : Nat) (hp : p ≤ s.size) : (put s p).size = s.size + 1 := by
  unfold put
  rw [ByteArray.size_append, ByteArray.size_append, ByteArray.size_extract, ByteArray.size_extract, show (⟨#[10]⟩ : ByteArray).size = 1 from rfl]
  omega

/-! ### the lines' starts -/
theorem lst_succ (s : ByteArray) (n : Nat) : lst s (n + 1) = if bt s (n : Nat) = 10 then n + 1 else lst s n := rfl
theorem lst_idem (s : ByteArray) : ∀ n, lst s (lst s n) = lst s n
  | 0 => rfl
  | n + 1 => by
    by_cases c : bt s (n : Nat) = 10
    · have e : lst s (n + 1) = n + 1 := by rw [lst_succ, if_pos c]
      rw [e, e]
    · have e : lst s (n + 1) = lst s n := by rw [lst_succ, if_neg c]
      rw [e]
      exact lst_idem s n
theorem lst_mono (s : ByteArray) (p : Nat) (hp : lst s p = p) : ∀ n, p ≤ n → p ≤ lst s n
  | 0, h => by omega
  | n + 1, h => by
    by_cases e : p = n + 1
    · rw [← e, hp]; exact Nat.le_refl _
    · unfold lst
      split
      · omega
      · exact lst_mono s p hp n (by omega)
theorem lst_lo (s : ByteArray) (p : Nat) (hp : p ≤ s.size) : ∀ n, n ≤ p → lst (put s p) n = lst s n
  | 0, _ => rfl
  | n + 1, h => by
    unfold lst
    rw [put_lo s p n hp (by omega), lst_lo s p hp n (by omega)]
theorem lst_hi (s : ByteArray) (p : Nat) (hp : lst s p = p) (hps : p ≤ s.size) : ∀ e, p + e ≤ s.size → lst (put s p) (p + e + 1) = lst s (p + e) + 1
  | 0, h => by
    show lst (put s p) (p + 1) = lst s p + 1
    rw [hp, lst_succ, if_pos (put_at s p hps)]
  | e + 1, h => by
    have ih := lst_hi s p hp hps e (by omega)
    have hb := put_hi s p (p + e) hps (by omega) (by omega)
    show lst (put s p) ((p + e + 1) + 1) = lst s ((p + e) + 1) + 1
    rw [show lst (put s p) ((p + e + 1) + 1) = if bt (put s p) ((p + e + 1 : Nat) : Int) = 10 then p + e + 1 + 1 else lst (put s p) (p + e + 1) from rfl, show lst s ((p + e) + 1) = if bt s ((p + e : Nat) : Int) = 10 then p + e + 1 else lst s (p + e) from rfl, hb, ih]
    split <;> rfl

/-! ### a moved token -/
def moveT (p : Int) (t : S33) : S33 := if t.f1 ≥ p then ⟨t.f0, t.f1 + 1, t.f2, t.f3⟩ else t
def shift (p x : Int) : Int := if x ≥ p then x + 1 else x
theorem shift_inj (p x y : Int) : shift p x = shift p y ↔ x = y := by
  unfold shift
  split <;> split <;> omega
theorem move_f0 (p : Int) (t : S33) : (moveT p t).f0 = t.f0 := by unfold moveT; split <;> rfl
theorem move_f1 (p : Int) (t : S33) : (moveT p t).f1 = shift p t.f1 := by unfold moveT shift; split <;> rfl
theorem lst_move (s : ByteArray) (p : Nat) (hp : lst s p = p) (hps : p ≤ s.size) (a : Int) (h0 : 0 ≤ a) (h1 : a ≤ s.size) : ((lst (put s p) (shift p a).toNat : Nat) : Int) = shift p ((lst s a.toNat : Nat) : Int) := by
  by_cases c : a ≥ (p : Int)
  · have e1 : (shift p a).toNat = p + (a.toNat - p) + 1 := by unfold shift; rw [if_pos c]; omega
    have e2 := lst_hi s p hp hps (a.toNat - p) (by omega)
    have e3 : p + (a.toNat - p) = a.toNat := by omega
    rw [e1, e2, e3]
    have := lst_mono s p hp a.toNat (by omega)
    unfold shift
    rw [if_pos (by omega)]
    omega
  · have e1 : (shift p a).toNat = a.toNat := by unfold shift; rw [if_neg c]
    rw [e1, lst_lo s p hps a.toNat (by omega)]
    have := lst_le s a.toNat
    unfold shift
    rw [if_neg (by omega)]
theorem depth_move (s : ByteArray) (p : Nat) (hp : lst s p = p) (hps : p ≤ s.size) (a : Int) (h0 : 0 ≤ a) (h1 : a ≤ s.size) : shift p a - shift p ((lst s a.toNat : Nat) : Int) = a - ((lst s a.toNat : Nat) : Int) := by
  by_cases c : a ≥ (p : Int)
  · have := lst_mono s p hp a.toNat (by omega)
    unfold shift
    rw [if_pos c, if_pos (by omega)]
    omega
  · have := lst_le s a.toNat
    unfold shift
    rw [if_neg c, if_neg (by omega)]

/-! ### the kinds stay -/
def kindsOf (l : List S33) : List Int := l.map (·.f0)
theorem kindsOf_app (x y : List S33) : kindsOf (x ++ y) = kindsOf x ++ kindsOf y := List.map_append
theorem closes_kinds (dk a b d : Int) : ∀ (n : Nat) (o p : List S33) (lv : List Int), kindsOf o = kindsOf p → kindsOf (closes dk a d n o lv).1 = kindsOf (closes dk b d n p lv).1 ∧ (closes dk a d n o lv).2 = (closes dk b d n p lv).2
  | 0, _, _, _, h => ⟨h, rfl⟩
  | n + 1, o, p, lv, h => by
    unfold closes
    split
    · exact closes_kinds dk a b d n _ _ _ (by rw [kindsOf_app, kindsOf_app, h]; rfl)
    · exact ⟨h, rfl⟩
theorem lineF_kinds (defs a b d : Int) (f : Bool) (o p : List S33) (lv : List Int) (h : kindsOf o = kindsOf p) : kindsOf (lineF defs o lv a d f).1 = kindsOf (lineF defs p lv b d f).1 ∧ (lineF defs o lv a d f).2 = (lineF defs p lv b d f).2 := by
  unfold lineF
  split
  · exact ⟨by rw [kindsOf_app, kindsOf_app, h]; rfl, rfl⟩
  · refine closes_kinds _ _ _ _ _ _ _ _ ?_
    split
    · exact h
    · rw [kindsOf_app, kindsOf_app, h]; rfl

structure Like (p : Int) (x y : LSt) : Prop where
  first : y.first = x.first
  last : y.last = shift p x.last
  out : kindsOf y.out = kindsOf x.out
  lv : y.lv = x.lv

theorem step_like (defs : Int) (s : ByteArray) (p : Nat) (hp : lst s p = p) (hps : p ≤ s.size) (x y : LSt) (h : Like p x y) (t : S33) (h0 : 0 ≤ t.f1) (h1 : t.f1 ≤ s.size) : Like p (stepF defs s x t) (stepF defs (put s p) y (moveT p t)) := by
  have e1 := lst_move s p hp hps t.f1 h0 h1
  have e2 := depth_move s p hp hps t.f1 h0 h1
  have hx : stepF defs s x t = (if ((lst s t.f1.toNat : Nat) : Int) ≠ x.last then ⟨false, ((lst s t.f1.toNat : Nat) : Int), (lineF defs x.out x.lv t.f1 (t.f1 - ((lst s t.f1.toNat : Nat) : Int)) x.first).1 ++ [t], (lineF defs x.out x.lv t.f1 (t.f1 - ((lst s t.f1.toNat : Nat) : Int)) x.first).2⟩ else ⟨false, ((lst s t.f1.toNat : Nat) : Int), x.out ++ [t], x.lv⟩) := by
    unfold stepF; simp only; split <;> rfl
  have hy : stepF defs (put s p) y (moveT p t) = (if shift p ((lst s t.f1.toNat : Nat) : Int) ≠ shift p x.last then ⟨false, shift p ((lst s t.f1.toNat : Nat) : Int), (lineF defs y.out x.lv (shift p t.f1) (t.f1 - ((lst s t.f1.toNat : Nat) : Int)) x.first).1 ++ [moveT p t], (lineF defs y.out x.lv (shift p t.f1) (t.f1 - ((lst s t.f1.toNat : Nat) : Int)) x.first).2⟩ else ⟨false, shift p ((lst s t.f1.toNat : Nat) : Int), y.out ++ [moveT p t], x.lv⟩) := by
    unfold stepF
    simp only
    rw [move_f1, e1, e2, h.last, h.first, h.lv]
    split <;> rfl
  rw [hx, hy]
  by_cases c : ((lst s t.f1.toNat : Nat) : Int) = x.last
  · rw [if_neg (by simpa using c), if_neg (by rw [Ne, shift_inj]; simpa using c)]
    exact ⟨rfl, rfl, by rw [kindsOf_app, kindsOf_app, h.out]; simp [kindsOf, move_f0], rfl⟩
  · rw [if_pos c, if_pos (by rw [Ne, shift_inj]; exact c)]
    obtain ⟨k1, k2⟩ := lineF_kinds defs (shift p t.f1) t.f1 (t.f1 - ((lst s t.f1.toNat : Nat) : Int)) x.first y.out x.out x.lv h.out
    exact ⟨rfl, rfl, by rw [kindsOf_app, kindsOf_app, k1]; simp [kindsOf, move_f0], k2⟩
theorem fold_like (defs : Int) (s : ByteArray) (p : Nat) (hp : lst s p = p) (hps : p ≤ s.size) : ∀ (l : List S33) (x y : LSt), Like p x y → (∀ t ∈ l, 0 ≤ t.f1 ∧ t.f1 ≤ s.size) → Like p (l.foldl (stepF defs s) x) ((l.map (moveT p)).foldl (stepF defs (put s p)) y)
  | [], _, _, h, _ => h
  | t :: l, x, y, h, hb => fold_like defs s p hp hps l _ _ (step_like defs s p hp hps x y h t (hb t List.mem_cons_self).1 (hb t List.mem_cons_self).2) (fun u hu => hb u (List.mem_cons_of_mem _ hu))
theorem apply_like (defs : Int) (s : ByteArray) (p : Nat) (hp : lst s p = p) (hps : p ≤ s.size) (l : List S33) (hb : ∀ t ∈ l, 0 ≤ t.f1 ∧ t.f1 ≤ s.size) : kindsOf (applyF (l.map (moveT p)) (put s p) defs) = kindsOf (applyF l s defs) := by
  have h := fold_like defs s p hp hps l ⟨true, -1, [], []⟩ ⟨true, -1, [], []⟩ ⟨rfl, by show (-1 : Int) = shift p (-1); unfold shift; rw [if_neg (by omega)], rfl, rfl⟩ hb
  unfold applyF runF
  simp only
  rw [List.length_map, h.lv]
  split
  · exact h.out
  · rw [kindsOf_app, kindsOf_app, kindsOf_app, kindsOf_app, h.out]
    simp [kindsOf, All.tok]

/-! ### the law's loops -/
theorem moved_l0 (l : List S33) (s : ByteArray) (d : Int) (p : Nat) (v : Bool) (hl : l.length ≤ 1000) (hb : ∀ t ∈ l, 0 ≤ t.f1 ∧ t.f1 ≤ 1000000)
    (h : Ev (fun k => emendatelaw15_LayoutIgnoresEmptyLines.l0 k (p : Int) (l.map (moveT p)) (l.length : Int) l s d) v) : ∀ (e i : Nat), i + e = l.length →
    Ev (fun k => emendatelaw15_LayoutIgnoresEmptyLines.l0 k (p : Int) ((l.take i).map (moveT p)) (i : Int) l s d) v
  | 0, i, hi => by
    rw [List.take_of_length_le (by omega), show (i : Int) = (l.length : Int) by omega]
    exact h
  | e + 1, i, hi => by
    have hil : i < l.length := by omega
    have hbi := hb _ (List.getElem_mem hil)
    have ih := moved_l0 l s d p v hl hb h e (i + 1) (by omega)
    rw [List.take_succ_eq_append_getElem hil, List.map_append] at ih
    have hsz : ((l.take i).map (moveT p)).length = i := by rw [List.length_map, List.length_take]; omega
    refine Ev.step (fun k => ?_) ih
    simp only [emendatelaw15_LayoutIgnoresEmptyLines.l0]
    rw [if_pos (by omega), if_pos (by omega), rdn l i hil]
    by_cases c : l[i].f1 ≥ (p : Int)
    · rw [if_pos c, if_pos (by omega), wnat i (by omega), show wrap64 (l[i].f1 + 1) = l[i].f1 + 1 by unfold wrap64; omega]
      simp only [List.map_cons, List.map_nil, moveT, if_pos c]
    · rw [if_neg c, if_pos (by omega), wnat i (by omega)]
      simp only [List.map_cons, List.map_nil, moveT, if_neg c]

theorem want_l1 (x y : List S33) (hx : x.length ≤ 1000000) (hy : y.length ≤ 1000000) (h : kindsOf y = kindsOf x) : ∀ (e i : Nat), i + e = x.length → Ev (fun k => emendatelaw15_LayoutIgnoresEmptyLines.l1 k x y (kindsOf (x.take i)) (i : Int)) true
  | 0, i, hi => by
    rw [List.take_of_length_le (by omega)]
    refine Ev.step (f := fun k => (emendatelaw15_kinds.f k y (kindsOf x)).bind fun t313 => (some t313)) (fun k => ?_) (Ev.bind (kinds_of y (kindsOf x) hy h) (Ev.now _))
    simp only [emendatelaw15_LayoutIgnoresEmptyLines.l1]
    rw [if_neg (by omega)]
  | e + 1, i, hi => by
    have hil : i < x.length := by omega
    have ih := want_l1 x y hx hy h e (i + 1) (by omega)
    rw [List.take_succ_eq_append_getElem hil, kindsOf_app] at ih
    have hsz : (kindsOf (x.take i)).length = i := by unfold kindsOf; rw [List.length_map, List.length_take]; omega
    refine Ev.step (fun k => ?_) ih
    simp only [emendatelaw15_LayoutIgnoresEmptyLines.l1]
    rw [if_pos (by omega), if_pos (by omega), if_pos (by omega), rdn x i hil, wnat i (by omega)]
    rfl

theorem out_ (a1 : Int) (l : List S33) (s : ByteArray) (d : Int) : Ev (fun k => emendatelaw15_LayoutIgnoresEmptyLines.j0 k a1 true l s d) true := by
  refine Ev.step (f := fun _ => some true) (fun k => ?_) (Ev.now _)
  simp only [emendatelaw15_LayoutIgnoresEmptyLines.j0]
  rw [if_pos trivial]

theorem layoutIgnoresEmptyLines_pure (l : List S33) (s : ByteArray) (d a1 : Int) (hwf : ∀ t ∈ l, Wf t) (hs : s.size ≤ maxLen) (hd : (Lit.int .i64 d).wf = true) (ha : (Lit.int .u8 a1).wf = true) : ∃ k, emendatelaw15_LayoutIgnoresEmptyLines.f k l s d a1 = some true := by
  refine Ev.rounds ?_
  unfold emendatelaw15_LayoutIgnoresEmptyLines.f
  refine Ev.bind awake_ev ?_
  simp only [if_true]
  obtain ⟨b, h1, h2⟩ := fair_or l s d
  refine Ev.bind h1 ?_
  cases b with
  | false =>
    simp only [Bool.false_eq_true, if_false]
    exact out_ a1 l s d
  | true =>
    have hF := h2 rfl
    simp only [if_true]
    by_cases hz : (l.length : Int) = 0
    · rw [beq_iff_eq.2 hz]
      exact out_ a1 l s d
    · rw [beq_eq_false_iff_ne.2 hz]
      have hb := bounds_u8 ha
      have hl := hF.1
      have hsz := hF.2.1
      have hw : wrap64 a1 = a1 := by unfold wrap64; omega
      have hm0 : 0 ≤ Int.tmod a1 (l.length : Int) := Int.tmod_nonneg _ hb.1
      have hm1 : Int.tmod a1 (l.length : Int) < (l.length : Int) := Int.tmod_lt_of_pos _ (by omega)
      obtain ⟨m, hm⟩ : ∃ m : Nat, Int.tmod a1 (l.length : Int) = (m : Int) := ⟨(Int.tmod a1 (l.length : Int)).toNat, by omega⟩
      have hml : m < l.length := by omega
      have hat := hF.2.2.2.2 l[m] (List.getElem_mem hml)
      obtain ⟨p, hp⟩ : ∃ p, p = lst s l[m].f1.toNat := ⟨_, rfl⟩
      have hpp : lst s p = p := by rw [hp]; exact lst_idem s _
      have hps : p ≤ s.size := by have := lst_le s l[m].f1.toNat; omega
      refine Ev.step (f := fun k => (emendateref15_Start.f k s l[m].f1).bind fun t294 => emendatelaw15_LayoutIgnoresEmptyLines.l0 k t294 [] 0 l s d) (fun k => ?_) (Ev.bind (start_ev s (by omega) _ hat.1 hat.2) ?_)
      · simp only [emendatelaw15_LayoutIgnoresEmptyLines.j0]
        rw [if_neg (by simp), if_neg hz, hw, hm, if_pos (by omega), if_pos (by omega), rdn l m hml]
      · rw [← hp]
        have hR := hF.ready
        have hR2 : Ready (l.map (moveT p)) (put s p) d := ⟨by rw [List.length_map]; omega, by rw [put_size s p hps]; omega, hR.2.2.1, hR.2.2.2.1, fun t ht => by
          obtain ⟨u, hu, rfl⟩ := List.mem_map.1 ht
          have := hF.2.2.2.2 u hu
          rw [move_f1, put_size s p hps]
          unfold shift
          split <;> omega⟩
        have hlx := apply_len l s d
        have hly := apply_len (l.map (moveT p)) (put s p) d
        rw [List.length_map] at hly
        have hfin := want_l1 (applyF l s d) (applyF (l.map (moveT p)) (put s p) d) (by omega) (by omega) (apply_like d s p hpp hps l hF.2.2.2.2) (applyF l s d).length 0 (by omega)
        refine moved_l0 l s d p true (by omega) (fun t ht => by have := hF.2.2.2.2 t ht; omega) ?_ l.length 0 (by omega)
        have hx1 : (s.extract 0 p).size + 1 ≤ 9223372036854775807 := by rw [ByteArray.size_extract]; omega
        have hx2 : ((s.extract 0 p) ++ (⟨#[10]⟩ : ByteArray)).size + (s.extract p s.size).size ≤ 9223372036854775807 := by
          rw [ByteArray.size_append, ByteArray.size_extract, ByteArray.size_extract, show (⟨#[10]⟩ : ByteArray).size = 1 from rfl]
          omega
        refine Ev.step (f := fun k => (layout_Apply.f k l s d).bind fun t303 => (layout_Apply.f k (l.map (moveT p)) (put s p) d).bind fun t306 => emendatelaw15_LayoutIgnoresEmptyLines.l1 k t303 t306 [] 0) (fun k => ?_) (Ev.bind (apply_ev l s d hR) (Ev.bind (apply_ev _ _ d hR2) hfin))
        simp only [emendatelaw15_LayoutIgnoresEmptyLines.l0]
        rw [if_neg (by omega)]
        congr 1
        funext t303
        rw [if_pos (by omega), if_pos (by omega), Int.toNat_natCast, if_pos hx1, if_pos hx2]
        rfl
end Go.Proofs.Ythbdgmahjpgfiaa.layoutIgnoresEmptyLines
