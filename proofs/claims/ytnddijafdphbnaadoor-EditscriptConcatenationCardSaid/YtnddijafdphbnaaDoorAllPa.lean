/- What the printed functions answer: the input's check, the terminals' check, the least costs. Plain Lean, no program in sight. -/
import Derived.Test.YtnddijafdphbnaaDoorAllx16
import Derived.Test.YtnddijafdphbnaaDoorAllx24
namespace Go.Proofs.YtnddijafdphbnaaDoor.All
open Go.RowKit Go.Proofs.YtnddijafdphbnaaDoorW.PrintWords Go.Proofs.YtnddijafdphbnaaDoorW.PrintLast Go.Proofs.YtnddijafdphbnaaDoorW.PrintMore
set_option linter.unusedVariables false
set_option linter.unusedSimpArgs false

theorem wnat (i : Nat) (h : i ≤ 1000000000) : wrap64 ((i : Int) + 1) = ((i + 1 : Nat) : Int) := by unfold wrap64; omega
theorem rdn (l : List S33) (i : Nat) (h : i < l.length) : rd_T33 l (i : Int) = l[i] := by simp [rd_T33, List.getD, h]
theorem rdi (l : List Int) (i : Nat) (h : i < l.length) : rd l (i : Int) = l[i] := by simp [rd, List.getD, h]

/-! ### The input's check -/
structure GoodC (terms : Nat) (c : S33) : Prop where
 kind0 : -1 ≤ c.f0
 kind1 : c.f0 < (terms : Int)
 row : c.f1.length = terms
 del0 : 1 ≤ c.f2
 del1 : c.f2 ≤ 60000 ∨ c.f2 = 1099511627776
 own : ∀ t : Nat, t < terms → (t : Int) = c.f0 → rd c.f1 (t : Int) = 0
 other : ∀ t : Nat, t < terms → (t : Int) ≠ c.f0 → rd c.f1 (t : Int) = -1 ∨ (1 ≤ rd c.f1 (t : Int) ∧ rd c.f1 (t : Int) ≤ 60000)
structure Good (cols : List S33) (ins : List Int) (sw : Int) : Prop where
 n : cols.length ≤ 8
 m : ins.length ≤ 8
 sw0 : 0 ≤ sw
 sw1 : sw ≤ 60000
 col : ∀ c ∈ cols, GoodC ins.length c
 insb : ∀ t : Nat, t < ins.length → 1 ≤ rd ins (t : Int) ∧ rd ins (t : Int) ≤ 60000

theorem column_l0 (kd dl : Int) (r : List Int) (n : Nat) (hn : n ≤ 8) (hr : r.length = n) : ∀ (d i : Nat), i + d = n → ∃ b, Ev (fun k => emendateref35_Column.l0 k (n : Int) (i : Int) kd r dl) b ∧ (b = true → ∀ t : Nat, i ≤ t → t < n → ((t : Int) = kd → rd r (t : Int) = 0) ∧ ((t : Int) ≠ kd → rd r (t : Int) = -1 ∨ (1 ≤ rd r (t : Int) ∧ rd r (t : Int) ≤ 60000)))
 | 0, i, h => ⟨true, Ev.step (f := fun _ => some true) (fun k => by simp only [emendateref35_Column.l0]; rw [if_neg (by omega)]) (Ev.now _), fun _ t h1 h2 => by omega⟩
 | d + 1, i, h => by
  obtain ⟨b, hb, hb2⟩ := column_l0 kd dl r n hn hr d (i + 1) (by omega)
  have go : ∀ t : Nat, i ≤ t → t < n → t = i ∨ i + 1 ≤ t := fun t h1 h2 => by omega
  by_cases h1 : (i : Int) = kd
  ·
   by_cases h2 : rd r (i : Int) = 0
   ·
    refine ⟨b, Ev.step (f := fun k => emendateref35_Column.l0 k (n : Int) ((i + 1 : Nat) : Int) kd r dl) (fun k => ?_) hb, fun hh t k1 k2 => ?_⟩
    ·
     simp only [emendateref35_Column.l0]
     rw [if_pos (by omega), if_pos (by omega), if_pos (by omega), if_pos h1, if_pos h2, wnat i (by omega)]
    ·
     rcases go t k1 k2 with rfl | k3
     ·
      exact ⟨fun _ => h2, fun k => absurd h1 k⟩
     ·
      exact hb2 hh t k3 k2
   ·
    refine ⟨false, Ev.step (f := fun _ => some false) (fun k => ?_) (Ev.now _), fun hh => nomatch hh⟩
    simp only [emendateref35_Column.l0]
    rw [if_pos (by omega), if_pos (by omega), if_pos (by omega), if_pos h1, if_neg h2]
  ·
   by_cases h2 : rd r (i : Int) = -1
   ·
    refine ⟨b, Ev.step (f := fun k => emendateref35_Column.l0 k (n : Int) ((i + 1 : Nat) : Int) kd r dl) (fun k => ?_) hb, fun hh t k1 k2 => ?_⟩
    ·
     simp only [emendateref35_Column.l0]
     rw [if_pos (by omega), if_pos (by omega), if_pos (by omega), if_neg h1, if_pos h2, wnat i (by omega)]
    ·
     rcases go t k1 k2 with rfl | k3
     ·
      exact ⟨fun k => absurd k h1, fun _ => Or.inl h2⟩
     ·
      exact hb2 hh t k3 k2
   ·
    by_cases h3 : rd r (i : Int) < 1
    ·
     refine ⟨false, Ev.step (f := fun _ => some false) (fun k => ?_) (Ev.now _), fun hh => nomatch hh⟩
     simp only [emendateref35_Column.l0]
     rw [if_pos (by omega), if_pos (by omega), if_pos (by omega), if_neg h1, if_neg h2, if_pos h3]
    ·
     by_cases h4 : rd r (i : Int) > 60000
     ·
      refine ⟨false, Ev.step (f := fun _ => some false) (fun k => ?_) (Ev.now _), fun hh => nomatch hh⟩
      simp only [emendateref35_Column.l0]
      rw [if_pos (by omega), if_pos (by omega), if_pos (by omega), if_neg h1, if_neg h2, if_neg h3, if_pos h4]
     ·
      refine ⟨b, Ev.step (f := fun k => emendateref35_Column.l0 k (n : Int) ((i + 1 : Nat) : Int) kd r dl) (fun k => ?_) hb, fun hh t k1 k2 => ?_⟩
      ·
       simp only [emendateref35_Column.l0]
       rw [if_pos (by omega), if_pos (by omega), if_pos (by omega), if_neg h1, if_neg h2, if_neg h3, if_neg h4, wnat i (by omega)]
      ·
       rcases go t k1 k2 with rfl | k3
       ·
        exact ⟨fun k => absurd k h1, fun _ => Or.inr ⟨by omega, by omega⟩⟩
       ·
        exact hb2 hh t k3 k2
theorem column_no (kd dl : Int) (r : List Int) (a : Int) : Ev (fun k => emendateref35_Column.j0 k a true kd r dl) false := Ev.step (f := fun _ => some false) (fun k => by simp only [emendateref35_Column.j0]; rw [if_pos trivial]) (Ev.now _)
theorem column_ev (c : S33) (n : Nat) (hn : n ≤ 8) : ∃ b, Ev (fun k => emendateref35_Column.f k c.f0 c.f1 c.f2 (n : Int)) b ∧ (b = true → GoodC n c) := by
 have no := column_no c.f0 c.f2 c.f1 (n : Int)
 by_cases h1 : c.f0 < -1
 ·
  exact ⟨false, Ev.congr (fun k => by unfold emendateref35_Column.f; rw [if_pos h1]) no, fun hh => nomatch hh⟩
 by_cases h2 : c.f0 ≥ (n : Int)
 ·
  exact ⟨false, Ev.congr (fun k => by unfold emendateref35_Column.f; rw [if_neg h1, if_pos h2]) no, fun hh => nomatch hh⟩
 by_cases h3 : (c.f1.length : Int) = (n : Int)
 ·
  by_cases h4 : c.f2 < 1
  ·
   exact ⟨false, Ev.congr (fun k => by unfold emendateref35_Column.f; rw [if_neg h1, if_neg h2, if_pos h3, if_pos h4]) no, fun hh => nomatch hh⟩
  obtain ⟨b, hb, hb2⟩ := column_l0 c.f0 c.f2 c.f1 n hn (by omega) n 0 (by omega)
  have yes : Ev (fun k => emendateref35_Column.j0 k (n : Int) false c.f0 c.f1 c.f2) b := Ev.step (f := fun k => emendateref35_Column.l0 k (n : Int) ((0 : Nat) : Int) c.f0 c.f1 c.f2) (fun k => by simp only [emendateref35_Column.j0]; rw [if_neg (by simp)]; rfl) hb
  by_cases h5 : c.f2 > 60000
  ·
   by_cases h6 : c.f2 = 1099511627776
   ·
    refine ⟨b, Ev.congr (fun k => by unfold emendateref35_Column.f; rw [if_neg h1, if_neg h2, if_pos h3, if_neg h4, if_pos h5, bne_eq_false_iff_eq.2 h6]) yes, fun hh => ?_⟩
    exact ⟨by omega, by omega, by omega, by omega, Or.inr h6, fun t ht => (hb2 hh t (Nat.zero_le _) ht).1, fun t ht => (hb2 hh t (Nat.zero_le _) ht).2⟩
   ·
    exact ⟨false, Ev.congr (fun k => by unfold emendateref35_Column.f; rw [if_neg h1, if_neg h2, if_pos h3, if_neg h4, if_pos h5, bne_iff_ne.2 h6]) no, fun hh => nomatch hh⟩
  ·
   refine ⟨b, Ev.congr (fun k => by unfold emendateref35_Column.f; rw [if_neg h1, if_neg h2, if_pos h3, if_neg h4, if_neg h5]) yes, fun hh => ?_⟩
   exact ⟨by omega, by omega, by omega, by omega, Or.inl (by omega), fun t ht => (hb2 hh t (Nat.zero_le _) ht).1, fun t ht => (hb2 hh t (Nat.zero_le _) ht).2⟩
 ·
  exact ⟨false, Ev.congr (fun k => by unfold emendateref35_Column.f; rw [if_neg h1, if_neg h2, if_neg h3]) no, fun hh => nomatch hh⟩
theorem columns_l0 (cols : List S33) (hl : cols.length ≤ 8) (n : Nat) (hn : n ≤ 8) : ∀ (d i : Nat), i + d = cols.length → ∃ b, Ev (fun k => emendateref35_columns.l0 k cols (n : Int) (i : Int)) b ∧ (b = true → ∀ c ∈ cols.drop i, GoodC n c)
 | 0, i, h => ⟨true, Ev.step (f := fun _ => some true) (fun k => by simp only [emendateref35_columns.l0]; rw [if_neg (by omega)]) (Ev.now _), fun _ c hc => by rw [List.drop_eq_nil_of_le (by omega)] at hc; cases hc⟩
 | d + 1, i, h => by
  obtain ⟨b, hb, hb2⟩ := columns_l0 cols hl n hn d (i + 1) (by omega)
  obtain ⟨c, hc, hc2⟩ := column_ev (rd_T33 cols (i : Int)) n hn
  cases c with
  | true =>
   refine ⟨b, Ev.step (f := fun k => (emendateref35_Column.f k (rd_T33 cols (i : Int)).f0 (rd_T33 cols (i : Int)).f1 (rd_T33 cols (i : Int)).f2 (n : Int)).bind fun t336 => if t336 = true then emendateref35_columns.l0 k cols (n : Int) ((i + 1 : Nat) : Int) else some false) (fun k => ?_) (Ev.bind hc (Ev.congr (fun k => by rw [if_pos rfl]) hb)), fun hh x hx => ?_⟩
   ·
    simp only [emendateref35_columns.l0]
    rw [if_pos (by omega), if_pos (by omega), wnat i (by omega)]
   ·
    rw [List.drop_eq_getElem_cons (show i < cols.length by omega)] at hx
    rcases List.mem_cons.1 hx with rfl | hx
    ·
     have := hc2 rfl
     rw [rdn cols i (by omega)] at this
     exact this
    ·
     exact hb2 hh x hx
  | false =>
   refine ⟨false, Ev.step (f := fun k => (emendateref35_Column.f k (rd_T33 cols (i : Int)).f0 (rd_T33 cols (i : Int)).f1 (rd_T33 cols (i : Int)).f2 (n : Int)).bind fun t336 => if t336 = true then emendateref35_columns.l0 k cols (n : Int) ((i + 1 : Nat) : Int) else some false) (fun k => ?_) (Ev.bind hc (Ev.congr (f := fun _ => some false) (fun k => by rw [if_neg (by simp)]) (Ev.now _))), fun hh => nomatch hh⟩
   simp only [emendateref35_columns.l0]
   rw [if_pos (by omega), if_pos (by omega), wnat i (by omega)]
theorem valid_l0 (cols : List S33) (ins : List Int) (sw : Int) (hn : ins.length ≤ 8) : ∀ (d i : Nat), i + d = ins.length → ∃ b, Ev (fun k => emendateref35_Valid.l0 k (ins.length : Int) (i : Int) cols ins sw) b ∧ (b = true → ∀ t : Nat, i ≤ t → t < ins.length → 1 ≤ rd ins (t : Int) ∧ rd ins (t : Int) ≤ 60000)
 | 0, i, h => ⟨true, Ev.step (f := fun _ => some true) (fun k => by simp only [emendateref35_Valid.l0]; rw [if_neg (by omega)]) (Ev.now _), fun _ t h1 h2 => by omega⟩
 | d + 1, i, h => by
  obtain ⟨b, hb, hb2⟩ := valid_l0 cols ins sw hn d (i + 1) (by omega)
  by_cases h1 : rd ins (i : Int) < 1
  ·
   refine ⟨false, Ev.step (f := fun _ => some false) (fun k => ?_) (Ev.now _), fun hh => nomatch hh⟩
   simp only [emendateref35_Valid.l0]
   rw [if_pos (by omega), if_pos (by omega), if_pos (by omega), if_pos h1]
  by_cases h2 : rd ins (i : Int) > 60000
  ·
   refine ⟨false, Ev.step (f := fun _ => some false) (fun k => ?_) (Ev.now _), fun hh => nomatch hh⟩
   simp only [emendateref35_Valid.l0]
   rw [if_pos (by omega), if_pos (by omega), if_pos (by omega), if_neg h1, if_pos h2]
  refine ⟨b, Ev.step (f := fun k => emendateref35_Valid.l0 k (ins.length : Int) ((i + 1 : Nat) : Int) cols ins sw) (fun k => ?_) hb, fun hh t k1 k2 => ?_⟩
  ·
   simp only [emendateref35_Valid.l0]
   rw [if_pos (by omega), if_pos (by omega), if_pos (by omega), if_neg h1, if_neg h2, wnat i (by omega)]
  ·
   rcases (show t = i ∨ i + 1 ≤ t by omega) with rfl | k3
   ·
    exact ⟨by omega, by omega⟩
   ·
    exact hb2 hh t k3 k2
theorem valid_ev (cols : List S33) (ins : List Int) (sw : Int) (hl : cols.length ≤ 8) (hn : ins.length ≤ 8) : ∃ b, Ev (fun k => emendateref35_Valid.f k cols ins sw (ins.length : Int)) b ∧ (b = true → Good cols ins sw) := by
 have no : Ev (fun k => emendateref35_Valid.j0 k (ins.length : Int) true cols ins sw) false := Ev.step (f := fun _ => some false) (fun k => by simp only [emendateref35_Valid.j0]; rw [if_pos trivial]) (Ev.now _)
 by_cases h1 : sw < 0
 ·
  exact ⟨false, Ev.congr (fun k => by unfold emendateref35_Valid.f; rw [if_neg (by omega), if_neg (by omega), if_pos rfl, if_pos h1]) no, fun hh => nomatch hh⟩
 by_cases h2 : sw > 60000
 ·
  exact ⟨false, Ev.congr (fun k => by unfold emendateref35_Valid.f; rw [if_neg (by omega), if_neg (by omega), if_pos rfl, if_neg h1, if_pos h2]) no, fun hh => nomatch hh⟩
 obtain ⟨b, hb, hb2⟩ := valid_l0 cols ins sw hn ins.length 0 (by omega)
 have yes : Ev (fun k => emendateref35_Valid.j0 k (ins.length : Int) false cols ins sw) b := Ev.step (f := fun k => emendateref35_Valid.l0 k (ins.length : Int) ((0 : Nat) : Int) cols ins sw) (fun k => by simp only [emendateref35_Valid.j0]; rw [if_neg (by simp)]; rfl) hb
 obtain ⟨c, hc, hc2⟩ := columns_l0 cols hl ins.length hn cols.length 0 (by omega)
 have hcf : Ev (fun k => emendateref35_columns.f k cols (ins.length : Int)) c := Ev.congr (fun k => rfl) hc
 cases c with
 | true =>
  refine ⟨b, Ev.congr (f := fun k => (emendateref35_columns.f k cols (ins.length : Int)).bind fun t338 => emendateref35_Valid.j0 k (ins.length : Int) (!t338) cols ins sw) (fun k => by unfold emendateref35_Valid.f; rw [if_neg (by omega), if_neg (by omega), if_pos rfl, if_neg h1, if_neg h2]) (Ev.bind hcf yes), fun hh => ?_⟩
  exact ⟨hl, hn, by omega, by omega, fun c h => hc2 rfl c (by simpa using h), fun t ht => hb2 hh t (Nat.zero_le _) ht⟩
 | false => exact ⟨false, Ev.congr (f := fun k => (emendateref35_columns.f k cols (ins.length : Int)).bind fun t338 => emendateref35_Valid.j0 k (ins.length : Int) (!t338) cols ins sw) (fun k => by unfold emendateref35_Valid.f; rw [if_neg (by omega), if_neg (by omega), if_pos rfl, if_neg h1, if_neg h2]) (Ev.bind hcf no), fun hh => nomatch hh⟩
theorem small_l0 (cols : List S33) (ins : List Int) (sw : Int) (hl : cols.length ≤ 8) : ∀ (d i : Nat), i + d = cols.length → ∃ b, Ev (fun k => emendateref36_Small.l0 k (i : Int) cols ins sw) b
 | 0, i, h => ⟨true, Ev.step (f := fun _ => some true) (fun k => by simp only [emendateref36_Small.l0]; rw [if_neg (by omega)]) (Ev.now _)⟩
 | d + 1, i, h => by
  obtain ⟨b, hb⟩ := small_l0 cols ins sw hl d (i + 1) (by omega)
  by_cases h1 : ((rd_T33 cols (i : Int)).f1.length : Int) > 8
  ·
   exact ⟨false, Ev.step (f := fun _ => some false) (fun k => by simp only [emendateref36_Small.l0]; rw [if_pos (by omega), if_pos (by omega), if_pos h1]) (Ev.now _)⟩
  ·
   exact ⟨b, Ev.step (f := fun k => emendateref36_Small.l0 k ((i + 1 : Nat) : Int) cols ins sw) (fun k => by simp only [emendateref36_Small.l0]; rw [if_pos (by omega), if_pos (by omega), if_neg h1, wnat i (by omega)]) hb⟩
theorem small_ev (cols : List S33) (ins : List Int) (sw : Int) : ∃ b, Ev (fun k => emendateref36_Small.f k cols ins sw) b ∧ (b = true → cols.length ≤ 8 ∧ ins.length ≤ 8) := by
 have no : Ev (fun k => emendateref36_Small.j0 k true cols ins sw) false := Ev.step (f := fun _ => some false) (fun k => by simp only [emendateref36_Small.j0]; rw [if_pos trivial]) (Ev.now _)
 by_cases h1 : (cols.length : Int) > 8
 ·
  exact ⟨false, Ev.congr (fun k => by unfold emendateref36_Small.f; rw [if_pos h1]) no, fun hh => nomatch hh⟩
 by_cases h2 : (ins.length : Int) > 8
 ·
  exact ⟨false, Ev.congr (fun k => by unfold emendateref36_Small.f; rw [if_neg h1, decide_eq_true h2]) no, fun hh => nomatch hh⟩
 obtain ⟨b, hb⟩ := small_l0 cols ins sw (by omega) cols.length 0 (by omega)
 exact ⟨b, Ev.congr (fun k => by unfold emendateref36_Small.f; rw [if_neg h1, decide_eq_false h2]) (Ev.step (f := fun k => emendateref36_Small.l0 k ((0 : Nat) : Int) cols ins sw) (fun k => by simp only [emendateref36_Small.j0]; rw [if_neg (by simp)]; rfl) hb), fun _ => ⟨by omega, by omega⟩⟩
/-- fair: what it lets pass is valid. -/
theorem fair_ev (cols : List S33) (ins : List Int) (sw : Int) : ∃ b, Ev (fun k => emendatelaw36_fair.f k cols ins sw) b ∧ (b = true → Good cols ins sw) := by
 obtain ⟨a, ha, ha2⟩ := small_ev cols ins sw
 cases a with
 | true =>
  obtain ⟨b, hb, hb2⟩ := valid_ev cols ins sw (ha2 rfl).1 (ha2 rfl).2
  exact ⟨b, Ev.congr (f := fun k => (emendateref36_Small.f k cols ins sw).bind fun t342 => (if t342 = true then ((emendateref35_Valid.f k cols ins sw (ins.length : Int)).bind fun t343 => (some t343)) else (some false))) (fun k => rfl) (Ev.bind ha (Ev.congr (fun k => by rw [if_pos rfl]) (Ev.bind hb (Ev.now _)))), hb2⟩
 | false => exact ⟨false, Ev.congr (f := fun k => (emendateref36_Small.f k cols ins sw).bind fun t342 => (if t342 = true then ((emendateref35_Valid.f k cols ins sw (ins.length : Int)).bind fun t343 => (some t343)) else (some false))) (fun k => rfl) (Ev.bind ha (Ev.congr (f := fun _ => some false) (fun k => by rw [if_neg (by simp)]) (Ev.now _))), fun hh => nomatch hh⟩

/-! ### The terminals' check -/
def Proper (ins y : List Int) : Prop := ∀ t ∈ y, 0 ≤ t ∧ t < (ins.length : Int)
instance (ins y : List Int) : Decidable (Proper ins y) := by unfold Proper; infer_instance
theorem proper_l0 (cols : List S33) (ins : List Int) (sw : Int) (y : List Int) (hl : y.length ≤ 1000000) : ∀ (d i : Nat), i + d = y.length → Ev (fun k => editscript_proper.l0 k y (y.length : Int) (i : Int) cols ins sw) (decide (Proper ins (y.drop i)))
 | 0, i, h => by
  have e : decide (Proper ins (y.drop i)) = true := decide_eq_true (by rw [List.drop_eq_nil_of_le (by omega)]; intro t ht; cases ht)
  rw [e]
  exact Ev.step (f := fun _ => some true) (fun k => by simp only [editscript_proper.l0]; rw [if_neg (by omega)]) (Ev.now _)
 | d + 1, i, h => by
  have hi : i < y.length := by omega
  have hd := List.drop_eq_getElem_cons hi
  have hr := rdi y i hi
  by_cases h1 : rd y (i : Int) < 0
  ·
   have e : decide (Proper ins (y.drop i)) = false := decide_eq_false (fun hh => by have := (hh y[i] (by rw [hd]; exact List.mem_cons_self)).1; omega)
   rw [e]
   exact Ev.step (f := fun _ => some false) (fun k => by simp only [editscript_proper.l0]; rw [if_pos (by omega), if_pos (by omega), if_pos (by omega), if_pos h1]) (Ev.now _)
  by_cases h2 : rd y (i : Int) ≥ (ins.length : Int)
  ·
   have e : decide (Proper ins (y.drop i)) = false := decide_eq_false (fun hh => by have := (hh y[i] (by rw [hd]; exact List.mem_cons_self)).2; omega)
   rw [e]
   exact Ev.step (f := fun _ => some false) (fun k => by simp only [editscript_proper.l0]; rw [if_pos (by omega), if_pos (by omega), if_pos (by omega), if_neg h1, if_pos h2]) (Ev.now _)
  have e : decide (Proper ins (y.drop i)) = decide (Proper ins (y.drop (i + 1))) := by
   refine decide_eq_decide.2 ⟨fun hh t ht => hh t (by rw [hd]; exact List.mem_cons_of_mem _ ht), fun hh t ht => ?_⟩
   rw [hd] at ht
   rcases List.mem_cons.1 ht with rfl | ht
   ·
    exact ⟨by omega, by omega⟩
   ·
    exact hh t ht
  rw [e]
  exact Ev.step (f := fun k => editscript_proper.l0 k y (y.length : Int) ((i + 1 : Nat) : Int) cols ins sw) (fun k => by simp only [editscript_proper.l0]; rw [if_pos (by omega), if_pos (by omega), if_pos (by omega), if_neg h1, if_neg h2, wnat i (by omega)]) (proper_l0 cols ins sw y hl d (i + 1) (by omega))
theorem proper_ev (cols : List S33) (ins : List Int) (sw : Int) (y : List Int) (hl : y.length ≤ 1000000) : Ev (fun k => editscript_proper.f k cols ins sw y) (decide (Proper ins y)) := Ev.congr (fun k => rfl) (proper_l0 cols ins sw y hl y.length 0 (by omega))
end Go.Proofs.YtnddijafdphbnaaDoor.All
