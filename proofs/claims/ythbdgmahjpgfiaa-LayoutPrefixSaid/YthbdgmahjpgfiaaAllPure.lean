/- What the printed functions of this seat answer: Fair, plain, Same, kinds, Balanced, Strip, awake. Plain Lean, no program in sight. -/
import Derived.Test.YthbdgmahjpgfiaaAllx10
import Derived.Test.YthbdgmahjpgfiaaAllx11
import Derived.Test.YthbdgmahjpgfiaaAllx12
import Derived.Test.YthbdgmahjpgfiaaAllx14
import Derived.Test.YthbdgmahjpgfiaaAllx15
import Derived.Test.YthbdgmahjpgfiaaAllx18
import Derived.Test.YthbdgmahjpgfiaaAllOpen
namespace Go.Proofs.Ythbdgmahjpgfiaa.All
open Go.RowKit Go.Proofs.YthbdgmahjpgfiaaW.PrintWords Go.Proofs.YthbdgmahjpgfiaaW.PrintLast Go.Proofs.YthbdgmahjpgfiaaW.PrintMore
set_option linter.unusedVariables false
set_option linter.unusedSimpArgs false

theorem wnat (i : Nat) (h : i ≤ 1000000000) : wrap64 ((i : Int) + 1) = ((i + 1 : Nat) : Int) := by unfold wrap64; omega
theorem rdn (l : List S33) (i : Nat) (h : i < l.length) : rd_T33 l (i : Int) = l[i] := by simp [rd_T33, List.getD, h]
theorem rdi (l : List Int) (i : Nat) (h : i < l.length) : rd l (i : Int) = l[i] := by simp [rd, List.getD, h]

/-! ### Same -/
theorem same_l0 (l : List S33) (hl : l.length ≤ 1000000) : ∀ (d i : Nat), i + d = l.length → Ev (fun k => emendateref12_Same.l0 k l l (i : Int)) true
  | 0, i, h => by
    refine Ev.step (f := fun _ => some true) (fun k => ?_) (Ev.now _)
    simp only [emendateref12_Same.l0]
    rw [if_neg (by omega)]
  | d + 1, i, h => by
    refine Ev.step (f := fun k => emendateref12_Same.l0 k l l ((i + 1 : Nat) : Int)) (fun k => ?_) (same_l0 l hl d (i + 1) (by omega))
    simp only [emendateref12_Same.l0]
    rw [if_pos (by omega), if_pos (by omega), if_pos (by omega), if_neg (by simp), wnat i (by omega)]
theorem same_refl (l : List S33) (hl : l.length ≤ 1000000) : Ev (fun k => emendateref12_Same.f k l l) true := by
  refine Ev.congr (f := fun k => emendateref12_Same.l0 k l l ((0 : Nat) : Int)) (fun k => ?_) (same_l0 l hl l.length 0 (by omega))
  unfold emendateref12_Same.f
  rw [if_pos rfl]
  rfl

/-! ### kinds -/
theorem kinds_l0 (l : List S33) (hl : l.length ≤ 1000000) : ∀ (d i : Nat), i + d = l.length → Ev (fun k => emendatelaw15_kinds.l0 k l (l.map (·.f0)) (i : Int)) true
  | 0, i, h => by
    refine Ev.step (f := fun _ => some true) (fun k => ?_) (Ev.now _)
    simp only [emendatelaw15_kinds.l0]
    rw [if_neg (by omega)]
  | d + 1, i, h => by
    refine Ev.step (f := fun k => emendatelaw15_kinds.l0 k l (l.map (·.f0)) ((i + 1 : Nat) : Int)) (fun k => ?_) (kinds_l0 l hl d (i + 1) (by omega))
    simp only [emendatelaw15_kinds.l0]
    rw [if_pos (by omega), if_pos (by omega), if_pos (by rw [List.length_map]; omega), if_pos, wnat i (by omega)]
    rw [rdn l i (by omega), rdi _ i (by rw [List.length_map]; omega), List.getElem_map]
theorem kinds_of (l : List S33) (m : List Int) (hl : l.length ≤ 1000000) (h : l.map (·.f0) = m) : Ev (fun k => emendatelaw15_kinds.f k l m) true := by
  subst h
  refine Ev.congr (f := fun k => emendatelaw15_kinds.l0 k l (l.map (·.f0)) ((0 : Nat) : Int)) (fun k => ?_) (kinds_l0 l hl l.length 0 (by omega))
  unfold emendatelaw15_kinds.f
  rw [if_pos (by rw [List.length_map])]
  rfl

/-! ### Balanced -/
/-- The open indents behind a list, from n on; none where one is closed that is not open. -/
def runB (a : Int) : Nat → List S33 → Option Nat
  | n, [] => some n
  | n, t :: r => if t.f0 = a + 1 then runB a (n + 1) r else if t.f0 = a + 2 then (if n = 0 then none else runB a (n - 1) r) else runB a n r
def okB (x : Option Nat) : Bool := x == some 0

theorem okB_some (n : Nat) : okB (some n) = ((n : Int) == 0) := by
  unfold okB
  cases n with
  | zero => rfl
  | succ n => rw [beq_eq_false_iff_ne.2 (by simp), beq_eq_false_iff_ne.2 (by omega)]

theorem balP_l0 (a : Int) (ha : -100000 ≤ a ∧ a ≤ 100000) (l : List S33) (hl : l.length ≤ 1000000) : ∀ (d i n : Nat), i + d = l.length → n ≤ i →
    Ev (fun k => layout_Balanced.l0 k a (n : Int) l (l.length : Int) (i : Int)) (okB (runB a n (l.drop i)))
  | 0, i, n, h, _ => by
    refine Ev.step (f := fun _ => some (okB (runB a n (l.drop i)))) (fun k => ?_) (Ev.now _)
    simp only [layout_Balanced.l0]
    rw [if_neg (by omega), List.drop_of_length_le (by omega)]
    rw [show runB a n [] = some n from rfl, okB_some]
  | d + 1, i, n, h, hn => by
    have hi : i < l.length := by omega
    have w1 : wrap64 (a + 1) = a + 1 := by unfold wrap64; omega
    have w2 : wrap64 (a + 2) = a + 2 := by unfold wrap64; omega
    have w3 : wrap64 ((n : Int) - 1) = (n : Int) - 1 := by unfold wrap64; omega
    rw [List.drop_eq_getElem_cons hi]
    simp only [runB]
    by_cases c1 : l[i].f0 = a + 1
    · rw [if_pos c1]
      refine Ev.step (f := fun k => layout_Balanced.l0 k a ((n + 1 : Nat) : Int) l (l.length : Int) ((i + 1 : Nat) : Int)) (fun k => ?_) (balP_l0 a ha l hl d (i + 1) (n + 1) (by omega) (by omega))
      simp only [layout_Balanced.l0]
      rw [if_pos (by omega), if_pos (by omega), if_pos (by omega), rdn l i hi, w1, if_pos c1, wnat n (by omega), if_neg (by omega), wnat i (by omega)]
    · rw [if_neg c1]
      by_cases c2 : l[i].f0 = a + 2
      · rw [if_pos c2]
        by_cases c3 : n = 0
        · rw [if_pos c3]
          refine Ev.step (f := fun k => some false) (fun k => ?_) (Ev.now _)
          simp only [layout_Balanced.l0]
          rw [if_pos (by omega), if_pos (by omega), if_pos (by omega), rdn l i hi, w1, if_neg c1, w2, if_pos c2, w3, if_pos (by omega)]
        · rw [if_neg c3]
          refine Ev.step (f := fun k => layout_Balanced.l0 k a ((n - 1 : Nat) : Int) l (l.length : Int) ((i + 1 : Nat) : Int)) (fun k => ?_) (balP_l0 a ha l hl d (i + 1) (n - 1) (by omega) (by omega))
          simp only [layout_Balanced.l0]
          rw [if_pos (by omega), if_pos (by omega), if_pos (by omega), rdn l i hi, w1, if_neg c1, w2, if_pos c2, w3, if_neg (by omega), wnat i (by omega), show (n : Int) - 1 = ((n - 1 : Nat) : Int) by omega]
      · rw [if_neg c2]
        refine Ev.step (f := fun k => layout_Balanced.l0 k a (n : Int) l (l.length : Int) ((i + 1 : Nat) : Int)) (fun k => ?_) (balP_l0 a ha l hl d (i + 1) n (by omega) (by omega))
        simp only [layout_Balanced.l0]
        rw [if_pos (by omega), if_pos (by omega), if_pos (by omega), rdn l i hi, w1, if_neg c1, w2, if_neg c2, if_neg (by omega), wnat i (by omega)]
theorem balP (a : Int) (ha : -100000 ≤ a ∧ a ≤ 100000) (l : List S33) (hl : l.length ≤ 1000000) : Ev (fun k => layout_Balanced.f k l a) (okB (runB a 0 l)) := by
  have := balP_l0 a ha l hl l.length 0 0 (by omega) (by omega)
  rw [List.drop_zero] at this
  exact this

def In64 (t : S33) : Prop := -9223372036854775808 ≤ t.f0 ∧ t.f0 ≤ 9223372036854775807
theorem Wf.in64 {t : S33} (h : Wf t) : In64 t := bounds_i64 h.1

theorem balR_l0 (a : Int) (ha : -100000 ≤ a ∧ a ≤ 100000) (l : List S33) (hl : l.length ≤ 1000000) (hw : ∀ t ∈ l, In64 t) : ∀ (d i n : Nat), i + d = l.length → n ≤ i →
    Ev (fun k => emendateref15_Balanced.l0 k l a (n : Int) (i : Int)) (okB (runB a n (l.drop i)))
  | 0, i, n, h, _ => by
    refine Ev.step (f := fun _ => some (okB (runB a n (l.drop i)))) (fun k => ?_) (Ev.now _)
    simp only [emendateref15_Balanced.l0]
    rw [if_neg (by omega), List.drop_of_length_le (by omega)]
    rw [show runB a n [] = some n from rfl, okB_some]
  | d + 1, i, n, h, hn => by
    have hi : i < l.length := by omega
    have hm : In64 l[i] := hw _ (List.getElem_mem hi)
    unfold In64 at hm
    have w3 : wrap64 ((n : Int) - 1) = (n : Int) - 1 := by unfold wrap64; omega
    rw [List.drop_eq_getElem_cons hi]
    simp only [runB]
    by_cases c1 : l[i].f0 = a + 1
    · rw [if_pos c1]
      refine Ev.step (f := fun k => emendateref15_Balanced.l0 k l a ((n + 1 : Nat) : Int) ((i + 1 : Nat) : Int)) (fun k => ?_) (balR_l0 a ha l hl hw d (i + 1) (n + 1) (by omega) (by omega))
      simp only [emendateref15_Balanced.l0]
      rw [if_pos (by omega), if_pos (by omega), rdn l i hi, if_pos (by unfold wrap64; omega), wnat n (by omega), wnat i (by omega)]
    · rw [if_neg c1]
      by_cases c2 : l[i].f0 = a + 2
      · rw [if_pos c2]
        by_cases c3 : n = 0
        · rw [if_pos c3]
          refine Ev.step (f := fun k => some false) (fun k => ?_) (Ev.now _)
          simp only [emendateref15_Balanced.l0]
          rw [if_pos (by omega), if_pos (by omega), rdn l i hi, if_neg (by unfold wrap64; omega), if_pos (by unfold wrap64; omega), w3, if_pos (by omega)]
        · rw [if_neg c3]
          refine Ev.step (f := fun k => emendateref15_Balanced.l0 k l a ((n - 1 : Nat) : Int) ((i + 1 : Nat) : Int)) (fun k => ?_) (balR_l0 a ha l hl hw d (i + 1) (n - 1) (by omega) (by omega))
          simp only [emendateref15_Balanced.l0]
          rw [if_pos (by omega), if_pos (by omega), rdn l i hi, if_neg (by unfold wrap64; omega), if_pos (by unfold wrap64; omega), w3, if_neg (by omega), wnat i (by omega), show (n : Int) - 1 = ((n - 1 : Nat) : Int) by omega]
      · rw [if_neg c2]
        refine Ev.step (f := fun k => emendateref15_Balanced.l0 k l a (n : Int) ((i + 1 : Nat) : Int)) (fun k => ?_) (balR_l0 a ha l hl hw d (i + 1) n (by omega) (by omega))
        simp only [emendateref15_Balanced.l0]
        rw [if_pos (by omega), if_pos (by omega), rdn l i hi, if_neg (by unfold wrap64; omega), if_neg (by unfold wrap64; omega), wnat i (by omega)]
theorem balR (a : Int) (ha : -100000 ≤ a ∧ a ≤ 100000) (l : List S33) (hl : l.length ≤ 1000000) (hw : ∀ t ∈ l, In64 t) : Ev (fun k => emendateref15_Balanced.f k l a) (okB (runB a 0 l)) := by
  have := balR_l0 a ha l hl hw l.length 0 0 (by omega) (by omega)
  rw [List.drop_zero] at this
  exact this

/-! ### Strip -/
def keep (a : Int) (l : List S33) : List S33 := l.filter fun t => decide (t.f0 < a)
theorem keep_cons (a : Int) (t : S33) (l : List S33) : keep a (t :: l) = if t.f0 < a then t :: keep a l else keep a l := by
  unfold keep
  rw [List.filter_cons]
  by_cases h : t.f0 < a <;> simp [h]
theorem keep_len (a : Int) (l : List S33) : (keep a l).length ≤ l.length := List.length_filter_le _ _

theorem stripP_l0 (a : Int) (l : List S33) (hl : l.length ≤ 1000000) : ∀ (d i : Nat) (o : List S33), i + d = l.length → o.length ≤ i →
    Ev (fun k => layout_Strip.l0 k a o l (l.length : Int) (i : Int)) (o ++ keep a (l.drop i))
  | 0, i, o, h, _ => by
    refine Ev.step (f := fun _ => some (o ++ keep a (l.drop i))) (fun k => ?_) (Ev.now _)
    simp only [layout_Strip.l0]
    rw [if_neg (by omega), List.drop_of_length_le (by omega)]
    simp [keep]
  | d + 1, i, o, h, ho => by
    have hi : i < l.length := by omega
    rw [List.drop_eq_getElem_cons hi, keep_cons]
    by_cases c : l[i].f0 < a
    · rw [if_pos c]
      have := stripP_l0 a l hl d (i + 1) (o ++ [l[i]]) (by omega) (by simp; omega)
      rw [List.append_assoc] at this
      refine Ev.step (f := fun k => layout_Strip.l0 k a (o ++ [l[i]]) l (l.length : Int) ((i + 1 : Nat) : Int)) (fun k => ?_) this
      simp only [layout_Strip.l0]
      rw [if_pos (by omega), if_pos (by omega), if_pos (by omega), rdn l i hi, if_pos c, if_pos (by omega), wnat i (by omega)]
    · rw [if_neg c]
      refine Ev.step (f := fun k => layout_Strip.l0 k a o l (l.length : Int) ((i + 1 : Nat) : Int)) (fun k => ?_) (stripP_l0 a l hl d (i + 1) o (by omega) (by omega))
      simp only [layout_Strip.l0]
      rw [if_pos (by omega), if_pos (by omega), if_pos (by omega), rdn l i hi, if_neg c, wnat i (by omega)]
theorem stripP (a : Int) (l : List S33) (hl : l.length ≤ 1000000) : Ev (fun k => layout_Strip.f k l a) (keep a l) := by
  have := stripP_l0 a l hl l.length 0 [] (by omega) (by simp)
  rw [List.drop_zero, List.nil_append] at this
  exact this

theorem stripR_l0 (a : Int) (l : List S33) (hl : l.length ≤ 1000000) : ∀ (d i : Nat) (o : List S33), i + d = l.length → o.length ≤ i →
    Ev (fun k => emendateref15_Strip.l0 k l a o (i : Int)) (o ++ keep a (l.drop i))
  | 0, i, o, h, _ => by
    refine Ev.step (f := fun _ => some (o ++ keep a (l.drop i))) (fun k => ?_) (Ev.now _)
    simp only [emendateref15_Strip.l0]
    rw [if_neg (by omega), List.drop_of_length_le (by omega)]
    simp [keep]
  | d + 1, i, o, h, ho => by
    have hi : i < l.length := by omega
    rw [List.drop_eq_getElem_cons hi, keep_cons]
    by_cases c : l[i].f0 < a
    · rw [if_pos c]
      have := stripR_l0 a l hl d (i + 1) (o ++ [l[i]]) (by omega) (by simp; omega)
      rw [List.append_assoc] at this
      refine Ev.step (f := fun k => emendateref15_Strip.l0 k l a (o ++ [l[i]]) ((i + 1 : Nat) : Int)) (fun k => ?_) this
      simp only [emendateref15_Strip.l0]
      rw [if_pos (by omega), if_pos (by omega), rdn l i hi, if_pos c, if_pos (by omega), wnat i (by omega)]
    · rw [if_neg c]
      refine Ev.step (f := fun k => emendateref15_Strip.l0 k l a o ((i + 1 : Nat) : Int)) (fun k => ?_) (stripR_l0 a l hl d (i + 1) o (by omega) (by omega))
      simp only [emendateref15_Strip.l0]
      rw [if_pos (by omega), if_pos (by omega), rdn l i hi, if_neg c, wnat i (by omega)]
theorem stripR (a : Int) (l : List S33) (hl : l.length ≤ 1000000) : Ev (fun k => emendateref15_Strip.f k l a) (keep a l) := by
  have := stripR_l0 a l hl l.length 0 [] (by omega) (by simp)
  rw [List.drop_zero, List.nil_append] at this
  exact this

/-! ### plain -/
theorem plain_l0 (l : List S33) (s : ByteArray) (a : Int) (hl : l.length ≤ 1000000) : ∀ (d i : Nat), i + d = l.length → ∃ b, Ev (fun k => emendatelaw15_plain.l0 k (i : Int) l s a) b ∧ (b = true → ∀ t ∈ l.drop i, t.f0 < a)
  | 0, i, h => by
    refine ⟨true, Ev.step (f := fun _ => some true) (fun k => ?_) (Ev.now _), fun _ t ht => ?_⟩
    · simp only [emendatelaw15_plain.l0]
      rw [if_neg (by omega)]
    · rw [List.drop_of_length_le (by omega)] at ht; cases ht
  | d + 1, i, h => by
    have hi : i < l.length := by omega
    by_cases c : l[i].f0 ≥ a
    · refine ⟨false, Ev.step (f := fun _ => some false) (fun k => ?_) (Ev.now _), fun h => by cases h⟩
      simp only [emendatelaw15_plain.l0]
      rw [if_pos (by omega), if_pos (by omega), rdn l i hi, if_pos c]
    · obtain ⟨b, h1, h2⟩ := plain_l0 l s a hl d (i + 1) (by omega)
      refine ⟨b, Ev.step (f := fun k => emendatelaw15_plain.l0 k ((i + 1 : Nat) : Int) l s a) (fun k => ?_) h1, fun hb t ht => ?_⟩
      · simp only [emendatelaw15_plain.l0]
        rw [if_pos (by omega), if_pos (by omega), rdn l i hi, if_neg c, wnat i (by omega)]
      · rw [List.drop_eq_getElem_cons hi] at ht
        rcases List.mem_cons.1 ht with rfl | ht
        · omega
        · exact h2 hb t ht
theorem plain_or (l : List S33) (s : ByteArray) (a : Int) (hl : l.length ≤ 1000000) : ∃ b, Ev (fun k => emendatelaw15_plain.f k l s a) b ∧ (b = true → ∀ t ∈ l, t.f0 < a) := plain_l0 l s a hl l.length 0 (by omega)

/-! ### Fair -/
def FairP (l : List S33) (s : ByteArray) (a : Int) : Prop := l.length ≤ 60 ∧ s.size ≤ 300 ∧ 0 ≤ a ∧ a ≤ 1000 ∧ ∀ t ∈ l, 0 ≤ t.f1 ∧ t.f1 ≤ s.size
theorem fair_l0 (l : List S33) (s : ByteArray) (hl : l.length ≤ 1000000) : ∀ (d i : Nat) (at_ : Int), i + d = l.length → 0 ≤ at_ → ∃ b, Ev (fun k => emendateref15_Fair.l0 k l s at_ (i : Int)) b ∧ (b = true → ∀ t ∈ l.drop i, 0 ≤ t.f1 ∧ t.f1 ≤ s.size)
  | 0, i, at_, h, _ => by
    refine ⟨true, Ev.step (f := fun _ => some true) (fun k => ?_) (Ev.now _), fun _ t ht => ?_⟩
    · simp only [emendateref15_Fair.l0]
      rw [if_neg (by omega)]
    · rw [List.drop_of_length_le (by omega)] at ht; cases ht
  | d + 1, i, at_, h, h0 => by
    have hi : i < l.length := by omega
    by_cases c : l[i].f1 < at_
    · refine ⟨false, Ev.step (f := fun _ => some false) (fun k => ?_) (Ev.now _), fun h => by cases h⟩
      simp only [emendateref15_Fair.l0]
      rw [if_pos (by omega), if_pos (by omega), rdn l i hi, if_pos c]
    · by_cases c2 : l[i].f1 > (s.size : Int)
      · refine ⟨false, Ev.step (f := fun _ => some false) (fun k => ?_) (Ev.now _), fun h => by cases h⟩
        simp only [emendateref15_Fair.l0]
        rw [if_pos (by omega), if_pos (by omega), rdn l i hi, if_neg c, if_pos c2]
      · obtain ⟨b, h1, h2⟩ := fair_l0 l s hl d (i + 1) l[i].f1 (by omega) (by omega)
        refine ⟨b, Ev.step (f := fun k => emendateref15_Fair.l0 k l s l[i].f1 ((i + 1 : Nat) : Int)) (fun k => ?_) h1, fun hb t ht => ?_⟩
        · simp only [emendateref15_Fair.l0]
          rw [if_pos (by omega), if_pos (by omega), rdn l i hi, if_neg c, if_neg c2, wnat i (by omega)]
        · rw [List.drop_eq_getElem_cons hi] at ht
          rcases List.mem_cons.1 ht with rfl | ht
          · omega
          · exact h2 hb t ht
theorem fair_j0 (l : List S33) (s : ByteArray) : Ev (fun k => emendateref15_Fair.j0 k l s true) false := by
  refine Ev.step (f := fun _ => some false) (fun k => ?_) (Ev.now _)
  simp only [emendateref15_Fair.j0]
  rw [if_pos trivial]
theorem fair_or (l : List S33) (s : ByteArray) (a : Int) : ∃ b, Ev (fun k => emendateref15_Fair.f k l s a) b ∧ (b = true → FairP l s a) := by
  unfold emendateref15_Fair.f
  by_cases c1 : (l.length : Int) > 60
  · simp only [if_pos c1]
    exact ⟨false, fair_j0 l s, fun h => by cases h⟩
  · simp only [if_neg c1]
    by_cases c2 : (s.size : Int) > 300
    · simp only [if_pos c2]
      exact ⟨false, fair_j0 l s, fun h => by cases h⟩
    · simp only [if_neg c2]
      by_cases c3 : a < 0
      · simp only [if_pos c3]
        exact ⟨false, fair_j0 l s, fun h => by cases h⟩
      · simp only [if_neg c3]
        by_cases c4 : a > 1000
        · rw [decide_eq_true c4]
          exact ⟨false, fair_j0 l s, fun h => by cases h⟩
        · rw [decide_eq_false c4]
          obtain ⟨b, h1, h2⟩ := fair_l0 l s (by omega) l.length 0 0 (by omega) (by omega)
          refine ⟨b, Ev.step (f := fun k => emendateref15_Fair.l0 k l s 0 ((0 : Nat) : Int)) (fun k => ?_) h1, fun hb => ⟨by omega, by omega, by omega, by omega, h2 hb⟩⟩
          simp only [emendateref15_Fair.j0]
          rw [if_neg (by simp)]
          rfl

theorem FairP.ready {l : List S33} {s : ByteArray} {a : Int} (h : FairP l s a) : Ready l s a := ⟨by have := h.1; omega, by have := h.2.1; omega, h.2.2.1, by have := h.2.2.2.1; omega, h.2.2.2.2⟩
theorem apply_ev (l : List S33) (s : ByteArray) (a : Int) (h : Ready l s a) : Ev (fun k => layout_Apply.f k l s a) (applyF l s a) := ⟨0, fun k _ => by unfold layout_Apply.f; rw [if_pos h]⟩

/-! ### awake -/
def exL : List S33 := [⟨0, 0, ⟨#[97]⟩, 0⟩, ⟨0, 4, ⟨#[97]⟩, 0⟩, ⟨0, 6, ⟨#[97]⟩, 0⟩]
def exS : ByteArray := ⟨#[97, 10, 32, 32, 97, 10, 97]⟩
def exO : List S33 := [⟨0, 0, ⟨#[97]⟩, 0⟩, ⟨2, 4, ⟨#[]⟩, 0⟩, ⟨0, 4, ⟨#[97]⟩, 0⟩, ⟨1, 6, ⟨#[]⟩, 0⟩, ⟨3, 6, ⟨#[]⟩, 0⟩, ⟨0, 6, ⟨#[97]⟩, 0⟩, ⟨1, 7, ⟨#[]⟩, 0⟩]
theorem exR : Ready exL exS 1 := by
  refine ⟨by decide, by decide, by decide, by decide, fun t ht => ?_⟩
  simp only [exL, List.mem_cons, List.not_mem_nil, or_false] at ht
  have hz : (exS.size : Int) = 7 := rfl
  rcases ht with rfl | rfl | rfl <;> rw [hz] <;> exact ⟨by decide, by decide⟩
theorem exA : applyF exL exS 1 = exO := by rfl

theorem awake_ev : Ev (fun k => emendatelaw15_awake.f k) true := by
  unfold emendatelaw15_awake.f
  refine Ev.bind (a := exO) ?_ ?_
  · rw [← exA]; exact apply_ev exL exS 1 exR
  · refine Ev.bind (a := true) (kinds_of exO _ (by decide) (by rfl)) ?_
    simp only [if_true]
    refine Ev.bind (a := true) (balP 1 (by omega) exO (by decide)) ?_
    simp only [if_true]
    simp only [if_pos (show (3 : Int) ≤ (exO.length : Int) by decide)]
    refine Ev.bind (a := false) (balP 1 (by omega) (exO.take 3) (by decide)) ?_
    simp only [Bool.false_eq_true, if_false]
    refine Ev.bind (stripP 1 exO (by decide)) ?_
    exact Ev.now _
end Go.Proofs.Ythbdgmahjpgfiaa.All
