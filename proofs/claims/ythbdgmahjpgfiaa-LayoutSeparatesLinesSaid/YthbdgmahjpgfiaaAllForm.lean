/- How the answer of layout.Apply is made up: the tokens in front of each token, the levels; balance; what Strip keeps. Plain Lean. -/
import Derived.Test.YthbdgmahjpgfiaaAllPure
namespace Go.Proofs.Ythbdgmahjpgfiaa.All
open Go.RowKit Go.Proofs.YthbdgmahjpgfiaaW.PrintWords Go.Proofs.YthbdgmahjpgfiaaW.PrintLast Go.Proofs.YthbdgmahjpgfiaaW.PrintMore
set_option linter.unusedVariables false
set_option linter.unusedSimpArgs false

def lineA (defs : Int) (lv : List Int) (at_ d : Int) (first : Bool) : List S33 × List Int :=
  if topL lv < d then ([tok (defs + 1) at_], lv ++ [d]) else closes (defs + 2) at_ d lv.length (if first then [] else [tok defs at_]) lv

theorem closes_app (dk at_ d : Int) : ∀ (n : Nat) (o p : List S33) (lv : List Int), closes dk at_ d n (o ++ p) lv = (o ++ (closes dk at_ d n p lv).1, (closes dk at_ d n p lv).2)
  | 0, _, _, _ => rfl
  | n + 1, o, p, lv => by
    unfold closes
    split
    · rw [List.append_assoc, closes_app dk at_ d n]
    · rfl

theorem lineF_A (defs : Int) (out : List S33) (lv : List Int) (at_ d : Int) (first : Bool) : lineF defs out lv at_ d first = (out ++ (lineA defs lv at_ d first).1, (lineA defs lv at_ d first).2) := by
  unfold lineF lineA
  split
  · rfl
  · cases first
    · simp only [Bool.false_eq_true, if_false]
      rw [closes_app]
    · simp only [if_true]
      have := closes_app (defs + 2) at_ d lv.length out [] lv
      rw [List.append_nil] at this
      exact this

theorem closes_m (dk at_ d : Int) : ∀ (n : Nat) (p : List S33) (lv : List Int), ∃ m, m ≤ lv.length ∧ closes dk at_ d n p lv = (p ++ List.replicate m (tok dk at_), lv.take (lv.length - m))
  | 0, p, lv => ⟨0, Nat.zero_le _, by simp [closes]⟩
  | n + 1, p, lv => by
    unfold closes
    split
    · rename_i h
      obtain ⟨m, h1, h2⟩ := closes_m dk at_ d n (p ++ [tok dk at_]) (lv.take (lv.length - 1))
      rw [List.length_take] at h1
      refine ⟨m + 1, by omega, ?_⟩
      rw [h2, List.replicate_succ, List.append_assoc, List.take_take, List.length_take]
      congr 2
      omega
    · exact ⟨0, Nat.zero_le _, by simp⟩

theorem lineA_spec (defs : Int) (lv : List Int) (at_ d : Int) (first : Bool) :
    lineA defs lv at_ d first = ([tok (defs + 1) at_], lv ++ [d]) ∨
    ∃ m, m ≤ lv.length ∧ lineA defs lv at_ d first = ((if first then [] else [tok defs at_]) ++ List.replicate m (tok (defs + 2) at_), lv.take (lv.length - m)) := by
  unfold lineA
  split
  · exact .inl rfl
  · exact .inr (closes_m _ _ _ _ _ _)

/-- What stands in front of a token, and the levels behind it. -/
def preF (defs : Int) (s : ByteArray) (st : LSt) (t : S33) : List S33 × List Int :=
  if ((lst s t.f1.toNat : Nat) : Int) ≠ st.last then lineA defs st.lv t.f1 (t.f1 - (lst s t.f1.toNat : Nat)) st.first else ([], st.lv)

theorem stepF_pre (defs : Int) (s : ByteArray) (st : LSt) (t : S33) : stepF defs s st t = ⟨false, (lst s t.f1.toNat : Nat), st.out ++ (preF defs s st t).1 ++ [t], (preF defs s st t).2⟩ := by
  unfold stepF preF
  simp only
  split
  · rw [lineF_A]
  · simp

theorem preF_spec (defs : Int) (s : ByteArray) (st : LSt) (t : S33) :
    preF defs s st t = ([], st.lv) ∨ (∃ d, preF defs s st t = ([tok (defs + 1) t.f1], st.lv ++ [d])) ∨
    ∃ m, m ≤ st.lv.length ∧ preF defs s st t = ((if st.first then [] else [tok defs t.f1]) ++ List.replicate m (tok (defs + 2) t.f1), st.lv.take (st.lv.length - m)) := by
  unfold preF
  split
  · rcases lineA_spec defs st.lv t.f1 (t.f1 - (lst s t.f1.toNat : Nat)) st.first with h | ⟨m, h1, h2⟩
    · exact .inr (.inl ⟨_, h⟩)
    · exact .inr (.inr ⟨m, h1, h2⟩)
  · exact .inl rfl

theorem preF_tok (defs : Int) (s : ByteArray) (st : LSt) (t x : S33) (h : x ∈ (preF defs s st t).1) : ∃ k, (k = defs ∨ k = defs + 1 ∨ k = defs + 2) ∧ x = tok k t.f1 := by
  rcases preF_spec defs s st t with e | ⟨d, e⟩ | ⟨m, _, e⟩ <;> rw [e] at h
  · cases h
  · simp only [List.mem_singleton] at h
    exact ⟨_, .inr (.inl rfl), h⟩
  · rcases List.mem_append.1 h with h | h
    · split at h
      · cases h
      · simp only [List.mem_singleton] at h
        exact ⟨_, .inl rfl, h⟩
    · exact ⟨_, .inr (.inr rfl), (List.mem_replicate.1 h).2⟩

/-! ### balance -/
theorem runB_app (a : Int) : ∀ (x y : List S33) (n : Nat), runB a n (x ++ y) = (runB a n x).bind fun m => runB a m y
  | [], y, n => rfl
  | t :: x, y, n => by
    simp only [List.cons_append, runB]
    split
    · exact runB_app a x y _
    · split
      · split
        · rfl
        · exact runB_app a x y _
      · exact runB_app a x y _
theorem runB_other (a : Int) (n : Nat) (t : S33) (r : List S33) (h1 : t.f0 ≠ a + 1) (h2 : t.f0 ≠ a + 2) : runB a n (t :: r) = runB a n r := by
  simp only [runB]
  rw [if_neg h1, if_neg h2]
theorem runB_inc (a : Int) (n : Nat) (t : S33) (r : List S33) (h : t.f0 = a + 1) : runB a n (t :: r) = runB a (n + 1) r := by
  simp only [runB]
  rw [if_pos h]
theorem runB_dec (a : Int) (n : Nat) (t : S33) (r : List S33) (h : t.f0 = a + 2) (hn : n ≠ 0) : runB a n (t :: r) = runB a (n - 1) r := by
  simp only [runB]
  rw [if_neg (by omega), if_pos h, if_neg hn]
theorem tok_f0 (k at_ : Int) : (tok k at_).f0 = k := rfl
theorem runB_plain (a : Int) (t : S33) (n : Nat) (h : t.f0 < a) : runB a n [t] = some n := runB_other a n t [] (by omega) (by omega)
theorem runB_new (a at_ : Int) (n : Nat) : runB a n [tok a at_] = some n := runB_other a n _ [] (by rw [tok_f0]; omega) (by rw [tok_f0]; omega)
theorem runB_in (a at_ : Int) (n : Nat) : runB a n [tok (a + 1) at_] = some (n + 1) := runB_inc a n _ [] rfl
theorem runB_out (a at_ : Int) : ∀ (m n : Nat), m ≤ n → runB a n (List.replicate m (tok (a + 2) at_)) = some (n - m)
  | 0, n, _ => rfl
  | m + 1, n, h => by
    rw [List.replicate_succ, runB_dec a n _ _ rfl (by omega), runB_out a at_ m (n - 1) (by omega)]
    congr 1
    omega
theorem preF_bal (defs : Int) (s : ByteArray) (st : LSt) (t : S33) : runB defs st.lv.length (preF defs s st t).1 = some (preF defs s st t).2.length := by
  rcases preF_spec defs s st t with e | ⟨d, e⟩ | ⟨m, hm, e⟩ <;> rw [e]
  · rfl
  · rw [runB_in, List.length_append, List.length_singleton]
  · rw [runB_app]
    have h1 : runB defs st.lv.length (if st.first then [] else [tok defs t.f1]) = some st.lv.length := by
      split
      · rfl
      · exact runB_new _ _ _
    rw [h1, Option.bind_some, runB_out _ _ _ _ hm, List.length_take]
    congr 1
    omega
theorem stepF_bal (defs : Int) (s : ByteArray) (st : LSt) (t : S33) (ht : t.f0 < defs) (h : runB defs 0 st.out = some st.lv.length) : runB defs 0 (stepF defs s st t).out = some (stepF defs s st t).lv.length := by
  rw [stepF_pre]
  simp only
  rw [runB_app, runB_app, h, Option.bind_some, preF_bal, Option.bind_some, runB_plain _ _ _ ht]
theorem fold_bal (defs : Int) (s : ByteArray) : ∀ (l : List S33) (st : LSt), (∀ t ∈ l, t.f0 < defs) → runB defs 0 st.out = some st.lv.length → runB defs 0 (l.foldl (stepF defs s) st).out = some (l.foldl (stepF defs s) st).lv.length
  | [], _, _, h => h
  | t :: l, st, hp, h => fold_bal defs s l (stepF defs s st t) (fun x hx => hp x (List.mem_cons_of_mem _ hx)) (stepF_bal defs s st t (hp t List.mem_cons_self) h)
theorem apply_bal (l : List S33) (s : ByteArray) (defs : Int) (hp : ∀ t ∈ l, t.f0 < defs) : runB defs 0 (applyF l s defs) = some 0 := by
  have h := fold_bal defs s l ⟨true, -1, [], []⟩ hp rfl
  unfold applyF runF
  simp only
  split
  · rename_i h0
    have : l = [] := List.eq_nil_of_length_eq_zero h0
    subst this
    rfl
  · rw [runB_app, runB_app, h, Option.bind_some, runB_new, Option.bind_some, runB_out _ _ _ _ (Nat.le_refl _)]
    congr 1
    omega

/-! ### what is kept -/
theorem keep_app (a : Int) (x y : List S33) : keep a (x ++ y) = keep a x ++ keep a y := by unfold keep; rw [List.filter_append]
theorem keep_none (a : Int) (x : List S33) (h : ∀ t ∈ x, ¬ t.f0 < a) : keep a x = [] := by
  unfold keep
  rw [List.filter_eq_nil_iff]
  intro t ht
  simpa using h t ht
theorem keep_one (a : Int) (t : S33) (h : t.f0 < a) : keep a [t] = [t] := by rw [keep_cons, if_pos h]; rfl
theorem stepF_keep (defs : Int) (s : ByteArray) (st : LSt) (t : S33) (ht : t.f0 < defs) : keep defs (stepF defs s st t).out = keep defs st.out ++ [t] := by
  rw [stepF_pre]
  simp only
  rw [keep_app, keep_app, keep_one _ _ ht, keep_none defs (preF defs s st t).1, List.append_nil]
  intro x hx
  obtain ⟨k, hk, rfl⟩ := preF_tok defs s st t x hx
  simp only [tok]
  omega
theorem fold_keep (defs : Int) (s : ByteArray) : ∀ (l : List S33) (st : LSt), (∀ t ∈ l, t.f0 < defs) → keep defs (l.foldl (stepF defs s) st).out = keep defs st.out ++ l
  | [], _, _ => by simp
  | t :: l, st, hp => by
    rw [List.foldl_cons, fold_keep defs s l _ (fun x hx => hp x (List.mem_cons_of_mem _ hx)), stepF_keep _ _ _ _ (hp t List.mem_cons_self), List.append_assoc]
    rfl
theorem apply_keep (l : List S33) (s : ByteArray) (defs : Int) (hp : ∀ t ∈ l, t.f0 < defs) : keep defs (applyF l s defs) = l := by
  have h := fold_keep defs s l ⟨true, -1, [], []⟩ hp
  unfold applyF runF
  simp only
  split
  · rw [h]; simp [keep]
  · rw [keep_app, keep_app, h, keep_none defs [tok defs s.size] (by simp [tok]), keep_none defs (List.replicate _ _)]
    · simp [keep]
    · intro t ht
      rw [(List.mem_replicate.1 ht).2]
      simp only [tok]
      omega

/-! ### whose tokens -/
theorem fold_mem (defs : Int) (s : ByteArray) : ∀ (l : List S33) (st : LSt) (x : S33), x ∈ (l.foldl (stepF defs s) st).out → x ∈ st.out ∨ x ∈ l ∨ ∃ k at_, (k = defs ∨ k = defs + 1 ∨ k = defs + 2) ∧ x = tok k at_
  | [], _, x, h => .inl h
  | t :: l, st, x, h => by
    rcases fold_mem defs s l (stepF defs s st t) x h with h | h | h
    · rw [stepF_pre] at h
      simp only [List.mem_append, List.mem_singleton] at h
      rcases h with (h | h) | h
      · exact .inl h
      · obtain ⟨k, hk, e⟩ := preF_tok defs s st t x h
        exact .inr (.inr ⟨k, _, hk, e⟩)
      · exact .inr (.inl (by rw [h]; exact List.mem_cons_self))
    · exact .inr (.inl (List.mem_cons_of_mem _ h))
    · exact .inr (.inr h)
theorem apply_mem (l : List S33) (s : ByteArray) (defs : Int) (x : S33) (h : x ∈ applyF l s defs) : x ∈ l ∨ ∃ k at_, (k = defs ∨ k = defs + 1 ∨ k = defs + 2) ∧ x = tok k at_ := by
  unfold applyF runF at h
  simp only at h
  have g : ∀ x, x ∈ (l.foldl (stepF defs s) ⟨true, -1, [], []⟩).out → x ∈ l ∨ ∃ k at_, (k = defs ∨ k = defs + 1 ∨ k = defs + 2) ∧ x = tok k at_ := by
    intro x hx
    rcases fold_mem defs s l _ x hx with h | h | h
    · cases h
    · exact .inl h
    · exact .inr h
  split at h
  · exact g x h
  · rcases List.mem_append.1 h with h | h
    · rcases List.mem_append.1 h with h | h
      · exact g x h
      · exact .inr ⟨defs, _, .inl rfl, List.mem_singleton.1 h⟩
    · exact .inr ⟨defs + 2, _, .inr (.inr rfl), (List.mem_replicate.1 h).2⟩
theorem apply_len (l : List S33) (s : ByteArray) (defs : Int) : (applyF l s defs).length ≤ 3 * l.length + 1 := by
  have h := runF_len defs s l
  unfold applyF
  simp only
  split
  · omega
  · simp only [List.length_append, List.length_singleton, List.length_replicate]; omega
end Go.Proofs.Ythbdgmahjpgfiaa.All
