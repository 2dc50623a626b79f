/- LayoutPrefix over lists and numbers. -/
import Derived.Test.YthbdgmahjpgfiaaAllx22
import Derived.Test.YthbdgmahjpgfiaaAllForm
namespace Go.Proofs.Ythbdgmahjpgfiaa.layoutPrefix
open Go.RowKit Go.Proofs.Ythbdgmahjpgfiaa.All Go.Proofs.YthbdgmahjpgfiaaW.PrintWords
set_option linter.unusedVariables false
set_option linter.unusedSimpArgs false

theorem fold_out (d : Int) (s : ByteArray) : ∀ (l : List S33) (st : LSt), ∃ r, (l.foldl (stepF d s) st).out = st.out ++ r
  | [], st => ⟨[], by simp⟩
  | t :: l, st => by
    obtain ⟨r, h⟩ := fold_out d s l (stepF d s st t)
    rw [List.foldl_cons, h, stepF_pre]
    exact ⟨(preF d s st t).1 ++ [t] ++ r, by simp [List.append_assoc]⟩
theorem run_prefix (d : Int) (s : ByteArray) (l : List S33) (i : Nat) : ∃ r, (runF d s l).out = (runF d s (l.take i)).out ++ r := by
  obtain ⟨r, h⟩ := fold_out d s (l.drop i) (runF d s (l.take i))
  refine ⟨r, ?_⟩
  rw [← h]
  unfold runF
  rw [← List.foldl_append, List.take_append_drop]
theorem apply_prefix (d : Int) (s : ByteArray) (l : List S33) (i : Nat) : ∃ r, applyF l s d = (runF d s (l.take i)).out ++ r := by
  obtain ⟨r, h⟩ := run_prefix d s l i
  unfold applyF
  simp only
  rw [h]
  split
  · exact ⟨r, rfl⟩
  · exact ⟨_, by simp only [List.append_assoc]; rfl⟩
theorem run_last (d : Int) (s : ByteArray) (l : List S33) (k : Nat) (h0 : 0 < k) (h1 : k ≤ l.length) : ∃ Q t, (runF d s (l.take k)).out = Q ++ [t] ∧ t ∈ l := by
  have hk : k - 1 < l.length := by omega
  have h := runF_succ d s l (k - 1) hk
  rw [show k - 1 + 1 = k by omega] at h
  rw [h, stepF_pre]
  exact ⟨_, _, rfl, List.getElem_mem hk⟩

theorem count_lt (d : Int) (P Q : List S33) (t : S33) (k : Nat) (hP : P = Q ++ [t]) (ht : t.f0 < d) (hk : (keep d P).length = k) (i : Nat) (hi : i < P.length) : (keep d (P.take i)).length < k := by
  have h1 : P.take i = Q.take i := by
    rw [hP, List.take_append_of_le_length]
    rw [hP] at hi
    simp at hi
    omega
  have h2 : (keep d Q).length + 1 = k := by
    rw [← hk, hP, keep_app, keep_one d t ht]
    simp
  have h3 : (keep d (Q.take i)).length ≤ (keep d Q).length := by
    have : keep d Q = keep d (Q.take i) ++ keep d (Q.drop i) := by rw [← keep_app, List.take_append_drop]
    rw [this, List.length_append]
    omega
  rw [h1]
  omega

theorem loop (l : List S33) (s : ByteArray) (d : Int) (P r1 r2 Q : List S33) (t : S33) (k : Nat) (hP : P = Q ++ [t]) (ht : t.f0 < d) (hk : (keep d P).length = k) (hr : 0 < r2.length) (hl1 : (P ++ r1).length ≤ 1000000) (hl2 : (P ++ r2).length ≤ 1000000) :
    ∀ (e i : Nat), i + e = P.length → Ev (fun n => emendatelaw15_LayoutPrefix.l0 n (k : Int) (P ++ r1) (P ++ r2) ((keep d (P.take i)).length : Int) (i : Int) l s d) true
  | 0, i, h => by
    have hT : P.take i = P := List.take_of_length_le (by omega)
    have hlen : ((P ++ r2).length : Int) = P.length + r2.length := by rw [List.length_append]; omega
    rw [hT, hk]
    refine Ev.step (f := fun n => emendatelaw15_LayoutPrefix.j2 n (k : Int) (P ++ r1) (P ++ r2) (k : Int) (i : Int) false l s d) (fun n => ?_) ?_
    · simp only [emendatelaw15_LayoutPrefix.l0]
      rw [if_pos (by omega), decide_eq_false (by omega)]
    · refine Ev.step (f := fun _ => some true) (fun n => ?_) (Ev.now _)
      simp only [emendatelaw15_LayoutPrefix.j2]
      rw [if_neg (by simp), beq_self_eq_true]
  | e + 1, i, h => by
    have hi : i < P.length := by omega
    have hc := count_lt d P Q t k hP ht hk i hi
    have hPk : k ≤ P.length := by rw [← hk]; exact keep_len d P
    have hlen1 : ((P ++ r1).length : Int) = P.length + r1.length := by rw [List.length_append]; omega
    have hlen2 : ((P ++ r2).length : Int) = P.length + r2.length := by rw [List.length_append]; omega
    have e1 : rd_T33 (P ++ r1) (i : Int) = P[i] := by rw [rdn _ i (by rw [List.length_append]; omega), List.getElem_append_left hi]
    have e2 : rd_T33 (P ++ r2) (i : Int) = P[i] := by rw [rdn _ i (by rw [List.length_append]; omega), List.getElem_append_left hi]
    have hn : keep d (P.take (i + 1)) = keep d (P.take i) ++ (if P[i].f0 < d then [P[i]] else []) := by
      rw [List.take_succ_eq_append_getElem hi, keep_app, keep_cons]
      split <;> simp [keep]
    have ih := loop l s d P r1 r2 Q t k hP ht hk hr hl1 hl2 e (i + 1) (by omega)
    rw [List.length_append] at hl1 hl2
    refine Ev.step (f := fun n => emendatelaw15_LayoutPrefix.j2 n (k : Int) (P ++ r1) (P ++ r2) ((keep d (P.take i)).length : Int) (i : Int) true l s d) (fun n => ?_) ?_
    · simp only [emendatelaw15_LayoutPrefix.l0]
      rw [if_pos (by omega), decide_eq_true (by omega)]
    refine Ev.step (f := fun n => emendatelaw15_LayoutPrefix.j3 n (k : Int) (P ++ r1) (P ++ r2) ((keep d (P.take i)).length : Int) (i : Int) false l s d) (fun n => ?_) ?_
    · simp only [emendatelaw15_LayoutPrefix.j2]
      rw [if_pos trivial, if_neg (by omega), if_pos (by omega), if_pos (by omega), if_pos (by omega), e1, e2]
      simp
    by_cases c : P[i].f0 < d
    · rw [hn, if_pos c, List.length_append, List.length_singleton] at ih
      refine Ev.step (f := fun n => emendatelaw15_LayoutPrefix.l0 n (k : Int) (P ++ r1) (P ++ r2) (((keep d (P.take i)).length + 1 : Nat) : Int) ((i + 1 : Nat) : Int) l s d) (fun n => ?_) ih
      simp only [emendatelaw15_LayoutPrefix.j3]
      rw [if_neg (by simp), if_pos (by omega), if_pos (by omega), e2, if_pos c, wnat i (by omega), wnat _ (by omega)]
    · rw [hn, if_neg c, List.append_nil] at ih
      refine Ev.step (f := fun n => emendatelaw15_LayoutPrefix.l0 n (k : Int) (P ++ r1) (P ++ r2) ((keep d (P.take i)).length : Int) ((i + 1 : Nat) : Int) l s d) (fun n => ?_) ih
      simp only [emendatelaw15_LayoutPrefix.j3]
      rw [if_neg (by simp), if_pos (by omega), if_pos (by omega), e2, if_neg c, wnat i (by omega)]

theorem out_ (a1 : Int) (l : List S33) (s : ByteArray) (d : Int) : Ev (fun k => emendatelaw15_LayoutPrefix.j0 k a1 true l s d) true := by
  refine Ev.step (f := fun _ => some true) (fun k => ?_) (Ev.now _)
  simp only [emendatelaw15_LayoutPrefix.j0]
  rw [if_pos trivial]

theorem layoutPrefix_pure (l : List S33) (s : ByteArray) (d a1 : Int) (hwf : ∀ t ∈ l, Wf t) (hs : s.size ≤ maxLen) (hd : (Lit.int .i64 d).wf = true) (ha : (Lit.int .u8 a1).wf = true) : ∃ k, emendatelaw15_LayoutPrefix.f k l s d a1 = some true := by
  refine Ev.rounds ?_
  unfold emendatelaw15_LayoutPrefix.f
  refine Ev.bind awake_ev ?_
  simp only [if_true]
  obtain ⟨b, h1, h2⟩ := fair_or l s d
  refine Ev.bind h1 ?_
  cases b with
  | false =>
    simp only [Bool.false_eq_true, if_false]
    exact out_ a1 l s d
  | true =>
    have hF := h2 rfl
    simp only [if_true]
    by_cases hz : (l.length : Int) = 0
    · simp only [if_pos hz]
      exact out_ a1 l s d
    · simp only [if_neg hz]
      obtain ⟨b, h3, h4⟩ := plain_or l s d (by have := hF.1; omega)
      refine Ev.bind h3 ?_
      cases b with
      | false => exact out_ a1 l s d
      | true =>
        have hp := h4 rfl
        have hb := bounds_u8 ha
        have hl := hF.1
        have hw : wrap64 a1 = a1 := by unfold wrap64; omega
        have hm0 : 0 ≤ Int.tmod a1 (l.length : Int) := Int.tmod_nonneg _ hb.1
        have hm1 : Int.tmod a1 (l.length : Int) < (l.length : Int) := Int.tmod_lt_of_pos _ (by omega)
        obtain ⟨k, hk⟩ : ∃ k : Nat, wrap64 (1 + Int.tmod a1 (l.length : Int)) = (k : Int) := ⟨(1 + Int.tmod a1 (l.length : Int)).toNat, by unfold wrap64; omega⟩
        have hk0 : 0 < k := by rw [← Int.natCast_pos, ← hk]; unfold wrap64; omega
        have hk1 : k ≤ l.length := by rw [← Int.ofNat_le, ← hk]; unfold wrap64; omega
        refine Ev.step (f := fun n => (layout_Apply.f n l s d).bind fun t318 => (layout_Apply.f n (l.take k) s d).bind fun t325 => emendatelaw15_LayoutPrefix.l0 n (k : Int) t318 t325 0 0 l s d) (fun n => ?_) ?_
        · simp only [emendatelaw15_LayoutPrefix.j0]
          rw [if_neg (by simp), if_neg hz, hw, hk]
          congr 1
          funext t318
          rw [if_pos (by omega), if_pos (by omega), Int.toNat_natCast]
        have hR := hF.ready
        have hR2 : Ready (l.take k) s d := ⟨by rw [List.length_take]; omega, hR.2.1, hR.2.2.1, hR.2.2.2.1, fun t ht => hR.2.2.2.2 t (List.mem_of_mem_take ht)⟩
        refine Ev.bind (apply_ev l s d hR) ?_
        refine Ev.bind (apply_ev (l.take k) s d hR2) ?_
        obtain ⟨r1, e1⟩ := apply_prefix d s l k
        have e2 : ∃ r2, applyF (l.take k) s d = (runF d s (l.take k)).out ++ r2 ∧ 0 < r2.length := by
          unfold applyF
          simp only
          rw [if_neg (by rw [List.length_take]; omega), List.append_assoc]
          exact ⟨_, rfl, by simp⟩
        obtain ⟨r2, e2, hr⟩ := e2
        obtain ⟨Q, t, hQ, htl⟩ := run_last d s l k hk0 hk1
        have hkp : (keep d (runF d s (l.take k)).out).length = k := by
          have := fold_keep d s (l.take k) ⟨true, -1, [], []⟩ (fun x hx => hp x (List.mem_of_mem_take hx))
          unfold runF
          rw [this]
          simp [keep, List.length_take]
          omega
        have hl1 := apply_len l s d
        have hl2 := apply_len (l.take k) s d
        rw [List.length_take] at hl2
        rw [e1] at hl1
        rw [e2] at hl2
        rw [e1, e2]
        exact loop l s d (runF d s (l.take k)).out r1 r2 Q t k hQ (hp t htl) hkp hr (by omega) (by omega) (runF d s (l.take k)).out.length 0 (by omega)
end Go.Proofs.Ythbdgmahjpgfiaa.layoutPrefix
