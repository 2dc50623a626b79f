/- LayoutSeparatesLines over lists and numbers. -/
import Derived.Test.YthbdgmahjpgfiaaAllx20
import Derived.Test.YthbdgmahjpgfiaaPureLayoutPrefix
import Derived.Test.YthbdgmahjpgfiaaAllRef
namespace Go.Proofs.Ythbdgmahjpgfiaa.layoutSeparatesLines
open Go.RowKit Go.Proofs.Ythbdgmahjpgfiaa.All Go.Proofs.YthbdgmahjpgfiaaW.PrintWords Go.Proofs.Ythbdgmahjpgfiaa.layoutPrefix
set_option linter.unusedVariables false
set_option linter.unusedSimpArgs false
section
variable (l : List S33) (s : ByteArray) (d : Int)

theorem at_mid (A B r : List S33) (j : Nat) (hj : j < B.length) : rd_T33 (A ++ B ++ r) ((A.length + j : Nat) : Int) = B[j] := by
  rw [rdn _ _ (by simp only [List.length_append]; omega), List.getElem_append_left (by simp only [List.length_append]; omega), List.getElem_append_right (by omega)]
  simp only [Nat.add_sub_cancel_left]

/-- The scan over the layout tokens in front of a token. -/
theorem scan (A B r : List S33) (t : S33) (i : Nat) (v : Bool) (hB : ∀ x ∈ B, x.f0 ≥ d) (ht : t.f0 < d) (hl : (A ++ B ++ t :: r).length ≤ 1000000)
    (h : Ev (fun k => emendatelaw15_LayoutSeparatesLines.j3 k (A ++ B ++ t :: r) (A.length : Int) (i : Int) ((A.length + B.length : Nat) : Int) l s d) v) : ∀ (e j : Nat), j + e = B.length →
    Ev (fun k => emendatelaw15_LayoutSeparatesLines.l1 k (A ++ B ++ t :: r) (A.length : Int) (i : Int) ((A.length + j : Nat) : Int) l s d) v
  | 0, j, hj => by
    obtain rfl : j = B.length := by omega
    refine Ev.step (fun k => ?_) h
    have e1 : rd_T33 (A ++ B ++ t :: r) ((A.length + B.length : Nat) : Int) = t := by
      rw [rdn _ _ (by simp only [List.length_append, List.length_cons]; omega), List.getElem_append_right (by simp only [List.length_append]; omega)]
      simp
    simp only [emendatelaw15_LayoutSeparatesLines.l1]
    rw [if_pos (by simp only [List.length_append, List.length_cons]; omega), if_pos (by omega), e1, if_neg (by omega)]
  | e + 1, j, hj => by
    have hj2 : j < B.length := by omega
    simp only [List.length_append, List.length_cons] at hl
    refine Ev.step (f := fun k => emendatelaw15_LayoutSeparatesLines.l1 k (A ++ B ++ t :: r) (A.length : Int) (i : Int) ((A.length + (j + 1) : Nat) : Int) l s d) (fun k => ?_)
      (scan A B r t i v hB ht (by simp only [List.length_append, List.length_cons]; omega) h e (j + 1) (by omega))
    simp only [emendatelaw15_LayoutSeparatesLines.l1]
    rw [if_pos (by simp only [List.length_append, List.length_cons]; omega), if_pos (by omega), at_mid A B (t :: r) j hj2, if_pos (hB _ (List.getElem_mem hj2)), wnat _ (by omega)]
    rfl

/-- The layout tokens in front of a token, one by one. -/
theorem each (hd : 0 ≤ d ∧ d ≤ 1000) (A B r : List S33) (i : Nat) (hi : i < l.length) (v : Bool) (hat : ∀ x ∈ B, x.f1 = l[i].f1) (hk : ∀ j, (hj : j < B.length) → (B[j].f0 = d + 2 ↔ 0 < j)) (hl : (A ++ B ++ r).length ≤ 1000000) (hi2 : i ≤ 1000000)
    (h : Ev (fun k => emendatelaw15_LayoutSeparatesLines.l0 k (A ++ B ++ r) ((A.length + B.length + 1 : Nat) : Int) ((i + 1 : Nat) : Int) l s d) v) : ∀ (e j : Nat), j + e = B.length →
    Ev (fun k => emendatelaw15_LayoutSeparatesLines.l2 k (A ++ B ++ r) (A.length : Int) (i : Int) ((A.length + B.length : Nat) : Int) ((A.length + j : Nat) : Int) l s d) v
  | 0, j, hj => by
    simp only [List.length_append] at hl
    refine Ev.step (fun k => ?_) h
    simp only [emendatelaw15_LayoutSeparatesLines.l2]
    rw [if_neg (by omega), wnat _ (by omega), wnat _ (by omega)]
  | e + 1, j, hj => by
    have hj2 : j < B.length := by omega
    have hw : wrap64 (d + 2) = d + 2 := by unfold wrap64; omega
    simp only [List.length_append] at hl
    refine Ev.step (f := fun k => emendatelaw15_LayoutSeparatesLines.l2 k (A ++ B ++ r) (A.length : Int) (i : Int) ((A.length + B.length : Nat) : Int) ((A.length + (j + 1) : Nat) : Int) l s d) (fun k => ?_)
      (each hd A B r i hi v hat hk (by simp only [List.length_append]; omega) hi2 h e (j + 1) (by omega))
    simp only [emendatelaw15_LayoutSeparatesLines.l2]
    have hb : ((B[j].f0 == d + 2) != decide (((A.length + j : Nat) : Int) > (A.length : Int))) = false := by
      have hk2 := hk j hj2
      by_cases c : 0 < j
      · rw [decide_eq_true (by omega), beq_iff_eq.2 (hk2.2 c)]; rfl
      · rw [decide_eq_false (by omega), beq_eq_false_iff_ne.2 (fun e => c (hk2.1 e))]; rfl
    rw [if_pos (by omega), if_pos (by omega), if_pos (by simp only [List.length_append]; omega), at_mid A B r j hj2, hw, hb, if_neg (by simp), if_pos (by omega), if_pos (by omega), rdn l i hi, if_pos (hat _ (List.getElem_mem hj2)), wnat _ (by omega)]
    rfl

theorem pre_each (st : LSt) (t : S33) (hf : st.first = false) (hne : ((lst s t.f1.toNat : Nat) : Int) ≠ st.last) : 0 < (preF d s st t).1.length ∧ ∀ j, (hj : j < (preF d s st t).1.length) → ((preF d s st t).1[j].f0 = d + 2 ↔ 0 < j) := by
  have h0 : preF d s st t = lineA d st.lv t.f1 (t.f1 - (lst s t.f1.toNat : Nat)) st.first := by unfold preF; rw [if_pos hne]
  rcases lineA_spec d st.lv t.f1 (t.f1 - (lst s t.f1.toNat : Nat)) st.first with e | ⟨m, _, e⟩
  · have e1 : (preF d s st t).1 = [tok (d + 1) t.f1] := by rw [h0, e]
    rw [e1]
    refine ⟨by simp, fun j hj => ?_⟩
    obtain rfl : j = 0 := by simpa using hj
    simp only [List.getElem_cons_zero, tok_f0]
    omega
  · have e1 : (preF d s st t).1 = tok d t.f1 :: List.replicate m (tok (d + 2) t.f1) := by rw [h0, e, hf]; rfl
    rw [e1]
    refine ⟨by simp, fun j hj => ?_⟩
    cases j with
    | zero =>
      simp only [List.getElem_cons_zero, tok_f0]
      omega
    | succ j =>
      have z : (tok d t.f1 :: List.replicate m (tok (d + 2) t.f1))[j + 1] = tok (d + 2) t.f1 := by simp
      rw [z]
      exact ⟨fun _ => Nat.succ_pos _, fun _ => rfl⟩

theorem rounds (hF : FairP l s d) (hp : ∀ t ∈ l, t.f0 < d) : ∀ (e i : Nat), i + e = l.length →
    Ev (fun k => emendatelaw15_LayoutSeparatesLines.l0 k (applyF l s d) ((runF d s (l.take i)).out.length : Int) (i : Int) l s d) true
  | 0, i, h => by
    refine Ev.step (f := fun _ => some true) (fun k => ?_) (Ev.now _)
    simp only [emendatelaw15_LayoutSeparatesLines.l0]
    rw [if_neg (by omega)]
  | e + 1, i, h => by
    have hi : i < l.length := by omega
    have hl := hF.1
    have hsz := hF.2.1
    have ih := rounds hF hp e (i + 1) (by omega)
    have hlen := apply_len l s d
    obtain ⟨r, hr⟩ := apply_prefix d s l (i + 1)
    have hrun := runF_succ d s l i hi
    rw [stepF_pre] at hrun
    generalize hst : runF d s (l.take i) = st at *
    have hout : (runF d s (l.take (i + 1))).out = st.out ++ (preF d s st l[i]).1 ++ [l[i]] := by rw [hrun]
    rw [hout, List.append_assoc, List.singleton_append] at hr
    rw [hout] at ih
    rw [hr] at ih hlen ⊢
    have hlB : (st.out ++ (preF d s st l[i]).1 ++ l[i] :: r).length ≤ 1000000 := by omega
    have ih2 : Ev (fun k => emendatelaw15_LayoutSeparatesLines.l0 k (st.out ++ (preF d s st l[i]).1 ++ l[i] :: r) ((st.out.length + (preF d s st l[i]).1.length + 1 : Nat) : Int) ((i + 1 : Nat) : Int) l s d) true := by
      simpa only [List.length_append, List.length_singleton] using ih
    have hB : ∀ x ∈ (preF d s st l[i]).1, x.f0 ≥ d := by
      intro x hx
      obtain ⟨k, hk, rfl⟩ := preF_tok d s st l[i] x hx
      rw [tok_f0]; omega
    have hat : ∀ x ∈ (preF d s st l[i]).1, x.f1 = l[i].f1 := by
      intro x hx
      obtain ⟨k, hk, rfl⟩ := preF_tok d s st l[i] x hx
      rfl
    have hd : 0 ≤ d ∧ d ≤ 1000 := ⟨hF.2.2.1, hF.2.2.2.1⟩
    have hlB2 := hlB
    simp only [List.length_append, List.length_cons] at hlB2
    refine Ev.step (f := fun k => emendatelaw15_LayoutSeparatesLines.l1 k (st.out ++ (preF d s st l[i]).1 ++ l[i] :: r) (st.out.length : Int) (i : Int) ((st.out.length + 0 : Nat) : Int) l s d) (fun k => ?_)
      (scan l s d st.out (preF d s st l[i]).1 r l[i] i true hB (hp _ (List.getElem_mem hi)) hlB ?_ (preF d s st l[i]).1.length 0 (by omega))
    · simp only [emendatelaw15_LayoutSeparatesLines.l0]
      rw [if_pos (by omega)]
      rfl
    · by_cases ci : i = 0
      · refine Ev.step (fun k => ?_) ih2
        simp only [emendatelaw15_LayoutSeparatesLines.j3]
        rw [if_neg (by simp only [List.length_append, List.length_cons]; omega), if_neg (by omega), wnat _ (by omega), wnat _ (by omega)]
      · have hp2 : i - 1 < l.length := by omega
        have hat1 := hF.2.2.2.2 l[i] (List.getElem_mem hi)
        have hat2 := hF.2.2.2.2 l[i - 1] (List.getElem_mem hp2)
        have hprev : st = stepF d s (runF d s (l.take (i - 1))) l[i - 1] := by
          have := runF_succ d s l (i - 1) hp2
          rw [show i - 1 + 1 = i by omega, hst] at this
          exact this
        have hlast : st.last = ((lst s l[i - 1].f1.toNat : Nat) : Int) := by rw [hprev]; unfold stepF; rfl
        have hfirst : st.first = false := by rw [hprev]; unfold stepF; rfl
        have ew : wrap64 ((i : Int) - 1) = ((i - 1 : Nat) : Int) := by unfold wrap64; omega
        refine Ev.step (f := fun k => (emendateref15_Start.f k s l[i - 1].f1).bind fun t284 => (emendateref15_Start.f k s l[i].f1).bind fun t286 => if ((t284 == t286) != (((st.out.length + (preF d s st l[i]).1.length : Nat) : Int) == (st.out.length : Int))) = true then some false else emendatelaw15_LayoutSeparatesLines.l2 k (st.out ++ (preF d s st l[i]).1 ++ l[i] :: r) (st.out.length : Int) (i : Int) ((st.out.length + (preF d s st l[i]).1.length : Nat) : Int) ((st.out.length + 0 : Nat) : Int) l s d) (fun k => ?_)
          (Ev.bind (start_ev s (by omega) _ hat2.1 hat2.2) (Ev.bind (start_ev s (by omega) _ hat1.1 hat1.2) ?_))
        · simp only [emendatelaw15_LayoutSeparatesLines.j3]
          rw [if_neg (by simp only [List.length_append, List.length_cons]; omega), if_pos (by omega), ew, if_pos (by omega), if_pos (by omega), rdn l (i - 1) hp2]
          congr 1
          funext t
          rw [if_pos (by omega), if_pos (by omega), rdn l i hi]
          rfl
        · by_cases cs : ((lst s l[i].f1.toNat : Nat) : Int) = st.last
          · have hpre : (preF d s st l[i]).1 = [] := by unfold preF; rw [if_neg (by simpa using cs)]
            have hb : ((((lst s l[i - 1].f1.toNat : Nat) : Int) == ((lst s l[i].f1.toNat : Nat) : Int)) != (((st.out.length + (preF d s st l[i]).1.length : Nat) : Int) == (st.out.length : Int))) = false := by
              rw [hpre, beq_iff_eq.2 (by rw [← hlast, cs]), beq_iff_eq.2 (by simp)]; rfl
            rw [hb]
            simp only [Bool.false_eq_true, if_false]
            exact each l s d hd st.out (preF d s st l[i]).1 (l[i] :: r) i hi true hat (fun j hj => by rw [hpre] at hj; simp at hj) hlB (by omega) ih2 (preF d s st l[i]).1.length 0 (by omega)
          · obtain ⟨h0, hk⟩ := pre_each s d st l[i] hfirst cs
            have hb : ((((lst s l[i - 1].f1.toNat : Nat) : Int) == ((lst s l[i].f1.toNat : Nat) : Int)) != (((st.out.length + (preF d s st l[i]).1.length : Nat) : Int) == (st.out.length : Int))) = false := by
              rw [beq_eq_false_iff_ne.2 (fun e => cs (by rw [hlast, ← e])), beq_eq_false_iff_ne.2 (by omega)]; rfl
            rw [hb]
            simp only [Bool.false_eq_true, if_false]
            exact each l s d hd st.out (preF d s st l[i]).1 (l[i] :: r) i hi true hat hk hlB (by omega) ih2 (preF d s st l[i]).1.length 0 (by omega)
end

theorem out_ (l : List S33) (s : ByteArray) (d : Int) : Ev (fun k => emendatelaw15_LayoutSeparatesLines.j0 k true l s d) true := by
  refine Ev.step (f := fun _ => some true) (fun k => ?_) (Ev.now _)
  simp only [emendatelaw15_LayoutSeparatesLines.j0]
  rw [if_pos trivial]

theorem layoutSeparatesLines_pure (l : List S33) (s : ByteArray) (d : Int) (hwf : ∀ t ∈ l, Wf t) (hs : s.size ≤ maxLen) (hd : (Lit.int .i64 d).wf = true) : ∃ k, emendatelaw15_LayoutSeparatesLines.f k l s d = some true := by
  refine Ev.rounds ?_
  unfold emendatelaw15_LayoutSeparatesLines.f
  refine Ev.bind awake_ev ?_
  simp only [if_true]
  obtain ⟨b, h1, h2⟩ := fair_or l s d
  refine Ev.bind h1 ?_
  cases b with
  | false =>
    simp only [Bool.false_eq_true, if_false]
    exact out_ l s d
  | true =>
    have hF := h2 rfl
    simp only [if_true]
    obtain ⟨b, h3, h4⟩ := plain_or l s d (by have := hF.1; omega)
    refine Ev.bind h3 ?_
    cases b with
    | false => exact out_ l s d
    | true =>
      have hp := h4 rfl
      refine Ev.step (f := fun k => (layout_Apply.f k l s d).bind fun t279 => emendatelaw15_LayoutSeparatesLines.l0 k t279 0 0 l s d) (fun k => ?_) (Ev.bind (apply_ev l s d hF.ready) (rounds l s d hF hp l.length 0 (by omega)))
      simp only [emendatelaw15_LayoutSeparatesLines.j0]
      rw [if_neg (by simp)]
end Go.Proofs.Ythbdgmahjpgfiaa.layoutSeparatesLines
