/- The reference's Start and Apply answer what 'lst' and 'applyF' say. Plain Lean. -/
import Derived.Test.YthbdgmahjpgfiaaAllx8
import Derived.Test.YthbdgmahjpgfiaaAllForm
namespace Go.Proofs.Ythbdgmahjpgfiaa.All
open Go.RowKit Go.Proofs.YthbdgmahjpgfiaaW.PrintWords Go.Proofs.YthbdgmahjpgfiaaW.PrintLast Go.Proofs.YthbdgmahjpgfiaaW.PrintMore
set_option linter.unusedVariables false
set_option linter.unusedSimpArgs false

theorem start_nat (s : ByteArray) (hs : s.size ≤ 1000000) : ∀ (n : Nat), n ≤ s.size → Ev (fun k => emendateref15_Start.f k s (n : Int)) ((lst s n : Nat) : Int)
  | 0, _ => by
    refine Ev.step (f := fun _ => some 0) (fun k => ?_) (Ev.now _)
    unfold emendateref15_Start.f
    simp only [emendateref15_Start.l0]
    rw [if_neg (by omega)]
    rfl
  | n + 1, hn => by
    have e : wrap64 (((n + 1 : Nat) : Int) - 1) = (n : Int) := by unfold wrap64; omega
    unfold lst
    by_cases c : bt s (n : Nat) = 10
    · rw [if_pos c]
      refine Ev.step (f := fun _ => some ((n + 1 : Nat) : Int)) (fun k => ?_) (Ev.now _)
      unfold emendateref15_Start.f
      simp only [emendateref15_Start.l0]
      rw [if_pos (by omega), e, if_pos (by omega), if_pos (by omega), if_pos c]
    · rw [if_neg c]
      refine Ev.step (f := fun k => emendateref15_Start.f k s (n : Int)) (fun k => ?_) (start_nat s hs n (by omega))
      unfold emendateref15_Start.f
      simp only [emendateref15_Start.l0]
      rw [if_pos (by omega), e, if_pos (by omega), if_pos (by omega), if_neg c]
theorem start_ev (s : ByteArray) (hs : s.size ≤ 1000000) (a : Int) (h0 : 0 ≤ a) (h1 : a ≤ s.size) : Ev (fun k => emendateref15_Start.f k s a) ((lst s a.toNat : Nat) : Int) := by
  have := start_nat s hs a.toNat (by omega)
  rw [show ((a.toNat : Nat) : Int) = a by omega] at this
  exact this

theorem top_rd (lv : List Int) : rd (0 :: lv) (((0 :: lv).length : Int) - 1) = topL lv := by
  unfold rd topL
  rw [List.length_cons, show ((((lv.length + 1 : Nat) : Int) - 1).toNat) = lv.length by omega]
  cases lv with
  | nil => rfl
  | cons x r =>
    rw [if_neg (by simp)]
    simp [List.getD]
theorem sec_rd (lv : List Int) (h : 0 < lv.length) : rd (0 :: lv) (((0 :: lv).length : Int) - 2) = secL lv := by
  unfold rd secL
  rw [List.length_cons, show ((((lv.length + 1 : Nat) : Int) - 2).toNat) = lv.length - 1 by omega]
  by_cases h2 : lv.length < 2
  · rw [if_pos h2, show lv.length - 1 = 0 by omega]
    rfl
  · rw [if_neg h2]
    obtain ⟨m, hm⟩ : ∃ m, lv.length = m + 2 := ⟨lv.length - 2, by omega⟩
    rw [hm]
    simp [List.getD]
theorem take_cons (lv : List Int) (h : 0 < lv.length) : (0 :: lv).take ((((0 :: lv).length : Int) - 1).toNat) = 0 :: lv.take (lv.length - 1) := by
  rw [List.length_cons, show ((((lv.length + 1 : Nat) : Int) - 1).toNat) = (lv.length - 1) + 1 by omega]
  rfl

section
variable (l : List S33) (s : ByteArray) (a : Int)
/-- What follows in the reference's Apply behind token i, at the state that it leaves. -/
def Next (i : Nat) (out : List S33) (lv : List Int) (r : List S33) : Prop := Ev (fun k => emendateref15_Apply.l0 k l s a out (0 :: lv) (i : Int)) r

theorem ref_l1 (ha : 0 ≤ a ∧ a ≤ 100000) (hl : l.length ≤ 1000) (i : Nat) (hi : i < l.length) (at_ d : Int) (r : List S33) : ∀ (n : Nat) (lv : List Int) (out : List S33), lv.length = n → n ≤ 100000 → out.length + n ≤ 1000000 →
    Next l s a (i + 1) ((closes (a + 2) at_ d n out lv).1 ++ [l[i]]) (closes (a + 2) at_ d n out lv).2 r → Ev (fun k => emendateref15_Apply.l1 k l s a out (0 :: lv) (i : Int) at_ d) r
  | 0, lv, out, hlv, _, ho, h => by
    obtain rfl : lv = [] := List.eq_nil_of_length_eq_zero hlv
    refine Ev.step (f := fun k => emendateref15_Apply.l0 k l s a (out ++ [l[i]]) (0 :: []) ((i + 1 : Nat) : Int)) (fun k => ?_) h
    simp only [emendateref15_Apply.l1]
    rw [if_neg (by simp), if_pos (by omega), if_pos (by omega), if_pos (by omega), rdn l i hi, wnat i (by omega)]
  | n + 1, lv, out, hlv, hn, ho, h => by
    have e2 : wrap64 (((0 :: lv).length : Int) - 2) = ((0 :: lv).length : Int) - 2 := by rw [List.length_cons]; unfold wrap64; omega
    have e1 : wrap64 (((0 :: lv).length : Int) - 1) = ((0 :: lv).length : Int) - 1 := by rw [List.length_cons]; unfold wrap64; omega
    have e3 : wrap64 (a + 2) = a + 2 := by unfold wrap64; omega
    have hc : ((0 :: lv).length : Int) = lv.length + 1 := by rw [List.length_cons]; omega
    by_cases c : d ≤ secL lv
    · have hx : closes (a + 2) at_ d (n + 1) out lv = closes (a + 2) at_ d n (out ++ [tok (a + 2) at_]) (lv.take (lv.length - 1)) := closes_go _ _ _ _ _ _ ⟨by omega, c⟩
      rw [hx] at h
      refine Ev.step (f := fun k => emendateref15_Apply.l1 k l s a (out ++ [tok (a + 2) at_]) (0 :: lv.take (lv.length - 1)) (i : Int) at_ d) (fun k => ?_)
        (ref_l1 ha hl i hi at_ d r n (lv.take (lv.length - 1)) (out ++ [tok (a + 2) at_]) (by rw [List.length_take]; omega) (by omega) (by simp only [List.length_append, List.length_singleton]; omega) h)
      simp only [emendateref15_Apply.l1]
      rw [if_pos (by omega), e2, if_pos (by omega), if_pos (by omega), sec_rd lv (by omega), if_pos c, e1, if_pos (by omega), if_pos (by omega), if_pos (by omega), take_cons lv (by omega), e3]
      rfl
    · have hx : closes (a + 2) at_ d (n + 1) out lv = (out, lv) := closes_stop _ _ _ _ _ _ (by omega)
      rw [hx] at h
      refine Ev.step (f := fun k => emendateref15_Apply.l0 k l s a (out ++ [l[i]]) (0 :: lv) ((i + 1 : Nat) : Int)) (fun k => ?_) h
      simp only [emendateref15_Apply.l1]
      rw [if_pos (by omega), e2, if_pos (by omega), if_pos (by omega), sec_rd lv (by omega), if_neg c, if_pos (by omega), if_pos (by omega), if_pos (by omega), rdn l i hi, wnat i (by omega)]

theorem ref_j1 (ha : 0 ≤ a ∧ a ≤ 100000) (hl : l.length ≤ 1000) (i : Nat) (hi : i < l.length) (st : LSt) (hsz : st.out.length + st.lv.length ≤ 3000) (hfi : st.first = ((i : Int) == 0)) (hat : 0 ≤ l[i].f1 ∧ l[i].f1 ≤ 1000000) (b : Bool) (hb : b = decide (((lst s l[i].f1.toNat : Nat) : Int) ≠ st.last)) (r : List S33)
    (h : Next l s a (i + 1) (stepF a s st l[i]).out (stepF a s st l[i]).lv r) : Ev (fun k => emendateref15_Apply.j1 k l s a st.out (0 :: st.lv) (i : Int) l[i].f1 ((lst s l[i].f1.toNat : Nat) : Int) b) r := by
  have hls := lst_le s l[i].f1.toNat
  have hw : wrap64 (l[i].f1 - ((lst s l[i].f1.toNat : Nat) : Int)) = l[i].f1 - ((lst s l[i].f1.toNat : Nat) : Int) := by unfold wrap64; omega
  have e1 : wrap64 (((0 :: st.lv).length : Int) - 1) = ((0 :: st.lv).length : Int) - 1 := by rw [List.length_cons]; unfold wrap64; omega
  have e4 : wrap64 (a + 1) = a + 1 := by unfold wrap64; omega
  have hc : ((0 :: st.lv).length : Int) = st.lv.length + 1 := by rw [List.length_cons]; omega
  have hs : stepF a s st l[i] = (if ((lst s l[i].f1.toNat : Nat) : Int) ≠ st.last then ⟨false, ((lst s l[i].f1.toNat : Nat) : Int), (lineF a st.out st.lv l[i].f1 (l[i].f1 - ((lst s l[i].f1.toNat : Nat) : Int)) st.first).1 ++ [l[i]], (lineF a st.out st.lv l[i].f1 (l[i].f1 - ((lst s l[i].f1.toNat : Nat) : Int)) st.first).2⟩ else ⟨false, ((lst s l[i].f1.toNat : Nat) : Int), st.out ++ [l[i]], st.lv⟩) := by
    unfold stepF
    simp only
    split <;> rfl
  generalize hS : ((lst s l[i].f1.toNat : Nat) : Int) = S at *
  by_cases c : S = st.last
  · rw [if_neg (by simpa using c)] at hs
    rw [hs] at h
    obtain rfl : b = false := by rw [hb]; exact decide_eq_false (by simpa using c)
    refine Ev.step (f := fun k => emendateref15_Apply.l0 k l s a (st.out ++ [l[i]]) (0 :: st.lv) ((i + 1 : Nat) : Int)) (fun k => ?_) h
    simp only [emendateref15_Apply.j1]
    rw [if_neg (by simp), if_pos (by omega), if_pos (by omega), if_pos (by omega), rdn l i hi, wnat i (by omega)]
  · rw [if_pos c] at hs
    rw [hs] at h
    obtain rfl : b = true := by rw [hb]; exact decide_eq_true c
    generalize hD : l[i].f1 - S = D at *
    by_cases ct : topL st.lv < D
    · have hx : lineF a st.out st.lv l[i].f1 D st.first = (st.out ++ [tok (a + 1) l[i].f1], st.lv ++ [D]) := by unfold lineF; rw [if_pos ct]
      rw [hx] at h
      refine Ev.step (f := fun k => emendateref15_Apply.l0 k l s a (st.out ++ [tok (a + 1) l[i].f1] ++ [l[i]]) (0 :: (st.lv ++ [D])) ((i + 1 : Nat) : Int)) (fun k => ?_) h
      simp only [emendateref15_Apply.j1]
      rw [if_pos trivial, e1, if_pos (by omega), if_pos (by omega), hD, hw, top_rd, if_pos ct, if_pos (by rw [List.length_cons]; omega), if_pos (by omega), Option.bind_some, if_pos (by omega), if_pos (by omega), if_pos (by simp only [List.length_append, List.length_singleton]; omega), rdn l i hi, wnat i (by omega), e4]
      rfl
    · have hx : lineF a st.out st.lv l[i].f1 D st.first = closes (a + 2) l[i].f1 D st.lv.length (if st.first then st.out else st.out ++ [tok a l[i].f1]) st.lv := by unfold lineF; rw [if_neg ct]
      rw [hx] at h
      by_cases ci : i = 0
      · have hf : st.first = true := by rw [hfi]; simp [ci]
        rw [hf] at h
        simp only [if_true] at h
        have hk := ref_l1 l s a ha hl i hi l[i].f1 D r st.lv.length st.lv st.out rfl (by omega) (by omega) h
        refine Ev.step (f := fun k => emendateref15_Apply.j2 k l s a st.out (0 :: st.lv) (i : Int) l[i].f1 D) (fun k => ?_) (Ev.step (fun k => by simp only [emendateref15_Apply.j2]) hk)
        simp only [emendateref15_Apply.j1]
        rw [if_pos trivial, e1, if_pos (by omega), if_pos (by omega), hD, hw, top_rd, if_neg ct, if_neg (by omega)]
      · have hf : st.first = false := by rw [hfi]; exact beq_eq_false_iff_ne.2 (by omega)
        rw [hf] at h
        simp only [Bool.false_eq_true, if_false] at h
        have hk := ref_l1 l s a ha hl i hi l[i].f1 D r st.lv.length st.lv (st.out ++ [tok a l[i].f1]) rfl (by omega) (by simp only [List.length_append, List.length_singleton]; omega) h
        refine Ev.step (f := fun k => emendateref15_Apply.j2 k l s a (st.out ++ [tok a l[i].f1]) (0 :: st.lv) (i : Int) l[i].f1 D) (fun k => ?_) (Ev.step (fun k => by simp only [emendateref15_Apply.j2]) hk)
        simp only [emendateref15_Apply.j1]
        rw [if_pos trivial, e1, if_pos (by omega), if_pos (by omega), hD, hw, top_rd, if_neg ct, if_pos (by omega), if_pos (by omega)]
        rfl

theorem ref_l2 (ha : 0 ≤ a ∧ a ≤ 100000) (lv : List Int) (hlv : lv.length ≤ 3000) : ∀ (d j : Nat) (out : List S33), j + d = lv.length → out.length ≤ 10000 + j →
    Ev (fun k => emendateref15_Apply.l2 k s a out (0 :: lv) ((j + 1 : Nat) : Int)) (out ++ List.replicate d (tok (a + 2) s.size))
  | 0, j, out, h, _ => by
    refine Ev.step (f := fun _ => some (out ++ List.replicate 0 (tok (a + 2) s.size))) (fun k => ?_) (Ev.now _)
    simp only [emendateref15_Apply.l2]
    rw [if_neg (by rw [List.length_cons]; omega)]
    simp
  | d + 1, j, out, h, ho => by
    have e3 : wrap64 (a + 2) = a + 2 := by unfold wrap64; omega
    have := ref_l2 ha lv hlv d (j + 1) (out ++ [tok (a + 2) s.size]) (by omega) (by simp only [List.length_append, List.length_singleton]; omega)
    rw [List.append_assoc, List.singleton_append, ← List.replicate_succ] at this
    refine Ev.step (f := fun k => emendateref15_Apply.l2 k s a (out ++ [tok (a + 2) s.size]) (0 :: lv) ((j + 1 + 1 : Nat) : Int)) (fun k => ?_) this
    simp only [emendateref15_Apply.l2]
    rw [if_pos (by rw [List.length_cons]; omega), if_pos (by omega), e3, wnat (j + 1) (by omega)]
    rfl

theorem ref_l0 (hR : Ready l s a) : ∀ (d i : Nat), i + d = l.length → Next l s a i (runF a s (l.take i)).out (runF a s (l.take i)).lv (applyF l s a)
  | 0, i, h => by
    have hlen := runF_len a s l
    have h1 := hR.1
    have hT : l.take i = l := List.take_of_length_le (by omega)
    rw [hT]
    unfold Next
    by_cases hz : l.length = 0
    · refine Ev.step (f := fun _ => some (applyF l s a)) (fun k => ?_) (Ev.now _)
      simp only [emendateref15_Apply.l0]
      rw [if_neg (by omega), if_neg (by omega)]
      unfold applyF
      simp only
      rw [if_pos hz]
    · have hk := ref_l2 s a ⟨hR.2.2.1, hR.2.2.2.1⟩ (runF a s l).lv (by omega) (runF a s l).lv.length 0 ((runF a s l).out ++ [tok a s.size]) (by omega) (by simp only [List.length_append, List.length_singleton]; omega)
      have hA : applyF l s a = (runF a s l).out ++ [tok a s.size] ++ List.replicate (runF a s l).lv.length (tok (a + 2) s.size) := by
        unfold applyF
        simp only
        rw [if_neg hz]
      rw [hA]
      refine Ev.step (f := fun k => emendateref15_Apply.l2 k s a ((runF a s l).out ++ [tok a s.size]) (0 :: (runF a s l).lv) ((0 + 1 : Nat) : Int)) (fun k => ?_) hk
      simp only [emendateref15_Apply.l0]
      rw [if_neg (by omega), if_pos (by omega), if_pos (by omega)]
      rfl
  | d + 1, i, h => by
    have hi : i < l.length := by omega
    have h1 := hR.1
    have h2 := hR.2.1
    have hat := hR.2.2.2.2 l[i] (List.getElem_mem hi)
    have hlen := runF_len a s (l.take i)
    rw [List.length_take] at hlen
    have ih := ref_l0 hR d (i + 1) (by omega)
    rw [runF_succ a s l i hi] at ih
    by_cases ci : i = 0
    · subst ci
      have hr0 : runF a s (l.take 0) = ⟨true, -1, [], []⟩ := rfl
      rw [hr0] at ih ⊢
      have hj := ref_j1 l s a ⟨hR.2.2.1, hR.2.2.2.1⟩ h1 0 hi ⟨true, -1, [], []⟩ (by simp) (by rfl) ⟨hat.1, by omega⟩ true (by rw [eq_comm]; exact decide_eq_true (by show _ ≠ (-1 : Int); omega)) _ ih
      refine Ev.step (f := fun k => (emendateref15_Start.f k s l[0].f1).bind fun t => emendateref15_Apply.j1 k l s a [] [0] ((0 : Nat) : Int) l[0].f1 t true) (fun k => ?_) (Ev.bind (start_ev s (by omega) _ hat.1 hat.2) hj)
      simp only [emendateref15_Apply.l0]
      rw [if_pos (by omega), if_pos (by omega), rdn l 0 hi]
      congr 1
    · have hp : i - 1 < l.length := by omega
      have hat2 := hR.2.2.2.2 l[i - 1] (List.getElem_mem hp)
      have hprev : runF a s (l.take i) = stepF a s (runF a s (l.take (i - 1))) l[i - 1] := by
        have := runF_succ a s l (i - 1) hp
        rw [show i - 1 + 1 = i by omega] at this
        exact this
      have hlast : (runF a s (l.take i)).last = ((lst s l[i - 1].f1.toNat : Nat) : Int) := by rw [hprev]; unfold stepF; rfl
      have hfirst : (runF a s (l.take i)).first = ((i : Int) == 0) := by rw [hprev, beq_eq_false_iff_ne.2 (by omega)]; unfold stepF; rfl
      have hj := ref_j1 l s a ⟨hR.2.2.1, hR.2.2.2.1⟩ h1 i hi (runF a s (l.take i)) (by omega) hfirst ⟨hat.1, by omega⟩ (((lst s l[i - 1].f1.toNat : Nat) : Int) != ((lst s l[i].f1.toNat : Nat) : Int)) (by
        rw [hlast]
        by_cases c : ((lst s l[i].f1.toNat : Nat) : Int) = ((lst s l[i - 1].f1.toNat : Nat) : Int)
        · rw [c]; simp
        · rw [decide_eq_true c, bne_iff_ne]; exact fun e => c e.symm) _ ih
      have ew : wrap64 ((i : Int) - 1) = ((i - 1 : Nat) : Int) := by unfold wrap64; omega
      refine Ev.step (f := fun k => (emendateref15_Start.f k s l[i].f1).bind fun t => (emendateref15_Start.f k s l[i - 1].f1).bind fun t2 => emendateref15_Apply.j1 k l s a (runF a s (l.take i)).out (0 :: (runF a s (l.take i)).lv) (i : Int) l[i].f1 t (t2 != t)) (fun k => ?_) (Ev.bind (start_ev s (by omega) _ hat.1 hat.2) (Ev.bind (start_ev s (by omega) _ hat2.1 hat2.2) hj))
      simp only [emendateref15_Apply.l0]
      rw [if_pos (by omega), if_pos (by omega), rdn l i hi]
      congr 1
      funext t
      rw [if_neg (by omega), ew, if_pos (by omega), if_pos (by omega), rdn l (i - 1) hp]
end

theorem ref_ev (l : List S33) (s : ByteArray) (a : Int) (hR : Ready l s a) : Ev (fun k => emendateref15_Apply.f k l s a) (applyF l s a) := ref_l0 l s a hR l.length 0 (by omega)
end Go.Proofs.Ythbdgmahjpgfiaa.All
