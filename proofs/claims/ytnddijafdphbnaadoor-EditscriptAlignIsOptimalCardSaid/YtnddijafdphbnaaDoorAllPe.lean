/- Align: the script that it finds. Plain Lean, no program in sight. -/
import Derived.Test.YtnddijafdphbnaaDoorAllPc
import Derived.Test.YtnddijafdphbnaaDoorAllx9
import Derived.Test.YtnddijafdphbnaaDoorAllx10
namespace Go.Proofs.YtnddijafdphbnaaDoor.All
open Go.RowKit Go.Proofs.YtnddijafdphbnaaDoorW.PrintWords Go.Proofs.YtnddijafdphbnaaDoorW.PrintLast Go.Proofs.YtnddijafdphbnaaDoorW.PrintMore
set_option linter.unusedVariables false
set_option linter.unusedSimpArgs false
/-- Does an operation lead on at the least cost? -/
def fits (cols : List S33) (ins : List Int) (sw : Int) (y : List Int) (i j : Nat) (s : S64) : Bool := addE s.f1 (Dd cols ins sw y (i + s.f2.toNat) (j + s.f3.toNat)) == Dd cols ins sw y i j
/-- The first operations that lead on at the least cost. -/
def alE (cols : List S33) (ins : List Int) (sw : Int) (y : List Int) : Nat → Nat → Nat → List S49
 | 0, _, _ => []
 | f + 1, i, j => if i = cols.length ∧ j = y.length then [] else
  match (stepsE cols ins sw y i j).find? (fits cols ins sw y i j) with
  | some s => s.f0 :: alE cols ins sw y f (i + s.f2.toNat) (j + s.f3.toNat)
  | none => []
def alignE (cols : List S33) (ins : List Int) (sw : Int) (y : List Int) : List S49 × Int :=
 if Proper ins y then (if Dd cols ins sw y 0 0 ≥ 1099511627776 then ([], 6) else (alE cols ins sw y (cols.length + y.length + 1) 0 0, 0)) else ([], 1)
section
variable {cols : List S33} {ins : List Int} {sw : Int} {y : List Int}
theorem fits_ex (G : Good cols ins sw) (hy : Proper ins y) {i j : Nat} (hi : i ≤ cols.length) (hj : j ≤ y.length) (he : ¬ (i = cols.length ∧ j = y.length)) (hD : Dd cols ins sw y i j < 1099511627776) : ∃ s, (stepsE cols ins sw y i j).find? (fits cols ins sw y i j) = some s ∧ s ∈ stepsE cols ins sw y i j ∧ fits cols ins sw y i j s = true := by
 have h := Dd_eq (ins := ins) (sw := sw) hi hj
 rw [if_neg he] at h
 obtain ⟨_, _, f3⟩ := foldS_le (fun s => Dd cols ins sw y (i + s.f2.toNat) (j + s.f3.toNat)) (stepsE cols ins sw y i j) 1099511627776
 rw [← h] at f3
 rcases f3 with f3 | ⟨s, hs, f3⟩
 ·
  omega
 ·
  cases hf : (stepsE cols ins sw y i j).find? (fits cols ins sw y i j) with
  | some t => exact ⟨t, rfl, List.mem_of_find?_eq_some hf, List.find?_some hf⟩
  | none =>
   have := List.find?_eq_none.1 hf s hs
   exact absurd (by unfold fits; exact beq_iff_eq.2 f3.symm) this
theorem fits_lt (G : Good cols ins sw) (hy : Proper ins y) {i j : Nat} (hi : i ≤ cols.length) (hj : j ≤ y.length) {s : S64} (hs : s ∈ stepsE cols ins sw y i j) (hf : fits cols ins sw y i j s = true) (hD : Dd cols ins sw y i j < 1099511627776) : ∃ a b : Nat, s.f2 = (a : Int) ∧ s.f3 = (b : Int) ∧ 1 ≤ a + b ∧ i + a ≤ cols.length ∧ j + b ≤ y.length ∧ Dd cols ins sw y i j = s.f1 + Dd cols ins sw y (i + a) (j + b) ∧ Dd cols ins sw y (i + a) (j + b) < 1099511627776 := by
 obtain ⟨a, b, ha, hb, h1, h2, h3⟩ := steps_mem hi hj hs
 refine ⟨a, b, ha, hb, h1, h2, h3, ?_⟩
 unfold fits at hf
 rw [beq_iff_eq, ha, hb, Int.toNat_natCast, Int.toNat_natCast] at hf
 have k := Dd_isD G hy (cols.length + y.length) (i + a) (j + b) h2 h3 (by omega)
 have c := step_cost G hy hs
 rw [addE_eq c ⟨k.lo, k.hi⟩] at hf
 split at hf <;> omega
theorem al_l1 (G : Good cols ins sw) (hy : Proper ins y) (hm : y.length ≤ 1000) {T : List (List Int)} (hT : Tab cols ins sw y T 0) {i j : Nat} (hi : i ≤ cols.length) (hj : j ≤ y.length) (out : List S49) (ho : out.length ≤ 100000) (r : List S49 × Int) (st : List S64) (hs4 : st.length ≤ 4) (hst : ∀ s ∈ st, s ∈ stepsE cols ins sw y i j) (t : S64) (a b : Nat) (ha : t.f2 = (a : Int)) (hb : t.f3 = (b : Int))
  (H : Ev (fun k => editscript_Align.l0 k y T (out ++ [t.f0]) ((i + a : Nat) : Int) ((j + b : Nat) : Int) cols ins sw) r) : ∀ (d s : Nat), s + d = st.length → (st.drop s).find? (fits cols ins sw y i j) = some t →
  Ev (fun k => editscript_Align.l1 k y T out (i : Int) (j : Int) st (st.length : Int) (s : Int) cols ins sw) r
 | 0, s, h, hf => by rw [List.drop_eq_nil_of_le (by omega)] at hf; cases hf
 | d + 1, s, h, hf => by
  have hs : s < st.length := by omega
  have hn := G.n
  have hTl := hT.1
  obtain ⟨a', b', ha', hb', h1, h2, h3⟩ := steps_mem hi hj (hst st[s] (List.getElem_mem hs))
  have hrd : rd_T64 st (s : Int) = st[s] := by simp [rd_T64, List.getD, hs]
  have w1 : wrap64 ((i : Int) + (rd_T64 st (s : Int)).f2) = ((i + a' : Nat) : Int) := by rw [hrd, ha']; unfold wrap64; omega
  have w2 : wrap64 ((j : Int) + (rd_T64 st (s : Int)).f3) = ((j + b' : Nat) : Int) := by rw [hrd, hb']; unfold wrap64; omega
  obtain ⟨r1, r2⟩ := hT.2 (i + a') (Nat.zero_le _) h2
  obtain ⟨r3, r4⟩ := hT.2 i (Nat.zero_le _) hi
  have e1 := r2 (j + b') (Nat.zero_le _) h3
  have e2 := r4 j (Nat.zero_le _) hj
  have hadd : ∀ x, editscript_add.f st[s].f1 x = some (addE st[s].f1 x) := fun x => rfl
  rw [drop_cons hs] at hf
  have hfit : fits cols ins sw y i j st[s] = (addE st[s].f1 (Dd cols ins sw y (i + a') (j + b')) == Dd cols ins sw y i j) := by unfold fits; rw [ha', hb', Int.toNat_natCast, Int.toNat_natCast]
  by_cases hq : addE st[s].f1 (Dd cols ins sw y (i + a') (j + b')) = Dd cols ins sw y i j
  ·
   rw [List.find?_cons_of_pos (by rw [hfit]; exact beq_iff_eq.2 hq)] at hf
   have ht : st[s] = t := Option.some.inj hf
   subst ht
   obtain rfl : a' = a := by omega
   obtain rfl : b' = b := by omega
   refine Ev.step (fun k => ?_) H
   simp only [editscript_Align.l1]
   rw [if_pos (by omega), if_pos (by omega), if_pos (by omega), w1, w2, if_pos (by omega), if_pos (by omega), if_pos (by omega), if_pos (by omega), e1, hrd, hadd]
   simp only [Option.bind_some]
   rw [if_pos (by omega), if_pos (by omega), if_pos (by omega), if_pos (by omega), e2, if_pos hq, if_pos (by omega)]
  ·
   rw [List.find?_cons_of_neg (by rw [hfit]; simpa using hq)] at hf
   refine Ev.step (fun k => ?_) (al_l1 G hy hm hT hi hj out ho r st hs4 hst t a b ha hb H d (s + 1) (by omega) hf)
   simp only [editscript_Align.l1]
   rw [if_pos (by omega), if_pos (by omega), if_pos (by omega), w1, w2, if_pos (by omega), if_pos (by omega), if_pos (by omega), if_pos (by omega), e1, hrd, hadd]
   simp only [Option.bind_some]
   rw [if_pos (by omega), if_pos (by omega), if_pos (by omega), if_pos (by omega), e2, if_neg hq, wnat s (by omega)]
theorem al_l0 (G : Good cols ins sw) (hy : Proper ins y) (hm : y.length ≤ 1000) {T : List (List Int)} (hT : Tab cols ins sw y T 0) : ∀ (f i j : Nat) (out : List S49), i ≤ cols.length → j ≤ y.length → cols.length + y.length + 1 ≤ f + i + j → out.length ≤ i + j → Dd cols ins sw y i j < 1099511627776 →
  Ev (fun k => editscript_Align.l0 k y T out (i : Int) (j : Int) cols ins sw) (out ++ alE cols ins sw y f i j, 0)
 | 0, i, j, out, hi, hj, hf, ho, hD => by omega
 | f + 1, i, j, out, hi, hj, hf, ho, hD => by
  have hn := G.n
  by_cases he : i = cols.length ∧ j = y.length
  ·
   have ea : alE cols ins sw y (f + 1) i j = [] := by simp only [alE]; rw [if_pos he]
   rw [ea, List.append_nil]
   refine Ev.step (f := fun k => editscript_Align.j1 k y T out (i : Int) (j : Int) false cols ins sw) (fun k => ?_) (Ev.step (f := fun _ => some (out, 0)) (fun k => by simp only [editscript_Align.j1]; rw [if_neg (by simp)]) (Ev.now _))
   simp only [editscript_Align.l0]
   rw [if_neg (by omega), decide_eq_false (by omega)]
  ·
   obtain ⟨s, hs, hm1, hf1⟩ := fits_ex G hy hi hj he hD
   obtain ⟨a, b, ha, hb, h1, h2, h3, h4, h5⟩ := fits_lt G hy hi hj hm1 hf1 hD
   have ea : alE cols ins sw y (f + 1) i j = s.f0 :: alE cols ins sw y f (i + a) (j + b) := by
    simp only [alE]
    rw [if_neg he, hs]
    show s.f0 :: alE cols ins sw y f (i + s.f2.toNat) (j + s.f3.toNat) = _
    rw [ha, hb, Int.toNat_natCast, Int.toNat_natCast]
   have ih := al_l0 G hy hm hT f (i + a) (j + b) (out ++ [s.f0]) h2 h3 (by omega) (by simp; omega) h5
   rw [ea]
   rw [List.append_assoc, List.singleton_append] at ih
   have hl1 := al_l1 G hy hm hT hi hj out (by omega) _ (stepsE cols ins sw y i j) steps_len (fun _ h => h) s a b ha hb ih (stepsE cols ins sw y i j).length 0 (by omega) (by rw [List.drop_zero]; exact hs)
   refine Ev.step (f := fun k => editscript_Align.j1 k y T out (i : Int) (j : Int) true cols ins sw) (fun k => ?_) (Ev.step (f := fun k => editscript_Align.l1 k y T out (i : Int) (j : Int) (stepsE cols ins sw y i j) ((stepsE cols ins sw y i j).length : Int) ((0 : Nat) : Int) cols ins sw) (fun k => ?_) hl1)
   ·
    simp only [editscript_Align.l0]
    by_cases hc : i < cols.length
    ·
     rw [if_pos (by omega)]
    ·
     rw [if_neg (by omega), decide_eq_true (by omega)]
   ·
    simp only [editscript_Align.j1]
    rw [if_pos trivial, steps_ev G hy hm hi hj k]
    rfl
theorem align_ev (G : Good cols ins sw) (hm : y.length ≤ 1000) : Ev (fun k => editscript_Align.f k cols ins sw y) (alignE cols ins sw y) := by
 have hp := proper_ev cols ins sw y (by omega)
 by_cases hy : Proper ins y
 ·
  obtain ⟨T, hT, h3⟩ := table_ev G hy hm
  have h4 := hT.2 0 (Nat.zero_le _) (Nat.zero_le _)
  have h5 : (rd_L1 T 0).length = y.length + 1 := h4.1
  have h6 : rd (rd_L1 T 0) 0 = Dd cols ins sw y 0 0 := h4.2 0 (Nat.zero_le _) (Nat.zero_le _)
  have h7 := hT.1
  rw [decide_eq_true hy] at hp
  by_cases hD : Dd cols ins sw y 0 0 ≥ 1099511627776
  ·
   have e : alignE cols ins sw y = ([], 6) := by unfold alignE; rw [if_pos hy, if_pos hD]
   rw [e]
   refine Ev.congr (fun k => rfl) (Ev.bind hp (Ev.congr (fun k => by rw [if_pos rfl]) (Ev.bind h3 (Ev.congr (f := fun _ => some ([], 6)) (fun k => ?_) (Ev.now _)))))
   rw [if_pos (by omega), if_pos (by omega), h6, if_pos hD]
  ·
   have e : alignE cols ins sw y = (alE cols ins sw y (cols.length + y.length + 1) 0 0, 0) := by unfold alignE; rw [if_pos hy, if_neg hD]
   rw [e]
   refine Ev.congr (fun k => rfl) (Ev.bind hp (Ev.congr (fun k => by rw [if_pos rfl]) (Ev.bind h3 (Ev.congr (f := fun k => editscript_Align.l0 k y T [] ((0 : Nat) : Int) ((0 : Nat) : Int) cols ins sw) (fun k => ?_) (al_l0 G hy hm hT (cols.length + y.length + 1) 0 0 [] (Nat.zero_le _) (Nat.zero_le _) (by omega) (by simp) (by omega))))))
   rw [if_pos (by omega), if_pos (by omega), h6, if_neg hD]
   rfl
 ·
  rw [decide_eq_false hy] at hp
  have e : alignE cols ins sw y = ([], 1) := by unfold alignE; rw [if_neg hy]
  rw [e]
  exact Ev.congr (fun k => rfl) (Ev.bind hp (Ev.congr (f := fun _ => some ([], 1)) (fun k => by rw [if_neg (by simp)]) (Ev.now _)))
end

/-! ### Same -/
theorem rd49 (l : List S49) (i : Nat) (h : i < l.length) : rd_T49 l (i : Int) = l[i] := by simp [rd_T49, List.getD, h]
theorem same_l0 (l : List S49) (hl : l.length ≤ 1000000) : ∀ (d i : Nat), i + d = l.length → Ev (fun k => emendateref36_Same.l0 k l l (i : Int)) true
 | 0, i, h => Ev.step (f := fun _ => some true) (fun k => by simp only [emendateref36_Same.l0]; rw [if_neg (by omega)]) (Ev.now _)
 | d + 1, i, h => Ev.step (f := fun k => emendateref36_Same.l0 k l l ((i + 1 : Nat) : Int)) (fun k => by
   simp only [emendateref36_Same.l0]
   rw [if_pos (by omega), if_pos (by omega), if_pos (by omega), if_neg (by simp), wnat i (by omega)]) (same_l0 l hl d (i + 1) (by omega))
theorem same_refl (l : List S49) (hl : l.length ≤ 1000000) : Ev (fun k => emendateref36_Same.f k l l) true :=
 Ev.congr (f := fun k => emendateref36_Same.l0 k l l ((0 : Nat) : Int)) (fun k => by unfold emendateref36_Same.f; rw [if_pos rfl]; rfl) (same_l0 l hl l.length 0 (by omega))
end Go.Proofs.YtnddijafdphbnaaDoor.All
