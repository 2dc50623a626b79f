/- Some texts, one behind the other. -/
import Derived.Test.YtnddijafdphbnaaDoorAllPa
import Derived.Test.YtnddijafdphbnaaDoorAllx3
section
/- The least costs: what the table of the program holds. Plain Lean, no program in sight. -/
namespace Go.Proofs.YtnddijafdphbnaaDoor.All
open Go.RowKit Go.Proofs.YtnddijafdphbnaaDoorW.PrintWords Go.Proofs.YtnddijafdphbnaaDoorW.PrintLast Go.Proofs.YtnddijafdphbnaaDoorW.PrintMore
set_option linter.unusedVariables false
set_option linter.unusedSimpArgs false

/-- The least cost over some operations. -/
def foldS (g : S64 → Int) : Int → List S64 → Int
 | b, [] => b
 | b, s :: l => foldS g (mn b (addE s.f1 (g s))) l
theorem foldS_congr {g h : S64 → Int} : ∀ (l : List S64) (b : Int), (∀ s ∈ l, g s = h s) → foldS g b l = foldS h b l
 | [], b, _ => rfl
 | s :: l, b, H => by
  simp only [foldS]
  rw [H s List.mem_cons_self]
  exact foldS_congr l _ (fun t ht => H t (List.mem_cons_of_mem _ ht))
def DF (cols : List S33) (ins : List Int) (sw : Int) (y : List Int) : Nat → Nat → Nat → Int
 | 0, _, _ => 1099511627776
 | f + 1, i, j => if i = cols.length ∧ j = y.length then 0 else foldS (fun s => DF cols ins sw y f (i + s.f2.toNat) (j + s.f3.toNat)) 1099511627776 (stepsE cols ins sw y i j)
/-- The least cost of a script for what is left behind i tokens and j terminals. -/
def Dd (cols : List S33) (ins : List Int) (sw : Int) (y : List Int) (i j : Nat) : Int := DF cols ins sw y (cols.length + y.length - i - j + 1) i j

section
variable {cols : List S33} {ins : List Int} {sw : Int} {y : List Int}
theorem steps_mem {i j : Nat} (hi : i ≤ cols.length) (hj : j ≤ y.length) {s : S64} (h : s ∈ stepsE cols ins sw y i j) : ∃ a b : Nat, s.f2 = (a : Int) ∧ s.f3 = (b : Int) ∧ 1 ≤ a + b ∧ i + a ≤ cols.length ∧ j + b ≤ y.length := by
 unfold stepsE at h
 rcases List.mem_append.1 h with h | h
 ·
  rcases List.mem_append.1 h with h | h
  ·
   rcases List.mem_append.1 h with h | h
   ·
    unfold stA at h
    split at h
    ·
     rename_i hc
     rw [List.mem_singleton] at h
     subst h
     exact ⟨1, 1, rfl, rfl, by omega, by omega, by omega⟩
    ·
     cases h
   ·
    unfold stB at h
    split at h
    ·
     rename_i hc
     rw [List.mem_singleton] at h
     subst h
     exact ⟨1, 0, rfl, rfl, by omega, by omega, by omega⟩
    ·
     cases h
  ·
   unfold stC at h
   split at h
   ·
    rename_i hc
    rw [List.mem_singleton] at h
    subst h
    exact ⟨0, 1, rfl, rfl, by omega, by omega, by omega⟩
   ·
    cases h
 ·
  unfold stD at h
  split at h
  ·
   rename_i hc
   have := hc.2.1.2.1
   rw [List.mem_singleton] at h
   subst h
   exact ⟨2, 2, rfl, rfl, by omega, by omega, by omega⟩
  ·
   cases h
theorem steps_len {i j : Nat} : (stepsE cols ins sw y i j).length ≤ 4 := by
 unfold stepsE stA stB stC stD
 split <;> split <;> split <;> split <;> simp
theorem DF_stable : ∀ (f f' i j : Nat), i ≤ cols.length → j ≤ y.length → cols.length + y.length - i - j + 1 ≤ f → cols.length + y.length - i - j + 1 ≤ f' → DF cols ins sw y f i j = DF cols ins sw y f' i j
 | 0, f', i, j, hi, hj, h, h' => by omega
 | f + 1, 0, i, j, hi, hj, h, h' => by omega
 | f + 1, f' + 1, i, j, hi, hj, h, h' => by
  simp only [DF]
  split
  ·
   rfl
  ·
   refine foldS_congr _ _ fun s hs => ?_
   obtain ⟨a, b, ha, hb, h1, h2, h3⟩ := steps_mem hi hj hs
   rw [ha, hb, Int.toNat_natCast, Int.toNat_natCast]
   exact DF_stable f f' (i + a) (j + b) h2 h3 (by omega) (by omega)
theorem Dd_eq {i j : Nat} (hi : i ≤ cols.length) (hj : j ≤ y.length) : Dd cols ins sw y i j = if i = cols.length ∧ j = y.length then 0 else foldS (fun s => Dd cols ins sw y (i + s.f2.toNat) (j + s.f3.toNat)) 1099511627776 (stepsE cols ins sw y i j) := by
 unfold Dd
 simp only [DF]
 split
 ·
  rfl
 ·
  refine foldS_congr _ _ fun s hs => ?_
  obtain ⟨a, b, ha, hb, h1, h2, h3⟩ := steps_mem hi hj hs
  rw [ha, hb, Int.toNat_natCast, Int.toNat_natCast]
  exact DF_stable (cols.length + y.length - i - j) (cols.length + y.length - (i + a) - (j + b) + 1) (i + a) (j + b) h2 h3 (by omega) (by omega)
theorem Dd_end : Dd cols ins sw y cols.length y.length = 0 := by rw [Dd_eq (Nat.le_refl _) (Nat.le_refl _), if_pos ⟨rfl, rfl⟩]
theorem stOk (G : Good cols ins sw) (hy : Proper ins y) (hm : y.length ≤ 1000) {i j : Nat} (hi : i ≤ cols.length) (hj : j ≤ y.length) : StOk cols ins y i j := by
 have h1 := G.n
 have h2 := G.m
 refine ⟨hi, hj, by omega, by omega, by omega, fun h => ?_, fun h h' => ?_⟩
 ·
  rw [rdi y j h]
  exact hy _ (List.getElem_mem h)
 ·
  rw [rdi y j h', rdn cols i h, (G.col _ (List.getElem_mem h)).row]
  exact (hy _ (List.getElem_mem h')).2
theorem steps_ev (G : Good cols ins sw) (hy : Proper ins y) (hm : y.length ≤ 1000) {i j : Nat} (hi : i ≤ cols.length) (hj : j ≤ y.length) (k : Nat) : editscript_steps.f k cols ins sw y (i : Int) (j : Int) = some (stepsE cols ins sw y i j) := by
 unfold editscript_steps.f
 rw [if_pos ⟨by omega, by omega, by simpa using stOk G hy hm hi hj⟩]
 simp

theorem l2_ev (G : Good cols ins sw) (hm : y.length ≤ 1000) (T : List (List Int)) (i j : Nat) (hi : i ≤ cols.length) (hj : j ≤ y.length) (hT : T.length = cols.length + 1) (hr : (rd_L1 T (i : Int)).length = y.length + 1) (st : List S64) (hs4 : st.length ≤ 4) (g : S64 → Int)
  (hst : ∀ s ∈ st, ∃ a b : Nat, s.f2 = (a : Int) ∧ s.f3 = (b : Int) ∧ i + a ≤ cols.length ∧ j + b ≤ y.length ∧ (rd_L1 T ((i + a : Nat) : Int)).length = y.length + 1 ∧ rd (rd_L1 T ((i + a : Nat) : Int)) ((j + b : Nat) : Int) = g s) (r : List (List Int)) :
  ∀ (d s : Nat) (b : Int), s + d = st.length → Ev (fun k => editscript_table.l1 k y (cols.length : Int) (y.length : Int) (T.set i ((rd_L1 T (i : Int)).set j (foldS g b (st.drop s)))) (i : Int) (wrap64 ((j : Int) - 1)) cols ins sw) r →
   Ev (fun k => editscript_table.l2 k y (cols.length : Int) (y.length : Int) T (i : Int) (j : Int) b st (st.length : Int) (s : Int) cols ins sw) r
 | 0, s, b, h, H => by
  rw [List.drop_eq_nil_of_le (by omega)] at H
  refine Ev.step (fun k => ?_) H
  have hn := G.n
  simp only [editscript_table.l2, foldS]
  rw [if_neg (by omega), if_pos (by omega), if_pos (by omega), if_pos (by omega), if_pos (by omega), Int.toNat_natCast, Int.toNat_natCast]
 | d + 1, s, b, h, H => by
  have hs : s < st.length := by omega
  have hn := G.n
  rw [List.drop_eq_getElem_cons hs] at H
  simp only [foldS] at H
  have ih := l2_ev G hm T i j hi hj hT hr st hs4 g hst r d (s + 1) _ (by omega) H
  obtain ⟨a, c, ha, hc, h1, h2, h3, h4⟩ := hst st[s] (List.getElem_mem hs)
  have hrd : rd_T64 st (s : Int) = st[s] := by simp [rd_T64, List.getD, hs]
  refine Ev.step (fun k => ?_) ih
  simp only [editscript_table.l2]
  have w1 : wrap64 ((i : Int) + (rd_T64 st (s : Int)).f2) = ((i + a : Nat) : Int) := by rw [hrd, ha]; unfold wrap64; omega
  have w2 : wrap64 ((j : Int) + (rd_T64 st (s : Int)).f3) = ((j + c : Nat) : Int) := by rw [hrd, hc]; unfold wrap64; omega
  rw [if_pos (by omega), if_pos (by omega), if_pos (by omega), w1, w2, if_pos (by omega), if_pos (by omega), if_pos (by omega), if_pos (by omega), h4, hrd, wnat s (by omega)]
  rfl

/-- A row that is done. -/
def Row (cols : List S33) (ins : List Int) (sw : Int) (y : List Int) (T : List (List Int)) (i j : Nat) : Prop := (rd_L1 T (i : Int)).length = y.length + 1 ∧ ∀ j', j ≤ j' → j' ≤ y.length → rd (rd_L1 T (i : Int)) (j' : Int) = Dd cols ins sw y i j'
def Tab (cols : List S33) (ins : List Int) (sw : Int) (y : List Int) (T : List (List Int)) (i : Nat) : Prop := T.length = cols.length + 1 ∧ ∀ i', i ≤ i' → i' ≤ cols.length → Row cols ins sw y T i' 0
theorem rd_set_ne (l : List Int) (a b : Nat) (v : Int) (h : a ≠ b) : rd (l.set a v) (b : Int) = rd l (b : Int) := by simp [rd, List.getD, List.getElem?_set, h]
theorem rd_set_eq (l : List Int) (a : Nat) (v : Int) (h : a < l.length) : rd (l.set a v) (a : Int) = v := by simp [rd, List.getD, List.getElem?_set, h]
theorem rdL_set_ne (l : List (List Int)) (a b : Nat) (v : List Int) (h : a ≠ b) : rd_L1 (l.set a v) (b : Int) = rd_L1 l (b : Int) := by simp [rd_L1, List.getD, List.getElem?_set, h]
theorem rdL_set_eq (l : List (List Int)) (a : Nat) (v : List Int) (h : a < l.length) : rd_L1 (l.set a v) (a : Int) = v := by simp [rd_L1, List.getD, List.getElem?_set, h]

/-- One row, from its end to its beginning. -/
theorem l1_ev (G : Good cols ins sw) (hy : Proper ins y) (hm : y.length ≤ 1000) (i : Nat) (hi : i ≤ cols.length) : ∀ (j1 : Nat) (T : List (List Int)), j1 ≤ y.length + 1 → Tab cols ins sw y T (i + 1) → Row cols ins sw y T i j1 → (i = cols.length → j1 = y.length + 1 → rd (rd_L1 T (i : Int)) (y.length : Int) = 0) →
  ∃ T', Tab cols ins sw y T' i ∧ ∀ r, Ev (fun k => editscript_table.l0 k y (cols.length : Int) (y.length : Int) T' (wrap64 ((i : Int) - 1)) cols ins sw) r → Ev (fun k => editscript_table.l1 k y (cols.length : Int) (y.length : Int) T (i : Int) ((j1 : Int) - 1) cols ins sw) r
 | 0, T, hj1, hT, hR, _ => by
  refine ⟨T, ⟨hT.1, fun i' h1 h2 => ?_⟩, fun r H => Ev.step (fun k => by simp only [editscript_table.l1]; rw [if_neg (by omega)]) H⟩
  rcases (show i' = i ∨ i + 1 ≤ i' by omega) with rfl | h
  ·
   exact hR
  ·
   exact hT.2 i' h h2
 | j + 1, T, hj1, hT, hR, hz => by
  have hn := G.n
  have hj : j ≤ y.length := by omega
  have hjc : (((j + 1 : Nat) : Int) - 1) = (j : Int) := by omega
  by_cases he : i = cols.length ∧ j = y.length
  ·
   have hR' : Row cols ins sw y T i j := ⟨hR.1, fun j' h1 h2 => by
    have : j' = y.length := by omega
    subst this
    rw [hz he.1 (by omega), he.1, Dd_end]⟩
   obtain ⟨T', h1, h2⟩ := l1_ev G hy hm i hi j T (by omega) hT hR' (fun _ h => by omega)
   refine ⟨T', h1, fun r H => ?_⟩
   have h3 := h2 r H
   refine Ev.step (f := fun k => editscript_table.j2 k y (cols.length : Int) (y.length : Int) T (i : Int) (j : Int) true cols ins sw) (fun k => ?_) (Ev.step (f := fun k => editscript_table.l1 k y (cols.length : Int) (y.length : Int) T (i : Int) ((j : Int) - 1) cols ins sw) (fun k => ?_) h3)
   ·
    simp only [editscript_table.l1]
    rw [hjc, if_pos (by omega), if_pos (by omega)]
    have : ((j : Int) == (y.length : Int)) = true := by rw [he.2]; simp
    rw [this]
   ·
    simp only [editscript_table.j2]
    have hw : wrap64 ((j : Int) - 1) = (j : Int) - 1 := by unfold wrap64; omega
    rw [if_pos trivial, hw]
  ·
   have hrow := hR.1
   have hg : ∀ s ∈ stepsE cols ins sw y i j, ∃ a b : Nat, s.f2 = (a : Int) ∧ s.f3 = (b : Int) ∧ i + a ≤ cols.length ∧ j + b ≤ y.length ∧ (rd_L1 T ((i + a : Nat) : Int)).length = y.length + 1 ∧ rd (rd_L1 T ((i + a : Nat) : Int)) ((j + b : Nat) : Int) = Dd cols ins sw y (i + s.f2.toNat) (j + s.f3.toNat) := by
    intro s hs
    obtain ⟨a, b, ha, hb, h1, h2, h3⟩ := steps_mem hi hj hs
    refine ⟨a, b, ha, hb, h2, h3, ?_⟩
    rw [ha, hb, Int.toNat_natCast, Int.toNat_natCast]
    cases a with
    | zero => exact ⟨hR.1, hR.2 (j + b) (by omega) h3⟩
    | succ a => exact ⟨(hT.2 (i + (a + 1)) (by omega) h2).1, (hT.2 (i + (a + 1)) (by omega) h2).2 (j + b) (Nat.zero_le _) h3⟩
   obtain ⟨v, hv⟩ : ∃ v, v = foldS (fun s => Dd cols ins sw y (i + s.f2.toNat) (j + s.f3.toNat)) 1099511627776 (stepsE cols ins sw y i j) := ⟨_, rfl⟩
   have hD : Dd cols ins sw y i j = v := by rw [Dd_eq hi hj, if_neg he, hv]
   have hTl := hT.1
   have hT2 : Tab cols ins sw y (T.set i ((rd_L1 T (i : Int)).set j v)) (i + 1) := ⟨by simpa using hT.1, fun i' h1 h2 => by
    unfold Row
    rw [rdL_set_ne _ _ _ _ (by omega)]
    exact hT.2 i' h1 h2⟩
   have hR2 : Row cols ins sw y (T.set i ((rd_L1 T (i : Int)).set j v)) i j := by
    unfold Row
    rw [rdL_set_eq _ _ _ (by omega)]
    refine ⟨by simpa using hR.1, fun j' h1 h2 => ?_⟩
    rcases (show j' = j ∨ j + 1 ≤ j' by omega) with rfl | h
    ·
     rw [rd_set_eq _ _ _ (by omega), hD]
    ·
     rw [rd_set_ne _ _ _ _ (by omega)]
     exact hR.2 j' h h2
   obtain ⟨T', h1, h2⟩ := l1_ev G hy hm i hi j _ (by omega) hT2 hR2 (fun _ h => by omega)
   refine ⟨T', h1, fun r H => ?_⟩
   have h3 := h2 r H
   have hw : wrap64 ((j : Int) - 1) = (j : Int) - 1 := by unfold wrap64; omega
   have h4 := l2_ev G hm T i j hi hj hT.1 hR.1 (stepsE cols ins sw y i j) steps_len _ hg r (stepsE cols ins sw y i j).length 0 1099511627776 (by omega) (by rw [List.drop_zero, ← hv, hw]; exact h3)
   refine Ev.step (f := fun k => editscript_table.j2 k y (cols.length : Int) (y.length : Int) T (i : Int) (j : Int) false cols ins sw) (fun k => ?_) (Ev.step (f := fun k => editscript_table.l2 k y (cols.length : Int) (y.length : Int) T (i : Int) (j : Int) 1099511627776 (stepsE cols ins sw y i j) ((stepsE cols ins sw y i j).length : Int) ((0 : Nat) : Int) cols ins sw) (fun k => ?_) h4)
   ·
    simp only [editscript_table.l1]
    rw [hjc, if_pos (by omega)]
    by_cases h5 : i = cols.length
    ·
     have : ((j : Int) == (y.length : Int)) = false := by simp; omega
     rw [if_pos (by omega), this]
    ·
     rw [if_neg (by omega)]
   ·
    simp only [editscript_table.j2]
    rw [if_neg (by simp), steps_ev G hy hm hi hj k]
    rfl
/-- All rows, from the last to the first. -/
theorem l0_ev (G : Good cols ins sw) (hy : Proper ins y) (hm : y.length ≤ 1000) : ∀ (i1 : Nat) (T : List (List Int)), i1 ≤ cols.length + 1 → Tab cols ins sw y T i1 → ∃ T', Tab cols ins sw y T' 0 ∧ Ev (fun k => editscript_table.l0 k y (cols.length : Int) (y.length : Int) T ((i1 : Int) - 1) cols ins sw) T'
 | 0, T, hi1, hT => ⟨T, hT, Ev.step (f := fun _ => some T) (fun k => by simp only [editscript_table.l0]; rw [if_neg (by omega)]) (Ev.now _)⟩
 | i + 1, T, hi1, hT => by
  have hn := G.n
  have hi : i ≤ cols.length := by omega
  have hw : wrap64 ((y.length : Int) + 1) = ((y.length + 1 : Nat) : Int) := wnat _ (by omega)
  have hTl := hT.1
  obtain ⟨row, hrow⟩ : ∃ row : List Int, row = List.replicate (y.length + 1) 0 := ⟨_, rfl⟩
  have hz : rd row (y.length : Int) = 0 := by rw [hrow]; simp [rd, List.getD]
  have hT2 : Tab cols ins sw y (T.set i row) (i + 1) := ⟨by simpa using hT.1, fun i' h1 h2 => by
   unfold Row
   rw [rdL_set_ne _ _ _ _ (by omega)]
   exact hT.2 i' h1 h2⟩
  obtain ⟨T1, h1, h2⟩ := l1_ev G hy hm i hi (y.length + 1) (T.set i row) (Nat.le_refl _) hT2 ⟨by rw [rdL_set_eq _ _ _ (by omega), hrow]; simp, fun j' h h' => by omega⟩ (fun _ _ => by rw [rdL_set_eq _ _ _ (by omega)]; exact hz)
  obtain ⟨T', h3, h4⟩ := l0_ev G hy hm i T1 (by omega) h1
  have hwi : wrap64 ((i : Int) - 1) = (i : Int) - 1 := by unfold wrap64; omega
  refine ⟨T', h3, Ev.step (fun k => ?_) (h2 T' (by rw [hwi]; exact h4))⟩
  simp only [editscript_table.l0]
  have hic : (((i + 1 : Nat) : Int) - 1) = (i : Int) := by omega
  rw [hic, hw, if_pos (by omega), if_pos (by omega), Int.toNat_natCast, if_pos (by omega), if_pos (by omega), if_pos (by omega), Int.toNat_natCast, ← hrow]
  congr 1
  omega
theorem table_ev (G : Good cols ins sw) (hy : Proper ins y) (hm : y.length ≤ 1000) : ∃ T, Tab cols ins sw y T 0 ∧ Ev (fun k => editscript_table.f k cols ins sw y) T := by
 have hn := G.n
 have hw : wrap64 ((cols.length : Int) + 1) = ((cols.length + 1 : Nat) : Int) := wnat _ (by omega)
 obtain ⟨T, h1, h2⟩ := l0_ev G hy hm (cols.length + 1) (List.replicate (cols.length + 1) []) (Nat.le_refl _) ⟨by simp, fun i' h h' => by omega⟩
 refine ⟨T, h1, Ev.congr (fun k => ?_) h2⟩
 unfold editscript_table.f
 rw [hw, if_pos (by omega), Int.toNat_natCast, if_pos (by omega)]
 congr 1
 omega
/-- Distance. -/
def distE (cols : List S33) (ins : List Int) (sw : Int) (y : List Int) : Int := if Proper ins y then Dd cols ins sw y 0 0 else 1099511627776
theorem dist_ev (G : Good cols ins sw) (hm : y.length ≤ 1000) : Ev (fun k => editscript_Distance.f k cols ins sw y) (distE cols ins sw y) := by
 have hp := proper_ev cols ins sw y (by omega)
 by_cases hy : Proper ins y
 ·
  obtain ⟨T, ⟨h1, h2⟩, h3⟩ := table_ev G hy hm
  have h4 := h2 0 (Nat.zero_le _) (Nat.zero_le _)
  have h5 := h4.1
  have h6 := h4.2 0 (Nat.zero_le _) (Nat.zero_le _)
  rw [decide_eq_true hy] at hp
  have e : distE cols ins sw y = rd (rd_L1 T 0) 0 := by unfold distE; rw [if_pos hy]; exact h6.symm
  rw [e]
  refine Ev.congr (fun k => rfl) (Ev.bind hp (Ev.congr (fun k => by rw [if_pos rfl]) (Ev.bind h3 (Ev.congr (f := fun _ => some (rd (rd_L1 T 0) 0)) (fun k => ?_) (Ev.now _)))))
  rw [if_pos (by omega), if_pos (by have : (rd_L1 T 0).length = y.length + 1 := h5; omega)]
 ·
  rw [decide_eq_false hy] at hp
  have e : distE cols ins sw y = 1099511627776 := by unfold distE; rw [if_neg hy]
  rw [e]
  exact Ev.congr (fun k => rfl) (Ev.bind hp (Ev.congr (f := fun _ => some 1099511627776) (fun k => by rw [if_neg (by simp)]) (Ev.now _)))
end
end Go.Proofs.YtnddijafdphbnaaDoor.All
end
section
/- The least cost is the least cost of a script. Plain Lean, no program in sight. -/
namespace Go.Proofs.YtnddijafdphbnaaDoor.All
open Go.RowKit Go.Proofs.YtnddijafdphbnaaDoorW.PrintWords Go.Proofs.YtnddijafdphbnaaDoorW.PrintLast Go.Proofs.YtnddijafdphbnaaDoorW.PrintMore
set_option linter.unusedVariables false
set_option linter.unusedSimpArgs false

/-- A way to read the tokens as the terminals, and what it costs. -/
inductive Path (ins : List Int) (sw : Int) : List S33 → List Int → Int → Prop
 | nil : Path ins sw [] [] 0
 | read {c : S33} {t : Int} {l : List S33} {y : List Int} {d : Int} (h : 0 ≤ rd c.f1 t) : Path ins sw l y d → Path ins sw (c :: l) (t :: y) (rd c.f1 t + d)
 | del {c : S33} {l : List S33} {y : List Int} {d : Int} (h : c.f2 < 1099511627776) : Path ins sw l y d → Path ins sw (c :: l) y (c.f2 + d)
 | ins {t : Int} {l : List S33} {y : List Int} {d : Int} : Path ins sw l y d → Path ins sw l (t :: y) (rd ins t + d)
 | swap {c e : S33} {l : List S33} {y : List Int} {d : Int} (h0 : 0 < sw) (h1 : 0 ≤ c.f0) (h2 : 0 ≤ e.f0) : Path ins sw l y d → Path ins sw (c :: e :: l) (e.f0 :: c.f0 :: y) (sw + d)
theorem Path.cast {ins : List Int} {sw : Int} {a b : List S33} {y z : List Int} {c d : Int} (h : Path ins sw a y c) (h1 : a = b) (h2 : y = z) (h3 : c = d) : Path ins sw b z d := by subst h1 h2 h3; exact h
theorem Path.append {ins : List Int} {sw : Int} {a b : List S33} {y z : List Int} {c d : Int} (h : Path ins sw a y c) (k : Path ins sw b z d) : Path ins sw (a ++ b) (y ++ z) (c + d) := by
 induction h with
 | nil => exact k.cast rfl rfl (by omega)
 | read h _ ih => exact (Path.read h ih).cast rfl rfl (by omega)
 | del h _ ih => exact (Path.del h ih).cast rfl rfl (by omega)
 | ins _ ih => exact (Path.ins ih).cast rfl rfl (by omega)
 | swap h0 h1 h2 _ ih => exact (Path.swap h0 h1 h2 ih).cast rfl rfl (by omega)

section
variable {cols : List S33} {ins : List Int} {sw : Int} {y : List Int}
theorem mem_steps {i j : Nat} {s : S64} : s ∈ stepsE cols ins sw y i j ↔ s ∈ stA cols y i j ∨ s ∈ stB cols i ∨ s ∈ stC ins y j ∨ s ∈ stD cols sw y i j := by
 unfold stepsE
 simp only [List.mem_append]
 constructor
 ·
  rintro (((h | h) | h) | h)
  ·
   exact Or.inl h
  ·
   exact Or.inr (Or.inl h)
  ·
   exact Or.inr (Or.inr (Or.inl h))
  ·
   exact Or.inr (Or.inr (Or.inr h))
 ·
  rintro (h | h | h | h)
  ·
   exact Or.inl (Or.inl (Or.inl h))
  ·
   exact Or.inl (Or.inl (Or.inr h))
  ·
   exact Or.inl (Or.inr h)
  ·
   exact Or.inr h
theorem mem_A {i j : Nat} {s : S64} (h : s ∈ stA cols y i j) : (i < cols.length ∧ j < y.length ∧ 0 ≤ rd (rd_T33 cols (i : Int)).f1 (rd y (j : Int))) ∧ s = ⟨⟨1, rd y (j : Int)⟩, rd (rd_T33 cols (i : Int)).f1 (rd y (j : Int)), 1, 1⟩ := by
 unfold stA at h
 split at h
 ·
  exact ⟨by assumption, List.mem_singleton.1 h⟩
 ·
  cases h
theorem mem_B {i : Nat} {s : S64} (h : s ∈ stB cols i) : (i < cols.length ∧ (rd_T33 cols (i : Int)).f2 < 1099511627776) ∧ s = ⟨⟨2, 0⟩, (rd_T33 cols (i : Int)).f2, 1, 0⟩ := by
 unfold stB at h
 split at h
 ·
  exact ⟨by assumption, List.mem_singleton.1 h⟩
 ·
  cases h
theorem mem_C {j : Nat} {s : S64} (h : s ∈ stC ins y j) : j < y.length ∧ s = ⟨⟨3, rd y (j : Int)⟩, rd ins (rd y (j : Int)), 0, 1⟩ := by
 unfold stC at h
 split at h
 ·
  exact ⟨by assumption, List.mem_singleton.1 h⟩
 ·
  cases h
theorem mem_D {i j : Nat} {s : S64} (h : s ∈ stD cols sw y i j) : (j + 1 < y.length ∧ swp cols sw i ∧ (rd_T33 cols ((i : Int) + 1)).f0 = rd y (j : Int) ∧ (rd_T33 cols (i : Int)).f0 = rd y ((j : Int) + 1)) ∧ s = ⟨⟨4, 0⟩, sw, 2, 2⟩ := by
 unfold stD at h
 split at h
 ·
  exact ⟨by assumption, List.mem_singleton.1 h⟩
 ·
  cases h
theorem proper_rd (hy : Proper ins y) {j : Nat} (hj : j < y.length) : ∃ t : Nat, rd y (j : Int) = (t : Int) ∧ t < ins.length := by
 have := hy _ (List.getElem_mem hj)
 rw [rdi y j hj]
 exact ⟨(y[j]).toNat, by omega, by omega⟩
theorem GoodC.rd_le {n : Nat} {c : S33} (g : GoodC n c) (t : Nat) (ht : t < n) : -1 ≤ rd c.f1 (t : Int) ∧ rd c.f1 (t : Int) ≤ 60000 := by
 by_cases h : (t : Int) = c.f0
 ·
  have := g.own t ht h
  omega
 ·
  have := g.other t ht h
  omega
theorem step_cost (G : Good cols ins sw) (hy : Proper ins y) {i j : Nat} {s : S64} (h : s ∈ stepsE cols ins sw y i j) : 0 ≤ s.f1 ∧ s.f1 ≤ 60000 := by
 rcases mem_steps.1 h with h | h | h | h
 ·
  obtain ⟨⟨h1, h2, h3⟩, rfl⟩ := mem_A h
  obtain ⟨t, ht, ht2⟩ := proper_rd hy h2
  have g := G.col _ (List.getElem_mem h1)
  have := g.rd_le t ht2
  rw [rdn cols i h1, ht] at h3 ⊢
  exact ⟨h3, this.2⟩
 ·
  obtain ⟨⟨h1, h2⟩, rfl⟩ := mem_B h
  have g := G.col _ (List.getElem_mem h1)
  have d0 := g.del0
  have d1 := g.del1
  rw [rdn cols i h1] at h2 ⊢
  show 0 ≤ (cols[i]).f2 ∧ (cols[i]).f2 ≤ 60000
  omega
 ·
  obtain ⟨h1, rfl⟩ := mem_C h
  obtain ⟨t, ht, ht2⟩ := proper_rd hy h1
  have := G.insb t ht2
  rw [ht]
  show 0 ≤ rd ins (t : Int) ∧ rd ins (t : Int) ≤ 60000
  omega
 ·
  obtain ⟨_, rfl⟩ := mem_D h
  exact ⟨G.sw0, G.sw1⟩
theorem drop_cons {α : Type} {l : List α} {i : Nat} (h : i < l.length) : l.drop i = l[i] :: l.drop (i + 1) := List.drop_eq_getElem_cons h
/-- A step ahead of a way. -/
theorem step_path {i j a b : Nat} {s : S64} (h : s ∈ stepsE cols ins sw y i j) (ha : s.f2 = (a : Int)) (hb : s.f3 = (b : Int)) {d : Int} (p : Path ins sw (cols.drop (i + a)) (y.drop (j + b)) d) : Path ins sw (cols.drop i) (y.drop j) (s.f1 + d) := by
 rcases mem_steps.1 h with h | h | h | h
 ·
  obtain ⟨⟨h1, h2, h3⟩, rfl⟩ := mem_A h
  obtain rfl : a = 1 := by have : (1 : Int) = a := ha; omega
  obtain rfl : b = 1 := by have : (1 : Int) = b := hb; omega
  rw [rdn cols i h1, rdi y j h2] at h3 ⊢
  rw [drop_cons h1, drop_cons h2]
  exact Path.read h3 p
 ·
  obtain ⟨⟨h1, h2⟩, rfl⟩ := mem_B h
  obtain rfl : a = 1 := by have : (1 : Int) = a := ha; omega
  obtain rfl : b = 0 := by have : (0 : Int) = b := hb; omega
  rw [rdn cols i h1] at h2 ⊢
  rw [drop_cons h1]
  exact Path.del h2 p
 ·
  obtain ⟨h1, rfl⟩ := mem_C h
  obtain rfl : a = 0 := by have : (0 : Int) = a := ha; omega
  obtain rfl : b = 1 := by have : (1 : Int) = b := hb; omega
  rw [rdi y j h1]
  rw [drop_cons h1]
  exact Path.ins p
 ·
  obtain ⟨⟨h1, ⟨s0, s1, s2, s3⟩, h3, h4⟩, rfl⟩ := mem_D h
  obtain rfl : a = 2 := by have : (2 : Int) = a := ha; omega
  obtain rfl : b = 2 := by have : (2 : Int) = b := hb; omega
  have e1 : ((i : Int) + 1) = ((i + 1 : Nat) : Int) := by omega
  have e2 : ((j : Int) + 1) = ((j + 1 : Nat) : Int) := by omega
  rw [e1] at h3 s3
  rw [e2] at h4
  rw [rdn cols i (by omega)] at s2 h4
  rw [rdn cols (i + 1) s1] at s3 h3
  rw [rdi y j (by omega)] at h3
  rw [rdi y (j + 1) h1] at h4
  rw [drop_cons (show i < cols.length by omega), drop_cons s1, drop_cons (show j < y.length by omega), drop_cons h1, ← h3, ← h4]
  exact Path.swap s0 s2 s3 p
/-- The first step of a way. -/
theorem path_step {i j : Nat} {A : List S33} {Y : List Int} {d : Int} (p : Path ins sw A Y d) (hA : A = cols.drop i) (hY : Y = y.drop j) : (cols.length ≤ i ∧ y.length ≤ j ∧ d = 0) ∨ ∃ s ∈ stepsE cols ins sw y i j, ∃ (a b : Nat) (d' : Int), s.f2 = (a : Int) ∧ s.f3 = (b : Int) ∧ Path ins sw (cols.drop (i + a)) (y.drop (j + b)) d' ∧ d = s.f1 + d' := by
 have hc : ∀ {c : S33} {l : List S33}, c :: l = cols.drop i → ∃ h : i < cols.length, c = cols[i] ∧ l = cols.drop (i + 1) := fun {c l} h => by
  have hi : i < cols.length := by
   rcases Nat.lt_or_ge i cols.length with hi | hi
   ·
    exact hi
   ·
    rw [List.drop_eq_nil_of_le hi] at h; cases h
  rw [drop_cons hi] at h
  injection h with h1 h2
  exact ⟨hi, h1, h2⟩
 have hd : ∀ {c : Int} {l : List Int}, c :: l = y.drop j → ∃ h : j < y.length, c = y[j] ∧ l = y.drop (j + 1) := fun {c l} h => by
  have hi : j < y.length := by
   rcases Nat.lt_or_ge j y.length with hi | hi
   ·
    exact hi
   ·
    rw [List.drop_eq_nil_of_le hi] at h; cases h
  rw [drop_cons hi] at h
  injection h with h1 h2
  exact ⟨hi, h1, h2⟩
 cases p with
 | nil => exact Or.inl ⟨by simpa using hA.symm, by simpa using hY.symm, rfl⟩
 | @read c t l y' d' h p =>
  obtain ⟨h1, rfl, rfl⟩ := hc hA
  obtain ⟨h2, rfl, rfl⟩ := hd hY
  refine Or.inr ⟨⟨⟨1, rd y (j : Int)⟩, rd (rd_T33 cols (i : Int)).f1 (rd y (j : Int)), 1, 1⟩, mem_steps.2 (Or.inl ?_), 1, 1, d', rfl, rfl, p, ?_⟩
  ·
   unfold stA
   rw [if_pos ⟨h1, h2, by rw [rdn cols i h1, rdi y j h2]; exact h⟩]
   exact List.mem_singleton.2 rfl
  ·
   rw [rdn cols i h1, rdi y j h2]
 | @del c l y' d' h p =>
  obtain ⟨h1, rfl, rfl⟩ := hc hA
  subst hY
  refine Or.inr ⟨⟨⟨2, 0⟩, (rd_T33 cols (i : Int)).f2, 1, 0⟩, mem_steps.2 (Or.inr (Or.inl ?_)), 1, 0, d', rfl, rfl, p, ?_⟩
  ·
   unfold stB
   rw [if_pos ⟨h1, by rw [rdn cols i h1]; exact h⟩]
   exact List.mem_singleton.2 rfl
  ·
   rw [rdn cols i h1]
 | @ins t l y' d' p =>
  subst hA
  obtain ⟨h2, rfl, rfl⟩ := hd hY
  refine Or.inr ⟨⟨⟨3, rd y (j : Int)⟩, rd ins (rd y (j : Int)), 0, 1⟩, mem_steps.2 (Or.inr (Or.inr (Or.inl ?_))), 0, 1, d', rfl, rfl, p, ?_⟩
  ·
   unfold stC
   rw [if_pos h2]
   exact List.mem_singleton.2 rfl
  ·
   rw [rdi y j h2]
 | @swap c e l y' d' h0 h1 h2 p =>
  obtain ⟨k1, rfl, hA2⟩ := hc hA
  obtain ⟨k2, hk2, hY2⟩ := hd hY
  have k3 : i + 1 < cols.length := by
   rcases Nat.lt_or_ge (i + 1) cols.length with hi | hi
   ·
    exact hi
   ·
    rw [List.drop_eq_nil_of_le hi] at hA2; cases hA2
  have k4 : j + 1 < y.length := by
   rcases Nat.lt_or_ge (j + 1) y.length with hi | hi
   ·
    exact hi
   ·
    rw [List.drop_eq_nil_of_le hi] at hY2; cases hY2
  rw [drop_cons k3] at hA2
  rw [drop_cons k4] at hY2
  injection hA2 with e1 e2
  injection hY2 with e3 e4
  subst e1 e2 e4
  have w1 : ((i : Int) + 1) = ((i + 1 : Nat) : Int) := by omega
  have w2 : ((j : Int) + 1) = ((j + 1 : Nat) : Int) := by omega
  refine Or.inr ⟨⟨⟨4, 0⟩, sw, 2, 2⟩, mem_steps.2 (Or.inr (Or.inr (Or.inr ?_))), 2, 2, d', rfl, rfl, p, rfl⟩
  unfold stD
  rw [if_pos ⟨k4, ⟨h0, k3, by rw [rdn cols i k1]; exact h1, by rw [w1, rdn cols (i + 1) k3]; exact h2⟩, by rw [w1, rdn cols (i + 1) k3, rdi y j k2]; exact hk2, by rw [w2, rdn cols i k1, rdi y (j + 1) k4]; exact e3⟩]
  exact List.mem_singleton.2 rfl

theorem foldS_le (g : S64 → Int) : ∀ (l : List S64) (b : Int), foldS g b l ≤ b ∧ (∀ s ∈ l, foldS g b l ≤ addE s.f1 (g s)) ∧ (foldS g b l = b ∨ ∃ s ∈ l, foldS g b l = addE s.f1 (g s))
 | [], b => ⟨Int.le_refl _, (fun s hs => nomatch hs), Or.inl rfl⟩
 | s :: l, b => by
  obtain ⟨h1, h2, h3⟩ := foldS_le g l (mn b (addE s.f1 (g s)))
  have m1 : mn b (addE s.f1 (g s)) ≤ b := by unfold mn; split <;> omega
  have m2 : mn b (addE s.f1 (g s)) ≤ addE s.f1 (g s) := by unfold mn; split <;> omega
  refine ⟨Int.le_trans h1 m1, fun t ht => ?_, ?_⟩
  ·
   rcases List.mem_cons.1 ht with rfl | ht
   ·
    exact Int.le_trans h1 m2
   ·
    exact h2 t ht
  ·
   simp only [foldS]
   rcases h3 with h3 | ⟨t, ht, h3⟩
   ·
    rw [h3]
    unfold mn
    split
    ·
     exact Or.inr ⟨s, List.mem_cons_self, rfl⟩
    ·
     exact Or.inl rfl
   ·
    exact Or.inr ⟨t, List.mem_cons_of_mem _ ht, h3⟩
theorem addE_eq {a b : Int} (ha : 0 ≤ a ∧ a ≤ 60000) (hb : 0 ≤ b ∧ b ≤ 1099511627776) : addE a b = if a + b < 1099511627776 then a + b else 1099511627776 := by
 have : wrap64 (a + b) = a + b := by unfold wrap64; omega
 unfold addE mn
 rw [this]
 split <;> split <;> omega
/-- What is known of a least cost. -/
structure IsD (cols : List S33) (ins : List Int) (sw : Int) (y : List Int) (d : Int) : Prop where
 lo : 0 ≤ d
 hi : d ≤ 1099511627776
 least : ∀ c, Path ins sw cols y c → d ≤ c
 some : d < 1099511627776 → Path ins sw cols y d
theorem Dd_isD (G : Good cols ins sw) (hy : Proper ins y) : ∀ (f i j : Nat), i ≤ cols.length → j ≤ y.length → cols.length + y.length ≤ f + i + j → IsD (cols.drop i) ins sw (y.drop j) (Dd cols ins sw y i j)
 | f, i, j, hi, hj, hf => by
  by_cases he : i = cols.length ∧ j = y.length
  ·
   rw [Dd_eq hi hj, if_pos he]
   refine ⟨Int.le_refl _, by omega, fun c p => ?_, fun _ => ?_⟩
   ·
    rcases path_step (cols := cols) (y := y) (i := i) (j := j) p rfl rfl with h | ⟨s, hs, a, b, d', ha, hb, p', hd⟩
    ·
     omega
    ·
     obtain ⟨a', b', ha', hb', h1, h2, h3⟩ := steps_mem hi hj hs
     omega
   ·
    rw [List.drop_eq_nil_of_le (by omega), List.drop_eq_nil_of_le (by omega)]
    exact Path.nil
  ·
   have hD := Dd_eq (ins := ins) (sw := sw) hi hj
   rw [if_neg he] at hD
   have ih : ∀ s ∈ stepsE cols ins sw y i j, ∃ a b : Nat, s.f2 = (a : Int) ∧ s.f3 = (b : Int) ∧ IsD (cols.drop (i + a)) ins sw (y.drop (j + b)) (Dd cols ins sw y (i + s.f2.toNat) (j + s.f3.toNat)) := by
    intro s hs
    obtain ⟨a, b, ha, hb, h1, h2, h3⟩ := steps_mem hi hj hs
    refine ⟨a, b, ha, hb, ?_⟩
    rw [ha, hb, Int.toNat_natCast, Int.toNat_natCast]
    cases f with
    | zero => omega
    | succ f => exact Dd_isD G hy f (i + a) (j + b) h2 h3 (by omega)
   obtain ⟨f1, f2, f3⟩ := foldS_le (fun s => Dd cols ins sw y (i + s.f2.toNat) (j + s.f3.toNat)) (stepsE cols ins sw y i j) 1099511627776
   rw [← hD] at f1 f2 f3
   refine ⟨?_, f1, fun c p => ?_, fun hlt => ?_⟩
   ·
    rcases f3 with f3 | ⟨s, hs, f3⟩
    ·
     omega
    ·
     obtain ⟨a, b, ha, hb, k⟩ := ih s hs
     have := step_cost G hy hs
     rw [f3, addE_eq this ⟨k.lo, k.hi⟩]
     have := k.lo
     split <;> omega
   ·
    rcases path_step (cols := cols) (y := y) (i := i) (j := j) p rfl rfl with h | ⟨s, hs, a, b, d', ha, hb, p', hd⟩
    ·
     omega
    ·
     obtain ⟨a', b', ha', hb', k⟩ := ih s hs
     obtain rfl : a = a' := by omega
     obtain rfl : b = b' := by omega
     have h1 := k.least d' p'
     have h2 := f2 s hs
     rw [addE_eq (step_cost G hy hs) ⟨k.lo, k.hi⟩] at h2
     split at h2 <;> omega
   ·
    rcases f3 with f3 | ⟨s, hs, f3⟩
    ·
     omega
    ·
     obtain ⟨a, b, ha, hb, k⟩ := ih s hs
     rw [addE_eq (step_cost G hy hs) ⟨k.lo, k.hi⟩] at f3
     have hc := step_cost G hy hs
     split at f3
     ·
      rw [f3]
      exact step_path hs ha hb (k.some (by omega))
     ·
      omega
 termination_by f => f
/-- Distance is the least cost of a way. -/
theorem dist_isD (G : Good cols ins sw) (hy : Proper ins y) : IsD cols ins sw y (distE cols ins sw y) := by
 unfold distE
 rw [if_pos hy]
 have := Dd_isD G hy (cols.length + y.length) 0 0 (Nat.zero_le _) (Nat.zero_le _) (by omega)
 simpa using this
end
end Go.Proofs.YtnddijafdphbnaaDoor.All
end
