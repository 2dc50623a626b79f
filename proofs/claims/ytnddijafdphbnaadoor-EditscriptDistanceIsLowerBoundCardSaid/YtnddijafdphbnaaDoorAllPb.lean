/- The least costs: what the table of the program holds. Plain Lean, no program in sight. -/
import Derived.Test.YtnddijafdphbnaaDoorAllPa
import Derived.Test.YtnddijafdphbnaaDoorAllScr
namespace Go.Proofs.YtnddijafdphbnaaDoor.All
open Go.RowKit Go.Proofs.YtnddijafdphbnaaDoorW.PrintWords Go.Proofs.YtnddijafdphbnaaDoorW.PrintLast Go.Proofs.YtnddijafdphbnaaDoorW.PrintMore
set_option linter.unusedVariables false
set_option linter.unusedSimpArgs false

/-- The least cost over some operations. -/
def foldS (g : S64 → Int) : Int → List S64 → Int
 | b, [] => b
 | b, s :: l => foldS g (mn b (addE s.f1 (g s))) l
theorem foldS_congr {g h : S64 → Int} : ∀ (l : List S64) (b : Int), (∀ s ∈ l, g s = h s) → foldS g b l = foldS h b l
 | [], b, _ => rfl
 | s :: l, b, H => by
  simp only [foldS]
  rw [H s List.mem_cons_self]
  exact foldS_congr l _ (fun t ht => H t (List.mem_cons_of_mem _ ht))
def DF (cols : List S33) (ins : List Int) (sw : Int) (y : List Int) : Nat → Nat → Nat → Int
 | 0, _, _ => 1099511627776
 | f + 1, i, j => if i = cols.length ∧ j = y.length then 0 else foldS (fun s => DF cols ins sw y f (i + s.f2.toNat) (j + s.f3.toNat)) 1099511627776 (stepsE cols ins sw y i j)
/-- The least cost of a script for what is left behind i tokens and j terminals. -/
def Dd (cols : List S33) (ins : List Int) (sw : Int) (y : List Int) (i j : Nat) : Int := DF cols ins sw y (cols.length + y.length - i - j + 1) i j

section
variable {cols : List S33} {ins : List Int} {sw : Int} {y : List Int}
theorem steps_mem {i j : Nat} (hi : i ≤ cols.length) (hj : j ≤ y.length) {s : S64} (h : s ∈ stepsE cols ins sw y i j) : ∃ a b : Nat, s.f2 = (a : Int) ∧ s.f3 = (b : Int) ∧ 1 ≤ a + b ∧ i + a ≤ cols.length ∧ j + b ≤ y.length := by
 unfold stepsE at h
 rcases List.mem_append.1 h with h | h
 ·
  rcases List.mem_append.1 h with h | h
  ·
   rcases List.mem_append.1 h with h | h
   ·
    unfold stA at h
    split at h
    ·
     rename_i hc
     rw [List.mem_singleton] at h
     subst h
     exact ⟨1, 1, rfl, rfl, by omega, by omega, by omega⟩
    ·
     cases h
   ·
    unfold stB at h
    split at h
    ·
     rename_i hc
     rw [List.mem_singleton] at h
     subst h
     exact ⟨1, 0, rfl, rfl, by omega, by omega, by omega⟩
    ·
     cases h
  ·
   unfold stC at h
   split at h
   ·
    rename_i hc
    rw [List.mem_singleton] at h
    subst h
    exact ⟨0, 1, rfl, rfl, by omega, by omega, by omega⟩
   ·
    cases h
 ·
  unfold stD at h
  split at h
  ·
   rename_i hc
   have := hc.2.1.2.1
   rw [List.mem_singleton] at h
   subst h
   exact ⟨2, 2, rfl, rfl, by omega, by omega, by omega⟩
  ·
   cases h
theorem steps_len {i j : Nat} : (stepsE cols ins sw y i j).length ≤ 4 := by
 unfold stepsE stA stB stC stD
 split <;> split <;> split <;> split <;> simp
theorem DF_stable : ∀ (f f' i j : Nat), i ≤ cols.length → j ≤ y.length → cols.length + y.length - i - j + 1 ≤ f → cols.length + y.length - i - j + 1 ≤ f' → DF cols ins sw y f i j = DF cols ins sw y f' i j
 | 0, f', i, j, hi, hj, h, h' => by omega
 | f + 1, 0, i, j, hi, hj, h, h' => by omega
 | f + 1, f' + 1, i, j, hi, hj, h, h' => by
  simp only [DF]
  split
  ·
   rfl
  ·
   refine foldS_congr _ _ fun s hs => ?_
   obtain ⟨a, b, ha, hb, h1, h2, h3⟩ := steps_mem hi hj hs
   rw [ha, hb, Int.toNat_natCast, Int.toNat_natCast]
   exact DF_stable f f' (i + a) (j + b) h2 h3 (by omega) (by omega)
theorem Dd_eq {i j : Nat} (hi : i ≤ cols.length) (hj : j ≤ y.length) : Dd cols ins sw y i j = if i = cols.length ∧ j = y.length then 0 else foldS (fun s => Dd cols ins sw y (i + s.f2.toNat) (j + s.f3.toNat)) 1099511627776 (stepsE cols ins sw y i j) := by
 unfold Dd
 simp only [DF]
 split
 ·
  rfl
 ·
  refine foldS_congr _ _ fun s hs => ?_
  obtain ⟨a, b, ha, hb, h1, h2, h3⟩ := steps_mem hi hj hs
  rw [ha, hb, Int.toNat_natCast, Int.toNat_natCast]
  exact DF_stable (cols.length + y.length - i - j) (cols.length + y.length - (i + a) - (j + b) + 1) (i + a) (j + b) h2 h3 (by omega) (by omega)
theorem Dd_end : Dd cols ins sw y cols.length y.length = 0 := by rw [Dd_eq (Nat.le_refl _) (Nat.le_refl _), if_pos ⟨rfl, rfl⟩]
theorem stOk (G : Good cols ins sw) (hy : Proper ins y) (hm : y.length ≤ 1000) {i j : Nat} (hi : i ≤ cols.length) (hj : j ≤ y.length) : StOk cols ins y i j := by
 have h1 := G.n
 have h2 := G.m
 refine ⟨hi, hj, by omega, by omega, by omega, fun h => ?_, fun h h' => ?_⟩
 ·
  rw [rdi y j h]
  exact hy _ (List.getElem_mem h)
 ·
  rw [rdi y j h', rdn cols i h, (G.col _ (List.getElem_mem h)).row]
  exact (hy _ (List.getElem_mem h')).2
theorem steps_ev (G : Good cols ins sw) (hy : Proper ins y) (hm : y.length ≤ 1000) {i j : Nat} (hi : i ≤ cols.length) (hj : j ≤ y.length) (k : Nat) : editscript_steps.f k cols ins sw y (i : Int) (j : Int) = some (stepsE cols ins sw y i j) := by
 unfold editscript_steps.f
 rw [if_pos ⟨by omega, by omega, by simpa using stOk G hy hm hi hj⟩]
 simp

theorem l2_ev (G : Good cols ins sw) (hm : y.length ≤ 1000) (T : List (List Int)) (i j : Nat) (hi : i ≤ cols.length) (hj : j ≤ y.length) (hT : T.length = cols.length + 1) (hr : (rd_L1 T (i : Int)).length = y.length + 1) (st : List S64) (hs4 : st.length ≤ 4) (g : S64 → Int)
  (hst : ∀ s ∈ st, ∃ a b : Nat, s.f2 = (a : Int) ∧ s.f3 = (b : Int) ∧ i + a ≤ cols.length ∧ j + b ≤ y.length ∧ (rd_L1 T ((i + a : Nat) : Int)).length = y.length + 1 ∧ rd (rd_L1 T ((i + a : Nat) : Int)) ((j + b : Nat) : Int) = g s) (r : List (List Int)) :
  ∀ (d s : Nat) (b : Int), s + d = st.length → Ev (fun k => editscript_table.l1 k y (cols.length : Int) (y.length : Int) (T.set i ((rd_L1 T (i : Int)).set j (foldS g b (st.drop s)))) (i : Int) (wrap64 ((j : Int) - 1)) cols ins sw) r →
   Ev (fun k => editscript_table.l2 k y (cols.length : Int) (y.length : Int) T (i : Int) (j : Int) b st (st.length : Int) (s : Int) cols ins sw) r
 | 0, s, b, h, H => by
  rw [List.drop_eq_nil_of_le (by omega)] at H
  refine Ev.step (fun k => ?_) H
  have hn := G.n
  simp only [editscript_table.l2, foldS]
  rw [if_neg (by omega), if_pos (by omega), if_pos (by omega), if_pos (by omega), if_pos (by omega), Int.toNat_natCast, Int.toNat_natCast]
 | d + 1, s, b, h, H => by
  have hs : s < st.length := by omega
  have hn := G.n
  rw [List.drop_eq_getElem_cons hs] at H
  simp only [foldS] at H
  have ih := l2_ev G hm T i j hi hj hT hr st hs4 g hst r d (s + 1) _ (by omega) H
  obtain ⟨a, c, ha, hc, h1, h2, h3, h4⟩ := hst st[s] (List.getElem_mem hs)
  have hrd : rd_T64 st (s : Int) = st[s] := by simp [rd_T64, List.getD, hs]
  refine Ev.step (fun k => ?_) ih
  simp only [editscript_table.l2]
  have w1 : wrap64 ((i : Int) + (rd_T64 st (s : Int)).f2) = ((i + a : Nat) : Int) := by rw [hrd, ha]; unfold wrap64; omega
  have w2 : wrap64 ((j : Int) + (rd_T64 st (s : Int)).f3) = ((j + c : Nat) : Int) := by rw [hrd, hc]; unfold wrap64; omega
  rw [if_pos (by omega), if_pos (by omega), if_pos (by omega), w1, w2, if_pos (by omega), if_pos (by omega), if_pos (by omega), if_pos (by omega), h4, hrd, wnat s (by omega)]
  rfl

/-- A row that is done. -/
def Row (cols : List S33) (ins : List Int) (sw : Int) (y : List Int) (T : List (List Int)) (i j : Nat) : Prop := (rd_L1 T (i : Int)).length = y.length + 1 ∧ ∀ j', j ≤ j' → j' ≤ y.length → rd (rd_L1 T (i : Int)) (j' : Int) = Dd cols ins sw y i j'
def Tab (cols : List S33) (ins : List Int) (sw : Int) (y : List Int) (T : List (List Int)) (i : Nat) : Prop := T.length = cols.length + 1 ∧ ∀ i', i ≤ i' → i' ≤ cols.length → Row cols ins sw y T i' 0
theorem rd_set_ne (l : List Int) (a b : Nat) (v : Int) (h : a ≠ b) : rd (l.set a v) (b : Int) = rd l (b : Int) := by simp [rd, List.getD, List.getElem?_set, h]
theorem rd_set_eq (l : List Int) (a : Nat) (v : Int) (h : a < l.length) : rd (l.set a v) (a : Int) = v := by simp [rd, List.getD, List.getElem?_set, h]
theorem rdL_set_ne (l : List (List Int)) (a b : Nat) (v : List Int) (h : a ≠ b) : rd_L1 (l.set a v) (b : Int) = rd_L1 l (b : Int) := by simp [rd_L1, List.getD, List.getElem?_set, h]
theorem rdL_set_eq (l : List (List Int)) (a : Nat) (v : List Int) (h : a < l.length) : rd_L1 (l.set a v) (a : Int) = v := by simp [rd_L1, List.getD, List.getElem?_set, h]

/-- One row, from its end to its beginning. -/
theorem l1_ev (G : Good cols ins sw) (hy : Proper ins y) (hm : y.length ≤ 1000) (i : Nat) (hi : i ≤ cols.length) : ∀ (j1 : Nat) (T : List (List Int)), j1 ≤ y.length + 1 → Tab cols ins sw y T (i + 1) → Row cols ins sw y T i j1 → (i = cols.length → j1 = y.length + 1 → rd (rd_L1 T (i : Int)) (y.length : Int) = 0) →
  ∃ T', Tab cols ins sw y T' i ∧ ∀ r, Ev (fun k => editscript_table.l0 k y (cols.length : Int) (y.length : Int) T' (wrap64 ((i : Int) - 1)) cols ins sw) r → Ev (fun k => editscript_table.l1 k y (cols.length : Int) (y.length : Int) T (i : Int) ((j1 : Int) - 1) cols ins sw) r
 | 0, T, hj1, hT, hR, _ => by
  refine ⟨T, ⟨hT.1, fun i' h1 h2 => ?_⟩, fun r H => Ev.step (fun k => by simp only [editscript_table.l1]; rw [if_neg (by omega)]) H⟩
  rcases (show i' = i ∨ i + 1 ≤ i' by omega) with rfl | h
  ·
   exact hR
  ·
   exact hT.2 i' h h2
 | j + 1, T, hj1, hT, hR, hz => by
  have hn := G.n
  have hj : j ≤ y.length := by omega
  have hjc : (((j + 1 : Nat) : Int) - 1) = (j : Int) := by omega
  by_cases he : i = cols.length ∧ j = y.length
  ·
   have hR' : Row cols ins sw y T i j := ⟨hR.1, fun j' h1 h2 => by
    have : j' = y.length := by omega
    subst this
    rw [hz he.1 (by omega), he.1, Dd_end]⟩
   obtain ⟨T', h1, h2⟩ := l1_ev G hy hm i hi j T (by omega) hT hR' (fun _ h => by omega)
   refine ⟨T', h1, fun r H => ?_⟩
   have h3 := h2 r H
   refine Ev.step (f := fun k => editscript_table.j2 k y (cols.length : Int) (y.length : Int) T (i : Int) (j : Int) true cols ins sw) (fun k => ?_) (Ev.step (f := fun k => editscript_table.l1 k y (cols.length : Int) (y.length : Int) T (i : Int) ((j : Int) - 1) cols ins sw) (fun k => ?_) h3)
   ·
    simp only [editscript_table.l1]
    rw [hjc, if_pos (by omega), if_pos (by omega)]
    have : ((j : Int) == (y.length : Int)) = true := by rw [he.2]; simp
    rw [this]
   ·
    simp only [editscript_table.j2]
    have hw : wrap64 ((j : Int) - 1) = (j : Int) - 1 := by unfold wrap64; omega
    rw [if_pos trivial, hw]
  ·
   have hrow := hR.1
   have hg : ∀ s ∈ stepsE cols ins sw y i j, ∃ a b : Nat, s.f2 = (a : Int) ∧ s.f3 = (b : Int) ∧ i + a ≤ cols.length ∧ j + b ≤ y.length ∧ (rd_L1 T ((i + a : Nat) : Int)).length = y.length + 1 ∧ rd (rd_L1 T ((i + a : Nat) : Int)) ((j + b : Nat) : Int) = Dd cols ins sw y (i + s.f2.toNat) (j + s.f3.toNat) := by
    intro s hs
    obtain ⟨a, b, ha, hb, h1, h2, h3⟩ := steps_mem hi hj hs
    refine ⟨a, b, ha, hb, h2, h3, ?_⟩
    rw [ha, hb, Int.toNat_natCast, Int.toNat_natCast]
    cases a with
    | zero => exact ⟨hR.1, hR.2 (j + b) (by omega) h3⟩
    | succ a => exact ⟨(hT.2 (i + (a + 1)) (by omega) h2).1, (hT.2 (i + (a + 1)) (by omega) h2).2 (j + b) (Nat.zero_le _) h3⟩
   obtain ⟨v, hv⟩ : ∃ v, v = foldS (fun s => Dd cols ins sw y (i + s.f2.toNat) (j + s.f3.toNat)) 1099511627776 (stepsE cols ins sw y i j) := ⟨_, rfl⟩
   have hD : Dd cols ins sw y i j = v := by rw [Dd_eq hi hj, if_neg he, hv]
   have hTl := hT.1
   have hT2 : Tab cols ins sw y (T.set i ((rd_L1 T (i : Int)).set j v)) (i + 1) := ⟨by simpa using hT.1, fun i' h1 h2 => by
    unfold Row
    rw [rdL_set_ne _ _ _ _ (by omega)]
    exact hT.2 i' h1 h2⟩
   have hR2 : Row cols ins sw y (T.set i ((rd_L1 T (i : Int)).set j v)) i j := by
    unfold Row
    rw [rdL_set_eq _ _ _ (by omega)]
    refine ⟨by simpa using hR.1, fun j' h1 h2 => ?_⟩
    rcases (show j' = j ∨ j + 1 ≤ j' by omega) with rfl | h
    ·
     rw [rd_set_eq _ _ _ (by omega), hD]
    ·
     rw [rd_set_ne _ _ _ _ (by omega)]
     exact hR.2 j' h h2
   obtain ⟨T', h1, h2⟩ := l1_ev G hy hm i hi j _ (by omega) hT2 hR2 (fun _ h => by omega)
   refine ⟨T', h1, fun r H => ?_⟩
   have h3 := h2 r H
   have hw : wrap64 ((j : Int) - 1) = (j : Int) - 1 := by unfold wrap64; omega
   have h4 := l2_ev G hm T i j hi hj hT.1 hR.1 (stepsE cols ins sw y i j) steps_len _ hg r (stepsE cols ins sw y i j).length 0 1099511627776 (by omega) (by rw [List.drop_zero, ← hv, hw]; exact h3)
   refine Ev.step (f := fun k => editscript_table.j2 k y (cols.length : Int) (y.length : Int) T (i : Int) (j : Int) false cols ins sw) (fun k => ?_) (Ev.step (f := fun k => editscript_table.l2 k y (cols.length : Int) (y.length : Int) T (i : Int) (j : Int) 1099511627776 (stepsE cols ins sw y i j) ((stepsE cols ins sw y i j).length : Int) ((0 : Nat) : Int) cols ins sw) (fun k => ?_) h4)
   ·
    simp only [editscript_table.l1]
    rw [hjc, if_pos (by omega)]
    by_cases h5 : i = cols.length
    ·
     have : ((j : Int) == (y.length : Int)) = false := by simp; omega
     rw [if_pos (by omega), this]
    ·
     rw [if_neg (by omega)]
   ·
    simp only [editscript_table.j2]
    rw [if_neg (by simp), steps_ev G hy hm hi hj k]
    rfl
/-- All rows, from the last to the first. -/
theorem l0_ev (G : Good cols ins sw) (hy : Proper ins y) (hm : y.length ≤ 1000) : ∀ (i1 : Nat) (T : List (List Int)), i1 ≤ cols.length + 1 → Tab cols ins sw y T i1 → ∃ T', Tab cols ins sw y T' 0 ∧ Ev (fun k => editscript_table.l0 k y (cols.length : Int) (y.length : Int) T ((i1 : Int) - 1) cols ins sw) T'
 | 0, T, hi1, hT => ⟨T, hT, Ev.step (f := fun _ => some T) (fun k => by simp only [editscript_table.l0]; rw [if_neg (by omega)]) (Ev.now _)⟩
 | i + 1, T, hi1, hT => by
  have hn := G.n
  have hi : i ≤ cols.length := by omega
  have hw : wrap64 ((y.length : Int) + 1) = ((y.length + 1 : Nat) : Int) := wnat _ (by omega)
  have hTl := hT.1
  obtain ⟨row, hrow⟩ : ∃ row : List Int, row = List.replicate (y.length + 1) 0 := ⟨_, rfl⟩
  have hz : rd row (y.length : Int) = 0 := by rw [hrow]; simp [rd, List.getD]
  have hT2 : Tab cols ins sw y (T.set i row) (i + 1) := ⟨by simpa using hT.1, fun i' h1 h2 => by
   unfold Row
   rw [rdL_set_ne _ _ _ _ (by omega)]
   exact hT.2 i' h1 h2⟩
  obtain ⟨T1, h1, h2⟩ := l1_ev G hy hm i hi (y.length + 1) (T.set i row) (Nat.le_refl _) hT2 ⟨by rw [rdL_set_eq _ _ _ (by omega), hrow]; simp, fun j' h h' => by omega⟩ (fun _ _ => by rw [rdL_set_eq _ _ _ (by omega)]; exact hz)
  obtain ⟨T', h3, h4⟩ := l0_ev G hy hm i T1 (by omega) h1
  have hwi : wrap64 ((i : Int) - 1) = (i : Int) - 1 := by unfold wrap64; omega
  refine ⟨T', h3, Ev.step (fun k => ?_) (h2 T' (by rw [hwi]; exact h4))⟩
  simp only [editscript_table.l0]
  have hic : (((i + 1 : Nat) : Int) - 1) = (i : Int) := by omega
  rw [hic, hw, if_pos (by omega), if_pos (by omega), Int.toNat_natCast, if_pos (by omega), if_pos (by omega), if_pos (by omega), Int.toNat_natCast, ← hrow]
  congr 1
  omega
theorem table_ev (G : Good cols ins sw) (hy : Proper ins y) (hm : y.length ≤ 1000) : ∃ T, Tab cols ins sw y T 0 ∧ Ev (fun k => editscript_table.f k cols ins sw y) T := by
 have hn := G.n
 have hw : wrap64 ((cols.length : Int) + 1) = ((cols.length + 1 : Nat) : Int) := wnat _ (by omega)
 obtain ⟨T, h1, h2⟩ := l0_ev G hy hm (cols.length + 1) (List.replicate (cols.length + 1) []) (Nat.le_refl _) ⟨by simp, fun i' h h' => by omega⟩
 refine ⟨T, h1, Ev.congr (fun k => ?_) h2⟩
 unfold editscript_table.f
 rw [hw, if_pos (by omega), Int.toNat_natCast, if_pos (by omega)]
 congr 1
 omega
/-- Distance. -/
def distE (cols : List S33) (ins : List Int) (sw : Int) (y : List Int) : Int := if Proper ins y then Dd cols ins sw y 0 0 else 1099511627776
theorem dist_ev (G : Good cols ins sw) (hm : y.length ≤ 1000) : Ev (fun k => editscript_Distance.f k cols ins sw y) (distE cols ins sw y) := by
 have hp := proper_ev cols ins sw y (by omega)
 by_cases hy : Proper ins y
 ·
  obtain ⟨T, ⟨h1, h2⟩, h3⟩ := table_ev G hy hm
  have h4 := h2 0 (Nat.zero_le _) (Nat.zero_le _)
  have h5 := h4.1
  have h6 := h4.2 0 (Nat.zero_le _) (Nat.zero_le _)
  rw [decide_eq_true hy] at hp
  have e : distE cols ins sw y = rd (rd_L1 T 0) 0 := by unfold distE; rw [if_pos hy]; exact h6.symm
  rw [e]
  refine Ev.congr (fun k => rfl) (Ev.bind hp (Ev.congr (fun k => by rw [if_pos rfl]) (Ev.bind h3 (Ev.congr (f := fun _ => some (rd (rd_L1 T 0) 0)) (fun k => ?_) (Ev.now _)))))
  rw [if_pos (by omega), if_pos (by have : (rd_L1 T 0).length = y.length + 1 := h5; omega)]
 ·
  rw [decide_eq_false hy] at hp
  have e : distE cols ins sw y = 1099511627776 := by unfold distE; rw [if_neg hy]
  rw [e]
  exact Ev.congr (fun k => rfl) (Ev.bind hp (Ev.congr (f := fun _ => some 1099511627776) (fun k => by rw [if_neg (by simp)]) (Ev.now _)))
end
end Go.Proofs.YtnddijafdphbnaaDoor.All
