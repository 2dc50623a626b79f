/- The least cost is the least cost of a script. Plain Lean, no program in sight. -/
import Derived.Test.YtnddijafdphbnaaDoorAllPb
namespace Go.Proofs.YtnddijafdphbnaaDoor.All
open Go.RowKit Go.Proofs.YtnddijafdphbnaaDoorW.PrintWords Go.Proofs.YtnddijafdphbnaaDoorW.PrintLast Go.Proofs.YtnddijafdphbnaaDoorW.PrintMore
set_option linter.unusedVariables false
set_option linter.unusedSimpArgs false

/-- A way to read the tokens as the terminals, and what it costs. -/
inductive Path (ins : List Int) (sw : Int) : List S33 → List Int → Int → Prop
 | nil : Path ins sw [] [] 0
 | read {c : S33} {t : Int} {l : List S33} {y : List Int} {d : Int} (h : 0 ≤ rd c.f1 t) : Path ins sw l y d → Path ins sw (c :: l) (t :: y) (rd c.f1 t + d)
 | del {c : S33} {l : List S33} {y : List Int} {d : Int} (h : c.f2 < 1099511627776) : Path ins sw l y d → Path ins sw (c :: l) y (c.f2 + d)
 | ins {t : Int} {l : List S33} {y : List Int} {d : Int} : Path ins sw l y d → Path ins sw l (t :: y) (rd ins t + d)
 | swap {c e : S33} {l : List S33} {y : List Int} {d : Int} (h0 : 0 < sw) (h1 : 0 ≤ c.f0) (h2 : 0 ≤ e.f0) : Path ins sw l y d → Path ins sw (c :: e :: l) (e.f0 :: c.f0 :: y) (sw + d)
theorem Path.cast {ins : List Int} {sw : Int} {a b : List S33} {y z : List Int} {c d : Int} (h : Path ins sw a y c) (h1 : a = b) (h2 : y = z) (h3 : c = d) : Path ins sw b z d := by subst h1 h2 h3; exact h
theorem Path.append {ins : List Int} {sw : Int} {a b : List S33} {y z : List Int} {c d : Int} (h : Path ins sw a y c) (k : Path ins sw b z d) : Path ins sw (a ++ b) (y ++ z) (c + d) := by
 induction h with
 | nil => exact k.cast rfl rfl (by omega)
 | read h _ ih => exact (Path.read h ih).cast rfl rfl (by omega)
 | del h _ ih => exact (Path.del h ih).cast rfl rfl (by omega)
 | ins _ ih => exact (Path.ins ih).cast rfl rfl (by omega)
 | swap h0 h1 h2 _ ih => exact (Path.swap h0 h1 h2 ih).cast rfl rfl (by omega)

section
variable {cols : List S33} {ins : List Int} {sw : Int} {y : List Int}
theorem mem_steps {i j : Nat} {s : S64} : s ∈ stepsE cols ins sw y i j ↔ s ∈ stA cols y i j ∨ s ∈ stB cols i ∨ s ∈ stC ins y j ∨ s ∈ stD cols sw y i j := by
 unfold stepsE
 simp only [List.mem_append]
 constructor
 ·
  rintro (((h | h) | h) | h)
  ·
   exact Or.inl h
  ·
   exact Or.inr (Or.inl h)
  ·
   exact Or.inr (Or.inr (Or.inl h))
  ·
   exact Or.inr (Or.inr (Or.inr h))
 ·
  rintro (h | h | h | h)
  ·
   exact Or.inl (Or.inl (Or.inl h))
  ·
   exact Or.inl (Or.inl (Or.inr h))
  ·
   exact Or.inl (Or.inr h)
  ·
   exact Or.inr h
theorem mem_A {i j : Nat} {s : S64} (h : s ∈ stA cols y i j) : (i < cols.length ∧ j < y.length ∧ 0 ≤ rd (rd_T33 cols (i : Int)).f1 (rd y (j : Int))) ∧ s = ⟨⟨1, rd y (j : Int)⟩, rd (rd_T33 cols (i : Int)).f1 (rd y (j : Int)), 1, 1⟩ := by
 unfold stA at h
 split at h
 ·
  exact ⟨by assumption, List.mem_singleton.1 h⟩
 ·
  cases h
theorem mem_B {i : Nat} {s : S64} (h : s ∈ stB cols i) : (i < cols.length ∧ (rd_T33 cols (i : Int)).f2 < 1099511627776) ∧ s = ⟨⟨2, 0⟩, (rd_T33 cols (i : Int)).f2, 1, 0⟩ := by
 unfold stB at h
 split at h
 ·
  exact ⟨by assumption, List.mem_singleton.1 h⟩
 ·
  cases h
theorem mem_C {j : Nat} {s : S64} (h : s ∈ stC ins y j) : j < y.length ∧ s = ⟨⟨3, rd y (j : Int)⟩, rd ins (rd y (j : Int)), 0, 1⟩ := by
 unfold stC at h
 split at h
 ·
  exact ⟨by assumption, List.mem_singleton.1 h⟩
 ·
  cases h
theorem mem_D {i j : Nat} {s : S64} (h : s ∈ stD cols sw y i j) : (j + 1 < y.length ∧ swp cols sw i ∧ (rd_T33 cols ((i : Int) + 1)).f0 = rd y (j : Int) ∧ (rd_T33 cols (i : Int)).f0 = rd y ((j : Int) + 1)) ∧ s = ⟨⟨4, 0⟩, sw, 2, 2⟩ := by
 unfold stD at h
 split at h
 ·
  exact ⟨by assumption, List.mem_singleton.1 h⟩
 ·
  cases h
theorem proper_rd (hy : Proper ins y) {j : Nat} (hj : j < y.length) : ∃ t : Nat, rd y (j : Int) = (t : Int) ∧ t < ins.length := by
 have := hy _ (List.getElem_mem hj)
 rw [rdi y j hj]
 exact ⟨(y[j]).toNat, by omega, by omega⟩
theorem GoodC.rd_le {n : Nat} {c : S33} (g : GoodC n c) (t : Nat) (ht : t < n) : -1 ≤ rd c.f1 (t : Int) ∧ rd c.f1 (t : Int) ≤ 60000 := by
 by_cases h : (t : Int) = c.f0
 ·
  have := g.own t ht h
  omega
 ·
  have := g.other t ht h
  omega
theorem step_cost (G : Good cols ins sw) (hy : Proper ins y) {i j : Nat} {s : S64} (h : s ∈ stepsE cols ins sw y i j) : 0 ≤ s.f1 ∧ s.f1 ≤ 60000 := by
 rcases mem_steps.1 h with h | h | h | h
 ·
  obtain ⟨⟨h1, h2, h3⟩, rfl⟩ := mem_A h
  obtain ⟨t, ht, ht2⟩ := proper_rd hy h2
  have g := G.col _ (List.getElem_mem h1)
  have := g.rd_le t ht2
  rw [rdn cols i h1, ht] at h3 ⊢
  exact ⟨h3, this.2⟩
 ·
  obtain ⟨⟨h1, h2⟩, rfl⟩ := mem_B h
  have g := G.col _ (List.getElem_mem h1)
  have d0 := g.del0
  have d1 := g.del1
  rw [rdn cols i h1] at h2 ⊢
  show 0 ≤ (cols[i]).f2 ∧ (cols[i]).f2 ≤ 60000
  omega
 ·
  obtain ⟨h1, rfl⟩ := mem_C h
  obtain ⟨t, ht, ht2⟩ := proper_rd hy h1
  have := G.insb t ht2
  rw [ht]
  show 0 ≤ rd ins (t : Int) ∧ rd ins (t : Int) ≤ 60000
  omega
 ·
  obtain ⟨_, rfl⟩ := mem_D h
  exact ⟨G.sw0, G.sw1⟩
theorem drop_cons {α : Type} {l : List α} {i : Nat} (h : i < l.length) : l.drop i = l[i] :: l.drop (i + 1) := List.drop_eq_getElem_cons h
/-- A step ahead of a way. -/
theorem step_path {i j a b : Nat} {s : S64} (h : s ∈ stepsE cols ins sw y i j) (ha : s.f2 = (a : Int)) (hb : s.f3 = (b : Int)) {d : Int} (p : Path ins sw (cols.drop (i + a)) (y.drop (j + b)) d) : Path ins sw (cols.drop i) (y.drop j) (s.f1 + d) := by
 rcases mem_steps.1 h with h | h | h | h
 ·
  obtain ⟨⟨h1, h2, h3⟩, rfl⟩ := mem_A h
  obtain rfl : a = 1 := by have : (1 : Int) = a := ha; omega
  obtain rfl : b = 1 := by have : (1 : Int) = b := hb; omega
  rw [rdn cols i h1, rdi y j h2] at h3 ⊢
  rw [drop_cons h1, drop_cons h2]
  exact Path.read h3 p
 ·
  obtain ⟨⟨h1, h2⟩, rfl⟩ := mem_B h
  obtain rfl : a = 1 := by have : (1 : Int) = a := ha; omega
  obtain rfl : b = 0 := by have : (0 : Int) = b := hb; omega
  rw [rdn cols i h1] at h2 ⊢
  rw [drop_cons h1]
  exact Path.del h2 p
 ·
  obtain ⟨h1, rfl⟩ := mem_C h
  obtain rfl : a = 0 := by have : (0 : Int) = a := ha; omega
  obtain rfl : b = 1 := by have : (1 : Int) = b := hb; omega
  rw [rdi y j h1]
  rw [drop_cons h1]
  exact Path.ins p
 ·
  obtain ⟨⟨h1, ⟨s0, s1, s2, s3⟩, h3, h4⟩, rfl⟩ := mem_D h
  obtain rfl : a = 2 := by have : (2 : Int) = a := ha; omega
  obtain rfl : b = 2 := by have : (2 : Int) = b := hb; omega
  have e1 : ((i : Int) + 1) = ((i + 1 : Nat) : Int) := by omega
  have e2 : ((j : Int) + 1) = ((j + 1 : Nat) : Int) := by omega
  rw [e1] at h3 s3
  rw [e2] at h4
  rw [rdn cols i (by omega)] at s2 h4
  rw [rdn cols (i + 1) s1] at s3 h3
  rw [rdi y j (by omega)] at h3
  rw [rdi y (j + 1) h1] at h4
  rw [drop_cons (show i < cols.length by omega), drop_cons s1, drop_cons (show j < y.length by omega), drop_cons h1, ← h3, ← h4]
  exact Path.swap s0 s2 s3 p
/-- The first step of a way. -/
theorem path_step {i j : Nat} {A : List S33} {Y : List Int} {d : Int} (p : Path ins sw A Y d) (hA : A = cols.drop i) (hY : Y = y.drop j) : (cols.length ≤ i ∧ y.length ≤ j ∧ d = 0) ∨ ∃ s ∈ stepsE cols ins sw y i j, ∃ (a b : Nat) (d' : Int), s.f2 = (a : Int) ∧ s.f3 = (b : Int) ∧ Path ins sw (cols.drop (i + a)) (y.drop (j + b)) d' ∧ d = s.f1 + d' := by
 have hc : ∀ {c : S33} {l : List S33}, c :: l = cols.drop i → ∃ h : i < cols.length, c = cols[i] ∧ l = cols.drop (i + 1) := fun {c l} h => by
  have hi : i < cols.length := by
   rcases Nat.lt_or_ge i cols.length with hi | hi
   ·
    exact hi
   ·
    rw [List.drop_eq_nil_of_le hi] at h; cases h
  rw [drop_cons hi] at h
  injection h with h1 h2
  exact ⟨hi, h1, h2⟩
 have hd : ∀ {c : Int} {l : List Int}, c :: l = y.drop j → ∃ h : j < y.length, c = y[j] ∧ l = y.drop (j + 1) := fun {c l} h => by
  have hi : j < y.length := by
   rcases Nat.lt_or_ge j y.length with hi | hi
   ·
    exact hi
   ·
    rw [List.drop_eq_nil_of_le hi] at h; cases h
  rw [drop_cons hi] at h
  injection h with h1 h2
  exact ⟨hi, h1, h2⟩
 cases p with
 | nil => exact Or.inl ⟨by simpa using hA.symm, by simpa using hY.symm, rfl⟩
 | @read c t l y' d' h p =>
  obtain ⟨h1, rfl, rfl⟩ := hc hA
  obtain ⟨h2, rfl, rfl⟩ := hd hY
  refine Or.inr ⟨⟨⟨1, rd y (j : Int)⟩, rd (rd_T33 cols (i : Int)).f1 (rd y (j : Int)), 1, 1⟩, mem_steps.2 (Or.inl ?_), 1, 1, d', rfl, rfl, p, ?_⟩
  ·
   unfold stA
   rw [if_pos ⟨h1, h2, by rw [rdn cols i h1, rdi y j h2]; exact h⟩]
   exact List.mem_singleton.2 rfl
  ·
   rw [rdn cols i h1, rdi y j h2]
 | @del c l y' d' h p =>
  obtain ⟨h1, rfl, rfl⟩ := hc hA
  subst hY
  refine Or.inr ⟨⟨⟨2, 0⟩, (rd_T33 cols (i : Int)).f2, 1, 0⟩, mem_steps.2 (Or.inr (Or.inl ?_)), 1, 0, d', rfl, rfl, p, ?_⟩
  ·
   unfold stB
   rw [if_pos ⟨h1, by rw [rdn cols i h1]; exact h⟩]
   exact List.mem_singleton.2 rfl
  ·
   rw [rdn cols i h1]
 | @ins t l y' d' p =>
  subst hA
  obtain ⟨h2, rfl, rfl⟩ := hd hY
  refine Or.inr ⟨⟨⟨3, rd y (j : Int)⟩, rd ins (rd y (j : Int)), 0, 1⟩, mem_steps.2 (Or.inr (Or.inr (Or.inl ?_))), 0, 1, d', rfl, rfl, p, ?_⟩
  ·
   unfold stC
   rw [if_pos h2]
   exact List.mem_singleton.2 rfl
  ·
   rw [rdi y j h2]
 | @swap c e l y' d' h0 h1 h2 p =>
  obtain ⟨k1, rfl, hA2⟩ := hc hA
  obtain ⟨k2, hk2, hY2⟩ := hd hY
  have k3 : i + 1 < cols.length := by
   rcases Nat.lt_or_ge (i + 1) cols.length with hi | hi
   ·
    exact hi
   ·
    rw [List.drop_eq_nil_of_le hi] at hA2; cases hA2
  have k4 : j + 1 < y.length := by
   rcases Nat.lt_or_ge (j + 1) y.length with hi | hi
   ·
    exact hi
   ·
    rw [List.drop_eq_nil_of_le hi] at hY2; cases hY2
  rw [drop_cons k3] at hA2
  rw [drop_cons k4] at hY2
  injection hA2 with e1 e2
  injection hY2 with e3 e4
  subst e1 e2 e4
  have w1 : ((i : Int) + 1) = ((i + 1 : Nat) : Int) := by omega
  have w2 : ((j : Int) + 1) = ((j + 1 : Nat) : Int) := by omega
  refine Or.inr ⟨⟨⟨4, 0⟩, sw, 2, 2⟩, mem_steps.2 (Or.inr (Or.inr (Or.inr ?_))), 2, 2, d', rfl, rfl, p, rfl⟩
  unfold stD
  rw [if_pos ⟨k4, ⟨h0, k3, by rw [rdn cols i k1]; exact h1, by rw [w1, rdn cols (i + 1) k3]; exact h2⟩, by rw [w1, rdn cols (i + 1) k3, rdi y j k2]; exact hk2, by rw [w2, rdn cols i k1, rdi y (j + 1) k4]; exact e3⟩]
  exact List.mem_singleton.2 rfl

theorem foldS_le (g : S64 → Int) : ∀ (l : List S64) (b : Int), foldS g b l ≤ b ∧ (∀ s ∈ l, foldS g b l ≤ addE s.f1 (g s)) ∧ (foldS g b l = b ∨ ∃ s ∈ l, foldS g b l = addE s.f1 (g s))
 | [], b => ⟨Int.le_refl _, (fun s hs => nomatch hs), Or.inl rfl⟩
 | s :: l, b => by
  obtain ⟨h1, h2, h3⟩ := foldS_le g l (mn b (addE s.f1 (g s)))
  have m1 : mn b (addE s.f1 (g s)) ≤ b := by unfold mn; split <;> omega
  have m2 : mn b (addE s.f1 (g s)) ≤ addE s.f1 (g s) := by unfold mn; split <;> omega
  refine ⟨Int.le_trans h1 m1, fun t ht => ?_, ?_⟩
  ·
   rcases List.mem_cons.1 ht with rfl | ht
   ·
    exact Int.le_trans h1 m2
   ·
    exact h2 t ht
  ·
   simp only [foldS]
   rcases h3 with h3 | ⟨t, ht, h3⟩
   ·
    rw [h3]
    unfold mn
    split
    ·
     exact Or.inr ⟨s, List.mem_cons_self, rfl⟩
    ·
     exact Or.inl rfl
   ·
    exact Or.inr ⟨t, List.mem_cons_of_mem _ ht, h3⟩
theorem addE_eq {a b : Int} (ha : 0 ≤ a ∧ a ≤ 60000) (hb : 0 ≤ b ∧ b ≤ 1099511627776) : addE a b = if a + b < 1099511627776 then a + b else 1099511627776 := by
 have : wrap64 (a + b) = a + b := by unfold wrap64; omega
 unfold addE mn
 rw [this]
 split <;> split <;> omega
/-- What is known of a least cost. -/
structure IsD (cols : List S33) (ins : List Int) (sw : Int) (y : List Int) (d : Int) : Prop where
 lo : 0 ≤ d
 hi : d ≤ 1099511627776
 least : ∀ c, Path ins sw cols y c → d ≤ c
 some : d < 1099511627776 → Path ins sw cols y d
theorem Dd_isD (G : Good cols ins sw) (hy : Proper ins y) : ∀ (f i j : Nat), i ≤ cols.length → j ≤ y.length → cols.length + y.length ≤ f + i + j → IsD (cols.drop i) ins sw (y.drop j) (Dd cols ins sw y i j)
 | f, i, j, hi, hj, hf => by
  by_cases he : i = cols.length ∧ j = y.length
  ·
   rw [Dd_eq hi hj, if_pos he]
   refine ⟨Int.le_refl _, by omega, fun c p => ?_, fun _ => ?_⟩
   ·
    rcases path_step (cols := cols) (y := y) (i := i) (j := j) p rfl rfl with h | ⟨s, hs, a, b, d', ha, hb, p', hd⟩
    ·
     omega
    ·
     obtain ⟨a', b', ha', hb', h1, h2, h3⟩ := steps_mem hi hj hs
     omega
   ·
    rw [List.drop_eq_nil_of_le (by omega), List.drop_eq_nil_of_le (by omega)]
    exact Path.nil
  ·
   have hD := Dd_eq (ins := ins) (sw := sw) hi hj
   rw [if_neg he] at hD
   have ih : ∀ s ∈ stepsE cols ins sw y i j, ∃ a b : Nat, s.f2 = (a : Int) ∧ s.f3 = (b : Int) ∧ IsD (cols.drop (i + a)) ins sw (y.drop (j + b)) (Dd cols ins sw y (i + s.f2.toNat) (j + s.f3.toNat)) := by
    intro s hs
    obtain ⟨a, b, ha, hb, h1, h2, h3⟩ := steps_mem hi hj hs
    refine ⟨a, b, ha, hb, ?_⟩
    rw [ha, hb, Int.toNat_natCast, Int.toNat_natCast]
    cases f with
    | zero => omega
    | succ f => exact Dd_isD G hy f (i + a) (j + b) h2 h3 (by omega)
   obtain ⟨f1, f2, f3⟩ := foldS_le (fun s => Dd cols ins sw y (i + s.f2.toNat) (j + s.f3.toNat)) (stepsE cols ins sw y i j) 1099511627776
   rw [← hD] at f1 f2 f3
   refine ⟨?_, f1, fun c p => ?_, fun hlt => ?_⟩
   ·
    rcases f3 with f3 | ⟨s, hs, f3⟩
    ·
     omega
    ·
     obtain ⟨a, b, ha, hb, k⟩ := ih s hs
     have := step_cost G hy hs
     rw [f3, addE_eq this ⟨k.lo, k.hi⟩]
     have := k.lo
     split <;> omega
   ·
    rcases path_step (cols := cols) (y := y) (i := i) (j := j) p rfl rfl with h | ⟨s, hs, a, b, d', ha, hb, p', hd⟩
    ·
     omega
    ·
     obtain ⟨a', b', ha', hb', k⟩ := ih s hs
     obtain rfl : a = a' := by omega
     obtain rfl : b = b' := by omega
     have h1 := k.least d' p'
     have h2 := f2 s hs
     rw [addE_eq (step_cost G hy hs) ⟨k.lo, k.hi⟩] at h2
     split at h2 <;> omega
   ·
    rcases f3 with f3 | ⟨s, hs, f3⟩
    ·
     omega
    ·
     obtain ⟨a, b, ha, hb, k⟩ := ih s hs
     rw [addE_eq (step_cost G hy hs) ⟨k.lo, k.hi⟩] at f3
     have hc := step_cost G hy hs
     split at f3
     ·
      rw [f3]
      exact step_path hs ha hb (k.some (by omega))
     ·
      omega
 termination_by f => f
/-- Distance is the least cost of a way. -/
theorem dist_isD (G : Good cols ins sw) (hy : Proper ins y) : IsD cols ins sw y (distE cols ins sw y) := by
 unfold distE
 rw [if_pos hy]
 have := Dd_isD G hy (cols.length + y.length) 0 0 (Nat.zero_le _) (Nat.zero_le _) (by omega)
 simpa using this
end
end Go.Proofs.YtnddijafdphbnaaDoor.All
