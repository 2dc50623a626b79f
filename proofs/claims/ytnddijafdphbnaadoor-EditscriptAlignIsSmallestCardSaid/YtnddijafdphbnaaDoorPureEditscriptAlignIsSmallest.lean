/- Some texts, one behind the other. -/
import Derived.Test.YtnddijafdphbnaaDoorAllx34
import Derived.Test.YtnddijafdphbnaaDoorAllx36
import Derived.Test.YtnddijafdphbnaaDoorAllPh
section
/- The reference's Align finds the same script; no script of the same cost is smaller. Plain Lean, no program in sight. -/
namespace Go.Proofs.YtnddijafdphbnaaDoor.All
open Go.RowKit Go.Proofs.YtnddijafdphbnaaDoorW.PrintWords Go.Proofs.YtnddijafdphbnaaDoorW.PrintLast Go.Proofs.YtnddijafdphbnaaDoorW.PrintMore
set_option linter.unusedVariables false
set_option linter.unusedSimpArgs false

/-! ### Less -/
def lessB : List S49 → List S49 → Bool
 | [], [] => false
 | [], _ :: _ => true
 | _ :: _, [] => false
 | o :: a, p :: b => if o.f0 = p.f0 ∧ o.f1 = p.f1 then lessB a b else if o.f0 < p.f0 then true else if o.f0 = p.f0 then decide (o.f1 < p.f1) else false
theorem less_l0 (a b : List S49) (hl : a.length ≤ 1000000) : ∀ (d i : Nat), i + d = a.length → i ≤ b.length → Ev (fun k => emendateref36_Less.l0 k a b (i : Int)) (lessB (a.drop i) (b.drop i))
 | 0, i, h, hb => by
  rw [List.drop_eq_nil_of_le (show a.length ≤ i by omega)]
  have e : lessB [] (b.drop i) = decide ((a.length : Int) < (b.length : Int)) := by
   by_cases hi : i < b.length
   ·
    rw [drop_cons hi, decide_eq_true (by omega)]
    rfl
   ·
    rw [List.drop_eq_nil_of_le (by omega), decide_eq_false (by omega)]
    rfl
  rw [e]
  exact Ev.step (f := fun k => emendateref36_Less.j1 k a b (i : Int) false) (fun k => by simp only [emendateref36_Less.l0]; rw [if_neg (by omega)]) (Ev.step (f := fun _ => some (decide ((a.length : Int) < (b.length : Int)))) (fun k => by simp only [emendateref36_Less.j1]; rw [if_neg (by simp)]) (Ev.now _))
 | d + 1, i, h, hb => by
  have hi : i < a.length := by omega
  refine Ev.step (f := fun k => emendateref36_Less.j1 k a b (i : Int) (decide ((i : Int) < (b.length : Int)))) (fun k => by simp only [emendateref36_Less.l0]; rw [if_pos (by omega)]) ?_
  by_cases hj : i < b.length
  ·
   rw [decide_eq_true (by omega), drop_cons hi, drop_cons hj]
   have ea := rd49 a i hi
   have eb := rd49 b i hj
   by_cases he : (a[i]).f0 = (b[i]).f0 ∧ (a[i]).f1 = (b[i]).f1
   ·
    have e : lessB (a[i] :: a.drop (i + 1)) (b[i] :: b.drop (i + 1)) = lessB (a.drop (i + 1)) (b.drop (i + 1)) := by simp only [lessB]; rw [if_pos he]
    rw [e]
    refine Ev.step (fun k => ?_) (less_l0 a b hl d (i + 1) (by omega) (by omega))
    simp only [emendateref36_Less.j1]
    rw [if_pos trivial, if_pos (by omega), if_pos (by omega), if_pos (by omega), ea, eb, if_neg (by rw [he.1, he.2]; simp), wnat i (by omega)]
   ·
    have e : lessB (a[i] :: a.drop (i + 1)) (b[i] :: b.drop (i + 1)) = (if (a[i]).f0 < (b[i]).f0 then true else if (a[i]).f0 = (b[i]).f0 then decide ((a[i]).f1 < (b[i]).f1) else false) := by simp only [lessB]; rw [if_neg he]
    rw [e]
    refine Ev.step (f := fun _ => some (if (a[i]).f0 < (b[i]).f0 then true else if (a[i]).f0 = (b[i]).f0 then decide ((a[i]).f1 < (b[i]).f1) else false)) (fun k => ?_) (Ev.now _)
    simp only [emendateref36_Less.j1]
    have hne : (!((a[i]).f0 == (b[i]).f0) || !((a[i]).f1 == (b[i]).f1)) = true := by
     by_cases h1 : (a[i]).f0 = (b[i]).f0
     ·
      have h2 : (a[i]).f1 ≠ (b[i]).f1 := fun h2 => he ⟨h1, h2⟩
      simp [h2]
     ·
      simp [h1]
    rw [if_pos trivial, if_pos (by omega), if_pos (by omega), if_pos (by omega), ea, eb, if_pos hne]
    split
    ·
     rfl
    ·
     split <;> rfl
  ·
   rw [decide_eq_false (by omega), drop_cons hi, List.drop_eq_nil_of_le (show b.length ≤ i by omega)]
   refine Ev.step (f := fun _ => some false) (fun k => ?_) (Ev.now _)
   simp only [emendateref36_Less.j1]
   rw [if_neg (by simp), decide_eq_false (by omega)]
theorem less_ev (a b : List S49) (hl : a.length ≤ 1000000) : Ev (fun k => emendateref36_Less.f k a b) (lessB a b) := by
 have := less_l0 a b hl a.length 0 (by omega) (Nat.zero_le _)
 rw [List.drop_zero, List.drop_zero] at this
 exact Ev.congr (fun k => rfl) this

/-! ### The order of the operations -/
section
variable {cols : List S33} {ins : List Int} {sw : Int} {y : List Int}
theorem steps_order {i j : Nat} : (stepsE cols ins sw y i j).Pairwise (fun a b => a.f0.f0 < b.f0.f0) := by
 unfold stepsE stA stB stC stD
 split <;> split <;> split <;> split <;> simp
theorem find_first {α : Type} {R : α → α → Prop} {p : α → Bool} : ∀ {l : List α}, l.Pairwise R → ∀ {s t : α}, l.find? p = some s → t ∈ l → p t = true → t = s ∨ R s t
 | [], _, s, t, _, ht, _ => nomatch ht
 | a :: l, hl, s, t, hf, ht, hp => by
  have hl := List.pairwise_cons.1 hl
  by_cases ha : p a = true
  ·
   rw [List.find?_cons_of_pos ha] at hf
   obtain rfl := Option.some.inj hf
   rcases List.mem_cons.1 ht with rfl | ht
   ·
    exact Or.inl rfl
   ·
    exact Or.inr (hl.1 t ht)
  ·
   rw [List.find?_cons_of_neg ha] at hf
   rcases List.mem_cons.1 ht with rfl | ht
   ·
    exact absurd hp ha
   ·
    exact find_first hl.2 hf ht hp
theorem sp_step {i j : Nat} {m : List S49} {A : List S33} {Y : List Int} {d : Int} (p : SP ins sw m A Y d) (hA : A = cols.drop i) (hY : Y = y.drop j) : (cols.length ≤ i ∧ y.length ≤ j ∧ m = []) ∨ ∃ s ∈ stepsE cols ins sw y i j, ∃ (a b : Nat) (d' : Int) (m' : List S49), s.f2 = (a : Int) ∧ s.f3 = (b : Int) ∧ m = s.f0 :: m' ∧ SP ins sw m' (cols.drop (i + a)) (y.drop (j + b)) d' ∧ d = s.f1 + d' := by
 cases p with
 | nil => exact Or.inl ⟨List.drop_eq_nil_iff.1 hA.symm, List.drop_eq_nil_iff.1 hY.symm, rfl⟩
 | @read c t m l y' d' h0 h3 h p =>
  obtain ⟨h1, rfl, rfl⟩ := drop_head hA
  obtain ⟨h2, rfl, rfl⟩ := drop_head hY
  refine Or.inr ⟨⟨⟨1, rd y (j : Int)⟩, rd (rd_T33 cols (i : Int)).f1 (rd y (j : Int)), 1, 1⟩, mem_steps.2 (Or.inl ?_), 1, 1, d', m, rfl, rfl, ?_, p, ?_⟩
  ·
   unfold stA
   rw [if_pos ⟨h1, h2, by rw [rdn cols i h1, rdi y j h2]; exact h⟩]
   exact List.mem_singleton.2 rfl
  ·
   rw [rdi y j h2]
  ·
   rw [rdn cols i h1, rdi y j h2]
 | @del c m l y' d' h p =>
  obtain ⟨h1, rfl, rfl⟩ := drop_head hA
  subst hY
  refine Or.inr ⟨⟨⟨2, 0⟩, (rd_T33 cols (i : Int)).f2, 1, 0⟩, mem_steps.2 (Or.inr (Or.inl ?_)), 1, 0, d', m, rfl, rfl, rfl, p, ?_⟩
  ·
   unfold stB
   rw [if_pos ⟨h1, by rw [rdn cols i h1]; exact h⟩]
   exact List.mem_singleton.2 rfl
  ·
   rw [rdn cols i h1]
 | @ins t m l y' d' h0 h1 p =>
  subst hA
  obtain ⟨h2, rfl, rfl⟩ := drop_head hY
  refine Or.inr ⟨⟨⟨3, rd y (j : Int)⟩, rd ins (rd y (j : Int)), 0, 1⟩, mem_steps.2 (Or.inr (Or.inr (Or.inl ?_))), 0, 1, d', m, rfl, rfl, ?_, p, ?_⟩
  ·
   unfold stC
   rw [if_pos h2]
   exact List.mem_singleton.2 rfl
  ·
   rw [rdi y j h2]
  ·
   rw [rdi y j h2]
 | @swap c e m l y' d' h0 h1 h2 p =>
  obtain ⟨k1, rfl, hA2⟩ := drop_head hA
  obtain ⟨k3, rfl, rfl⟩ := drop_head hA2
  obtain ⟨k2, hk2, hY2⟩ := drop_head hY
  obtain ⟨k4, hk4, rfl⟩ := drop_head hY2
  have w1 : ((i : Int) + 1) = ((i + 1 : Nat) : Int) := by omega
  have w2 : ((j : Int) + 1) = ((j + 1 : Nat) : Int) := by omega
  refine Or.inr ⟨⟨⟨4, 0⟩, sw, 2, 2⟩, mem_steps.2 (Or.inr (Or.inr (Or.inr ?_))), 2, 2, d', m, rfl, rfl, rfl, p, rfl⟩
  unfold stD
  rw [if_pos ⟨k4, ⟨h0, k3, by rw [rdn cols i k1]; exact h1, by rw [w1, rdn cols (i + 1) k3]; exact h2⟩, by rw [w1, rdn cols (i + 1) k3, rdi y j k2]; exact hk2, by rw [w2, rdn cols i k1, rdi y (j + 1) k4]; exact hk4⟩]
  exact List.mem_singleton.2 rfl
theorem sp_min (G : Good cols ins sw) (hy : Proper ins y) : ∀ (f i j : Nat) (m : List S49), i ≤ cols.length → j ≤ y.length → cols.length + y.length + 1 ≤ f + i + j → Dd cols ins sw y i j < 1099511627776 → SP ins sw m (cols.drop i) (y.drop j) (Dd cols ins sw y i j) → lessB m (alE cols ins sw y f i j) = false
 | 0, i, j, m, hi, hj, hf, hD, p => by omega
 | f + 1, i, j, m, hi, hj, hf, hD, p => by
  by_cases he : i = cols.length ∧ j = y.length
  ·
   have ea : alE cols ins sw y (f + 1) i j = [] := by simp only [alE]; rw [if_pos he]
   rw [ea]
   cases m <;> rfl
  ·
   obtain ⟨s, hs, hm1, hf1⟩ := fits_ex G hy hi hj he hD
   obtain ⟨a, b, ha, hb, h1, h2, h3, h4, h5⟩ := fits_lt G hy hi hj hm1 hf1 hD
   have ea : alE cols ins sw y (f + 1) i j = s.f0 :: alE cols ins sw y f (i + a) (j + b) := by
    simp only [alE]
    rw [if_neg he, hs]
    show s.f0 :: alE cols ins sw y f (i + s.f2.toNat) (j + s.f3.toNat) = _
    rw [ha, hb, Int.toNat_natCast, Int.toNat_natCast]
   rw [ea]
   rcases sp_step (cols := cols) (y := y) (i := i) (j := j) p rfl rfl with h | ⟨t, ht, c, e, d', m', hc, hd, rfl, p', hd'⟩
   ·
    omega
   ·
    obtain ⟨c', e', hc', hd2, k1, k2, k3⟩ := steps_mem hi hj ht
    obtain rfl : c = c' := by omega
    obtain rfl : e = e' := by omega
    have hD2 := Dd_isD G hy (cols.length + y.length) (i + c) (j + e) k2 k3 (by omega)
    have l1 := hD2.least d' p'.path
    have hcost := step_cost G hy ht
    have hD1 := Dd_isD G hy (cols.length + y.length) i j hi hj (by omega)
    have hq := hD2.lo
    have l2 : Dd cols ins sw y i j ≤ t.f1 + Dd cols ins sw y (i + c) (j + e) := by
     by_cases hlt : Dd cols ins sw y (i + c) (j + e) < 1099511627776
     ·
      exact hD1.least _ (step_path ht hc hd (hD2.some hlt))
     ·
      omega
    have e1 : d' = Dd cols ins sw y (i + c) (j + e) := by omega
    subst e1
    have hfit : fits cols ins sw y i j t = true := by
     unfold fits
     rw [beq_iff_eq, hc, hd, Int.toNat_natCast, Int.toNat_natCast, addE_eq hcost ⟨hD2.lo, hD2.hi⟩, if_pos (by omega)]
     omega
    rcases find_first steps_order hs ht hfit with rfl | hlt
    ·
     obtain rfl : a = c := by omega
     obtain rfl : b = e := by omega
     simp only [lessB]
     rw [if_pos ⟨trivial, trivial⟩]
     exact sp_min G hy f (i + a) (j + b) m' h2 h3 (by omega) (by omega) p'
    ·
     simp only [lessB]
     rw [if_neg (fun h => by have := h.1; omega), if_neg (by omega), if_neg (by omega)]

/-! ### The reference's Align -/
theorem rpart {i j : Nat} {t : List Int} (hT : TabF cols ins sw y t 0 0) (hi : i ≤ cols.length) (hj : j ≤ y.length) (hD : Dd cols ins sw y i j < 1099511627776) {st : List S64} (hl : st.length ≤ 1) (hst : ∀ s ∈ st, s ∈ stepsE cols ins sw y i j) :
  (st.find? (fits cols ins sw y i j) = none → sv (fun s => tat y.length t (i + s.f2.toNat) (j + s.f3.toNat)) st ≠ Dd cols ins sw y i j) ∧ (∀ s, st.find? (fits cols ins sw y i j) = some s → s ∈ st ∧ sv (fun s => tat y.length t (i + s.f2.toNat) (j + s.f3.toNat)) st = Dd cols ins sw y i j) := by
 cases st with
 | nil => exact ⟨fun _ h => by have : (1099511627776 : Int) = Dd cols ins sw y i j := h; omega, fun s h => nomatch h⟩
 | cons s st =>
  cases st with
  | cons _ _ => simp at hl
  | nil =>
   obtain ⟨a, b, ha, hb, h1, h2, h3⟩ := steps_mem hi hj (hst s List.mem_cons_self)
   have hg : tat y.length t (i + s.f2.toNat) (j + s.f3.toNat) = Dd cols ins sw y (i + s.f2.toNat) (j + s.f3.toNat) := hT.2 _ _ (by omega) (by rw [ha, Int.toNat_natCast]; exact h2) (by rw [hb, Int.toNat_natCast]; exact h3)
   have hv : sv (fun s => tat y.length t (i + s.f2.toNat) (j + s.f3.toNat)) [s] = addE s.f1 (Dd cols ins sw y (i + s.f2.toNat) (j + s.f3.toNat)) := by
    show addE s.f1 (tat y.length t (i + s.f2.toNat) (j + s.f3.toNat)) = _
    rw [hg]
   rw [hv]
   by_cases hf : fits cols ins sw y i j s = true
   ·
    refine ⟨fun h => ?_, fun s' h => ?_⟩
    ·
     rw [List.find?_cons_of_pos hf] at h
     cases h
    ·
     rw [List.find?_cons_of_pos hf] at h
     obtain rfl := Option.some.inj h
     unfold fits at hf
     exact ⟨List.mem_cons_self, beq_iff_eq.1 hf⟩
   ·
    refine ⟨fun _ h => hf (by unfold fits; exact beq_iff_eq.2 h), fun s' h => ?_⟩
    rw [List.find?_cons_of_neg hf] at h
    cases h
theorem wk2 : wrap64 (1 + 1) = 2 := by unfold wrap64; omega
theorem wk3 : wrap64 (2 + 1) = 3 := by unfold wrap64; omega
theorem wk4 : wrap64 (3 + 1) = 4 := by unfold wrap64; omega
theorem w22 (i : Nat) (h : i ≤ 1000000) : wrap64 ((i : Int) + 2) = ((i + 2 : Nat) : Int) := by unfold wrap64; omega
theorem nat0 {a : Nat} (h : (0 : Int) = a) : a = 0 := by omega
theorem nat1 {a : Nat} (h : (1 : Int) = a) : a = 1 := by omega
theorem nat2 {a : Nat} (h : (2 : Int) = a) : a = 2 := by omega
theorem ral_l0 (G : Good cols ins sw) (hy : Proper ins y) (hm : y.length ≤ 1000) {t : List Int} (hT : TabF cols ins sw y t 0 0) : ∀ (f i j : Nat) (out : List S49), i ≤ cols.length → j ≤ y.length → cols.length + y.length + 1 ≤ f + i + j → out.length ≤ i + j → Dd cols ins sw y i j < 1099511627776 →
  Ev (fun k => emendateref36_Align.l0 k y ((y.length + 1 : Nat) : Int) t out (i : Int) (j : Int) cols ins sw) (out ++ alE cols ins sw y f i j, 0)
 | 0, i, j, out, hi, hj, hf, ho, hD => by omega
 | f + 1, i, j, out, hi, hj, hf, ho, hD => by
  have hn := G.n
  have b1 : i ≤ 1000000000 := by omega
  have b2 : j ≤ 1000000000 := by omega
  have b3 : i ≤ 1000000 := by omega
  have b4 : j ≤ 1000000 := by omega
  have hout : out.length < 8796093022208 := by omega
  have hj0 : 0 ≤ (j : Int) := by omega
  have h00 : 0 < i ∨ 0 = i ∧ 0 ≤ j := by omega
  have h01 : 0 < i + 1 ∨ 0 = i + 1 ∧ 0 ≤ j := by omega
  have hn10 : cols.length ≤ 10 := by omega
  by_cases he : i = cols.length ∧ j = y.length
  ·
   have ea : alE cols ins sw y (f + 1) i j = [] := by simp only [alE]; rw [if_pos he]
   rw [ea, List.append_nil]
   refine Ev.step (f := fun k => emendateref36_Align.j1 k y ((y.length + 1 : Nat) : Int) t out (i : Int) (j : Int) false cols ins sw) (fun k => ?_) (Ev.step (f := fun _ => some (out, 0)) (fun k => by simp only [emendateref36_Align.j1]; rw [if_neg (by simp)]) (Ev.now _))
   simp only [emendateref36_Align.l0]
   rw [if_neg (by omega), decide_eq_false (by omega)]
  ·
   obtain ⟨s, hs, hm1, hf1⟩ := fits_ex G hy hi hj he hD
   obtain ⟨a, b, ha, hb, h1, h2, h3, h4, h5⟩ := fits_lt G hy hi hj hm1 hf1 hD
   have ea : alE cols ins sw y (f + 1) i j = s.f0 :: alE cols ins sw y f (i + a) (j + b) := by
    simp only [alE]
    rw [if_neg he, hs]
    show s.f0 :: alE cols ins sw y f (i + s.f2.toNat) (j + s.f3.toNat) = _
    rw [ha, hb, Int.toNat_natCast, Int.toNat_natCast]
   have ih := ral_l0 G hy hm hT f (i + a) (j + b) (out ++ [s.f0]) h2 h3 (by omega) (by simp; omega) h5
   rw [ea]
   rw [List.append_assoc, List.singleton_append] at ih
   generalize hr : (out ++ s.f0 :: alE cols ins sw y f (i + a) (j + b), (0 : Int)) = r at ih ⊢
   refine Ev.step (f := fun k => emendateref36_Align.j1 k y ((y.length + 1 : Nat) : Int) t out (i : Int) (j : Int) true cols ins sw) (fun k => ?_) (Ev.step (f := fun k => emendateref36_Align.l1 k y ((y.length + 1 : Nat) : Int) t out (i : Int) (j : Int) 1 cols ins sw) (fun k => by simp only [emendateref36_Align.j1]; rw [if_pos trivial]) ?_)
   ·
    simp only [emendateref36_Align.l0]
    by_cases hc : i < cols.length
    ·
     rw [if_pos (by omega)]
    ·
     rw [if_neg (by omega), decide_eq_true (by omega)]
   have hat : rd t ((i * (y.length + 1) + j : Nat) : Int) = Dd cols ins sw y i j := hT.2 i j h00 hi hj
   have hlt := hT.1.lt hi hj
   have hwx := ix_w (n := cols.length) (m := y.length) hn10 hm hi hj
   have hnn : 0 ≤ ((i * (y.length + 1) + j : Nat) : Int) := Int.natCast_nonneg _
   generalize ((i * (y.length + 1) + j : Nat) : Int) = X at hat hlt hwx hnn
   -- an operation that does not lead on: the next kind
   have next : ∀ (k v : Int), k ≤ 4 → Ev (fun q => emendateref36_step.f q cols ins sw y t ((y.length + 1 : Nat) : Int) (i : Int) (j : Int) k) v → v ≠ Dd cols ins sw y i j → Ev (fun q => emendateref36_Align.l1 q y ((y.length + 1 : Nat) : Int) t out (i : Int) (j : Int) (wrap64 (k + 1)) cols ins sw) r → Ev (fun q => emendateref36_Align.l1 q y ((y.length + 1 : Nat) : Int) t out (i : Int) (j : Int) k cols ins sw) r := fun k v hk hv hne H => by
    refine Ev.succ (g := fun q => emendateref36_Align.l1 q y ((y.length + 1 : Nat) : Int) t out (i : Int) (j : Int) k cols ins sw) ?_
    simp only [emendateref36_Align.l1]
    refine Ev.bind hv (Ev.congr (fun q => ?_) H)
    rw [hwx, if_pos hnn, if_pos hlt, hat, if_neg hne]
   have eA := rstepA (t := t) G hy hm hT.1 hi hj
   have eB := rstepB (t := t) G hm hT.1 hi hj (fun h => by rw [hT.2 (i + 1) j h01 h hj]; exact Dd_rng G hy h hj)
   have eC := rstepC (t := t) G hy hm hT.1 hi hj
   have eD := rstepD (t := t) G hm hT.1 hi hj
   have pA := rpart hT hi hj hD (st := stA cols y i j) lenA (fun s h => mem_steps.2 (Or.inl h))
   have pB := rpart hT hi hj hD (st := stB cols i) lenB (fun s h => mem_steps.2 (Or.inr (Or.inl h)))
   have pC := rpart hT hi hj hD (st := stC ins y j) lenC (fun s h => mem_steps.2 (Or.inr (Or.inr (Or.inl h))))
   have pD := rpart hT hi hj hD (st := stD cols sw y i j) lenD (fun s h => mem_steps.2 (Or.inr (Or.inr (Or.inr h))))
   have y1 := wnat i b1
   have y2 := wnat j b2
   have y3 := w22 i b3
   have y4 := w22 j b4
   unfold stepsE at hs
   rw [List.find?_append, List.find?_append, List.find?_append] at hs
   cases hA : (stA cols y i j).find? (fits cols ins sw y i j) with
   | some s' =>
    rw [hA] at hs
    obtain rfl : s' = s := Option.some.inj hs
    obtain ⟨m1, v1⟩ := pA.2 _ hA
    obtain ⟨⟨q1, q2, _⟩, rfl⟩ := mem_A m1
    obtain rfl : a = 1 := nat1 ha
    obtain rfl : b = 1 := nat1 hb
    have hj1 : (j : Int) < (y.length : Int) := Int.ofNat_lt.2 q2
    rw [v1] at eA
    refine Ev.succ (g := fun q => emendateref36_Align.l1 q y ((y.length + 1 : Nat) : Int) t out (i : Int) (j : Int) 1 cols ins sw) ?_
    simp only [emendateref36_Align.l1]
    refine Ev.bind eA (Ev.congr (fun q => ?_) ih)
    rw [hwx, if_pos hnn, if_pos hlt, hat, if_pos rfl, if_pos trivial, if_pos hj0, if_pos hj1, if_pos hout, y1, y2]
   | none =>
   rw [hA] at hs
   refine next 1 _ (by decide) eA (pA.1 hA) ?_
   rw [wk2]
   cases hB : (stB cols i).find? (fits cols ins sw y i j) with
   | some s' =>
    rw [hB] at hs
    obtain rfl : s' = s := Option.some.inj hs
    obtain ⟨m1, v1⟩ := pB.2 _ hB
    obtain ⟨⟨q1, _⟩, rfl⟩ := mem_B m1
    obtain rfl : a = 1 := nat1 ha
    obtain rfl : b = 0 := nat0 hb
    rw [v1] at eB
    refine Ev.succ (g := fun q => emendateref36_Align.l1 q y ((y.length + 1 : Nat) : Int) t out (i : Int) (j : Int) 2 cols ins sw) ?_
    simp only [emendateref36_Align.l1]
    refine Ev.bind eB (Ev.congr (fun q => ?_) ih)
    rw [hwx, if_pos hnn, if_pos hlt, hat, if_pos rfl, if_neg (show ¬ ((2 : Int) = 1) by decide), if_pos trivial, if_pos hout, y1]
    rfl
   | none =>
   rw [hB] at hs
   refine next 2 _ (by decide) eB (pB.1 hB) ?_
   rw [wk3]
   cases hC : (stC ins y j).find? (fits cols ins sw y i j) with
   | some s' =>
    rw [hC] at hs
    obtain rfl : s' = s := Option.some.inj hs
    obtain ⟨m1, v1⟩ := pC.2 _ hC
    obtain ⟨q2, rfl⟩ := mem_C m1
    obtain rfl : a = 0 := nat0 ha
    obtain rfl : b = 1 := nat1 hb
    have hj1 : (j : Int) < (y.length : Int) := Int.ofNat_lt.2 q2
    rw [v1] at eC
    refine Ev.succ (g := fun q => emendateref36_Align.l1 q y ((y.length + 1 : Nat) : Int) t out (i : Int) (j : Int) 3 cols ins sw) ?_
    simp only [emendateref36_Align.l1]
    refine Ev.bind eC (Ev.congr (fun q => ?_) ih)
    rw [hwx, if_pos hnn, if_pos hlt, hat, if_pos rfl, if_neg (show ¬ ((3 : Int) = 1) by decide), if_neg (show ¬ ((3 : Int) = 2) by decide), if_pos trivial, if_pos hj0, if_pos hj1, if_pos hout, y2]
    rfl
   | none =>
   rw [hC] at hs
   refine next 3 _ (by decide) eC (pC.1 hC) ?_
   rw [wk4]
   have hs' : (stD cols sw y i j).find? (fits cols ins sw y i j) = some s := hs
   obtain ⟨m1, v1⟩ := pD.2 _ hs'
   obtain ⟨_, rfl⟩ := mem_D m1
   obtain rfl : a = 2 := nat2 ha
   obtain rfl : b = 2 := nat2 hb
   rw [v1] at eD
   refine Ev.succ (g := fun q => emendateref36_Align.l1 q y ((y.length + 1 : Nat) : Int) t out (i : Int) (j : Int) 4 cols ins sw) ?_
   simp only [emendateref36_Align.l1]
   refine Ev.bind eD (Ev.congr (fun q => ?_) ih)
   rw [hwx, if_pos hnn, if_pos hlt, hat, if_pos rfl, if_neg (show ¬ ((4 : Int) = 1) by decide), if_neg (show ¬ ((4 : Int) = 2) by decide), if_neg (show ¬ ((4 : Int) = 3) by decide), if_pos trivial, if_pos hout, y3, y4]
theorem ralign_ev (G : Good cols ins sw) (hm : y.length ≤ 1000) : Ev (fun k => emendateref36_Align.f k cols ins sw y) (alignE cols ins sw y) := by
 have hp := terms_ev cols ins sw y (by omega)
 by_cases hy : Proper ins y
 ·
  obtain ⟨t, h1, h3⟩ := rtable_ev G hy hm
  have h4 : rd t 0 = Dd cols ins sw y 0 0 := by
   have := h1.2 0 0 (Or.inr ⟨rfl, Nat.le_refl _⟩) (Nat.zero_le _) (Nat.zero_le _)
   unfold tat at this
   simpa using this
  have h5 : 0 < (t.length : Int) := by
   have := h1.1.lt (Nat.zero_le _) (Nat.zero_le _)
   simpa using this
  rw [decide_eq_true hy] at hp
  by_cases hD : Dd cols ins sw y 0 0 ≥ 1099511627776
  ·
   have e : alignE cols ins sw y = ([], 6) := by unfold alignE; rw [if_pos hy, if_pos hD]
   rw [e]
   refine Ev.congr (fun k => rfl) (Ev.bind hp (Ev.congr (fun k => by rw [if_pos rfl]) (Ev.bind h3 (Ev.congr (f := fun _ => some ([], 6)) (fun k => ?_) (Ev.now _)))))
   rw [if_pos h5, h4, if_pos hD]
  ·
   have e : alignE cols ins sw y = (alE cols ins sw y (cols.length + y.length + 1) 0 0, 0) := by unfold alignE; rw [if_pos hy, if_neg hD]
   rw [e]
   refine Ev.congr (fun k => rfl) (Ev.bind hp (Ev.congr (fun k => by rw [if_pos rfl]) (Ev.bind h3 (Ev.congr (f := fun k => emendateref36_Align.l0 k y ((y.length + 1 : Nat) : Int) t [] ((0 : Nat) : Int) ((0 : Nat) : Int) cols ins sw) (fun k => ?_) (ral_l0 G hy hm h1 (cols.length + y.length + 1) 0 0 [] (Nat.zero_le _) (Nat.zero_le _) (by omega) (by simp) (by omega))))))
   rw [if_pos h5, h4, if_neg hD, wnat y.length (by omega)]
   rfl
 ·
  rw [decide_eq_false hy] at hp
  have e : alignE cols ins sw y = ([], 1) := by unfold alignE; rw [if_neg hy]
  rw [e]
  exact Ev.congr (fun k => rfl) (Ev.bind hp (Ev.congr (f := fun _ => some ([], 1)) (fun k => by rw [if_neg (by simp)]) (Ev.now _)))
end
end Go.Proofs.YtnddijafdphbnaaDoor.All
end
section
/- The law AlignIsSmallest, in plain Lean. -/
namespace Go.Proofs.YtnddijafdphbnaaDoor.All
open Go.RowKit Go.Proofs.YtnddijafdphbnaaDoorW.PrintWords Go.Proofs.YtnddijafdphbnaaDoorW.PrintLast Go.Proofs.YtnddijafdphbnaaDoorW.PrintMore
set_option linter.unusedVariables false
set_option linter.unusedSimpArgs false
theorem editscriptAlignIsSmallest_pure (l : List S33) (j : List Int) (w : Int) (m : List S49) (wf : ∀ c ∈ l, WfC c) (wg : ∀ n ∈ j, WfI n) (ww : (Go.Lit.int .i64 w).wf = true) (wm : ∀ t ∈ m, WfO t) : ∃ k, emendatelaw36_EditscriptAlignIsSmallest.f k l j w m = some true := by
  refine Ev.rounds (g := fun k => emendatelaw36_EditscriptAlignIsSmallest.f k l j w m) ?_
  obtain ⟨b, hb, hb2⟩ := fair_ev l j w
  refine Ev.congr (fun k => rfl) (Ev.bind awake_ev (Ev.congr (fun k => by rw [if_pos rfl]) (Ev.bind hb ?_)))
  have yes : Ev (fun k => emendatelaw36_EditscriptAlignIsSmallest.j0 k m true l j w) true := Ev.step (f := fun _ => some true) (fun k => by simp only [emendatelaw36_EditscriptAlignIsSmallest.j0]; rw [if_pos trivial]) (Ev.now _)
  have skip : ∀ y, Ev (fun k => emendatelaw36_EditscriptAlignIsSmallest.j1 k m y true l j w) true := fun y => Ev.step (f := fun _ => some true) (fun k => by simp only [emendatelaw36_EditscriptAlignIsSmallest.j1]; rw [if_pos trivial]) (Ev.now _)
  cases b with
  | false => exact Ev.congr (f := fun k => emendatelaw36_EditscriptAlignIsSmallest.j0 k m true l j w) (fun k => by rw [if_neg (by simp)]) yes
  | true =>
    have G := hb2 rfl
    by_cases h : (m.length : Int) > 20
    · exact Ev.congr (f := fun k => emendatelaw36_EditscriptAlignIsSmallest.j0 k m true l j w) (fun k => by rw [if_pos rfl, decide_eq_true h]) yes
    · refine Ev.congr (f := fun k => emendatelaw36_EditscriptAlignIsSmallest.j0 k m false l j w) (fun k => by rw [if_pos rfl, decide_eq_false h]) ?_
      have hn := G.n
      have er := run_ev (l := m) G (by omega)
      refine Ev.succ (g := fun k => emendatelaw36_EditscriptAlignIsSmallest.j0 k m false l j w) ?_
      simp only [emendatelaw36_EditscriptAlignIsSmallest.j0, Bool.false_eq_true, if_false]
      refine Ev.bind er ?_
      cases hr : runE l j w m with
      | none => exact Ev.congr (f := fun k => emendatelaw36_EditscriptAlignIsSmallest.j1 k m [] true l j w) (fun k => by rw [if_neg (by simp)]) (skip [])
      | some r =>
        obtain ⟨y, d⟩ := r
        have hlen := runE_len hr
        obtain ⟨e, p, hd⟩ := runE_sp G hr
        have hy := p.proper G.col
        refine Ev.congr (fun k => by rw [if_pos rfl]) (Ev.bind (rdist_ev G (y := y) (by omega)) ?_)
        by_cases hc : d = distE l j w y
        · by_cases hI : d ≥ 1099511627776
          · exact Ev.congr (f := fun k => emendatelaw36_EditscriptAlignIsSmallest.j1 k m y true l j w) (fun k => by rw [if_pos hc, decide_eq_true hI]) (skip y)
          · refine Ev.congr (f := fun k => emendatelaw36_EditscriptAlignIsSmallest.j1 k m y false l j w) (fun k => by rw [if_pos hc, decide_eq_false hI]) ?_
            have ed : distE l j w y = Dd l j w y 0 0 := by unfold distE; rw [if_pos hy]
            have he : e = Dd l j w y 0 0 := by
              rw [← ed, ← hc, hd]
              unfold sat at hd ⊢
              split at hd
              · rw [if_pos (by assumption)]
                omega
              · omega
            have ea : alignE l j w y = (alE l j w y (l.length + y.length + 1) 0 0, 0) := by unfold alignE; rw [if_pos hy, if_neg (by omega)]
            have q1 := align_ev (y := y) G (by omega)
            have q2 := ralign_ev (y := y) G (by omega)
            have hal := al_len G hy (l.length + y.length + 1) 0 0
            rw [ea] at q1 q2
            rw [he] at p
            have hmin := sp_min G hy (l.length + y.length + 1) 0 0 m (Nat.zero_le _) (Nat.zero_le _) (by omega) (by omega) (by rw [List.drop_zero, List.drop_zero]; exact p)
            have q3 := same_refl (alE l j w y (l.length + y.length + 1) 0 0) (by omega)
            have q4 := less_ev m (alE l j w y (l.length + y.length + 1) 0 0) (by omega)
            rw [hmin] at q4
            refine Ev.succ (g := fun k => emendatelaw36_EditscriptAlignIsSmallest.j1 k m y false l j w) ?_
            simp only [emendatelaw36_EditscriptAlignIsSmallest.j1, Bool.false_eq_true, if_false]
            refine Ev.bind q1 (Ev.bind q2 ?_)
            refine Ev.congr (fun k => by rw [if_pos rfl, if_pos rfl]) ?_
            refine Ev.bind q3 ?_
            refine Ev.congr (fun k => by rw [if_pos rfl]) ?_
            exact Ev.bind q4 (Ev.now _)
        · exact Ev.congr (f := fun k => emendatelaw36_EditscriptAlignIsSmallest.j1 k m y true l j w) (fun k => by rw [if_neg hc]) (skip y)
end Go.Proofs.YtnddijafdphbnaaDoor.All
end
