/- Some texts, one behind the other. -/
import Derived.Test.YtnddijafdphbnaaDoorAllPf
import Derived.Test.YtnddijafdphbnaaDoorAllPe
import Derived.Test.YtnddijafdphbnaaDoorAllPd
import Derived.Test.YtnddijafdphbnaaDoorAllx16
import Derived.Test.YtnddijafdphbnaaDoorAllx30
section
/- A script, read as a way through the tokens: what it emits, what it costs. Plain Lean, no program in sight. -/
namespace Go.Proofs.YtnddijafdphbnaaDoor.All
open Go.RowKit Go.Proofs.YtnddijafdphbnaaDoorW.PrintWords Go.Proofs.YtnddijafdphbnaaDoorW.PrintLast Go.Proofs.YtnddijafdphbnaaDoorW.PrintMore
set_option linter.unusedVariables false
set_option linter.unusedSimpArgs false

theorem Ev.succ {α : Type} {g : Nat → Option α} {r : α} (h : Ev (fun k => g (k + 1)) r) : Ev g r := Ev.step (fun k => rfl) h
theorem ints_l0 (l : List Int) (hl : l.length ≤ 1000000) : ∀ (d i : Nat), i + d = l.length → Ev (fun k => emendateref27_SameInts.l0 k l l (i : Int)) true
 | 0, i, h => Ev.step (f := fun _ => some true) (fun k => by simp only [emendateref27_SameInts.l0]; rw [if_neg (by omega)]) (Ev.now _)
 | d + 1, i, h => Ev.step (f := fun k => emendateref27_SameInts.l0 k l l ((i + 1 : Nat) : Int)) (fun k => by
   simp only [emendateref27_SameInts.l0]
   rw [if_pos (by omega), if_pos (by omega), if_pos (by omega), if_pos trivial, wnat i (by omega)]) (ints_l0 l hl d (i + 1) (by omega))
theorem ints_refl (l : List Int) (hl : l.length ≤ 1000000) : Ev (fun k => emendateref27_SameInts.f k l l) true :=
 Ev.congr (f := fun k => emendateref27_SameInts.l0 k l l ((0 : Nat) : Int)) (fun k => by unfold emendateref27_SameInts.f; rw [if_pos rfl]; rfl) (ints_l0 l hl l.length 0 (by omega))

/-- A script that reads the tokens as the terminals, and what it costs. -/
inductive SP (ins : List Int) (sw : Int) : List S49 → List S33 → List Int → Int → Prop
 | nil : SP ins sw [] [] [] 0
 | read {c : S33} {t : Int} {m : List S49} {l : List S33} {y : List Int} {d : Int} (h0 : 0 ≤ t) (h1 : t < (c.f1.length : Int)) (h : 0 ≤ rd c.f1 t) : SP ins sw m l y d → SP ins sw (⟨1, t⟩ :: m) (c :: l) (t :: y) (rd c.f1 t + d)
 | del {c : S33} {m : List S49} {l : List S33} {y : List Int} {d : Int} (h : c.f2 < 1099511627776) : SP ins sw m l y d → SP ins sw (⟨2, 0⟩ :: m) (c :: l) y (c.f2 + d)
 | ins {t : Int} {m : List S49} {l : List S33} {y : List Int} {d : Int} (h0 : 0 ≤ t) (h1 : t < (ins.length : Int)) : SP ins sw m l y d → SP ins sw (⟨3, t⟩ :: m) l (t :: y) (rd ins t + d)
 | swap {c e : S33} {m : List S49} {l : List S33} {y : List Int} {d : Int} (h0 : 0 < sw) (h1 : 0 ≤ c.f0) (h2 : 0 ≤ e.f0) : SP ins sw m l y d → SP ins sw (⟨4, 0⟩ :: m) (c :: e :: l) (e.f0 :: c.f0 :: y) (sw + d)
theorem SP.cast {ins : List Int} {sw : Int} {m p : List S49} {a b : List S33} {y z : List Int} {c d : Int} (h : SP ins sw m a y c) (h0 : m = p) (h1 : a = b) (h2 : y = z) (h3 : c = d) : SP ins sw p b z d := by subst h0 h1 h2 h3; exact h
theorem SP.path {ins : List Int} {sw : Int} {m : List S49} {a : List S33} {y : List Int} {c : Int} (h : SP ins sw m a y c) : Path ins sw a y c := by
 induction h with
 | nil => exact Path.nil
 | read _ _ h _ ih => exact Path.read h ih
 | del h _ ih => exact Path.del h ih
 | ins _ _ _ ih => exact Path.ins ih
 | swap h0 h1 h2 _ ih => exact Path.swap h0 h1 h2 ih

section
variable {cols : List S33} {ins : List Int} {sw : Int} {y : List Int}
theorem SP.proper {m : List S49} {a : List S33} {d : Int} (h : SP ins sw m a y d) (hg : ∀ c ∈ a, GoodC ins.length c) : Proper ins y := by
 induction h with
 | nil => intro t ht; cases ht
 | read h0 h1 h _ ih =>
  intro t ht
  have g := (hg _ List.mem_cons_self).row
  rcases List.mem_cons.1 ht with rfl | ht
  ·
   exact ⟨h0, by omega⟩
  ·
   exact ih (fun c hc => hg c (List.mem_cons_of_mem _ hc)) t ht
 | del h _ ih => exact ih (fun c hc => hg c (List.mem_cons_of_mem _ hc))
 | ins h0 h1 _ ih =>
  intro t ht
  rcases List.mem_cons.1 ht with rfl | ht
  ·
   exact ⟨h0, h1⟩
  ·
   exact ih hg t ht
 | swap h0 h1 h2 _ ih =>
  intro t ht
  have g1 := (hg _ List.mem_cons_self).kind1
  have g2 := (hg _ (List.mem_cons_of_mem _ List.mem_cons_self)).kind1
  rcases List.mem_cons.1 ht with rfl | ht
  ·
   exact ⟨h2, g2⟩
  ·
   rcases List.mem_cons.1 ht with rfl | ht
   ·
    exact ⟨h1, g1⟩
   ·
    exact ih (fun c hc => hg c (List.mem_cons_of_mem _ (List.mem_cons_of_mem _ hc))) t ht
theorem SP.lo (G : Good cols ins sw) {m : List S49} {a : List S33} {d : Int} (h : SP ins sw m a y d) (hg : ∀ c ∈ a, GoodC ins.length c) : 0 ≤ d := by
 induction h with
 | nil => exact Int.le_refl _
 | read h0 h1 h _ ih =>
  have := ih (fun c hc => hg c (List.mem_cons_of_mem _ hc))
  omega
 | del h _ ih =>
  have := ih (fun c hc => hg c (List.mem_cons_of_mem _ hc))
  have := (hg _ List.mem_cons_self).del0
  omega
 | @ins t _ _ _ _ h0 h1 _ ih =>
  have := ih hg
  have h2 := (G.insb t.toNat (by omega)).1
  rw [Int.toNat_of_nonneg h0] at h2
  omega
 | swap h0 h1 h2 _ ih =>
  have := ih (fun c hc => hg c (List.mem_cons_of_mem _ (List.mem_cons_of_mem _ hc)))
  omega
theorem Good.drop (G : Good cols ins sw) (i : Nat) : ∀ c ∈ cols.drop i, GoodC ins.length c := fun c hc => G.col c (List.mem_of_mem_drop hc)

/-! ### Running a script -/
def sat (c d : Int) : Int := if c + d < 1099511627776 then c + d else 1099511627776
theorem addE_sat {a b : Int} (ha : 0 ≤ a ∧ a ≤ 1099511627776) (hb : 0 ≤ b ∧ b ≤ 60000) : addE a b = sat a b := by
 have : wrap64 (a + b) = a + b := by unfold wrap64; omega
 unfold addE mn sat
 rw [this]
 split <;> split <;> omega
theorem sat_sat {c x d : Int} (hx : 0 ≤ x) (hd : 0 ≤ d) (hc : 0 ≤ c) : sat (sat c x) d = sat c (x + d) := by
 unfold sat
 split <;> split <;> split <;> omega
theorem sat_rng {c x : Int} (hx : 0 ≤ x) (hc : 0 ≤ c) : 0 ≤ sat c x ∧ sat c x ≤ 1099511627776 := by
 unfold sat
 split <;> omega
theorem act_inv {k t : Int} {s s1 : RS} (h : actE cols ins sw k t s = some s1) :
  (k = 1 ∧ (s.1 < cols.length ∧ 0 ≤ t ∧ t < ((rd_T33 cols (s.1 : Int)).f1.length : Int) ∧ 0 ≤ rd (rd_T33 cols (s.1 : Int)).f1 t) ∧ s1 = (s.1 + 1, s.2.1 ++ [t], addE s.2.2 (rd (rd_T33 cols (s.1 : Int)).f1 t))) ∨
  (k = 2 ∧ (s.1 < cols.length ∧ t = 0 ∧ (rd_T33 cols (s.1 : Int)).f2 < 1099511627776) ∧ s1 = (s.1 + 1, s.2.1, addE s.2.2 (rd_T33 cols (s.1 : Int)).f2)) ∨
  (k = 3 ∧ (0 ≤ t ∧ t < (ins.length : Int)) ∧ s1 = (s.1, s.2.1 ++ [t], addE s.2.2 (rd ins t))) ∨
  (k = 4 ∧ (t = 0 ∧ swp cols sw s.1) ∧ s1 = (s.1 + 2, s.2.1 ++ [(rd_T33 cols ((s.1 : Int) + 1)).f0, (rd_T33 cols (s.1 : Int)).f0], addE s.2.2 sw)) := by
 by_cases h1 : k = 1
 ·
  rw [act1 h1] at h
  split at h
  ·
   exact Or.inl ⟨h1, by assumption, (Option.some.inj h).symm⟩
  ·
   cases h
 by_cases h2 : k = 2
 ·
  rw [act2 h2] at h
  split at h
  ·
   exact Or.inr (Or.inl ⟨h2, by assumption, (Option.some.inj h).symm⟩)
  ·
   cases h
 by_cases h3 : k = 3
 ·
  rw [act3 h3] at h
  split at h
  ·
   exact Or.inr (Or.inr (Or.inl ⟨h3, by assumption, (Option.some.inj h).symm⟩))
  ·
   cases h
 by_cases h4 : k = 4
 ·
  rw [act4 h4] at h
  split at h
  ·
   exact Or.inr (Or.inr (Or.inr ⟨h4, by assumption, (Option.some.inj h).symm⟩))
  ·
   cases h
 ·
  rw [act0 h1 h2 h3 h4] at h
  cases h
theorem run_sp (G : Good cols ins sw) : ∀ (m : List S49) (s s' : RS), runAll cols ins sw m s = some s' → s'.1 = cols.length → s.1 ≤ cols.length → 0 ≤ s.2.2 → s.2.2 ≤ 1099511627776 → ∃ z d, s'.2.1 = s.2.1 ++ z ∧ SP ins sw m (cols.drop s.1) z d ∧ s'.2.2 = sat s.2.2 d
 | [], s, s', h, h1, h2, h3, h4 => by
  simp only [runAll, Option.some.injEq] at h
  subst h
  refine ⟨[], 0, by simp, SP.nil.cast rfl (List.drop_eq_nil_of_le (by omega)).symm rfl rfl, ?_⟩
  unfold sat
  split <;> omega
 | ⟨k, t⟩ :: m, s, s', h, h1, h2, h3, h4 => by
  simp only [runAll] at h
  cases ha : actE cols ins sw k t s with
  | none => rw [ha] at h; cases h
  | some s1 =>
   rw [ha, Option.bind_some] at h
   have hs1 := (actE_len ha).2 h2
   have fin : ∀ x, 0 ≤ x ∧ x ≤ 60000 → s1.2.2 = addE s.2.2 x → 0 ≤ s1.2.2 ∧ s1.2.2 ≤ 1099511627776 ∧ ∀ d, 0 ≤ d → sat s1.2.2 d = sat s.2.2 (x + d) := fun x hx e => by
    rw [addE_sat ⟨h3, h4⟩ hx] at e
    have := sat_rng hx.1 h3
    exact ⟨by omega, by omega, fun d hd => by rw [e, sat_sat hx.1 hd h3]⟩
   rcases act_inv ha with ⟨rfl, ⟨c1, c2, c3, c4⟩, rfl⟩ | ⟨rfl, ⟨c1, rfl, c3⟩, rfl⟩ | ⟨rfl, ⟨c1, c2⟩, rfl⟩ | ⟨rfl, ⟨rfl, c1⟩, rfl⟩
   ·
    have g := G.col _ (List.getElem_mem c1)
    rw [rdn cols _ c1] at c3 c4
    have hx : 0 ≤ rd (cols[s.1]).f1 t ∧ rd (cols[s.1]).f1 t ≤ 60000 := by
     have := g.rd_le t.toNat (by have := g.row; omega)
     rw [Int.toNat_of_nonneg c2] at this
     exact ⟨c4, this.2⟩
    obtain ⟨f1, f2, f3⟩ := fin _ hx (by rw [rdn cols _ c1])
    obtain ⟨z, d, e1, e2, e3⟩ := run_sp G m _ s' h h1 hs1 f1 f2
    refine ⟨t :: z, _, by rw [e1]; simp, (SP.read c2 c3 c4 e2).cast rfl (drop_cons c1).symm rfl rfl, ?_⟩
    rw [e3, f3 d (e2.lo G (G.drop _))]
   ·
    have g := G.col _ (List.getElem_mem c1)
    rw [rdn cols _ c1] at c3
    have hx : 0 ≤ (cols[s.1]).f2 ∧ (cols[s.1]).f2 ≤ 60000 := by
     have := g.del0
     have := g.del1
     omega
    obtain ⟨f1, f2, f3⟩ := fin _ hx (by rw [rdn cols _ c1])
    obtain ⟨z, d, e1, e2, e3⟩ := run_sp G m _ s' h h1 hs1 f1 f2
    refine ⟨z, _, e1, (SP.del c3 e2).cast rfl (drop_cons c1).symm rfl rfl, ?_⟩
    rw [e3, f3 d (e2.lo G (G.drop _))]
   ·
    have hx : 0 ≤ rd ins t ∧ rd ins t ≤ 60000 := by
     have := G.insb t.toNat (by omega)
     rw [Int.toNat_of_nonneg c1] at this
     omega
    obtain ⟨f1, f2, f3⟩ := fin _ hx rfl
    obtain ⟨z, d, e1, e2, e3⟩ := run_sp G m _ s' h h1 hs1 f1 f2
    refine ⟨t :: z, _, by rw [e1]; simp, SP.ins c1 c2 e2, ?_⟩
    rw [e3, f3 d (e2.lo G (G.drop _))]
   ·
    obtain ⟨s0, s1, s2, s3⟩ := c1
    have e0 : ((s.1 : Int) + 1) = ((s.1 + 1 : Nat) : Int) := by omega
    have c0 : s.1 < cols.length := by omega
    obtain ⟨f1, f2, f3⟩ := fin _ ⟨G.sw0, G.sw1⟩ rfl
    obtain ⟨z, d, e1, e2, e3⟩ := run_sp G m _ s' h h1 hs1 f1 f2
    rw [rdn cols _ c0] at s2
    rw [e0, rdn cols _ s1] at s3
    refine ⟨(cols[s.1 + 1]).f0 :: (cols[s.1]).f0 :: z, _, ?_, (SP.swap s0 s2 s3 e2).cast rfl ?_ rfl rfl, ?_⟩
    ·
     rw [e1, e0, rdn cols _ s1, rdn cols _ c0]
     simp
    ·
     rw [drop_cons c0, drop_cons s1]
    ·
     rw [e3, f3 d (e2.lo G (G.drop _))]
theorem drop_head {α : Type} {l : List α} {i : Nat} {c : α} {r : List α} (h : c :: r = l.drop i) : ∃ h : i < l.length, c = l[i] ∧ r = l.drop (i + 1) := by
 have hi : i < l.length := by
  rcases Nat.lt_or_ge i l.length with hi | hi
  ·
   exact hi
  ·
   rw [List.drop_eq_nil_of_le hi] at h; cases h
 rw [drop_cons hi] at h
 injection h with h1 h2
 exact ⟨hi, h1, h2⟩
theorem sp_run (G : Good cols ins sw) {m : List S49} {A : List S33} {z : List Int} {d : Int} (p : SP ins sw m A z d) : ∀ (i : Nat) (out : List Int) (c : Int), A = cols.drop i → i ≤ cols.length → 0 ≤ c → c ≤ 1099511627776 → runAll cols ins sw m (i, out, c) = some (cols.length, out ++ z, sat c d) := by
 induction p with
 | nil =>
  intro i out c hA hi h0 h1
  have : cols.length ≤ i := List.drop_eq_nil_iff.1 hA.symm
  have e : sat c 0 = c := by unfold sat; split <;> omega
  rw [e, List.append_nil]
  simp only [runAll]
  rw [show i = cols.length by omega]
 | @read c0 t m l y d k0 k1 k2 p ih =>
  intro i out c hA hi h0 h1
  obtain ⟨hi2, rfl, rfl⟩ := drop_head hA
  have g := G.col _ (List.getElem_mem hi2)
  have hx : 0 ≤ rd (cols[i]).f1 t ∧ rd (cols[i]).f1 t ≤ 60000 := by
   have := g.rd_le t.toNat (by have := g.row; omega)
   rw [Int.toNat_of_nonneg k0] at this
   exact ⟨k2, this.2⟩
  have hr := sat_rng hx.1 h0
  simp only [runAll]
  rw [act1 rfl, rdn cols i hi2, if_pos ⟨hi2, k0, k1, k2⟩, Option.bind_some, addE_sat ⟨h0, h1⟩ hx, ih (i + 1) _ _ rfl (by omega) hr.1 hr.2, sat_sat hx.1 (p.lo G (G.drop _)) h0]
  simp
 | @del c0 m l y d k2 p ih =>
  intro i out c hA hi h0 h1
  obtain ⟨hi2, rfl, rfl⟩ := drop_head hA
  have g := G.col _ (List.getElem_mem hi2)
  have hx : 0 ≤ (cols[i]).f2 ∧ (cols[i]).f2 ≤ 60000 := by
   have := g.del0
   have := g.del1
   omega
  have hr := sat_rng hx.1 h0
  simp only [runAll]
  rw [act2 rfl, rdn cols i hi2, if_pos ⟨hi2, rfl, k2⟩, Option.bind_some, addE_sat ⟨h0, h1⟩ hx, ih (i + 1) _ _ rfl (by omega) hr.1 hr.2, sat_sat hx.1 (p.lo G (G.drop _)) h0]
 | @ins t m l y d k0 k1 p ih =>
  intro i out c hA hi h0 h1
  subst hA
  have hx : 0 ≤ rd ins t ∧ rd ins t ≤ 60000 := by
   have := G.insb t.toNat (by omega)
   rw [Int.toNat_of_nonneg k0] at this
   omega
  have hr := sat_rng hx.1 h0
  simp only [runAll]
  rw [act3 rfl, if_pos ⟨k0, k1⟩, Option.bind_some, addE_sat ⟨h0, h1⟩ hx, ih i _ _ rfl hi hr.1 hr.2, sat_sat hx.1 (p.lo G (G.drop _)) h0]
  simp
 | @swap c0 e0 m l y d k0 k1 k2 p ih =>
  intro i out c hA hi h0 h1
  obtain ⟨hi2, rfl, hA2⟩ := drop_head hA
  obtain ⟨hi3, rfl, rfl⟩ := drop_head hA2
  have e1 : ((i : Int) + 1) = ((i + 1 : Nat) : Int) := by omega
  have hr := sat_rng (c := c) G.sw0 h0
  have hs : swp cols sw i := ⟨k0, hi3, by rw [rdn cols i hi2]; exact k1, by rw [e1, rdn cols _ hi3]; exact k2⟩
  simp only [runAll]
  rw [act4 rfl, if_pos ⟨rfl, hs⟩, Option.bind_some, addE_sat ⟨h0, h1⟩ ⟨G.sw0, G.sw1⟩, ih (i + 2) _ _ rfl (by show i + 2 ≤ _; omega) hr.1 hr.2, sat_sat G.sw0 (p.lo G (G.drop _)) h0]
  show some (cols.length, (out ++ [(rd_T33 cols ((i : Int) + 1)).f0, (rd_T33 cols (i : Int)).f0]) ++ y, _) = _
  rw [e1, rdn cols _ hi3, rdn cols i hi2]
  simp
theorem runE_sp (G : Good cols ins sw) {m : List S49} {d : Int} (h : runE cols ins sw m = some (y, d)) : ∃ e, SP ins sw m cols y e ∧ d = sat 0 e := by
 unfold runE at h
 cases hr : runAll cols ins sw m (0, [], 0) with
 | none => rw [hr] at h; cases h
 | some s =>
  rw [hr, Option.bind_some] at h
  split at h
  ·
   rename_i hn
   obtain ⟨z, e, e1, e2, e3⟩ := run_sp G m _ s hr hn (Nat.zero_le _) (Int.le_refl _) (by decide)
   have h := Option.some.inj h
   rw [h] at e1 e3
   rw [List.nil_append] at e1
   subst e1
   exact ⟨e, e2, e3⟩
  ·
   cases h
theorem sp_runE (G : Good cols ins sw) {m : List S49} {d : Int} (p : SP ins sw m cols y d) : runE cols ins sw m = some (y, sat 0 d) := by
 unfold runE
 rw [sp_run G p 0 [] 0 rfl (Nat.zero_le _) (Int.le_refl _) (by decide), Option.bind_some, if_pos rfl, List.nil_append]

/-! ### Align's script -/
theorem step_sp (hy : Proper ins y) (G : Good cols ins sw) {i j a b : Nat} {s : S64} (h : s ∈ stepsE cols ins sw y i j) (ha : s.f2 = (a : Int)) (hb : s.f3 = (b : Int)) {m : List S49} {d : Int} (p : SP ins sw m (cols.drop (i + a)) (y.drop (j + b)) d) : SP ins sw (s.f0 :: m) (cols.drop i) (y.drop j) (s.f1 + d) := by
 rcases mem_steps.1 h with h | h | h | h
 ·
  obtain ⟨⟨h1, h2, h3⟩, rfl⟩ := mem_A h
  obtain rfl : a = 1 := by have : (1 : Int) = a := ha; omega
  obtain rfl : b = 1 := by have : (1 : Int) = b := hb; omega
  have hp := hy _ (List.getElem_mem h2)
  have hrow := (G.col _ (List.getElem_mem h1)).row
  rw [rdn cols i h1, rdi y j h2] at h3 ⊢
  rw [drop_cons h1, drop_cons h2]
  exact SP.read hp.1 (by omega) h3 p
 ·
  obtain ⟨⟨h1, h2⟩, rfl⟩ := mem_B h
  obtain rfl : a = 1 := by have : (1 : Int) = a := ha; omega
  obtain rfl : b = 0 := by have : (0 : Int) = b := hb; omega
  rw [rdn cols i h1] at h2 ⊢
  rw [drop_cons h1]
  exact SP.del h2 p
 ·
  obtain ⟨h1, rfl⟩ := mem_C h
  obtain rfl : a = 0 := by have : (0 : Int) = a := ha; omega
  obtain rfl : b = 1 := by have : (1 : Int) = b := hb; omega
  have hp := hy _ (List.getElem_mem h1)
  rw [rdi y j h1]
  rw [drop_cons h1]
  exact SP.ins hp.1 hp.2 p
 ·
  obtain ⟨⟨h1, ⟨s0, s1, s2, s3⟩, h3, h4⟩, rfl⟩ := mem_D h
  obtain rfl : a = 2 := by have : (2 : Int) = a := ha; omega
  obtain rfl : b = 2 := by have : (2 : Int) = b := hb; omega
  have e1 : ((i : Int) + 1) = ((i + 1 : Nat) : Int) := by omega
  have e2 : ((j : Int) + 1) = ((j + 1 : Nat) : Int) := by omega
  rw [e1] at h3 s3
  rw [e2] at h4
  rw [rdn cols i (by omega)] at s2 h4
  rw [rdn cols (i + 1) s1] at s3 h3
  rw [rdi y j (by omega)] at h3
  rw [rdi y (j + 1) h1] at h4
  rw [drop_cons (show i < cols.length by omega), drop_cons s1, drop_cons (show j < y.length by omega), drop_cons h1, ← h3, ← h4]
  exact SP.swap s0 s2 s3 p
theorem al_sp (G : Good cols ins sw) (hy : Proper ins y) : ∀ (f i j : Nat), i ≤ cols.length → j ≤ y.length → cols.length + y.length + 1 ≤ f + i + j → Dd cols ins sw y i j < 1099511627776 → SP ins sw (alE cols ins sw y f i j) (cols.drop i) (y.drop j) (Dd cols ins sw y i j)
 | 0, i, j, hi, hj, hf, hD => by omega
 | f + 1, i, j, hi, hj, hf, hD => by
  by_cases he : i = cols.length ∧ j = y.length
  ·
   have ea : alE cols ins sw y (f + 1) i j = [] := by simp only [alE]; rw [if_pos he]
   rw [ea, Dd_eq hi hj, if_pos he, List.drop_eq_nil_of_le (by omega), List.drop_eq_nil_of_le (by omega)]
   exact SP.nil
  ·
   obtain ⟨s, hs, hm1, hf1⟩ := fits_ex G hy hi hj he hD
   obtain ⟨a, b, ha, hb, h1, h2, h3, h4, h5⟩ := fits_lt G hy hi hj hm1 hf1 hD
   have ea : alE cols ins sw y (f + 1) i j = s.f0 :: alE cols ins sw y f (i + a) (j + b) := by
    simp only [alE]
    rw [if_neg he, hs]
    show s.f0 :: alE cols ins sw y f (i + s.f2.toNat) (j + s.f3.toNat) = _
    rw [ha, hb, Int.toNat_natCast, Int.toNat_natCast]
   rw [ea, h4]
   exact step_sp hy G hm1 ha hb (al_sp G hy f (i + a) (j + b) h2 h3 (by omega) h5)
theorem al_len (G : Good cols ins sw) (hy : Proper ins y) : ∀ (f i j : Nat), (alE cols ins sw y f i j).length ≤ f
 | 0, i, j => by simp [alE]
 | f + 1, i, j => by
  simp only [alE]
  split
  ·
   simp
  ·
   split
   ·
    simp only [List.length_cons]
    exact Nat.succ_le_succ (al_len G hy f _ _)
   ·
    simp
end
theorem runE_len {cols : List S33} {ins : List Int} {sw : Int} {m : List S49} {y : List Int} {d : Int} (h : runE cols ins sw m = some (y, d)) : y.length ≤ 2 * m.length := by
 unfold runE at h
 cases hr : runAll cols ins sw m (0, [], 0) with
 | none => rw [hr] at h; cases h
 | some s =>
  rw [hr, Option.bind_some] at h
  have := (runAll_len hr).1
  split at h
  ·
   have h := Option.some.inj h
   rw [h] at this
   simpa using this
  ·
   cases h
end Go.Proofs.YtnddijafdphbnaaDoor.All
end
section
/- The reference's table: it holds the least costs too. Plain Lean, no program in sight. -/
namespace Go.Proofs.YtnddijafdphbnaaDoor.All
open Go.RowKit Go.Proofs.YtnddijafdphbnaaDoorW.PrintWords Go.Proofs.YtnddijafdphbnaaDoorW.PrintLast Go.Proofs.YtnddijafdphbnaaDoorW.PrintMore
set_option linter.unusedVariables false
set_option linter.unusedSimpArgs false

theorem terms_l0 (cols : List S33) (ins : List Int) (sw : Int) (y : List Int) (hl : y.length ≤ 1000000) : ∀ (d i : Nat), i + d = y.length → Ev (fun k => emendateref36_Terminals.l0 k y (i : Int) cols ins sw) (decide (Proper ins (y.drop i)))
 | 0, i, h => by
  have e : decide (Proper ins (y.drop i)) = true := decide_eq_true (by rw [List.drop_eq_nil_of_le (by omega)]; intro t ht; cases ht)
  rw [e]
  exact Ev.step (f := fun _ => some true) (fun k => by simp only [emendateref36_Terminals.l0]; rw [if_neg (by omega)]) (Ev.now _)
 | d + 1, i, h => by
  have hi : i < y.length := by omega
  have hd := List.drop_eq_getElem_cons hi
  have hr := rdi y i hi
  by_cases h1 : rd y (i : Int) < 0
  ·
   have e : decide (Proper ins (y.drop i)) = false := decide_eq_false (fun hh => by have := (hh y[i] (by rw [hd]; exact List.mem_cons_self)).1; omega)
   rw [e]
   exact Ev.step (f := fun _ => some false) (fun k => by simp only [emendateref36_Terminals.l0]; rw [if_pos (by omega), if_pos (by omega), if_pos h1]) (Ev.now _)
  by_cases h2 : rd y (i : Int) ≥ (ins.length : Int)
  ·
   have e : decide (Proper ins (y.drop i)) = false := decide_eq_false (fun hh => by have := (hh y[i] (by rw [hd]; exact List.mem_cons_self)).2; omega)
   rw [e]
   exact Ev.step (f := fun _ => some false) (fun k => by simp only [emendateref36_Terminals.l0]; rw [if_pos (by omega), if_pos (by omega), if_neg h1, if_pos h2]) (Ev.now _)
  have e : decide (Proper ins (y.drop i)) = decide (Proper ins (y.drop (i + 1))) := by
   refine decide_eq_decide.2 ⟨fun hh t ht => hh t (by rw [hd]; exact List.mem_cons_of_mem _ ht), fun hh t ht => ?_⟩
   rw [hd] at ht
   rcases List.mem_cons.1 ht with rfl | ht
   ·
    exact ⟨by omega, by omega⟩
   ·
    exact hh t ht
  rw [e]
  exact Ev.step (f := fun k => emendateref36_Terminals.l0 k y ((i + 1 : Nat) : Int) cols ins sw) (fun k => by simp only [emendateref36_Terminals.l0]; rw [if_pos (by omega), if_pos (by omega), if_neg h1, if_neg h2, wnat i (by omega)]) (terms_l0 cols ins sw y hl d (i + 1) (by omega))
theorem terms_ev (cols : List S33) (ins : List Int) (sw : Int) (y : List Int) (hl : y.length ≤ 1000000) : Ev (fun k => emendateref36_Terminals.f k cols ins sw y) (decide (Proper ins y)) := Ev.congr (fun k => rfl) (terms_l0 cols ins sw y hl y.length 0 (by omega))

/-! ### The best of four -/
def sv (g : S64 → Int) : List S64 → Int
 | [] => 1099511627776
 | s :: _ => addE s.f1 (g s)
theorem foldS_append (g : S64 → Int) : ∀ (l l' : List S64) (b : Int), foldS g b (l ++ l') = foldS g (foldS g b l) l'
 | [], l', b => rfl
 | s :: l, l', b => by simp only [List.cons_append, foldS]; exact foldS_append g l l' _
theorem foldS_one (g : S64 → Int) {l : List S64} (hl : l.length ≤ 1) {b : Int} (hb : b ≤ 1099511627776) : foldS g b l = mn b (sv g l) := by
 cases l with
 | nil =>
  show b = mn b 1099511627776
  unfold mn
  rw [if_neg (by omega)]
 | cons s l =>
  cases l with
  | nil => rfl
  | cons _ _ => simp at hl
theorem mn_le {a b : Int} : mn a b ≤ a := by unfold mn; split <;> omega
section
variable {cols : List S33} {ins : List Int} {sw : Int} {y : List Int}
theorem lenA {i j : Nat} : (stA cols y i j).length ≤ 1 := by unfold stA; split <;> simp
theorem lenB {i : Nat} : (stB cols i).length ≤ 1 := by unfold stB; split <;> simp
theorem lenC {j : Nat} : (stC ins y j).length ≤ 1 := by unfold stC; split <;> simp
theorem lenD {i j : Nat} : (stD cols sw y i j).length ≤ 1 := by unfold stD; split <;> simp
theorem four (g : S64 → Int) {b : Int} (hb : b ≤ 1099511627776) {i j : Nat} : foldS g b (stepsE cols ins sw y i j) = mn (mn (mn (mn b (sv g (stA cols y i j))) (sv g (stB cols i))) (sv g (stC ins y j))) (sv g (stD cols sw y i j)) := by
 unfold stepsE
 have h1 := mn_le (a := b) (b := sv g (stA cols y i j))
 have h2 := mn_le (a := mn b (sv g (stA cols y i j))) (b := sv g (stB cols i))
 have h3 := mn_le (a := mn (mn b (sv g (stA cols y i j))) (sv g (stB cols i))) (b := sv g (stC ins y j))
 rw [foldS_append, foldS_append, foldS_append, foldS_one g lenA hb, foldS_one g lenB (by omega), foldS_one g lenC (by omega), foldS_one g lenD (by omega)]

/-! ### The table's places -/
theorem ix_lt {n m i j : Nat} (hi : i ≤ n) (hj : j ≤ m) : i * (m + 1) + j < (n + 1) * (m + 1) := by
 have h1 := Nat.mul_le_mul_right (m + 1) hi
 rw [Nat.succ_mul n (m + 1)]
 generalize i * (m + 1) = a at *
 generalize n * (m + 1) = b at *
 omega
theorem ix_big {n m i j : Nat} (hn : n ≤ 10) (hm : m ≤ 1000) (hi : i ≤ n) (hj : j ≤ m) : i * (m + 1) + j ≤ 11011 := by
 have h1 := ix_lt hi hj
 have h2 : (n + 1) * (m + 1) ≤ 11 * 1001 := Nat.mul_le_mul (show n + 1 ≤ 11 by omega) (show m + 1 ≤ 1001 by omega)
 generalize i * (m + 1) + j = a at *
 generalize (n + 1) * (m + 1) = b at *
 omega
theorem ix_ne {m a b j j' : Nat} (hj : j ≤ m) (k : a < b) (h : a * (m + 1) + j = b * (m + 1) + j') : False := by
 have h1 := Nat.mul_le_mul_right (m + 1) (show a + 1 ≤ b from k)
 rw [Nat.succ_mul a (m + 1)] at h1
 generalize a * (m + 1) = x at *
 generalize b * (m + 1) = y at *
 omega
theorem ix_inj {m i j i' j' : Nat} (hj : j ≤ m) (hj' : j' ≤ m) (h : i * (m + 1) + j = i' * (m + 1) + j') : i = i' ∧ j = j' := by
 rcases Nat.lt_trichotomy i i' with k | rfl | k
 ·
  exact (ix_ne hj k h).elim
 ·
  refine ⟨rfl, ?_⟩
  generalize i * (m + 1) = x at *
  omega
 ·
  exact (ix_ne hj' k h.symm).elim
theorem w0 (z j : Nat) (h : z + j ≤ 11011) : wrap64 (wrap64 (z : Int) + (j : Int)) = ((z + j : Nat) : Int) := by unfold wrap64; omega
theorem w1 (z j : Nat) (h : z + j ≤ 11011) : wrap64 (((z + j : Nat) : Int) + 1) = ((z + (j + 1) : Nat) : Int) := by unfold wrap64; omega
theorem w2 (z j : Nat) (h : z + j ≤ 11011) : wrap64 (((z + j : Nat) : Int) + 2) = ((z + (j + 2) : Nat) : Int) := by unfold wrap64; omega
theorem wz (z : Nat) (h : z ≤ 11011) : wrap64 (z : Int) = (z : Int) := by unfold wrap64; omega
theorem ix_w {n m i j : Nat} (hn : n ≤ 10) (hm : m ≤ 1000) (hi : i ≤ n) (hj : j ≤ m) : wrap64 (wrap64 ((i : Int) * ((m + 1 : Nat) : Int)) + (j : Int)) = ((i * (m + 1) + j : Nat) : Int) := by
 rw [← Int.natCast_mul]
 exact w0 _ _ (ix_big hn hm hi hj)
/-- The table's length. -/
def Flat (n m : Nat) (t : List Int) : Prop := t.length = (n + 1) * (m + 1)
theorem Flat.lt {n m i j : Nat} {t : List Int} (h : Flat n m t) (hi : i ≤ n) (hj : j ≤ m) : ((i * (m + 1) + j : Nat) : Int) < (t.length : Int) := Int.ofNat_lt.2 (by rw [show t.length = _ from h]; exact ix_lt hi hj)
theorem addE_inf {z : Int} (h : 0 ≤ z ∧ z ≤ 1099511627776) : addE 1099511627776 z = 1099511627776 := by
 unfold addE mn wrap64
 split <;> omega
/-- What the flat table holds. -/
def tat (m : Nat) (t : List Int) (i j : Nat) : Int := rd t ((i * (m + 1) + j : Nat) : Int)

section
variable {t : List Int} {w i j n k : Int} {b : Bool}
theorem rj2_no (h4 : k ≠ 4) : Ev (fun q => emendateref36_step.j2 q y t w i j k false cols ins sw) 1099511627776 := Ev.step (f := fun _ => some 1099511627776) (fun q => by simp only [emendateref36_step.j2]; rw [if_neg (by simp), if_neg h4]) (Ev.now _)
theorem rj1_no (h3 : k ≠ 3) (h4 : k ≠ 4) : Ev (fun q => emendateref36_step.j1 q y t w i j k false cols ins sw) 1099511627776 := Ev.step (f := fun q => emendateref36_step.j2 q y t w i j k false cols ins sw) (fun q => by simp only [emendateref36_step.j1]; rw [if_neg (by simp), if_neg h3]) (rj2_no h4)
theorem rj0_no (h2 : k ≠ 2) (h3 : k ≠ 3) (h4 : k ≠ 4) : Ev (fun q => emendateref36_step.j0 q y t w i j k n false cols ins sw) 1099511627776 := Ev.step (f := fun q => emendateref36_step.j1 q y t w i j k false cols ins sw) (fun q => by simp only [emendateref36_step.j0]; rw [if_neg (by simp), if_neg h2]) (rj1_no h3 h4)
end
theorem rstepA (G : Good cols ins sw) (hy : Proper ins y) (hm : y.length ≤ 1000) {t : List Int} (ht : Flat cols.length y.length t) {i j : Nat} (hi : i ≤ cols.length) (hj : j ≤ y.length) :
  Ev (fun q => emendateref36_step.f q cols ins sw y t ((y.length + 1 : Nat) : Int) (i : Int) (j : Int) 1) (sv (fun s => tat y.length t (i + s.f2.toNat) (j + s.f3.toNat)) (stA cols y i j)) := by
 have hn := G.n
 have no : Ev (fun q => emendateref36_step.j0 q y t ((y.length + 1 : Nat) : Int) (i : Int) (j : Int) 1 (cols.length : Int) false cols ins sw) 1099511627776 := rj0_no (by decide) (by decide) (by decide)
 by_cases h1 : i < cols.length
 ·
  by_cases h2 : j < y.length
  ·
   have hp := hy _ (List.getElem_mem h2)
   have hr := rdi y j h2
   have hrow := (G.col _ (List.getElem_mem h1)).row
   have hc := rdn cols i h1
   by_cases h3 : rd (rd_T33 cols (i : Int)).f1 (rd y (j : Int)) ≥ 0
   ·
    have e : stA cols y i j = [⟨⟨1, rd y (j : Int)⟩, rd (rd_T33 cols (i : Int)).f1 (rd y (j : Int)), 1, 1⟩] := by unfold stA; rw [if_pos ⟨h1, h2, h3⟩]
    rw [e]
    refine Ev.congr (f := fun q => emendateref36_step.j0 q y t ((y.length + 1 : Nat) : Int) (i : Int) (j : Int) 1 (cols.length : Int) true cols ins sw) (fun q => ?_) (Ev.step (f := fun _ => some (addE (rd (rd_T33 cols (i : Int)).f1 (rd y (j : Int))) (tat y.length t (i + 1) (j + 1)))) (fun q => ?_) (Ev.now _))
    ·
     unfold emendateref36_step.f
     rw [if_pos rfl, if_pos (by omega), if_pos (by omega), if_pos (by omega), if_pos (by omega), if_pos (by omega), if_pos (by rw [hc, hr]; omega), decide_eq_true h3]
    ·
     simp only [emendateref36_step.j0]
     rw [if_pos trivial, if_pos (by omega), if_pos (by omega), if_pos (by omega), if_pos (by omega), if_pos (by omega), if_pos (by rw [hc, hr]; omega), wnat i (by omega), ix_w (n := cols.length) (by omega) hm h1 hj, w1 _ _ (ix_big (n := cols.length) (by omega) hm h1 hj), if_pos (Int.natCast_nonneg _), if_pos (ht.lt h1 h2)]
     rfl
   ·
    have e : stA cols y i j = [] := by unfold stA; rw [if_neg (fun h => h3 h.2.2)]
    rw [e]
    refine Ev.congr (fun q => ?_) no
    unfold emendateref36_step.f
    rw [if_pos rfl, if_pos (by omega), if_pos (by omega), if_pos (by omega), if_pos (by omega), if_pos (by omega), if_pos (by rw [hc, hr]; omega), decide_eq_false h3]
  ·
   have e : stA cols y i j = [] := by unfold stA; rw [if_neg (fun h => h2 h.2.1)]
   rw [e]
   refine Ev.congr (fun q => ?_) no
   unfold emendateref36_step.f
   rw [if_pos rfl, if_pos (by omega), if_neg (by omega)]
 ·
  have e : stA cols y i j = [] := by unfold stA; rw [if_neg (fun h => h1 h.1)]
  rw [e]
  refine Ev.congr (fun q => ?_) no
  unfold emendateref36_step.f
  rw [if_pos rfl, if_neg (by omega)]
theorem rstepB (G : Good cols ins sw) (hm : y.length ≤ 1000) {t : List Int} (ht : Flat cols.length y.length t) {i j : Nat} (hi : i ≤ cols.length) (hj : j ≤ y.length) (hb : i < cols.length → 0 ≤ tat y.length t (i + 1) j ∧ tat y.length t (i + 1) j ≤ 1099511627776) :
  Ev (fun q => emendateref36_step.f q cols ins sw y t ((y.length + 1 : Nat) : Int) (i : Int) (j : Int) 2) (sv (fun s => tat y.length t (i + s.f2.toNat) (j + s.f3.toNat)) (stB cols i)) := by
 have hn := G.n
 refine Ev.congr (f := fun q => emendateref36_step.j0 q y t ((y.length + 1 : Nat) : Int) (i : Int) (j : Int) 2 (cols.length : Int) false cols ins sw) (fun q => by unfold emendateref36_step.f; rw [if_neg (by decide)]) ?_
 refine Ev.step (f := fun q => emendateref36_step.j1 q y t ((y.length + 1 : Nat) : Int) (i : Int) (j : Int) 2 (decide ((i : Int) < (cols.length : Int))) cols ins sw) (fun q => by simp only [emendateref36_step.j0]; rw [if_neg (by simp), if_pos trivial]) ?_
 by_cases h1 : i < cols.length
 ·
  rw [decide_eq_true (by omega)]
  have e : sv (fun s => tat y.length t (i + s.f2.toNat) (j + s.f3.toNat)) (stB cols i) = addE (rd_T33 cols (i : Int)).f2 (tat y.length t (i + 1) j) := by
   by_cases h2 : (rd_T33 cols (i : Int)).f2 < 1099511627776
   ·
    unfold stB
    rw [if_pos ⟨h1, h2⟩]
    rfl
   ·
    unfold stB
    rw [if_neg (fun h => h2 h.2)]
    have g := G.col _ (List.getElem_mem h1)
    have d1 := g.del1
    have hb := hb h1
    rw [rdn cols i h1] at h2 ⊢
    have e2 : (cols[i]).f2 = 1099511627776 := by omega
    rw [e2]
    exact (addE_inf hb).symm
  rw [e]
  refine Ev.step (f := fun _ => some (addE (rd_T33 cols (i : Int)).f2 (tat y.length t (i + 1) j))) (fun q => ?_) (Ev.now _)
  simp only [emendateref36_step.j1]
  rw [if_pos trivial, if_pos (by omega), if_pos (by omega), wnat i (by omega), ix_w (n := cols.length) (by omega) hm h1 hj, if_pos (Int.natCast_nonneg _), if_pos (ht.lt h1 hj)]
  rfl
 ·
  rw [decide_eq_false (by omega)]
  have e : stB cols i = [] := by unfold stB; rw [if_neg (fun h => h1 h.1)]
  rw [e]
  exact rj1_no (by decide) (by decide)
theorem rstepC (G : Good cols ins sw) (hy : Proper ins y) (hm : y.length ≤ 1000) {t : List Int} (ht : Flat cols.length y.length t) {i j : Nat} (hi : i ≤ cols.length) (hj : j ≤ y.length) :
  Ev (fun q => emendateref36_step.f q cols ins sw y t ((y.length + 1 : Nat) : Int) (i : Int) (j : Int) 3) (sv (fun s => tat y.length t (i + s.f2.toNat) (j + s.f3.toNat)) (stC ins y j)) := by
 have hn := G.n
 refine Ev.congr (f := fun q => emendateref36_step.j0 q y t ((y.length + 1 : Nat) : Int) (i : Int) (j : Int) 3 (cols.length : Int) false cols ins sw) (fun q => by unfold emendateref36_step.f; rw [if_neg (by decide)]) ?_
 refine Ev.step (f := fun q => emendateref36_step.j1 q y t ((y.length + 1 : Nat) : Int) (i : Int) (j : Int) 3 false cols ins sw) (fun q => by simp only [emendateref36_step.j0]; rw [if_neg (by simp), if_neg (by decide)]) ?_
 refine Ev.step (f := fun q => emendateref36_step.j2 q y t ((y.length + 1 : Nat) : Int) (i : Int) (j : Int) 3 (decide ((j : Int) < (y.length : Int))) cols ins sw) (fun q => by simp only [emendateref36_step.j1]; rw [if_neg (by simp), if_pos trivial]) ?_
 by_cases h2 : j < y.length
 ·
  rw [decide_eq_true (by omega)]
  have hp := hy _ (List.getElem_mem h2)
  have hr := rdi y j h2
  have e : stC ins y j = [⟨⟨3, rd y (j : Int)⟩, rd ins (rd y (j : Int)), 0, 1⟩] := by unfold stC; rw [if_pos h2]
  rw [e]
  refine Ev.step (f := fun _ => some (addE (rd ins (rd y (j : Int))) (tat y.length t i (j + 1)))) (fun q => ?_) (Ev.now _)
  simp only [emendateref36_step.j2]
  rw [if_pos trivial, if_pos (by omega), if_pos (by omega), if_pos (by omega), if_pos (by omega), ix_w (n := cols.length) (by omega) hm hi hj, w1 _ _ (ix_big (n := cols.length) (by omega) hm hi hj), if_pos (Int.natCast_nonneg _), if_pos (ht.lt hi h2)]
  rfl
 ·
  rw [decide_eq_false (by omega)]
  have e : stC ins y j = [] := by unfold stC; rw [if_neg h2]
  rw [e]
  exact rj2_no (by decide)
set_option maxHeartbeats 4000000 in
theorem rstepD (G : Good cols ins sw) (hm : y.length ≤ 1000) {t : List Int} (ht : Flat cols.length y.length t) {i j : Nat} (hi : i ≤ cols.length) (hj : j ≤ y.length) :
  Ev (fun q => emendateref36_step.f q cols ins sw y t ((y.length + 1 : Nat) : Int) (i : Int) (j : Int) 4) (sv (fun s => tat y.length t (i + s.f2.toNat) (j + s.f3.toNat)) (stD cols sw y i j)) := by
 have hn := G.n
 refine Ev.congr (f := fun q => emendateref36_step.j0 q y t ((y.length + 1 : Nat) : Int) (i : Int) (j : Int) 4 (cols.length : Int) false cols ins sw) (fun q => by unfold emendateref36_step.f; rw [if_neg (by decide)]) ?_
 refine Ev.step (f := fun q => emendateref36_step.j1 q y t ((y.length + 1 : Nat) : Int) (i : Int) (j : Int) 4 false cols ins sw) (fun q => by simp only [emendateref36_step.j0]; rw [if_neg (by simp), if_neg (by decide)]) ?_
 refine Ev.step (f := fun q => emendateref36_step.j2 q y t ((y.length + 1 : Nat) : Int) (i : Int) (j : Int) 4 false cols ins sw) (fun q => by simp only [emendateref36_step.j1]; rw [if_neg (by simp), if_neg (by decide)]) ?_
 have hsw := rswp (ins := ins) (sw := sw) (cols := cols) (by omega) i hi
 have w3 : wrap64 ((j : Int) + 1) = (j : Int) + 1 := by unfold wrap64; omega
 have w4 : wrap64 ((i : Int) + 1) = (i : Int) + 1 := by unfold wrap64; omega
 by_cases hs : swp cols sw i
 ·
  rw [decide_eq_true hs] at hsw
  have h2 := hs.2.1
  by_cases h1 : j + 1 < y.length
  ·
   have c1 : (j : Int) + 1 < (y.length : Int) := by omega
   have c2 : 0 ≤ (j : Int) := by omega
   have c3 : (j : Int) < (y.length : Int) := by omega
   have c4 : 0 ≤ (i : Int) + 1 := by omega
   have c5 : (i : Int) + 1 < (cols.length : Int) := by omega
   have c6 : 0 ≤ (j : Int) + 1 := by omega
   have c7 : 0 ≤ (i : Int) := by omega
   have c8 : (i : Int) < (cols.length : Int) := by omega
   have c9 : cols.length ≤ 10 := by omega
   have i2 : i + 2 ≤ cols.length := by omega
   have j2 : j + 2 ≤ y.length := by omega
   have w0 : wrap64 ((i : Int) + 2) = ((i + 2 : Nat) : Int) := by unfold wrap64; omega
   by_cases h3 : rd y (j : Int) = (rd_T33 cols ((i : Int) + 1)).f0
   ·
    by_cases h4 : rd y ((j : Int) + 1) = (rd_T33 cols (i : Int)).f0
    ·
     have e : stD cols sw y i j = [⟨⟨4, 0⟩, sw, 2, 2⟩] := by unfold stD; rw [if_pos ⟨h1, hs, h3.symm, h4.symm⟩]
     rw [e]
     refine Ev.step (f := fun _ => some (addE sw (tat y.length t (i + 2) (j + 2)))) (fun q => ?_) (Ev.now _)
     simp only [emendateref36_step.j2]
     rw [if_neg (by simp), if_pos trivial, hsw, Option.bind_some, if_pos rfl, w3, w4, if_pos c1, if_pos c2, if_pos c3, if_pos c4, if_pos c5, if_pos h3, if_pos c6, if_pos c7, if_pos c8, if_pos h4, w0, ix_w (n := cols.length) c9 hm i2 hj, w2 _ _ (ix_big (n := cols.length) c9 hm i2 hj), if_pos (Int.natCast_nonneg _), if_pos (ht.lt i2 j2)]
     rfl
    ·
     have e : stD cols sw y i j = [] := by unfold stD; rw [if_neg (fun h => h4 h.2.2.2.symm)]
     rw [e]
     refine Ev.step (f := fun _ => some 1099511627776) (fun q => ?_) (Ev.now _)
     simp only [emendateref36_step.j2]
     rw [if_neg (by simp), if_pos trivial, hsw, Option.bind_some, if_pos rfl, w3, w4, if_pos c1, if_pos c2, if_pos c3, if_pos c4, if_pos c5, if_pos h3, if_pos c6, if_pos c7, if_pos c8, if_neg h4]
   ·
    have e : stD cols sw y i j = [] := by unfold stD; rw [if_neg (fun h => h3 h.2.2.1.symm)]
    rw [e]
    refine Ev.step (f := fun _ => some 1099511627776) (fun q => ?_) (Ev.now _)
    simp only [emendateref36_step.j2]
    rw [if_neg (by simp), if_pos trivial, hsw, Option.bind_some, if_pos rfl, w3, w4, if_pos c1, if_pos c2, if_pos c3, if_pos c4, if_pos c5, if_neg h3]
  ·
   have e : stD cols sw y i j = [] := by unfold stD; rw [if_neg (fun h => h1 h.1)]
   rw [e]
   refine Ev.step (f := fun _ => some 1099511627776) (fun q => ?_) (Ev.now _)
   simp only [emendateref36_step.j2]
   rw [if_neg (by simp), if_pos trivial, hsw, Option.bind_some, if_pos rfl, w3, if_neg (by omega)]
 ·
  rw [decide_eq_false hs] at hsw
  have e : stD cols sw y i j = [] := by unfold stD; rw [if_neg (fun h => hs h.2.1)]
  rw [e]
  refine Ev.step (f := fun _ => some 1099511627776) (fun q => ?_) (Ev.now _)
  simp only [emendateref36_step.j2]
  rw [if_neg (by simp), if_pos trivial, hsw, Option.bind_some, if_neg (by simp)]

/-! ### The table -/
/-- From place (i, j) on the flat table holds the least costs. -/
def TabF (cols : List S33) (ins : List Int) (sw : Int) (y t : List Int) (i j : Nat) : Prop := Flat cols.length y.length t ∧ ∀ i' j', (i < i' ∨ i = i' ∧ j ≤ j') → i' ≤ cols.length → j' ≤ y.length → tat y.length t i' j' = Dd cols ins sw y i' j'
theorem Dd_rng (G : Good cols ins sw) (hy : Proper ins y) {i j : Nat} (hi : i ≤ cols.length) (hj : j ≤ y.length) : 0 ≤ Dd cols ins sw y i j ∧ Dd cols ins sw y i j ≤ 1099511627776 := by
 have := Dd_isD G hy (cols.length + y.length) i j hi hj (by omega)
 exact ⟨this.lo, this.hi⟩
theorem steps_end {i j : Nat} (hi : cols.length ≤ i) (hj : y.length ≤ j) : stA cols y i j = [] ∧ stB cols i = [] ∧ stC ins y j = [] ∧ stD cols sw y i j = [] := by
 refine ⟨?_, ?_, ?_, ?_⟩
 ·
  unfold stA; rw [if_neg (by omega)]
 ·
  unfold stB; rw [if_neg (by omega)]
 ·
  unfold stC; rw [if_neg (by omega)]
 ·
  unfold stD; rw [if_neg (by omega)]
theorem rbest (G : Good cols ins sw) (hy : Proper ins y) {t : List Int} {i j : Nat} (hi : i ≤ cols.length) (hj : j ≤ y.length) (hT : TabF cols ins sw y t i (j + 1)) {b : Int} (hb : b = if i = cols.length ∧ j = y.length then 0 else 1099511627776) :
  mn (mn (mn (mn b (sv (fun s => tat y.length t (i + s.f2.toNat) (j + s.f3.toNat)) (stA cols y i j))) (sv (fun s => tat y.length t (i + s.f2.toNat) (j + s.f3.toNat)) (stB cols i))) (sv (fun s => tat y.length t (i + s.f2.toNat) (j + s.f3.toNat)) (stC ins y j))) (sv (fun s => tat y.length t (i + s.f2.toNat) (j + s.f3.toNat)) (stD cols sw y i j)) = Dd cols ins sw y i j := by
 have hD := Dd_eq (ins := ins) (sw := sw) hi hj
 by_cases he : i = cols.length ∧ j = y.length
 ·
  rw [if_pos he] at hb hD
  obtain ⟨e1, e2, e3, e4⟩ := steps_end (cols := cols) (y := y) (ins := ins) (sw := sw) (i := i) (j := j) (by omega) (by omega)
  rw [e1, e2, e3, e4, hb, hD]
  rfl
 ·
  rw [if_neg he] at hb hD
  have h4 := four (cols := cols) (ins := ins) (sw := sw) (y := y) (fun s => tat y.length t (i + s.f2.toNat) (j + s.f3.toNat)) (b := b) (by omega) (i := i) (j := j)
  refine h4.symm.trans ?_
  rw [hD, hb]
  refine foldS_congr _ _ fun s hs => ?_
  obtain ⟨a, c, ha, hc, h1, h2, h3⟩ := steps_mem hi hj hs
  rw [ha, hc, Int.toNat_natCast, Int.toNat_natCast]
  exact hT.2 (i + a) (j + c) (by omega) h2 h3
theorem rl2_ev (G : Good cols ins sw) (hy : Proper ins y) (hm : y.length ≤ 1000) {t : List Int} {i j : Nat} (hi : i ≤ cols.length) (hj : j ≤ y.length) (hT : TabF cols ins sw y t i (j + 1)) {b : Int} (hb : b = if i = cols.length ∧ j = y.length then 0 else 1099511627776) {r : List Int}
  (H : Ev (fun q => emendateref36_table.l1 q y (cols.length : Int) ((y.length + 1 : Nat) : Int) (t.set (i * (y.length + 1) + j) (Dd cols ins sw y i j)) (i : Int) ((j : Int) - 1) cols ins sw) r) :
  Ev (fun q => emendateref36_table.l2 q y (cols.length : Int) ((y.length + 1 : Nat) : Int) t (i : Int) (j : Int) b 1 cols ins sw) r := by
 have hn := G.n
 have w3 : wrap64 ((j : Int) - 1) = (j : Int) - 1 := by unfold wrap64; omega
 have eA := rstepA (t := t) G hy hm hT.1 hi hj
 have eB := rstepB (t := t) G hm hT.1 hi hj (fun h => by rw [hT.2 (i + 1) j (by omega) h hj]; exact Dd_rng G hy h hj)
 have eC := rstepC (t := t) G hy hm hT.1 hi hj
 have eD := rstepD (t := t) G hm hT.1 hi hj
 have hbest := rbest G hy hi hj hT hb
 generalize sv (fun s => tat y.length t (i + s.f2.toNat) (j + s.f3.toNat)) (stA cols y i j) = vA at *
 generalize sv (fun s => tat y.length t (i + s.f2.toNat) (j + s.f3.toNat)) (stB cols i) = vB at *
 generalize sv (fun s => tat y.length t (i + s.f2.toNat) (j + s.f3.toNat)) (stC ins y j) = vC at *
 generalize sv (fun s => tat y.length t (i + s.f2.toNat) (j + s.f3.toNat)) (stD cols sw y i j) = vD at *
 have step : ∀ (x : Int) (v c : Int), x ≤ 4 → Ev (fun q => emendateref36_step.f q cols ins sw y t ((y.length + 1 : Nat) : Int) (i : Int) (j : Int) x) v → Ev (fun q => emendateref36_table.l2 q y (cols.length : Int) ((y.length + 1 : Nat) : Int) t (i : Int) (j : Int) (mn c v) (wrap64 (x + 1)) cols ins sw) r → Ev (fun q => emendateref36_table.l2 q y (cols.length : Int) ((y.length + 1 : Nat) : Int) t (i : Int) (j : Int) c x cols ins sw) r := fun x v c hx hv hr => by
  refine Ev.succ (g := fun q => emendateref36_table.l2 q y (cols.length : Int) ((y.length + 1 : Nat) : Int) t (i : Int) (j : Int) c x cols ins sw) ?_
  simp only [emendateref36_table.l2]
  exact Ev.congr (fun q => by rw [if_pos hx]) (Ev.bind hv hr)
 have x2 : wrap64 (1 + 1) = 2 := by unfold wrap64; omega
 have x3 : wrap64 (2 + 1) = 3 := by unfold wrap64; omega
 have x4 : wrap64 (3 + 1) = 4 := by unfold wrap64; omega
 have x5 : wrap64 (4 + 1) = 5 := by unfold wrap64; omega
 refine step 1 vA b (by decide) eA ?_
 rw [x2]
 refine step 2 vB _ (by decide) eB ?_
 rw [x3]
 refine step 3 vC _ (by decide) eC ?_
 rw [x4]
 refine step 4 vD _ (by decide) eD ?_
 rw [x5, hbest]
 refine Ev.step (fun q => ?_) H
 simp only [emendateref36_table.l2]
 rw [if_neg (by decide), ix_w (n := cols.length) (by omega) hm hi hj, w3, if_pos (Int.natCast_nonneg _), if_pos (hT.1.lt hi hj), Int.toNat_natCast]
theorem tabF_set (G : Good cols ins sw) {t : List Int} {i j : Nat} (hi : i ≤ cols.length) (hj : j ≤ y.length) (hT : TabF cols ins sw y t i (j + 1)) : TabF cols ins sw y (t.set (i * (y.length + 1) + j) (Dd cols ins sw y i j)) i j := by
 refine ⟨(List.length_set ..).trans hT.1, fun i' j' h h1 h2 => ?_⟩
 unfold tat
 by_cases he : i' = i ∧ j' = j
 ·
  rw [he.1, he.2]
  exact rd_set_eq _ _ _ (by rw [show t.length = _ from hT.1]; exact ix_lt hi hj)
 ·
  rw [rd_set_ne _ _ _ _ (fun e => he (by have := ix_inj hj h2 e; omega))]
  exact hT.2 i' j' (by omega) h1 h2
theorem rl1_ev (G : Good cols ins sw) (hy : Proper ins y) (hm : y.length ≤ 1000) {i : Nat} (hi : i ≤ cols.length) : ∀ (j1 : Nat) (t : List Int), j1 ≤ y.length + 1 → TabF cols ins sw y t i j1 → ∃ t', TabF cols ins sw y t' i 0 ∧ ∀ r, Ev (fun q => emendateref36_table.l0 q y (cols.length : Int) ((y.length + 1 : Nat) : Int) t' ((i : Int) - 1) cols ins sw) r → Ev (fun q => emendateref36_table.l1 q y (cols.length : Int) ((y.length + 1 : Nat) : Int) t (i : Int) ((j1 : Int) - 1) cols ins sw) r
 | 0, t, hj1, hT => ⟨t, hT, fun r H => Ev.step (fun q => by
   have hw : wrap64 ((i : Int) - 1) = (i : Int) - 1 := by have := G.n; unfold wrap64; omega
   simp only [emendateref36_table.l1]
   rw [if_neg (by omega), hw]) H⟩
 | j + 1, t, hj1, hT => by
  obtain ⟨t', h1, h2⟩ := rl1_ev G hy hm hi j _ (by omega) (tabF_set G hi (by omega) hT)
  refine ⟨t', h1, fun r H => ?_⟩
  have hjc : (((j + 1 : Nat) : Int) - 1) = (j : Int) := by omega
  have j3 : ∀ b, b = (if i = cols.length ∧ j = y.length then 0 else 1099511627776) → Ev (fun q => emendateref36_table.j3 q y (cols.length : Int) ((y.length + 1 : Nat) : Int) t (i : Int) (j : Int) b cols ins sw) r := fun b hb => Ev.step (fun q => by simp only [emendateref36_table.j3]) (rl2_ev G hy hm hi (by omega) hT hb (h2 r H))
  by_cases he : i = cols.length ∧ j = y.length
  ·
   refine Ev.step (f := fun q => emendateref36_table.j2 q y (cols.length : Int) ((y.length + 1 : Nat) : Int) t (i : Int) (j : Int) 1099511627776 true cols ins sw) (fun q => ?_) (Ev.step (fun q => by simp only [emendateref36_table.j2]; rw [if_pos trivial]) (j3 0 (by rw [if_pos he])))
   simp only [emendateref36_table.l1]
   have e2 : ((j : Int) == (y.length : Int)) = true := by rw [he.2]; simp
   rw [hjc, if_pos (by omega), if_pos (by omega), e2]
  ·
   refine Ev.step (f := fun q => emendateref36_table.j2 q y (cols.length : Int) ((y.length + 1 : Nat) : Int) t (i : Int) (j : Int) 1099511627776 false cols ins sw) (fun q => ?_) (Ev.step (fun q => by simp only [emendateref36_table.j2]; rw [if_neg (by simp)]) (j3 1099511627776 (by rw [if_neg he])))
   simp only [emendateref36_table.l1]
   rw [hjc, if_pos (by omega)]
   by_cases h5 : i = cols.length
   ·
    have e2 : ((j : Int) == (y.length : Int)) = false := by simp; omega
    rw [if_pos (by omega), e2]
   ·
    rw [if_neg (by omega)]
theorem rl0_ev (G : Good cols ins sw) (hy : Proper ins y) (hm : y.length ≤ 1000) : ∀ (i1 : Nat) (t : List Int), i1 ≤ cols.length + 1 → Flat cols.length y.length t → (∀ i' j', i1 ≤ i' → i' ≤ cols.length → j' ≤ y.length → tat y.length t i' j' = Dd cols ins sw y i' j') → ∃ t', TabF cols ins sw y t' 0 0 ∧ Ev (fun q => emendateref36_table.l0 q y (cols.length : Int) ((y.length + 1 : Nat) : Int) t ((i1 : Int) - 1) cols ins sw) t'
 | 0, t, hi1, hl, hT => ⟨t, ⟨hl, fun i' j' _ h1 h2 => hT i' j' (Nat.zero_le _) h1 h2⟩, Ev.step (f := fun _ => some t) (fun q => by simp only [emendateref36_table.l0]; rw [if_neg (by omega)]) (Ev.now _)⟩
 | i + 1, t, hi1, hl, hT => by
  have hT2 : TabF cols ins sw y t i (y.length + 1) := ⟨hl, fun i' j' h h1 h2 => hT i' j' (by omega) h1 h2⟩
  obtain ⟨t1, h1, h2⟩ := rl1_ev G hy hm (show i ≤ cols.length by omega) (y.length + 1) t (Nat.le_refl _) hT2
  obtain ⟨t', h3, h4⟩ := rl0_ev G hy hm i t1 (by omega) h1.1 (fun i' j' k1 k2 k3 => h1.2 i' j' (by omega) k2 k3)
  refine ⟨t', h3, Ev.step (fun q => ?_) (h2 t' h4)⟩
  have hic : (((i + 1 : Nat) : Int) - 1) = (i : Int) := by omega
  have hjc : (((y.length + 1 : Nat) : Int) - 1) = (y.length : Int) := by omega
  simp only [emendateref36_table.l0]
  rw [hic, if_pos (by omega), hjc]
theorem rtable_ev (G : Good cols ins sw) (hy : Proper ins y) (hm : y.length ≤ 1000) : ∃ t, TabF cols ins sw y t 0 0 ∧ Ev (fun q => emendateref36_table.f q cols ins sw y) t := by
 have hn := G.n
 have l2 : (cols.length + 1) * (y.length + 1) ≤ 11 * 1001 := Nat.mul_le_mul (show cols.length + 1 ≤ 11 by omega) (show y.length + 1 ≤ 1001 by omega)
 obtain ⟨t, h1, h2⟩ := rl0_ev G hy hm (cols.length + 1) (List.replicate ((cols.length + 1) * (y.length + 1)) 0) (Nat.le_refl _) (List.length_replicate ..) (fun i' j' h h' => by omega)
 refine ⟨t, h1, Ev.congr (fun q => ?_) h2⟩
 unfold emendateref36_table.f
 have hic : (((cols.length + 1 : Nat) : Int) - 1) = (cols.length : Int) := by omega
 rw [wnat cols.length (by omega), wnat y.length (by omega), ← Int.natCast_mul, hic]
 generalize (cols.length + 1) * (y.length + 1) = z at *
 rw [wz z (by omega), if_pos (Int.natCast_nonneg _), Int.toNat_natCast, if_pos (by omega)]
theorem rdist_ev (G : Good cols ins sw) (hm : y.length ≤ 1000) : Ev (fun q => emendateref36_Distance.f q cols ins sw y) (distE cols ins sw y) := by
 have hp := terms_ev cols ins sw y (by omega)
 by_cases hy : Proper ins y
 ·
  obtain ⟨t, h1, h3⟩ := rtable_ev G hy hm
  have h4 : rd t 0 = Dd cols ins sw y 0 0 := by
   have := h1.2 0 0 (Or.inr ⟨rfl, Nat.le_refl _⟩) (Nat.zero_le _) (Nat.zero_le _)
   unfold tat at this
   simpa using this
  have h5 : 0 < (t.length : Int) := by
   have := h1.1.lt (Nat.zero_le _) (Nat.zero_le _)
   simpa using this
  rw [decide_eq_true hy] at hp
  have e : distE cols ins sw y = rd t 0 := by unfold distE; rw [if_pos hy, h4]
  rw [e]
  refine Ev.congr (fun k => rfl) (Ev.bind hp (Ev.congr (fun k => by rw [if_pos rfl]) (Ev.bind h3 (Ev.congr (f := fun _ => some (rd t 0)) (fun k => ?_) (Ev.now _)))))
  rw [if_pos h5]
 ·
  rw [decide_eq_false hy] at hp
  have e : distE cols ins sw y = 1099511627776 := by unfold distE; rw [if_neg hy]
  rw [e]
  exact Ev.congr (fun k => rfl) (Ev.bind hp (Ev.congr (f := fun _ => some 1099511627776) (fun k => by rw [if_neg (by simp)]) (Ev.now _)))
end
end Go.Proofs.YtnddijafdphbnaaDoor.All
end
