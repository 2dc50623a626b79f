/- A script, read as a way through the tokens: what it emits, what it costs. Plain Lean, no program in sight. -/
import Derived.Test.YtnddijafdphbnaaDoorAllPf
import Derived.Test.YtnddijafdphbnaaDoorAllPc
import Derived.Test.YtnddijafdphbnaaDoorAllx9
import Derived.Test.YtnddijafdphbnaaDoorAllx10
import Derived.Test.YtnddijafdphbnaaDoorAllPd
import Derived.Test.YtnddijafdphbnaaDoorAllx2
namespace Go.Proofs.YtnddijafdphbnaaDoor.All
open Go.RowKit Go.Proofs.YtnddijafdphbnaaDoorW.PrintWords Go.Proofs.YtnddijafdphbnaaDoorW.PrintLast Go.Proofs.YtnddijafdphbnaaDoorW.PrintMore
set_option linter.unusedVariables false
set_option linter.unusedSimpArgs false

theorem Ev.succ {α : Type} {g : Nat → Option α} {r : α} (h : Ev (fun k => g (k + 1)) r) : Ev g r := Ev.step (fun k => rfl) h
/-- A script that reads the tokens as the terminals, and what it costs. -/
inductive SP (ins : List Int) (sw : Int) : List S49 → List S33 → List Int → Int → Prop
 | nil : SP ins sw [] [] [] 0
 | read {c : S33} {t : Int} {m : List S49} {l : List S33} {y : List Int} {d : Int} (h0 : 0 ≤ t) (h1 : t < (c.f1.length : Int)) (h : 0 ≤ rd c.f1 t) : SP ins sw m l y d → SP ins sw (⟨1, t⟩ :: m) (c :: l) (t :: y) (rd c.f1 t + d)
 | del {c : S33} {m : List S49} {l : List S33} {y : List Int} {d : Int} (h : c.f2 < 1099511627776) : SP ins sw m l y d → SP ins sw (⟨2, 0⟩ :: m) (c :: l) y (c.f2 + d)
 | ins {t : Int} {m : List S49} {l : List S33} {y : List Int} {d : Int} (h0 : 0 ≤ t) (h1 : t < (ins.length : Int)) : SP ins sw m l y d → SP ins sw (⟨3, t⟩ :: m) l (t :: y) (rd ins t + d)
 | swap {c e : S33} {m : List S49} {l : List S33} {y : List Int} {d : Int} (h0 : 0 < sw) (h1 : 0 ≤ c.f0) (h2 : 0 ≤ e.f0) : SP ins sw m l y d → SP ins sw (⟨4, 0⟩ :: m) (c :: e :: l) (e.f0 :: c.f0 :: y) (sw + d)
theorem SP.cast {ins : List Int} {sw : Int} {m p : List S49} {a b : List S33} {y z : List Int} {c d : Int} (h : SP ins sw m a y c) (h0 : m = p) (h1 : a = b) (h2 : y = z) (h3 : c = d) : SP ins sw p b z d := by subst h0 h1 h2 h3; exact h
theorem SP.path {ins : List Int} {sw : Int} {m : List S49} {a : List S33} {y : List Int} {c : Int} (h : SP ins sw m a y c) : Path ins sw a y c := by
 induction h with
 | nil => exact Path.nil
 | read _ _ h _ ih => exact Path.read h ih
 | del h _ ih => exact Path.del h ih
 | ins _ _ _ ih => exact Path.ins ih
 | swap h0 h1 h2 _ ih => exact Path.swap h0 h1 h2 ih

section
variable {cols : List S33} {ins : List Int} {sw : Int} {y : List Int}
theorem SP.proper {m : List S49} {a : List S33} {d : Int} (h : SP ins sw m a y d) (hg : ∀ c ∈ a, GoodC ins.length c) : Proper ins y := by
 induction h with
 | nil => intro t ht; cases ht
 | read h0 h1 h _ ih =>
  intro t ht
  have g := (hg _ List.mem_cons_self).row
  rcases List.mem_cons.1 ht with rfl | ht
  ·
   exact ⟨h0, by omega⟩
  ·
   exact ih (fun c hc => hg c (List.mem_cons_of_mem _ hc)) t ht
 | del h _ ih => exact ih (fun c hc => hg c (List.mem_cons_of_mem _ hc))
 | ins h0 h1 _ ih =>
  intro t ht
  rcases List.mem_cons.1 ht with rfl | ht
  ·
   exact ⟨h0, h1⟩
  ·
   exact ih hg t ht
 | swap h0 h1 h2 _ ih =>
  intro t ht
  have g1 := (hg _ List.mem_cons_self).kind1
  have g2 := (hg _ (List.mem_cons_of_mem _ List.mem_cons_self)).kind1
  rcases List.mem_cons.1 ht with rfl | ht
  ·
   exact ⟨h2, g2⟩
  ·
   rcases List.mem_cons.1 ht with rfl | ht
   ·
    exact ⟨h1, g1⟩
   ·
    exact ih (fun c hc => hg c (List.mem_cons_of_mem _ (List.mem_cons_of_mem _ hc))) t ht
theorem SP.lo (G : Good cols ins sw) {m : List S49} {a : List S33} {d : Int} (h : SP ins sw m a y d) (hg : ∀ c ∈ a, GoodC ins.length c) : 0 ≤ d := by
 induction h with
 | nil => exact Int.le_refl _
 | read h0 h1 h _ ih =>
  have := ih (fun c hc => hg c (List.mem_cons_of_mem _ hc))
  omega
 | del h _ ih =>
  have := ih (fun c hc => hg c (List.mem_cons_of_mem _ hc))
  have := (hg _ List.mem_cons_self).del0
  omega
 | @ins t _ _ _ _ h0 h1 _ ih =>
  have := ih hg
  have h2 := (G.insb t.toNat (by omega)).1
  rw [Int.toNat_of_nonneg h0] at h2
  omega
 | swap h0 h1 h2 _ ih =>
  have := ih (fun c hc => hg c (List.mem_cons_of_mem _ (List.mem_cons_of_mem _ hc)))
  omega
theorem Good.drop (G : Good cols ins sw) (i : Nat) : ∀ c ∈ cols.drop i, GoodC ins.length c := fun c hc => G.col c (List.mem_of_mem_drop hc)

/-! ### Running a script -/
def sat (c d : Int) : Int := if c + d < 1099511627776 then c + d else 1099511627776
theorem addE_sat {a b : Int} (ha : 0 ≤ a ∧ a ≤ 1099511627776) (hb : 0 ≤ b ∧ b ≤ 60000) : addE a b = sat a b := by
 have : wrap64 (a + b) = a + b := by unfold wrap64; omega
 unfold addE mn sat
 rw [this]
 split <;> split <;> omega
theorem sat_sat {c x d : Int} (hx : 0 ≤ x) (hd : 0 ≤ d) (hc : 0 ≤ c) : sat (sat c x) d = sat c (x + d) := by
 unfold sat
 split <;> split <;> split <;> omega
theorem sat_rng {c x : Int} (hx : 0 ≤ x) (hc : 0 ≤ c) : 0 ≤ sat c x ∧ sat c x ≤ 1099511627776 := by
 unfold sat
 split <;> omega
theorem act_inv {k t : Int} {s s1 : RS} (h : actE cols ins sw k t s = some s1) :
  (k = 1 ∧ (s.1 < cols.length ∧ 0 ≤ t ∧ t < ((rd_T33 cols (s.1 : Int)).f1.length : Int) ∧ 0 ≤ rd (rd_T33 cols (s.1 : Int)).f1 t) ∧ s1 = (s.1 + 1, s.2.1 ++ [t], addE s.2.2 (rd (rd_T33 cols (s.1 : Int)).f1 t))) ∨
  (k = 2 ∧ (s.1 < cols.length ∧ t = 0 ∧ (rd_T33 cols (s.1 : Int)).f2 < 1099511627776) ∧ s1 = (s.1 + 1, s.2.1, addE s.2.2 (rd_T33 cols (s.1 : Int)).f2)) ∨
  (k = 3 ∧ (0 ≤ t ∧ t < (ins.length : Int)) ∧ s1 = (s.1, s.2.1 ++ [t], addE s.2.2 (rd ins t))) ∨
  (k = 4 ∧ (t = 0 ∧ swp cols sw s.1) ∧ s1 = (s.1 + 2, s.2.1 ++ [(rd_T33 cols ((s.1 : Int) + 1)).f0, (rd_T33 cols (s.1 : Int)).f0], addE s.2.2 sw)) := by
 by_cases h1 : k = 1
 ·
  rw [act1 h1] at h
  split at h
  ·
   exact Or.inl ⟨h1, by assumption, (Option.some.inj h).symm⟩
  ·
   cases h
 by_cases h2 : k = 2
 ·
  rw [act2 h2] at h
  split at h
  ·
   exact Or.inr (Or.inl ⟨h2, by assumption, (Option.some.inj h).symm⟩)
  ·
   cases h
 by_cases h3 : k = 3
 ·
  rw [act3 h3] at h
  split at h
  ·
   exact Or.inr (Or.inr (Or.inl ⟨h3, by assumption, (Option.some.inj h).symm⟩))
  ·
   cases h
 by_cases h4 : k = 4
 ·
  rw [act4 h4] at h
  split at h
  ·
   exact Or.inr (Or.inr (Or.inr ⟨h4, by assumption, (Option.some.inj h).symm⟩))
  ·
   cases h
 ·
  rw [act0 h1 h2 h3 h4] at h
  cases h
theorem run_sp (G : Good cols ins sw) : ∀ (m : List S49) (s s' : RS), runAll cols ins sw m s = some s' → s'.1 = cols.length → s.1 ≤ cols.length → 0 ≤ s.2.2 → s.2.2 ≤ 1099511627776 → ∃ z d, s'.2.1 = s.2.1 ++ z ∧ SP ins sw m (cols.drop s.1) z d ∧ s'.2.2 = sat s.2.2 d
 | [], s, s', h, h1, h2, h3, h4 => by
  simp only [runAll, Option.some.injEq] at h
  subst h
  refine ⟨[], 0, by simp, SP.nil.cast rfl (List.drop_eq_nil_of_le (by omega)).symm rfl rfl, ?_⟩
  unfold sat
  split <;> omega
 | ⟨k, t⟩ :: m, s, s', h, h1, h2, h3, h4 => by
  simp only [runAll] at h
  cases ha : actE cols ins sw k t s with
  | none => rw [ha] at h; cases h
  | some s1 =>
   rw [ha, Option.bind_some] at h
   have hs1 := (actE_len ha).2 h2
   have fin : ∀ x, 0 ≤ x ∧ x ≤ 60000 → s1.2.2 = addE s.2.2 x → 0 ≤ s1.2.2 ∧ s1.2.2 ≤ 1099511627776 ∧ ∀ d, 0 ≤ d → sat s1.2.2 d = sat s.2.2 (x + d) := fun x hx e => by
    rw [addE_sat ⟨h3, h4⟩ hx] at e
    have := sat_rng hx.1 h3
    exact ⟨by omega, by omega, fun d hd => by rw [e, sat_sat hx.1 hd h3]⟩
   rcases act_inv ha with ⟨rfl, ⟨c1, c2, c3, c4⟩, rfl⟩ | ⟨rfl, ⟨c1, rfl, c3⟩, rfl⟩ | ⟨rfl, ⟨c1, c2⟩, rfl⟩ | ⟨rfl, ⟨rfl, c1⟩, rfl⟩
   ·
    have g := G.col _ (List.getElem_mem c1)
    rw [rdn cols _ c1] at c3 c4
    have hx : 0 ≤ rd (cols[s.1]).f1 t ∧ rd (cols[s.1]).f1 t ≤ 60000 := by
     have := g.rd_le t.toNat (by have := g.row; omega)
     rw [Int.toNat_of_nonneg c2] at this
     exact ⟨c4, this.2⟩
    obtain ⟨f1, f2, f3⟩ := fin _ hx (by rw [rdn cols _ c1])
    obtain ⟨z, d, e1, e2, e3⟩ := run_sp G m _ s' h h1 hs1 f1 f2
    refine ⟨t :: z, _, by rw [e1]; simp, (SP.read c2 c3 c4 e2).cast rfl (drop_cons c1).symm rfl rfl, ?_⟩
    rw [e3, f3 d (e2.lo G (G.drop _))]
   ·
    have g := G.col _ (List.getElem_mem c1)
    rw [rdn cols _ c1] at c3
    have hx : 0 ≤ (cols[s.1]).f2 ∧ (cols[s.1]).f2 ≤ 60000 := by
     have := g.del0
     have := g.del1
     omega
    obtain ⟨f1, f2, f3⟩ := fin _ hx (by rw [rdn cols _ c1])
    obtain ⟨z, d, e1, e2, e3⟩ := run_sp G m _ s' h h1 hs1 f1 f2
    refine ⟨z, _, e1, (SP.del c3 e2).cast rfl (drop_cons c1).symm rfl rfl, ?_⟩
    rw [e3, f3 d (e2.lo G (G.drop _))]
   ·
    have hx : 0 ≤ rd ins t ∧ rd ins t ≤ 60000 := by
     have := G.insb t.toNat (by omega)
     rw [Int.toNat_of_nonneg c1] at this
     omega
    obtain ⟨f1, f2, f3⟩ := fin _ hx rfl
    obtain ⟨z, d, e1, e2, e3⟩ := run_sp G m _ s' h h1 hs1 f1 f2
    refine ⟨t :: z, _, by rw [e1]; simp, SP.ins c1 c2 e2, ?_⟩
    rw [e3, f3 d (e2.lo G (G.drop _))]
   ·
    obtain ⟨s0, s1, s2, s3⟩ := c1
    have e0 : ((s.1 : Int) + 1) = ((s.1 + 1 : Nat) : Int) := by omega
    have c0 : s.1 < cols.length := by omega
    obtain ⟨f1, f2, f3⟩ := fin _ ⟨G.sw0, G.sw1⟩ rfl
    obtain ⟨z, d, e1, e2, e3⟩ := run_sp G m _ s' h h1 hs1 f1 f2
    rw [rdn cols _ c0] at s2
    rw [e0, rdn cols _ s1] at s3
    refine ⟨(cols[s.1 + 1]).f0 :: (cols[s.1]).f0 :: z, _, ?_, (SP.swap s0 s2 s3 e2).cast rfl ?_ rfl rfl, ?_⟩
    ·
     rw [e1, e0, rdn cols _ s1, rdn cols _ c0]
     simp
    ·
     rw [drop_cons c0, drop_cons s1]
    ·
     rw [e3, f3 d (e2.lo G (G.drop _))]
theorem runE_sp (G : Good cols ins sw) {m : List S49} {d : Int} (h : runE cols ins sw m = some (y, d)) : ∃ e, SP ins sw m cols y e ∧ d = sat 0 e := by
 unfold runE at h
 cases hr : runAll cols ins sw m (0, [], 0) with
 | none => rw [hr] at h; cases h
 | some s =>
  rw [hr, Option.bind_some] at h
  split at h
  ·
   rename_i hn
   obtain ⟨z, e, e1, e2, e3⟩ := run_sp G m _ s hr hn (Nat.zero_le _) (Int.le_refl _) (by decide)
   have h := Option.some.inj h
   rw [h] at e1 e3
   rw [List.nil_append] at e1
   subst e1
   exact ⟨e, e2, e3⟩
  ·
   cases h
/-! ### Align's script -/
end
theorem runE_len {cols : List S33} {ins : List Int} {sw : Int} {m : List S49} {y : List Int} {d : Int} (h : runE cols ins sw m = some (y, d)) : y.length ≤ 2 * m.length := by
 unfold runE at h
 cases hr : runAll cols ins sw m (0, [], 0) with
 | none => rw [hr] at h; cases h
 | some s =>
  rw [hr, Option.bind_some] at h
  have := (runAll_len hr).1
  split at h
  ·
   have h := Option.some.inj h
   rw [h] at this
   simpa using this
  ·
   cases h
end Go.Proofs.YtnddijafdphbnaaDoor.All
