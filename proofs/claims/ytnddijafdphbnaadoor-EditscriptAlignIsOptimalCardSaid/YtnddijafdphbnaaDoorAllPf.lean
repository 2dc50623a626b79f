/- What the reference's Run answers: the plain fold. Plain Lean, no program in sight. -/
import Derived.Test.YtnddijafdphbnaaDoorAllx14
import Derived.Test.YtnddijafdphbnaaDoorAllPa
import Derived.Test.YtnddijafdphbnaaDoorAllx3
namespace Go.Proofs.YtnddijafdphbnaaDoor.All
open Go.RowKit Go.Proofs.YtnddijafdphbnaaDoorW.PrintWords Go.Proofs.YtnddijafdphbnaaDoorW.PrintLast Go.Proofs.YtnddijafdphbnaaDoorW.PrintMore
set_option linter.unusedVariables false
set_option linter.unusedSimpArgs false

theorem rswp {cols : List S33} {ins : List Int} {sw : Int} (hl : cols.length ≤ 1000000) (a : Nat) (ha : a ≤ cols.length) : emendateref36_swappable.f cols ins sw (a : Int) = some (decide (swp cols sw a)) := by
 unfold emendateref36_swappable.f
 rw [wnat a (by omega)]
 have e1 : ((a + 1 : Nat) : Int) = (a : Int) + 1 := by omega
 by_cases h1 : sw > 0
 ·
  rw [if_pos h1]
  by_cases h2 : a + 1 < cols.length
  ·
   rw [if_pos (by omega), if_pos (by omega), if_pos (by omega)]
   by_cases h3 : (rd_T33 cols (a : Int)).f0 ≥ 0
   ·
    rw [if_pos h3, if_pos (by omega), e1]
    congr 1
    by_cases h4 : (rd_T33 cols ((a : Int) + 1)).f0 ≥ 0
    ·
     rw [decide_eq_true h4, decide_eq_true (show swp cols sw a from ⟨h1, h2, h3, h4⟩)]
    ·
     rw [decide_eq_false h4, decide_eq_false (show ¬ swp cols sw a from fun h => h4 h.2.2.2)]
   ·
    rw [if_neg h3, decide_eq_false (show ¬ swp cols sw a from fun h => h3 h.2.2.1)]
  ·
   rw [if_neg (by omega), decide_eq_false (show ¬ swp cols sw a from fun h => h2 h.2.1)]
 ·
  rw [if_neg h1, decide_eq_false (show ¬ swp cols sw a from fun h => h1 h.1)]

/-- The answer of Run. -/
def rv (cols : List S33) : Option RS → List Int × Int × Bool
 | none => ([], 0, false)
 | some s => if s.1 = cols.length then (s.2.1, s.2.2, true) else ([], 0, false)
section
variable {l : List S49} {cols : List S33} {ins : List Int} {sw : Int} {i at_ k t c : Int} {out : List Int} {b12 b13 : Bool}
theorem j4_no (h4 : k ≠ 4) : Ev (fun q => emendateref36_Run.j4 q l out c at_ i false cols ins sw k t) ([], 0, false) :=
 Ev.step (f := fun _ => some ([], 0, false)) (fun q => by simp only [emendateref36_Run.j4]; rw [if_neg (by simp), if_neg h4]) (Ev.now _)
theorem j3_no (h3 : k ≠ 3) (h4 : k ≠ 4) : Ev (fun q => emendateref36_Run.j3 q l out c at_ i b13 false cols ins sw k t) ([], 0, false) :=
 Ev.step (f := fun q => emendateref36_Run.j4 q l out c at_ i false cols ins sw k t) (fun q => by simp only [emendateref36_Run.j3]; rw [if_neg (by simp), if_neg h3]) (j4_no h4)
theorem j2_no (h2 : k ≠ 2) (h3 : k ≠ 3) (h4 : k ≠ 4) : Ev (fun q => emendateref36_Run.j2 q l out c at_ i b12 b13 false cols ins sw k t) ([], 0, false) :=
 Ev.step (f := fun q => emendateref36_Run.j3 q l out c at_ i b13 false cols ins sw k t) (fun q => by simp only [emendateref36_Run.j2]; rw [if_neg (by simp), if_neg h2]) (j3_no h3 h4)
theorem j1_over (h1 : k ≠ 1) (h2 : k ≠ 2) {r : List Int × Int × Bool} (h : Ev (fun q => emendateref36_Run.j3 q l out c at_ i b13 false cols ins sw k t) r) : Ev (fun q => emendateref36_Run.j1 q l out c at_ i b12 b13 cols ins sw k t) r :=
 Ev.step (f := fun q => emendateref36_Run.j2 q l out c at_ i b12 b13 false cols ins sw k t) (fun q => by simp only [emendateref36_Run.j1]; rw [if_neg h1])
  (Ev.step (f := fun q => emendateref36_Run.j3 q l out c at_ i b13 false cols ins sw k t) (fun q => by simp only [emendateref36_Run.j2]; rw [if_neg (by simp), if_neg h2]) h)
end
theorem act1 {cols : List S33} {ins : List Int} {sw : Int} {k t : Int} {s : RS} (h : k = 1) : actE cols ins sw k t s = if s.1 < cols.length ∧ 0 ≤ t ∧ t < ((rd_T33 cols (s.1 : Int)).f1.length : Int) ∧ 0 ≤ rd (rd_T33 cols (s.1 : Int)).f1 t then some (s.1 + 1, s.2.1 ++ [t], addE s.2.2 (rd (rd_T33 cols (s.1 : Int)).f1 t)) else none := by unfold actE; rw [if_pos h]
theorem act2 {cols : List S33} {ins : List Int} {sw : Int} {k t : Int} {s : RS} (h : k = 2) : actE cols ins sw k t s = if s.1 < cols.length ∧ t = 0 ∧ (rd_T33 cols (s.1 : Int)).f2 < 1099511627776 then some (s.1 + 1, s.2.1, addE s.2.2 (rd_T33 cols (s.1 : Int)).f2) else none := by unfold actE; rw [if_neg (by omega), if_pos h]
theorem act3 {cols : List S33} {ins : List Int} {sw : Int} {k t : Int} {s : RS} (h : k = 3) : actE cols ins sw k t s = if 0 ≤ t ∧ t < (ins.length : Int) then some (s.1, s.2.1 ++ [t], addE s.2.2 (rd ins t)) else none := by unfold actE; rw [if_neg (by omega), if_neg (by omega), if_pos h]
theorem act4 {cols : List S33} {ins : List Int} {sw : Int} {k t : Int} {s : RS} (h : k = 4) : actE cols ins sw k t s = if t = 0 ∧ swp cols sw s.1 then some (s.1 + 2, s.2.1 ++ [(rd_T33 cols ((s.1 : Int) + 1)).f0, (rd_T33 cols (s.1 : Int)).f0], addE s.2.2 sw) else none := by unfold actE; rw [if_neg (by omega), if_neg (by omega), if_neg (by omega), if_pos h]
theorem act0 {cols : List S33} {ins : List Int} {sw : Int} {k t : Int} {s : RS} (h1 : k ≠ 1) (h2 : k ≠ 2) (h3 : k ≠ 3) (h4 : k ≠ 4) : actE cols ins sw k t s = none := by unfold actE; rw [if_neg h1, if_neg h2, if_neg h3, if_neg h4]
theorem j1_ev {l : List S49} {cols : List S33} {ins : List Int} {sw : Int} (G : Good cols ins sw) (k t : Int) (s : RS) (i : Nat) (hi : i ≤ 1000) (hs : s.1 ≤ cols.length) (ho : s.2.1.length ≤ 10000) {r : List Int × Int × Bool}
  (IH : ∀ s', actE cols ins sw k t s = some s' → Ev (fun q => emendateref36_Run.l0 q l s'.2.1 s'.2.2 (s'.1 : Int) ((i + 1 : Nat) : Int) cols ins sw) r) (NO : actE cols ins sw k t s = none → ([], 0, false) = r) {b12 b13 : Bool} (h12 : b12 = decide (s.1 < cols.length)) (h13 : b13 = decide (0 ≤ t ∧ t < (ins.length : Int))) :
  Ev (fun q => emendateref36_Run.j1 q l s.2.1 s.2.2 (s.1 : Int) (i : Int) b12 b13 cols ins sw k t) r := by
 have hn := G.n
 by_cases h1 : k = 1
 ·
  have no : Ev (fun q => emendateref36_Run.j2 q l s.2.1 s.2.2 (s.1 : Int) (i : Int) b12 b13 false cols ins sw k t) ([], 0, false) := j2_no (by omega) (by omega) (by omega)
  by_cases hc : s.1 < cols.length
  ·
   rw [decide_eq_true hc] at h12
   have hrow : (rd_T33 cols (s.1 : Int)).f1.length = ins.length := by rw [rdn cols s.1 hc]; exact (G.col _ (List.getElem_mem hc)).row
   by_cases ht : 0 ≤ t ∧ t < (ins.length : Int)
   ·
    rw [decide_eq_true ht] at h13
    by_cases hr : 0 ≤ rd (rd_T33 cols (s.1 : Int)).f1 t
    ·
     have ha := (act1 (cols := cols) (ins := ins) (sw := sw) (t := t) (s := s) h1).trans (if_pos ⟨hc, ht.1, by omega, hr⟩)
     refine Ev.step (f := fun q => emendateref36_Run.j2 q l s.2.1 s.2.2 (s.1 : Int) (i : Int) b12 b13 true cols ins sw k t) (fun q => ?_) ?_
     ·
      simp only [emendateref36_Run.j1]
      rw [if_pos h1, if_pos h12, if_pos h13, if_pos (by omega), if_pos (by omega), if_pos (by omega), if_pos (by omega), decide_eq_true hr]
     ·
      refine Ev.step (f := fun q => emendateref36_Run.l0 q l (s.2.1 ++ [t]) (addE s.2.2 (rd (rd_T33 cols (s.1 : Int)).f1 t)) ((s.1 + 1 : Nat) : Int) ((i + 1 : Nat) : Int) cols ins sw) (fun q => ?_) (IH _ ha)
      simp only [emendateref36_Run.j2]
      rw [if_pos trivial, if_pos (by omega), if_pos (by omega), if_pos (by omega), if_pos (by omega), if_pos (by omega), wnat _ (by omega), wnat _ (by omega)]
      rfl
    ·
     have ha := (act1 (cols := cols) (ins := ins) (sw := sw) (t := t) (s := s) h1).trans (if_neg (fun h => hr h.2.2.2))
     rw [← NO ha]
     refine Ev.step (fun q => ?_) no
     simp only [emendateref36_Run.j1]
     rw [if_pos h1, if_pos h12, if_pos h13, if_pos (by omega), if_pos (by omega), if_pos (by omega), if_pos (by omega), decide_eq_false hr]
   ·
    rw [decide_eq_false ht] at h13
    have ha := (act1 (cols := cols) (ins := ins) (sw := sw) (t := t) (s := s) h1).trans (if_neg (fun h => ht ⟨h.2.1, by omega⟩))
    rw [← NO ha]
    refine Ev.step (fun q => ?_) no
    simp only [emendateref36_Run.j1]
    rw [if_pos h1, if_pos h12, if_neg (by rw [h13]; simp)]
  ·
   rw [decide_eq_false hc] at h12
   have ha := (act1 (cols := cols) (ins := ins) (sw := sw) (t := t) (s := s) h1).trans (if_neg (fun h => hc h.1))
   rw [← NO ha]
   refine Ev.step (fun q => ?_) no
   simp only [emendateref36_Run.j1]
   rw [if_pos h1, if_neg (by rw [h12]; simp)]
 by_cases h2 : k = 2
 ·
  have no : Ev (fun q => emendateref36_Run.j3 q l s.2.1 s.2.2 (s.1 : Int) (i : Int) b13 false cols ins sw k t) ([], 0, false) := j3_no (by omega) (by omega)
  refine Ev.step (f := fun q => emendateref36_Run.j2 q l s.2.1 s.2.2 (s.1 : Int) (i : Int) b12 b13 false cols ins sw k t) (fun q => by simp only [emendateref36_Run.j1]; rw [if_neg h1]) ?_
  by_cases hc : s.1 < cols.length
  ·
   rw [decide_eq_true hc] at h12
   by_cases ht : t = 0
   ·
    by_cases hd : (rd_T33 cols (s.1 : Int)).f2 < 1099511627776
    ·
     have ha := (act2 (cols := cols) (ins := ins) (sw := sw) (t := t) (s := s) h2).trans (if_pos ⟨hc, ht, hd⟩)
     refine Ev.step (f := fun q => emendateref36_Run.j3 q l s.2.1 s.2.2 (s.1 : Int) (i : Int) b13 true cols ins sw k t) (fun q => ?_) ?_
     ·
      simp only [emendateref36_Run.j2]
      rw [if_neg (by simp), if_pos h2, if_pos h12, if_pos ht, if_pos (by omega), if_pos (by omega), decide_eq_true hd]
     ·
      refine Ev.step (f := fun q => emendateref36_Run.l0 q l s.2.1 (addE s.2.2 (rd_T33 cols (s.1 : Int)).f2) ((s.1 + 1 : Nat) : Int) ((i + 1 : Nat) : Int) cols ins sw) (fun q => ?_) (IH _ ha)
      simp only [emendateref36_Run.j3]
      rw [if_pos trivial, if_pos (by omega), if_pos (by omega), wnat _ (by omega), wnat _ (by omega)]
      rfl
    ·
     have ha := (act2 (cols := cols) (ins := ins) (sw := sw) (t := t) (s := s) h2).trans (if_neg (fun h => hd h.2.2))
     rw [← NO ha]
     refine Ev.step (fun q => ?_) no
     simp only [emendateref36_Run.j2]
     rw [if_neg (by simp), if_pos h2, if_pos h12, if_pos ht, if_pos (by omega), if_pos (by omega), decide_eq_false hd]
   ·
    have ha := (act2 (cols := cols) (ins := ins) (sw := sw) (t := t) (s := s) h2).trans (if_neg (fun h => ht h.2.1))
    rw [← NO ha]
    refine Ev.step (fun q => ?_) no
    simp only [emendateref36_Run.j2]
    rw [if_neg (by simp), if_pos h2, if_pos h12, if_neg ht]
  ·
   rw [decide_eq_false hc] at h12
   have ha := (act2 (cols := cols) (ins := ins) (sw := sw) (t := t) (s := s) h2).trans (if_neg (fun h => hc h.1))
   rw [← NO ha]
   refine Ev.step (fun q => ?_) no
   simp only [emendateref36_Run.j2]
   rw [if_neg (by simp), if_pos h2, if_neg (by rw [h12]; simp)]
 refine j1_over h1 h2 ?_
 by_cases h3 : k = 3
 ·
  refine Ev.step (f := fun q => emendateref36_Run.j4 q l s.2.1 s.2.2 (s.1 : Int) (i : Int) b13 cols ins sw k t) (fun q => by simp only [emendateref36_Run.j3]; rw [if_neg (by simp), if_pos h3]) ?_
  by_cases ht : 0 ≤ t ∧ t < (ins.length : Int)
  ·
   rw [decide_eq_true ht] at h13
   have ha := (act3 (cols := cols) (ins := ins) (sw := sw) (t := t) (s := s) h3).trans (if_pos ht)
   refine Ev.step (f := fun q => emendateref36_Run.l0 q l (s.2.1 ++ [t]) (addE s.2.2 (rd ins t)) (s.1 : Int) ((i + 1 : Nat) : Int) cols ins sw) (fun q => ?_) (IH _ ha)
   simp only [emendateref36_Run.j4]
   rw [if_pos h13, if_pos (by omega), if_pos (by omega), if_pos (by omega), wnat _ (by omega)]
   rfl
  ·
   rw [decide_eq_false ht] at h13
   have ha := (act3 (cols := cols) (ins := ins) (sw := sw) (t := t) (s := s) h3).trans (if_neg ht)
   rw [← NO ha, h13]
   exact j4_no (by omega)
 refine Ev.step (f := fun q => emendateref36_Run.j4 q l s.2.1 s.2.2 (s.1 : Int) (i : Int) false cols ins sw k t) (fun q => by simp only [emendateref36_Run.j3]; rw [if_neg (by simp), if_neg h3]) ?_
 by_cases h4 : k = 4
 ·
  by_cases ht : t = 0
  ·
   have hsw := rswp (ins := ins) (sw := sw) (cols := cols) (by omega) s.1 hs
   by_cases hp : swp cols sw s.1
   ·
    have hp2 := hp.2.1
    have ha := (act4 (cols := cols) (ins := ins) (sw := sw) (t := t) (s := s) h4).trans (if_pos ⟨ht, hp⟩)
    refine Ev.step (f := fun q => emendateref36_Run.l0 q l (s.2.1 ++ [(rd_T33 cols ((s.1 : Int) + 1)).f0, (rd_T33 cols (s.1 : Int)).f0]) (addE s.2.2 sw) ((s.1 + 2 : Nat) : Int) ((i + 1 : Nat) : Int) cols ins sw) (fun q => ?_) (IH _ ha)
    have e1 : wrap64 ((s.1 : Int) + 1) = (s.1 : Int) + 1 := by unfold wrap64; omega
    have e2 : wrap64 ((s.1 : Int) + 2) = ((s.1 + 2 : Nat) : Int) := by unfold wrap64; omega
    simp only [emendateref36_Run.j4]
    rw [if_neg (by simp), if_pos h4, if_pos ht, hsw, decide_eq_true hp, e1, e2, wnat _ (by omega)]
    rw [Option.bind_some, if_pos rfl, if_pos (by omega), if_pos (by omega), if_pos (by omega), if_pos (by omega), Option.bind_some, if_pos (by simp only [List.length_cons, List.length_nil]; omega)]
    rfl
   ·
    have ha := (act4 (cols := cols) (ins := ins) (sw := sw) (t := t) (s := s) h4).trans (if_neg (fun h => hp h.2))
    rw [← NO ha]
    refine Ev.step (f := fun _ => some ([], 0, false)) (fun q => ?_) (Ev.now _)
    simp only [emendateref36_Run.j4]
    rw [if_neg (by simp), if_pos h4, if_pos ht, hsw, decide_eq_false hp, Option.bind_some, if_neg (by simp)]
  ·
   have ha := (act4 (cols := cols) (ins := ins) (sw := sw) (t := t) (s := s) h4).trans (if_neg (fun h => ht h.1))
   rw [← NO ha]
   refine Ev.step (f := fun _ => some ([], 0, false)) (fun q => ?_) (Ev.now _)
   simp only [emendateref36_Run.j4]
   rw [if_neg (by simp), if_pos h4, if_neg ht]
 ·
  rw [← NO (act0 h1 h2 h3 h4)]
  exact j4_no h4
theorem run_l0 {l : List S49} {cols : List S33} {ins : List Int} {sw : Int} (G : Good cols ins sw) (hl : l.length ≤ 1000) : ∀ (d i : Nat), i + d = l.length → ∀ s : RS, s.1 ≤ cols.length → s.2.1.length ≤ 2 * i → Ev (fun q => emendateref36_Run.l0 q l s.2.1 s.2.2 (s.1 : Int) (i : Int) cols ins sw) (rv cols (runAll cols ins sw (l.drop i) s))
 | 0, i, h, s, hs, ho => by
  rw [List.drop_eq_nil_of_le (by omega)]
  refine Ev.step (f := fun _ => some (rv cols (some s))) (fun q => ?_) (Ev.now _)
  simp only [emendateref36_Run.l0]
  rw [if_neg (by omega)]
  unfold rv
  by_cases he : s.1 = cols.length
  ·
   rw [if_pos (by omega)]
   simp only
   rw [if_pos he]
  ·
   rw [if_neg (by omega)]
   simp only
   rw [if_neg he]
 | d + 1, i, h, s, hs, ho => by
  have hi : i < l.length := by omega
  have hg : rd_T49 l (i : Int) = l[i] := by simp [rd_T49, List.getD, hi]
  have hd : l.drop i = l[i] :: l.drop (i + 1) := List.drop_eq_getElem_cons hi
  rw [hd]
  have j : ∀ b12 b13 : Bool, b12 = decide (s.1 < cols.length) → b13 = decide (0 ≤ (l[i]).f1 ∧ (l[i]).f1 < (ins.length : Int)) → Ev (fun q => emendateref36_Run.j1 q l s.2.1 s.2.2 (s.1 : Int) (i : Int) b12 b13 cols ins sw (l[i]).f0 (l[i]).f1) (rv cols (runAll cols ins sw (l[i] :: l.drop (i + 1)) s)) := fun b12 b13 h12 h13 => j1_ev (l := l) G (l[i]).f0 (l[i]).f1 s i (by omega) hs (by omega) (r := rv cols (runAll cols ins sw (l[i] :: l.drop (i + 1)) s)) (fun s' ha => by
   have hlen := actE_len ha
   simp only [runAll]
   rw [ha]
   exact run_l0 G hl d (i + 1) (by omega) s' (hlen.2 hs) (by omega)) (fun ha => by simp only [runAll]; rw [ha]; rfl) (b12 := b12) (b13 := b13) h12 h13
  have e12 : decide ((s.1 : Int) < (cols.length : Int)) = decide (s.1 < cols.length) := by
   by_cases hh : s.1 < cols.length
   ·
    rw [decide_eq_true hh, decide_eq_true (by omega)]
   ·
    rw [decide_eq_false hh, decide_eq_false (by omega)]
  by_cases ht : (l[i]).f1 ≥ 0
  ·
   refine Ev.step (fun q => ?_) (j (decide ((s.1 : Int) < (cols.length : Int))) (decide ((l[i]).f1 < (ins.length : Int))) e12 ?_)
   ·
    simp only [emendateref36_Run.l0]
    rw [if_pos (by omega), if_pos (by omega), hg, if_pos ht]
   ·
    by_cases hh : (l[i]).f1 < (ins.length : Int)
    ·
     rw [decide_eq_true hh, decide_eq_true ⟨ht, hh⟩]
    ·
     rw [decide_eq_false hh, decide_eq_false (fun h => hh h.2)]
  ·
   refine Ev.step (fun q => ?_) (j (decide ((s.1 : Int) < (cols.length : Int))) false e12 (decide_eq_false (fun h => ht h.1)).symm)
   simp only [emendateref36_Run.l0]
   rw [if_pos (by omega), if_pos (by omega), hg, if_neg ht]
theorem run_ev {l : List S49} {cols : List S33} {ins : List Int} {sw : Int} (G : Good cols ins sw) (hl : l.length ≤ 1000) : Ev (fun q => emendateref36_Run.f q cols ins sw l) (match runE cols ins sw l with | none => ([], 0, false) | some r => (r.1, r.2, true)) := by
 have h := run_l0 G hl l.length 0 (by omega) (0, [], 0) (Nat.zero_le _) (by simp)
 have e : rv cols (runAll cols ins sw (l.drop 0) (0, [], 0)) = (match runE cols ins sw l with | none => ([], 0, false) | some r => (r.1, r.2, true)) := by
  rw [List.drop_zero]
  unfold runE rv
  cases runAll cols ins sw l (0, [], 0) with
  | none => rfl
  | some s =>
   show (if s.1 = cols.length then (s.2.1, s.2.2, true) else ([], 0, false)) = match (if s.1 = cols.length then some s.2 else none) with | none => ([], 0, false) | some r => (r.1, r.2, true)
   by_cases he : s.1 = cols.length
   ·
    rw [if_pos he, if_pos he]
   ·
    rw [if_neg he, if_neg he]
 rw [← e]
 exact Ev.congr (fun q => rfl) h
end Go.Proofs.YtnddijafdphbnaaDoor.All
