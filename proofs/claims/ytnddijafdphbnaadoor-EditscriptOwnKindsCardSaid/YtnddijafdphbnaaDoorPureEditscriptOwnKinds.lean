/- The law OwnKinds, in plain Lean. -/
import Derived.Test.YtnddijafdphbnaaDoorAllx37
import Derived.Test.YtnddijafdphbnaaDoorAllPd
import Derived.Test.YtnddijafdphbnaaDoorAllPe
namespace Go.Proofs.YtnddijafdphbnaaDoor.All
open Go.RowKit Go.Proofs.YtnddijafdphbnaaDoorW.PrintWords Go.Proofs.YtnddijafdphbnaaDoorW.PrintLast Go.Proofs.YtnddijafdphbnaaDoorW.PrintMore
set_option linter.unusedVariables false
set_option linter.unusedSimpArgs false
def kinds (l : List S33) : List Int := l.map (·.f0)
def reads (l : List S33) : List S49 := l.map fun c => ⟨1, c.f0⟩
theorem own_path {terms : Nat} {ins : List Int} {sw : Int} : ∀ (l : List S33), (∀ c ∈ l, GoodC terms c ∧ 0 ≤ c.f0) → Path ins sw l (kinds l) 0
  | [], _ => Path.nil
  | c :: l, h => by
    obtain ⟨g, h0⟩ := h c List.mem_cons_self
    have hz : rd c.f1 c.f0 = 0 := by
      have := g.own c.f0.toNat (by have := g.kind1; omega) (by omega)
      rwa [Int.toNat_of_nonneg h0] at this
    exact (Path.read (c := c) (t := c.f0) (by omega) (own_path l (fun d hd => h d (List.mem_cons_of_mem _ hd)))).cast rfl rfl (by omega)
section
variable {l : List S33} {ins : List Int} {sw : Int}
theorem kinds_proper (G : Good l ins sw) (h : ∀ c ∈ l, 0 ≤ c.f0) : Proper ins (kinds l) := fun t ht => by
  obtain ⟨c, hc, rfl⟩ := List.mem_map.1 ht
  exact ⟨h c hc, (G.col c hc).kind1⟩
theorem own_zero (G : Good l ins sw) (h : ∀ c ∈ l, 0 ≤ c.f0) (i : Nat) (hi : i ≤ l.length) : Dd l ins sw (kinds l) i i = 0 := by
  have hl : (kinds l).length = l.length := by simp [kinds]
  have k := Dd_isD G (kinds_proper G h) (l.length + (kinds l).length) i i hi (by omega) (by omega)
  have p : Path ins sw (l.drop i) ((kinds l).drop i) 0 := by
    have := own_path (ins := ins) (sw := sw) (l.drop i) (fun c hc => ⟨G.col c (List.mem_of_mem_drop hc), h c (List.mem_of_mem_drop hc)⟩)
    exact this.cast rfl (by simp [kinds, List.map_drop]) rfl
  have h1 := k.least 0 p
  have h2 := k.lo
  omega
theorem own_al (G : Good l ins sw) (h : ∀ c ∈ l, 0 ≤ c.f0) : ∀ (f i : Nat), i ≤ l.length → l.length + 1 ≤ f + i → alE l ins sw (kinds l) f i i = reads (l.drop i)
  | 0, i, hi, hf => by omega
  | f + 1, i, hi, hf => by
    have hl : (kinds l).length = l.length := by simp [kinds]
    simp only [alE]
    by_cases he : i = l.length ∧ i = (kinds l).length
    · rw [if_pos he, List.drop_eq_nil_of_le (by omega)]
      rfl
    · have hi2 : i < l.length := by omega
      have hk : i < (kinds l).length := by omega
      have hrk : rd (kinds l) (i : Int) = (l[i]).f0 := by rw [rdi _ i hk]; simp [kinds]
      have g := G.col _ (List.getElem_mem hi2)
      have h0 := h _ (List.getElem_mem hi2)
      have hz : rd (l[i]).f1 (l[i]).f0 = 0 := by
        have := g.own (l[i]).f0.toNat (by have := g.kind1; omega) (by omega)
        rwa [Int.toNat_of_nonneg h0] at this
      have hA : stA l (kinds l) i i = [⟨⟨1, (l[i]).f0⟩, 0, 1, 1⟩] := by
        unfold stA
        rw [hrk, rdn l i hi2, hz, if_pos ⟨hi2, hk, Int.le_refl _⟩]
      have hfit : fits l ins sw (kinds l) i i ⟨⟨1, (l[i]).f0⟩, 0, 1, 1⟩ = true := by
        unfold fits
        show (addE 0 (Dd l ins sw (kinds l) (i + 1) (i + 1)) == Dd l ins sw (kinds l) i i) = true
        rw [own_zero G h (i + 1) (by omega), own_zero G h i (by omega)]
        simp [addE, mn, wrap64]
      rw [if_neg he]
      have hfind : (stepsE l ins sw (kinds l) i i).find? (fits l ins sw (kinds l) i i) = some ⟨⟨1, (l[i]).f0⟩, 0, 1, 1⟩ := by
        unfold stepsE
        rw [hA, List.append_assoc, List.append_assoc, List.singleton_append, List.find?_cons_of_pos hfit]
      rw [hfind]
      show (⟨1, (l[i]).f0⟩ : S49) :: alE l ins sw (kinds l) f (i + 1) (i + 1) = _
      rw [own_al G h f (i + 1) (by omega) (by omega), drop_cons hi2]
      rfl
theorem own_l0 (G : Good l ins sw) : ∀ (d i : Nat), i + d = l.length → (∀ c ∈ l.take i, 0 ≤ c.f0) → Ev (fun k => emendatelaw36_EditscriptOwnKinds.l0 k (kinds (l.take i)) (reads (l.take i)) (i : Int) l ins sw) true
  | 0, i, h, hc => by
    have hn := G.n
    rw [List.take_of_length_le (by omega)] at hc ⊢
    have hl : (kinds l).length = l.length := by simp [kinds]
    have hz := own_zero G hc 0 (Nat.zero_le _)
    have e1 := align_ev (y := kinds l) G (by omega)
    have e2 := dist_ev (y := kinds l) G (by omega)
    have hp := kinds_proper G hc
    have a1 : alignE l ins sw (kinds l) = (reads l, 0) := by
      unfold alignE
      rw [if_pos hp, if_neg (by omega), own_al G hc _ 0 (Nat.zero_le _) (by omega), List.drop_zero]
    have a2 : distE l ins sw (kinds l) = 0 := by unfold distE; rw [if_pos hp, hz]
    rw [a1] at e1
    rw [a2] at e2
    refine Ev.step (f := fun k => (editscript_Align.f k l ins sw (kinds l)).bind fun bt517 => ((editscript_Distance.f k l ins sw (kinds l)).bind fun t521 => (if t521 = 0 then (if bt517.2 = 0 then ((emendateref36_Same.f k (reads l) bt517.1).bind fun t522 => (some t522)) else (some false)) else (some false)))) (fun k => ?_) (Ev.bind e1 (Ev.bind e2 (Ev.congr (fun k => by rw [if_pos rfl, if_pos rfl]) (Ev.bind (same_refl (reads l) (by simp [reads]; omega)) (Ev.now _)))))
    simp only [emendatelaw36_EditscriptOwnKinds.l0]
    rw [if_neg (by omega)]
  | d + 1, i, h, hc => by
    have hn := G.n
    have hi : i < l.length := by omega
    by_cases hk : (rd_T33 l (i : Int)).f0 < 0
    · refine Ev.step (f := fun _ => some true) (fun k => ?_) (Ev.now _)
      simp only [emendatelaw36_EditscriptOwnKinds.l0]
      rw [if_pos (by omega), if_pos (by omega), if_pos hk]
    · have ht := List.take_succ_eq_append_getElem hi
      have ih := own_l0 G d (i + 1) (by omega) (fun c hcc => by
        rw [ht] at hcc
        rcases List.mem_append.1 hcc with hcc | hcc
        · exact hc c hcc
        · rw [List.mem_singleton.1 hcc, ← rdn l i hi]
          omega)
      rw [ht] at ih
      refine Ev.step (fun k => ?_) ih
      simp only [emendatelaw36_EditscriptOwnKinds.l0]
      have l1 : (kinds (l.take i)).length < 17592186044416 := by simp [kinds]; omega
      have l2 : (reads (l.take i)).length < 8796093022208 := by simp [reads]; omega
      rw [if_pos (by omega), if_pos (by omega), if_neg hk, if_pos l1, if_pos l2, wnat i (by omega), rdn l i hi]
      simp only [kinds, reads, List.map_append, List.map_cons, List.map_nil]
end
theorem editscriptOwnKinds_pure (l : List S33) (j : List Int) (w : Int) (wf : ∀ c ∈ l, WfC c) (wg : ∀ n ∈ j, WfI n) (ww : (Go.Lit.int .i64 w).wf = true) : ∃ k, emendatelaw36_EditscriptOwnKinds.f k l j w = some true := by
  refine Ev.rounds (g := fun k => emendatelaw36_EditscriptOwnKinds.f k l j w) ?_
  obtain ⟨b, hb, hb2⟩ := fair_ev l j w
  refine Ev.congr (fun k => rfl) (Ev.bind awake_ev (Ev.congr (fun k => by rw [if_pos rfl]) (Ev.bind hb ?_)))
  cases b with
  | false => exact Ev.congr (f := fun _ => some true) (fun k => by rw [if_neg (by simp)]) (Ev.now _)
  | true => exact Ev.congr (f := fun k => emendatelaw36_EditscriptOwnKinds.l0 k (kinds (l.take 0)) (reads (l.take 0)) ((0 : Nat) : Int) l j w) (fun k => by rw [if_pos rfl]; rfl) (own_l0 (hb2 rfl) l.length 0 (by omega) (fun c hc => by simp at hc))
end Go.Proofs.YtnddijafdphbnaaDoor.All
