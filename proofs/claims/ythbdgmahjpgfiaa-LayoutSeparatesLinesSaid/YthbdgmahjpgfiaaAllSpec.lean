/- What layout.Apply of the program computes, as a plain Lean function: 'lst' is the start of the line of an offset, 'lineF' what begins a line, 'applyF' the whole. No statement of the claim is proved here. -/
import Derived.Test.YthbdgmahjpgfiaaAllx0
namespace Go.Proofs.Ythbdgmahjpgfiaa.All
open Go.RowKit Go.Proofs.YthbdgmahjpgfiaaW.PrintWords Go.Proofs.YthbdgmahjpgfiaaW.PrintLast Go.Proofs.YthbdgmahjpgfiaaW.PrintMore
set_option linter.unusedVariables false
set_option linter.unusedSimpArgs false

/-- The start of the line that contains offset n. -/
def lst (s : ByteArray) : Nat → Nat
  | 0 => 0
  | n + 1 => if bt s (n : Nat) = 10 then n + 1 else lst s n

def tok (k at_ : Int) : S33 := ⟨k, at_, ⟨#[]⟩, 0⟩
def topL (lv : List Int) : Int := if lv.length = 0 then 0 else lv.getD (lv.length - 1) 0
def secL (lv : List Int) : Int := if lv.length < 2 then 0 else lv.getD (lv.length - 2) 0

/-- The levels that a line of depth d closes; n: rounds. -/
def closes (dk at_ d : Int) : Nat → List S33 → List Int → List S33 × List Int
  | 0, out, lv => (out, lv)
  | n + 1, out, lv => if 0 < lv.length ∧ d ≤ secL lv then closes dk at_ d n (out ++ [tok dk at_]) (lv.take (lv.length - 1)) else (out, lv)

def lineF (defs : Int) (out : List S33) (lv : List Int) (at_ d : Int) (first : Bool) : List S33 × List Int :=
  if topL lv < d then (out ++ [tok (defs + 1) at_], lv ++ [d])
  else closes (defs + 2) at_ d lv.length (if first then out else out ++ [tok defs at_]) lv

structure LSt where
  first : Bool
  last : Int
  out : List S33
  lv : List Int

def stepF (defs : Int) (s : ByteArray) (st : LSt) (t : S33) : LSt :=
  let start : Int := (lst s t.f1.toNat : Nat)
  let r := if start ≠ st.last then lineF defs st.out st.lv t.f1 (t.f1 - start) st.first else (st.out, st.lv)
  ⟨false, start, r.1 ++ [t], r.2⟩

def runF (defs : Int) (s : ByteArray) (l : List S33) : LSt := l.foldl (stepF defs s) ⟨true, -1, [], []⟩

def applyF (l : List S33) (s : ByteArray) (defs : Int) : List S33 :=
  let st := runF defs s l
  if l.length = 0 then st.out else st.out ++ [tok defs s.size] ++ List.replicate st.lv.length (tok (defs + 2) s.size)

/-- Where the contract speaks. -/
def Ready (l : List S33) (s : ByteArray) (defs : Int) : Prop := l.length ≤ 1000 ∧ s.size ≤ 100000 ∧ 0 ≤ defs ∧ defs ≤ 100000 ∧ ∀ t ∈ l, 0 ≤ t.f1 ∧ t.f1 ≤ s.size
instance (l : List S33) (s : ByteArray) (defs : Int) : Decidable (Ready l s defs) := by unfold Ready; infer_instance

def layout_Apply.f (_k : Nat) (l0 : List S33) (a1 : ByteArray) (a2 : Int) : Option (List S33) := if Ready l0 a1 a2 then some (applyF l0 a1 a2) else none
theorem layout_Apply.mono : ∀ a0 a1 a2 k, LeO (layout_Apply.f k a0 a1 a2) (layout_Apply.f (k + 1) a0 a1 a2) := fun _ _ _ _ => LeO.refl _

/-! ### sizes -/
theorem closes_len (dk at_ d : Int) : ∀ n out lv, (closes dk at_ d n out lv).1.length + (closes dk at_ d n out lv).2.length = out.length + lv.length
  | 0, _, _ => rfl
  | n + 1, out, lv => by
    unfold closes
    split
    · rename_i h
      rw [closes_len dk at_ d n]
      simp only [List.length_append, List.length_singleton, List.length_take]
      omega
    · rfl

theorem lineF_len (defs : Int) (out : List S33) (lv : List Int) (at_ d : Int) (first : Bool) : (lineF defs out lv at_ d first).1.length + (lineF defs out lv at_ d first).2.length ≤ out.length + lv.length + 2 := by
  unfold lineF
  split
  · simp only [List.length_append, List.length_singleton]; omega
  · rw [closes_len]
    split
    · omega
    · simp only [List.length_append, List.length_singleton]; omega

theorem stepF_len (defs : Int) (s : ByteArray) (st : LSt) (t : S33) : (stepF defs s st t).out.length + (stepF defs s st t).lv.length ≤ st.out.length + st.lv.length + 3 := by
  unfold stepF
  simp only
  split
  · have := lineF_len defs st.out st.lv t.f1 (t.f1 - (lst s t.f1.toNat : Nat)) st.first
    simp only [List.length_append, List.length_singleton]; omega
  · simp only [List.length_append, List.length_singleton]; omega

theorem foldF_len (defs : Int) (s : ByteArray) : ∀ (l : List S33) (st : LSt), (l.foldl (stepF defs s) st).out.length + (l.foldl (stepF defs s) st).lv.length ≤ st.out.length + st.lv.length + 3 * l.length
  | [], st => by simp
  | t :: l, st => by
    have h1 := foldF_len defs s l (stepF defs s st t)
    have h2 := stepF_len defs s st t
    simp only [List.foldl_cons, List.length_cons]
    omega

theorem runF_len (defs : Int) (s : ByteArray) (l : List S33) : (runF defs s l).out.length + (runF defs s l).lv.length ≤ 3 * l.length := by
  have := foldF_len defs s l ⟨true, -1, [], []⟩
  simpa [runF] using this

theorem lst_le (s : ByteArray) : ∀ n, lst s n ≤ n
  | 0 => Nat.le_refl _
  | n + 1 => by
    unfold lst
    split
    · omega
    · have := lst_le s n; omega

theorem runF_succ (defs : Int) (s : ByteArray) (l : List S33) (i : Nat) (h : i < l.length) : runF defs s (l.take (i + 1)) = stepF defs s (runF defs s (l.take i)) l[i] := by
  unfold runF
  rw [List.take_succ_eq_append_getElem h, List.foldl_append]
  rfl

/-- What holds of the open levels' depths: nothing is asked of them but that they are depths. -/
def Deep (lv : List Int) : Prop := ∀ x ∈ lv, 0 ≤ x ∧ x ≤ 100000

theorem getD_mem_or (lv : List Int) (i : Nat) (h : i < lv.length) : lv.getD i 0 ∈ lv := by
  rw [List.getD_eq_getElem?_getD, List.getElem?_eq_getElem h]
  exact List.getElem_mem h

theorem Deep.top {lv : List Int} (h : Deep lv) : 0 ≤ topL lv ∧ topL lv ≤ 100000 := by
  unfold topL
  split
  · omega
  · exact h _ (getD_mem_or lv _ (by omega))
theorem Deep.sec {lv : List Int} (h : Deep lv) : 0 ≤ secL lv ∧ secL lv ≤ 100000 := by
  unfold secL
  split
  · omega
  · exact h _ (getD_mem_or lv _ (by omega))
theorem Deep.take {lv : List Int} (h : Deep lv) (n : Nat) : Deep (lv.take n) := fun x hx => h x (List.mem_of_mem_take hx)
theorem Deep.snoc {lv : List Int} (h : Deep lv) {d : Int} (h0 : 0 ≤ d) (h1 : d ≤ 100000) : Deep (lv ++ [d]) := by
  intro x hx
  rcases List.mem_append.1 hx with hx | hx
  · exact h x hx
  · rw [List.mem_singleton.1 hx]; exact ⟨h0, h1⟩

end Go.Proofs.Ythbdgmahjpgfiaa.All
