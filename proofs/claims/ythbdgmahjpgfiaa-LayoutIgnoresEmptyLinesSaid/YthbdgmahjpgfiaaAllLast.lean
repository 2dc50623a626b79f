/- strings.LastIndexByte of a prefix tells where the line of an offset begins. -/
import Derived.Test.YthbdgmahjpgfiaaAllx3
import Derived.Test.YthbdgmahjpgfiaaAllSpec
namespace Go.Proofs.Ythbdgmahjpgfiaa.All
open Go.RowKit Go.Proofs.YthbdgmahjpgfiaaW.PrintWords Go.Proofs.YthbdgmahjpgfiaaW.PrintLast Go.Proofs.YthbdgmahjpgfiaaW.PrintMore
set_option linter.unusedVariables false
set_option linter.unusedSimpArgs false

theorem bt_extract (s : ByteArray) (n m : Nat) (hn : n ≤ s.size) (h : m < n) : bt (s.extract 0 n) (m : Int) = bt s (m : Int) := by
  have h1 : m < s.size := by omega
  have h2 : m < (s.extract 0 n).size := by rw [ByteArray.size_extract]; omega
  simp only [bt, Int.toNat_natCast]
  rw [dif_pos h2, dif_pos h1]
  rw [ByteArray.getElem_extract]
  simp

theorem last_l0 (s : ByteArray) (n : Nat) (hn : n ≤ s.size) (hs : s.size ≤ 1000000) : ∀ (m : Nat), m ≤ n → ∀ k, m < k → bytealg_LastIndexByteString.l0 k (s.extract 0 n) 10 ((m : Int) - 1) = some ((lst s m : Int) - 1)
  | 0, _, k, hk => by
    obtain ⟨k, rfl⟩ : ∃ j, k = j + 1 := ⟨k - 1, by omega⟩
    simp only [bytealg_LastIndexByteString.l0]
    rw [if_neg (by omega)]
    simp [lst]
  | m + 1, hm, k, hk => by
    obtain ⟨k, rfl⟩ : ∃ j, k = j + 1 := ⟨k - 1, by omega⟩
    have e : ((m + 1 : Nat) : Int) - 1 = (m : Int) := by omega
    have hz : ((s.extract 0 n).size : Int) = n := by rw [ByteArray.size_extract]; omega
    simp only [bytealg_LastIndexByteString.l0]
    rw [e, if_pos (by omega), if_pos (by omega), if_pos (by omega), bt_extract s n m hn (by omega)]
    unfold lst
    split
    · simp
    · rw [show wrap64 ((m : Int) - 1) = (m : Int) - 1 by unfold wrap64; omega]
      exact last_l0 s n hn hs m (by omega) k (by omega)

theorem last_of (s : ByteArray) (n : Nat) (hn : n ≤ s.size) (hs : s.size ≤ 1000000) : strings_LastIndexByte.f (n + 1) (s.extract 0 n) 10 = some ((lst s n : Int) - 1) := by
  unfold strings_LastIndexByte.f bytealg_LastIndexByteString.f
  have hz : ((s.extract 0 n).size : Int) = n := by rw [ByteArray.size_extract]; omega
  rw [hz, show wrap64 ((n : Int) - 1) = (n : Int) - 1 by unfold wrap64; omega, last_l0 s n hn hs n (Nat.le_refl _) (n + 1) (by omega)]
  rfl
end Go.Proofs.Ythbdgmahjpgfiaa.All
