import Derived.Test.YthphelbkfgbejaaQ29
import Derived.Test.YthphelbkfgbejaaQ31
import Derived.Test.YthphelbkfgbejaaQ11
import Derived.Test.YthphelbkfgbejaaKit
import Derived.Test.YthphelbkfgbejaaPlSame
import Derived.Test.YthphelbkfgbejaaPlOctB
namespace Go.Proofs.Ythphelbkfgbejaa.Q
open Go.RowKit Go.Proofs.YthphelbkfgbejaaW.PrintWords Go.Proofs.YthphelbkfgbejaaW.PrintLast Go.Proofs.YthphelbkfgbejaaW.PrintMore
set_option linter.unusedVariables false
set_option linter.unusedSimpArgs false

theorem shr64 (n : Int) (s : Nat) (hs : s ≤ 64) : shr .u64 n (s : Int) = n / 2 ^ s := by
  unfold shr
  rw [Int.toNat_natCast, Nat.min_eq_left (by simpa [IntKind.bits] using hs)]
theorem octets_loop (n : Int) (size : Nat) (hs : size ≤ 8) : ∀ (d k j : Nat), j + d = size → d < k →
    transeptref01_Octets.l0 k n (beOf n (shiftsUp size j)) ((size : Int) - 1 - (j : Int)) = some (beOf n (shiftsOf size)) := by
  intro d
  induction d with
  | zero =>
    intro k j hj hk
    obtain ⟨k, rfl⟩ : ∃ m, k = m + 1 := ⟨k - 1, by omega⟩
    simp only [transeptref01_Octets.l0]
    have : j = size := by omega
    subst this
    rw [if_neg (by omega)]
    rfl
  | succ d ih =>
    intro k j hj hk
    obtain ⟨k, rfl⟩ : ∃ m, k = m + 1 := ⟨k - 1, by omega⟩
    have hlt : j < size := by omega
    have hlen : (beOf n (shiftsUp size j)).length = j := by rw [beOf_length, shiftsUp_length]
    simp only [transeptref01_Octets.l0]
    have e : (8 : Int) * ((size : Int) - 1 - (j : Int)) = ((8 * (size - 1 - j) : Nat) : Int) := by omega
    rw [e, wrap64_id (by omega) (by omega), if_pos (by omega), if_pos (by omega), if_pos (by omega), shr64 n _ (by omega)]
    rw [wrap64_id (by omega) (by omega)]
    have := ih k (j + 1) (by omega) (by omega)
    rw [shiftsUp_succ, beOf_snoc, shift_val size j hs hlt] at this
    rw [show (size : Int) - 1 - (j : Int) - 1 = (size : Int) - 1 - ((j + 1 : Nat) : Int) by omega]
    exact this
theorem refOctets_is (n : Int) (size : Nat) (hs : size ≤ 8) (k : Nat) (hk : size < k) : transeptref01_Octets.f k n (size : Int) = some (beOf n (shiftsOf size)) := by
  unfold transeptref01_Octets.f
  rw [wrap64_id (by omega) (by omega)]
  have := octets_loop n size hs size k 0 (by omega) hk
  simpa [shiftsUp, beOf] using this
theorem number_loop (l : List Int) (hl : Octs l) (hn : l.length ≤ 8) : ∀ (d k i : Nat), i + d = l.length → d < k →
    transeptref01_Number.l0 k l (bv (l.take i)) (i : Int) = some (bv l) := by
  intro d
  induction d with
  | zero =>
    intro k i hi hk
    obtain ⟨k, rfl⟩ : ∃ m, k = m + 1 := ⟨k - 1, by omega⟩
    simp only [transeptref01_Number.l0]
    rw [if_neg (by omega), List.take_of_length_le (by omega)]
  | succ d ih =>
    intro k i hi hk
    obtain ⟨k, rfl⟩ : ∃ m, k = m + 1 := ⟨k - 1, by omega⟩
    have h1 : i < l.length := by omega
    have hx := hl l[i] (List.getElem_mem h1)
    have hb := bv_bound (l.take i) (hl.take i)
    have hlen : (l.take i).length = i := by simp; omega
    rw [hlen] at hb
    have hp := pow256_le (i := i) (by omega)
    simp only [transeptref01_Number.l0]
    rw [if_pos (by omega), if_pos (by omega), rd_nat l i h1]
    rw [u64_id (bv (l.take i) * 256) (by omega) (by omega), u64_id l[i] hx.1 (by omega), u64_id _ (by omega) (by omega)]
    rw [wrap64_id (by omega) (by omega)]
    have := ih k (i + 1) (by omega) (by omega)
    rw [List.take_succ_eq_append_getElem h1, bv_snoc] at this
    exact this
theorem refNumber_is (l : List Int) (hl : Octs l) (hn : l.length ≤ 8) (k : Nat) (hk : l.length < k) : transeptref01_Number.f k l = some (bv l) :=
  number_loop l hl hn l.length k 0 (by omega) hk

end Go.Proofs.Ythphelbkfgbejaa.Q
