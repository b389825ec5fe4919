/- What is proved: the plain half of OctetsTells: numbers as octets, octets as numbers, and digits, are the page's; what is handed in stays. Conditions: none beyond the kinds' bounds. -/
import Derived.Test.YthphelbkfgbejaaQ35
import Derived.Test.YthphelbkfgbejaaKit
import Derived.Test.YthphelbkfgbejaaPlSame
import Derived.Test.YthphelbkfgbejaaPlOct
import Derived.Test.YthphelbkfgbejaaPlOctB
import Derived.Test.YthphelbkfgbejaaPlRef1
import Derived.Test.YthphelbkfgbejaaPlDec
namespace Go.Proofs.Ythphelbkfgbejaa.Pure
open Go.RowKit Go.Proofs.Ythphelbkfgbejaa.Q Go.Proofs.YthphelbkfgbejaaW.PrintWords Go.Proofs.YthphelbkfgbejaaW.PrintLast
theorem copy_is (l : List Int) (h : l.length ≤ 140737488355327) : transeptplain_CopyBytes.f l = some l := by
  unfold transeptplain_CopyBytes.f
  rw [if_pos (by simp; omega)]
  simp
theorem refPut_bad (n m : Int) (h0 : 0 ≤ n) (h1 : n < 18446744073709551616) (h : m < 1 ∨ m > 8 ∨ n ≥ 2 ^ (8 * m.toNat)) (k : Nat) : transeptref01_Put.f k n m = some ([], 4) := by
  unfold transeptref01_Put.f
  by_cases c1 : m < 1
  · rw [if_pos c1]
  · rw [if_neg c1]
    by_cases c2 : m > 8
    · rw [if_pos c2]
    · rw [if_neg c2]
      obtain ⟨s, rfl⟩ : ∃ s : Nat, m = (s : Int) := ⟨m.toNat, by omega⟩
      have hge : n ≥ 2 ^ (8 * s) := by rcases h with h | h | h <;> first | exact absurd h (by omega) | simpa using h
      by_cases c3 : (s : Int) < 8
      · rw [if_pos c3, show (8 : Int) * (s : Int) = ((8 * s : Nat) : Int) by omega, wrap64_id (by omega) (by omega), if_pos (by omega), shr64 n _ (by omega), if_pos]
        have : 1 ≤ n / 2 ^ (8 * s) := (Int.le_ediv_iff_mul_le (Int.pow_pos (by decide))).mpr (by omega)
        omega
      · have : s = 8 := by omega
        subst this
        have e : (2 : Int) ^ (8 * 8) = 18446744073709551616 := by decide
        omega
theorem refPut_ok (n : Int) (h0 : 0 ≤ n) (size : Nat) (hs1 : 1 ≤ size) (hs8 : size ≤ 8) (hn : n < 2 ^ (8 * size)) (k : Nat) (hk : size < k) : transeptref01_Put.f k n (size : Int) = some (beOf n (shiftsOf size), 0) := by
  unfold transeptref01_Put.f
  rw [if_neg (by omega), if_neg (by omega), refOctets_is n size hs8 k hk]
  simp only [Option.bind_some]
  by_cases c3 : (size : Int) < 8
  · rw [if_pos c3, show (8 : Int) * (size : Int) = ((8 * size : Nat) : Int) by omega, wrap64_id (by omega) (by omega), if_pos (by omega), shr64 n _ (by omega), if_neg]
    have : n / 2 ^ (8 * size) = 0 := Int.ediv_eq_zero_of_lt h0 hn
    omega
  · rw [if_neg c3]
theorem get_both (l : List Int) (hl : Octs l) (k : Nat) (hk : 20 < k) : ∃ v e, octets_Get.f k l = some (v, e) ∧ transeptref01_Get.f k l = some (v, e) := by
  by_cases h1 : l.length < 1
  · refine ⟨0, 3, ?_, ?_⟩
    · unfold octets_Get.f
      obtain ⟨k, rfl⟩ : ∃ m, k = m + 1 := ⟨k - 1, by omega⟩
      rw [if_pos (by omega)]
      simp [octets_Get.j0]
    · unfold transeptref01_Get.f
      rw [if_pos (by omega)]
  · by_cases h8 : l.length > 8
    · refine ⟨0, 3, ?_, ?_⟩
      · unfold octets_Get.f
        obtain ⟨k, rfl⟩ : ∃ m, k = m + 1 := ⟨k - 1, by omega⟩
        rw [if_neg (by omega)]
        simp only [octets_Get.j0]
        rw [if_pos (by simp; omega)]
      · unfold transeptref01_Get.f
        rw [if_neg (by omega), if_pos (by omega)]
    · refine ⟨bv l, 0, get_is l hl (by omega) (by omega) k (by omega), ?_⟩
      unfold transeptref01_Get.f
      rw [if_neg (by omega), if_neg (by omega), refNumber_is l hl (by omega) k (by omega)]
      rfl
theorem put_both (n m : Int) (h0 : 0 ≤ n) (h1 : n < 18446744073709551616) (k : Nat) (hk : 20 < k) : ∃ l e, octets_Put.f n m = some (l, e) ∧ transeptref01_Put.f k n m = some (l, e) ∧ l.length ≤ 8 := by
  by_cases hbad : m < 1 ∨ m > 8 ∨ n ≥ 2 ^ (8 * m.toNat)
  · exact ⟨[], 4, put_bad n m h0 h1 hbad, refPut_bad n m h0 h1 hbad k, by simp⟩
  · obtain ⟨size, rfl⟩ : ∃ s : Nat, m = (s : Int) := ⟨m.toNat, by omega⟩
    have hlt : n < 2 ^ (8 * size) := by
      rcases Int.lt_or_le n (2 ^ (8 * size)) with h | h
      · exact h
      · exact absurd (.inr (.inr (by simpa using h))) hbad
    exact ⟨_, 0, put_ok n h0 h1 size (by omega) (by omega) hlt, refPut_ok n h0 size (by omega) (by omega) hlt k (by omega), by rw [beOf_length, shiftsOf_length]; omega⟩
theorem OctetsTells : transeptlaw01_OctetsTells.Pure := by
  intro a0 a1 l2 a3 h0 h1 hm hn hw h3
  have h0 := wf_u64 h0
  have h3 := wf_i64 h3
  have hl := octs_wf hw
  obtain ⟨k, hk⟩ : ∃ k, k = l2.length + 200 := ⟨_, rfl⟩
  refine ⟨k, ?_⟩
  obtain ⟨pl, pe, p1, p2, p3⟩ := put_both a0 a1 h0.1 h0.2 k (by omega)
  obtain ⟨gv, ge, g1, g2⟩ := get_both l2 hl k (by omega)
  unfold transeptlaw01_OctetsTells.f
  rw [copy_is l2 (by omega)]
  simp only [Option.bind_some]
  rw [p1, p2, g1, g2]
  simp only [Option.bind_some, transeptlaw01_num.f]
  rw [same_is pl pl (by omega) k (by omega)]
  simp only [Option.bind_some, decide_true, if_true]
  rw [dec_is a3 h3.1 h3.2 k (by omega), refdec_is a3 h3.1 h3.2 k (by omega)]
  simp only [Option.bind_some, if_true]
  rw [same_is l2 l2 (by omega) k (by omega), alive01 k (by omega)]
  simp
end Go.Proofs.Ythphelbkfgbejaa.Pure
