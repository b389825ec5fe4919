-- (thinned for this claim by wip/tools/shake.py: what the claim doesn't use is left out)
import Derived.Test.YtooabchnbmnchaaQ1
import Derived.Test.YtooabchnbmnchaaQ16
import Derived.Test.YtooabchnbmnchaaKit
namespace Go.Proofs.Ytooabchnbmnchaa.Q
open Go.RowKit Go.Proofs.YtooabchnbmnchaaW.PrintWords Go.Proofs.YtooabchnbmnchaaW.PrintLast Go.Proofs.YtooabchnbmnchaaW.PrintMore
set_option linter.unusedVariables false
set_option linter.unusedSimpArgs false
theorem u64_id (n : Int) (h0 : 0 ≤ n) (h1 : n < 18446744073709551616) : IntKind.u64.wrap n = n := by
  simp only [IntKind.wrap, IntKind.bits, IntKind.signed]
  simp
  omega
def bv (l : List Int) : Int := l.foldl (fun n x => n * 256 + x) 0
theorem bv_snoc (l : List Int) (x : Int) : bv (l ++ [x]) = bv l * 256 + x := by simp [bv, List.foldl_append]
theorem bv_bound (l : List Int) (h : Octs l) : 0 ≤ bv l ∧ bv l < 256 ^ l.length := by
  obtain ⟨r, rfl⟩ : ∃ r, l = r.reverse := ⟨l.reverse, by simp⟩
  induction r with
  | nil => simp [bv]
  | cons x r ih =>
    have h1 := ih (fun y hy => h y (by simp at hy ⊢; exact .inl hy))
    have hx := h x (by simp)
    rw [List.reverse_cons, bv_snoc]
    simp only [List.length_append, List.length_reverse, List.length_cons, List.length_nil, Nat.zero_add] at h1 ⊢
    rw [Int.pow_succ]
    omega
theorem or_byte (a b : Int) (ha0 : 0 ≤ a) (ha : a * 256 < 18446744073709551616) (hb0 : 0 ≤ b) (hb : b < 256) : Go.bits .or .u64 (IntKind.u64.wrap (a * 256)) (IntKind.u64.wrap b) = a * 256 + b := by
  rw [u64_id _ (by omega) ha, u64_id _ hb0 (by omega)]
  exact bits_join .u64 64 (by decide) (fun n h0 h1 => u64_id n h0 (by simpa using h1)) 8 (a * 256) b (by omega) (by simp) (by simpa using ha) hb0 (by simpa using hb) (by simp; omega)
theorem pow256_le {i : Nat} (h : i ≤ 7) : (256 : Int) ^ i * 256 ≤ 18446744073709551616 := by
  have : i = 0 ∨ i = 1 ∨ i = 2 ∨ i = 3 ∨ i = 4 ∨ i = 5 ∨ i = 6 ∨ i = 7 := by omega
  rcases this with h | h | h | h | h | h | h | h <;> subst h <;> decide
theorem get_loop (l : List Int) (hl : Octs l) (hn : l.length ≤ 8) : ∀ (d k i : Nat), i + d = l.length → d < k →
    octets_Get.l0 k (bv (l.take i)) l (l.length : Int) (i : Int) = some (bv l, 0) := by
  intro d
  induction d with
  | zero =>
    intro k i hi hk
    obtain ⟨k, rfl⟩ : ∃ m, k = m + 1 := ⟨k - 1, by omega⟩
    simp only [octets_Get.l0]
    rw [if_neg (by omega), List.take_of_length_le (by omega)]
  | succ d ih =>
    intro k i hi hk
    obtain ⟨k, rfl⟩ : ∃ m, k = m + 1 := ⟨k - 1, by omega⟩
    have h1 : i < l.length := by omega
    have hx := hl l[i] (List.getElem_mem h1)
    have hb := bv_bound (l.take i) (hl.take i)
    have hlen : (l.take i).length = i := by simp; omega
    rw [hlen] at hb
    have hp := pow256_le (i := i) (by omega)
    simp only [octets_Get.l0]
    rw [if_pos (by omega), if_pos (by omega), if_pos (by omega), rd_nat l i h1, or_byte _ _ hb.1 (by omega) hx.1 hx.2]
    rw [wrap64_id (by omega) (by omega)]
    have := ih k (i + 1) (by omega) (by omega)
    rw [List.take_succ_eq_append_getElem h1, bv_snoc] at this
    exact this
theorem get_is (l : List Int) (hl : Octs l) (h1 : 1 ≤ l.length) (h8 : l.length ≤ 8) (k : Nat) (hk : l.length + 1 < k) : octets_Get.f k l = some (bv l, 0) := by
  unfold octets_Get.f
  rw [if_neg (by omega)]
  obtain ⟨k, rfl⟩ : ∃ m, k = m + 1 := ⟨k - 1, by omega⟩
  simp only [octets_Get.j0]
  rw [if_neg (by simp; omega)]
  exact get_loop l hl h8 l.length k 0 (by omega) (by omega)
theorem shift_val (size k : Nat) (hs : size ≤ 8) (hk : k < size) : (shOf (8 * ((size : Int) - 1 - k))).1.toNat = 8 * (size - 1 - k) := by
  rw [shOf_val _ (by omega)]
  omega
theorem be_octs (n : Int) (l : List Sh) : Octs (beOf n l) := by
  intro x hx
  obtain ⟨s, _, rfl⟩ := List.mem_map.mp hx
  omega
theorem bv_be (n : Int) (h0 : 0 ≤ n) (size : Nat) (hs : size ≤ 8) (hn : n < 2 ^ (8 * size)) : ∀ k, k ≤ size → bv (beOf n (shiftsUp size k)) = n / 2 ^ (8 * (size - k)) := by
  intro k
  induction k with
  | zero =>
    intro _
    have : n / 2 ^ (8 * (size - 0)) = 0 := Int.ediv_eq_zero_of_lt h0 (by simpa using hn)
    rw [this]; rfl
  | succ k ih =>
    intro hk
    rw [shiftsUp_succ, beOf_snoc, bv_snoc, ih (by omega), shift_val size k hs (by omega)]
    have e : 8 * (size - k) = 8 * (size - 1 - k) + 8 := by omega
    have e2 : 8 * (size - (k + 1)) = 8 * (size - 1 - k) := by omega
    rw [e, e2, Int.pow_add, ← Int.ediv_ediv_of_nonneg (Int.le_of_lt (Int.pow_pos (by decide)))]
    have : (2 : Int) ^ 8 = 256 := by decide
    rw [this]
    omega
theorem shiftsOf_length (size : Nat) : (shiftsOf size).length = size := shiftsUp_length size size
theorem back_put (n : Int) (h0 : 0 ≤ n) (size : Nat) (hs8 : size ≤ 8) (hn : n < 2 ^ (8 * size)) : bv (beOf n (shiftsOf size)) = n := by
  rw [show shiftsOf size = shiftsUp size size from rfl, bv_be n h0 size hs8 hn size (Nat.le_refl _), Nat.sub_self]
  simp
end Go.Proofs.Ytooabchnbmnchaa.Q
