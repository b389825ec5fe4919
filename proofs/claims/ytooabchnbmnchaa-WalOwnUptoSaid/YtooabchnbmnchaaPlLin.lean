-- (thinned for this claim by wip/tools/shake.py: what the claim doesn't use is left out)
import Derived.Test.YtooabchnbmnchaaQ1
import Derived.Test.YtooabchnbmnchaaKit
import Derived.Test.YtooabchnbmnchaaPlNum
namespace Go.Proofs.Ytooabchnbmnchaa.Q
open Go.RowKit Go.Proofs.YtooabchnbmnchaaW.PrintWords Go.Proofs.YtooabchnbmnchaaW.PrintLast Go.Proofs.YtooabchnbmnchaaW.PrintMore
set_option linter.unusedVariables false
set_option linter.unusedSimpArgs false
theorem crcBit_xor (a b : Nat) : crcBit (a ^^^ b) = crcBit a ^^^ crcBit b := by
  unfold crcBit
  rw [Nat.shiftRight_xor_distrib]
  have hab : ∀ x y z w : Nat, (x ^^^ y) ^^^ (z ^^^ w) = (x ^^^ z) ^^^ (y ^^^ w) := by
    intro x y z w
    rw [Nat.xor_assoc, Nat.xor_assoc, ← Nat.xor_assoc y z w, Nat.xor_comm y z, Nat.xor_assoc z y w]
  by_cases ha : a % 2 = 1 <;> by_cases hb : b % 2 = 1
  · rw [if_pos ha, if_pos hb, if_neg (by simp [ha, hb]), hab, Nat.xor_self]
  · rw [if_pos ha, if_neg hb, if_pos (by simp [ha, hb]), Nat.xor_zero, Nat.xor_assoc, Nat.xor_comm (b >>> 1), ← Nat.xor_assoc]
  · rw [if_neg ha, if_pos hb, if_pos (by simp [ha, hb]), Nat.xor_zero, Nat.xor_assoc]
  · rw [if_neg ha, if_neg hb, if_neg (by simp [ha, hb]), Nat.xor_zero, Nat.xor_zero, Nat.xor_zero]
theorem crcBits_xor (t a b : Nat) : crcBits t (a ^^^ b) = crcBits t a ^^^ crcBits t b := by
  induction t with
  | zero => rfl
  | succ t ih => show crcBit (crcBits t (a ^^^ b)) = crcBit (crcBits t a) ^^^ crcBit (crcBits t b); rw [ih, crcBit_xor]
theorem crcBit_even (m : Nat) : crcBit (2 * m) = m := by
  unfold crcBit
  rw [if_neg (by omega), Nat.xor_zero, Nat.shiftRight_eq_div_pow]
  omega
theorem crcBits_shift (t : Nat) : ∀ m, crcBits t (2 ^ t * m) = m := by
  induction t with
  | zero => intro m; simp [crcBits]
  | succ t ih =>
    intro m
    show crcBit (crcBits t (2 ^ (t + 1) * m)) = m
    rw [show 2 ^ (t + 1) * m = 2 ^ t * (2 * m) by rw [Nat.pow_succ, Nat.mul_assoc], ih, crcBit_even]
theorem low_high (c : Nat) : c = (256 * (c >>> 8)) ^^^ (c % 256) := by
  apply Nat.eq_of_testBit_eq
  intro i
  rw [Nat.testBit_xor, show 256 * (c >>> 8) = (c >>> 8) <<< 8 by rw [Nat.shiftLeft_eq]; omega, Nat.testBit_shiftLeft, show c % 256 = c % 2 ^ 8 from rfl, Nat.testBit_mod_two_pow, Nat.testBit_shiftRight]
  by_cases h : i < 8
  · simp [h, show ¬ (8 ≤ i) by omega]
  · have h8 : 8 ≤ i := by omega
    simp [h, h8, show 8 + (i - 8) = i by omega]
theorem crcStep_bits (c x : Nat) : crcStep c x = crcBits 8 (c ^^^ x) := by
  unfold crcStep
  conv => rhs; rw [low_high c, Nat.xor_assoc, crcBits_xor]
  rw [show 256 * (c >>> 8) = 2 ^ 8 * (c >>> 8) from rfl, crcBits_shift]
theorem crcRun_app (c : Nat) (a b : List Int) : crcRun c (a ++ b) = crcRun (crcRun c a) b := by simp [crcRun, List.foldl_append]
end Go.Proofs.Ytooabchnbmnchaa.Q
