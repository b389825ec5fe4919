import Derived.Test.YthphelbkfgbejaaQ9
import Derived.Test.YthphelbkfgbejaaKit
import Derived.Test.YthphelbkfgbejaaPlNum
namespace Go.Proofs.Ythphelbkfgbejaa.Q
open Go.RowKit Go.Proofs.YthphelbkfgbejaaW.PrintWords Go.Proofs.YthphelbkfgbejaaW.PrintLast Go.Proofs.YthphelbkfgbejaaW.PrintMore
set_option linter.unusedVariables false
set_option linter.unusedSimpArgs false

theorem crcBit_xor (a b : Nat) : crcBit (a ^^^ b) = crcBit a ^^^ crcBit b := by
  unfold crcBit
  rw [Nat.shiftRight_xor_distrib]
  have hab : ∀ x y z w : Nat, (x ^^^ y) ^^^ (z ^^^ w) = (x ^^^ z) ^^^ (y ^^^ w) := by
    intro x y z w
    rw [Nat.xor_assoc, Nat.xor_assoc, ← Nat.xor_assoc y z w, Nat.xor_comm y z, Nat.xor_assoc z y w]
  by_cases ha : a % 2 = 1 <;> by_cases hb : b % 2 = 1
  · rw [if_pos ha, if_pos hb, if_neg (by simp [ha, hb]), hab, Nat.xor_self]
  · rw [if_pos ha, if_neg hb, if_pos (by simp [ha, hb]), Nat.xor_zero, Nat.xor_assoc, Nat.xor_comm (b >>> 1), ← Nat.xor_assoc]
  · rw [if_neg ha, if_pos hb, if_pos (by simp [ha, hb]), Nat.xor_zero, Nat.xor_assoc]
  · rw [if_neg ha, if_neg hb, if_neg (by simp [ha, hb]), Nat.xor_zero, Nat.xor_zero, Nat.xor_zero]
theorem crcBits_xor (t a b : Nat) : crcBits t (a ^^^ b) = crcBits t a ^^^ crcBits t b := by
  induction t with
  | zero => rfl
  | succ t ih => show crcBit (crcBits t (a ^^^ b)) = crcBit (crcBits t a) ^^^ crcBit (crcBits t b); rw [ih, crcBit_xor]
theorem crcBit_even (m : Nat) : crcBit (2 * m) = m := by
  unfold crcBit
  rw [if_neg (by omega), Nat.xor_zero, Nat.shiftRight_eq_div_pow]
  omega
theorem crcBits_shift (t : Nat) : ∀ m, crcBits t (2 ^ t * m) = m := by
  induction t with
  | zero => intro m; simp [crcBits]
  | succ t ih =>
    intro m
    show crcBit (crcBits t (2 ^ (t + 1) * m)) = m
    rw [show 2 ^ (t + 1) * m = 2 ^ t * (2 * m) by rw [Nat.pow_succ, Nat.mul_assoc], ih, crcBit_even]
theorem low_high (c : Nat) : c = (256 * (c >>> 8)) ^^^ (c % 256) := by
  apply Nat.eq_of_testBit_eq
  intro i
  rw [Nat.testBit_xor, show 256 * (c >>> 8) = (c >>> 8) <<< 8 by rw [Nat.shiftLeft_eq]; omega, Nat.testBit_shiftLeft, show c % 256 = c % 2 ^ 8 from rfl, Nat.testBit_mod_two_pow, Nat.testBit_shiftRight]
  by_cases h : i < 8
  · simp [h, show ¬ (8 ≤ i) by omega]
  · have h8 : 8 ≤ i := by omega
    simp [h, h8, show 8 + (i - 8) = i by omega]
/-- an octet through a register, bit by bit -/
theorem crcStep_bits (c x : Nat) : crcStep c x = crcBits 8 (c ^^^ x) := by
  unfold crcStep
  conv => rhs; rw [low_high c, Nat.xor_assoc, crcBits_xor]
  rw [show 256 * (c >>> 8) = 2 ^ 8 * (c >>> 8) from rfl, crcBits_shift]
theorem crcBit_zero (d : Nat) (hd : d < 4294967296) (h : crcBit d = 0) : d = 0 := by
  unfold crcBit at h
  by_cases ho : d % 2 = 1
  · rw [if_pos ho] at h
    have e : d >>> 1 = 0x82f63b78 := by
      have := congrArg (· ^^^ 0x82f63b78) h
      simpa [Nat.xor_assoc] using this
    rw [Nat.shiftRight_eq_div_pow] at e
    omega
  · rw [if_neg ho, Nat.xor_zero, Nat.shiftRight_eq_div_pow] at h
    omega
theorem xor_eq_zero (a b : Nat) (h : a ^^^ b = 0) : a = b := by
  have := congrArg (· ^^^ b) h
  simpa [Nat.xor_assoc] using this
theorem xor_lt32 (a b : Nat) (ha : a < 4294967296) (hb : b < 4294967296) : a ^^^ b < 4294967296 := Nat.xor_lt_two_pow (n := 32) ha hb
theorem crcBits_inj (t : Nat) : ∀ a b, a < 4294967296 → b < 4294967296 → crcBits t a = crcBits t b → a = b := by
  induction t with
  | zero => intro a b _ _ h; exact h
  | succ t ih =>
    intro a b ha hb h
    have h' : crcBit (crcBits t a) = crcBit (crcBits t b) := h
    refine ih a b ha hb (xor_eq_zero _ _ (crcBit_zero _ (xor_lt32 _ _ (crcBits_lt t a ha) (crcBits_lt t b hb)) ?_))
    rw [crcBit_xor, h', Nat.xor_self]
theorem crcStep_inj_l (c c' x : Nat) (hc : c < 4294967296) (hc' : c' < 4294967296) (hx : x < 256) (h : crcStep c x = crcStep c' x) : c = c' := by
  rw [crcStep_bits, crcStep_bits] at h
  have := crcBits_inj 8 _ _ (xor_lt32 c x hc (by omega)) (xor_lt32 c' x hc' (by omega)) h
  have := congrArg (· ^^^ x) this
  simpa [Nat.xor_assoc] using this
theorem crcStep_inj_r (c x y : Nat) (hc : c < 4294967296) (hx : x < 256) (hy : y < 256) (h : crcStep c x = crcStep c y) : x = y := by
  rw [crcStep_bits, crcStep_bits] at h
  have := crcBits_inj 8 _ _ (xor_lt32 c x hc (by omega)) (xor_lt32 c y hc (by omega)) h
  have := congrArg (c ^^^ ·) this
  simpa [← Nat.xor_assoc] using this
theorem crcRun_inj (l : List Int) (hl : Octs l) : ∀ c c', c < 4294967296 → c' < 4294967296 → crcRun c l = crcRun c' l → c = c' := by
  induction l with
  | nil => intro c c' _ _ h; exact h
  | cons x l ih =>
    intro c c' hc hc' h
    have hx : x.toNat < 256 := by have := hl x (by simp); omega
    exact crcStep_inj_l c c' x.toNat hc hc' hx (ih (fun y hy => hl y (by simp [hy])) _ _ (crcStep_lt c _ hc hx) (crcStep_lt c' _ hc' hx) h)
theorem crcRun_app (c : Nat) (a b : List Int) : crcRun c (a ++ b) = crcRun (crcRun c a) b := by simp [crcRun, List.foldl_append]
/-- one octet that is another one makes another sum -/
theorem crcSum_set (l : List Int) (hl : Octs l) (p : Nat) (hp : p < l.length) (v : Int) (hv : 0 ≤ v ∧ v < 256) (hne : v ≠ l[p]) : crcSum (l.set p v) ≠ crcSum l := by
  intro h
  have ho : Octs (l.set p v) := by
    intro x hx
    rcases List.mem_or_eq_of_mem_set hx with hx | rfl
    · exact hl x hx
    · exact hv
  have h1 := crcRun_lt l 4294967295 (by omega) hl
  have h2 := crcRun_lt (l.set p v) 4294967295 (by omega) ho
  unfold crcSum at h
  have h3 : crcRun 4294967295 (l.set p v) = crcRun 4294967295 l := by omega
  have e1 : l = l.take p ++ (l[p] :: l.drop (p + 1)) := by rw [← List.drop_eq_getElem_cons hp, List.take_append_drop]
  have e2 : l.set p v = l.take p ++ (v :: l.drop (p + 1)) := List.set_eq_take_append_cons_drop.trans (by rw [if_pos hp])
  rw [e2] at h3
  conv at h3 => rhs; rw [e1]
  rw [crcRun_app, crcRun_app] at h3
  have hq := crcRun_lt (l.take p) 4294967295 (by omega) (hl.take p)
  have hlp := hl _ (List.getElem_mem hp)
  have hc : ∀ x : Int, crcRun (crcRun 4294967295 (l.take p)) (x :: l.drop (p + 1)) = crcRun (crcStep (crcRun 4294967295 (l.take p)) x.toNat) (l.drop (p + 1)) := fun x => rfl
  rw [hc, hc] at h3
  have h4 := crcRun_inj _ (hl.drop (p + 1)) _ _ (crcStep_lt _ _ hq (by omega)) (crcStep_lt _ _ hq (by omega)) h3
  have h5 := crcStep_inj_r _ _ _ hq (by omega) (by omega) h4
  omega
/-- numbers of octets: one for each -/
theorem bv_inj : ∀ (n : Nat) (a b : List Int), a.length = n → b.length = n → Octs a → Octs b → bv a = bv b → a = b := by
  intro n
  induction n with
  | zero => intro a b ha hb _ _ _; rw [List.eq_nil_of_length_eq_zero ha, List.eq_nil_of_length_eq_zero hb]
  | succ n ih =>
    intro a b ha hb oa ob h
    obtain ⟨a', x, rfl⟩ : ∃ a' x, a = a' ++ [x] := ⟨a.dropLast, a.getLast (by intro e; subst e; simp at ha), (List.dropLast_concat_getLast _).symm⟩
    obtain ⟨b', y, rfl⟩ : ∃ b' y, b = b' ++ [y] := ⟨b.dropLast, b.getLast (by intro e; subst e; simp at hb), (List.dropLast_concat_getLast _).symm⟩
    rw [bv_snoc, bv_snoc] at h
    have hx := oa x (by simp)
    have hy := ob y (by simp)
    have e : bv a' = bv b' := by omega
    have e2 : x = y := by omega
    rw [ih a' b' (by simpa using ha) (by simpa using hb) (fun z hz => oa z (by simp [hz])) (fun z hz => ob z (by simp [hz])) e, e2]

end Go.Proofs.Ythphelbkfgbejaa.Q
