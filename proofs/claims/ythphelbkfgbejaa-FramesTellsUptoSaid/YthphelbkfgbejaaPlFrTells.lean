import Derived.Test.YthphelbkfgbejaaQ11
import Derived.Test.YthphelbkfgbejaaQ19
import Derived.Test.YthphelbkfgbejaaQ24
import Derived.Test.YthphelbkfgbejaaQ5
import Derived.Test.YthphelbkfgbejaaQ16
import Derived.Test.YthphelbkfgbejaaQ28
import Derived.Test.YthphelbkfgbejaaQ12
import Derived.Test.YthphelbkfgbejaaQ22
import Derived.Test.YthphelbkfgbejaaQ23
import Derived.Test.YthphelbkfgbejaaQ26
import Derived.Test.YthphelbkfgbejaaQ29
import Derived.Test.YthphelbkfgbejaaQ17
import Derived.Test.YthphelbkfgbejaaQ18
import Derived.Test.YthphelbkfgbejaaQ2
import Derived.Test.YthphelbkfgbejaaKit
import Derived.Test.YthphelbkfgbejaaPlNum
import Derived.Test.YthphelbkfgbejaaPlCrc
import Derived.Test.YthphelbkfgbejaaPlSame
namespace Go.Proofs.Ythphelbkfgbejaa.Q
open Go.RowKit Go.Proofs.YthphelbkfgbejaaW.PrintWords Go.Proofs.YthphelbkfgbejaaW.PrintLast Go.Proofs.YthphelbkfgbejaaW.PrintMore
set_option linter.unusedVariables false
set_option linter.unusedSimpArgs false

theorem crcBit_xor (a b : Nat) : crcBit (a ^^^ b) = crcBit a ^^^ crcBit b := by
  unfold crcBit
  rw [Nat.shiftRight_xor_distrib]
  have hab : ∀ x y z w : Nat, (x ^^^ y) ^^^ (z ^^^ w) = (x ^^^ z) ^^^ (y ^^^ w) := by
    intro x y z w
    rw [Nat.xor_assoc, Nat.xor_assoc, ← Nat.xor_assoc y z w, Nat.xor_comm y z, Nat.xor_assoc z y w]
  by_cases ha : a % 2 = 1 <;> by_cases hb : b % 2 = 1
  · rw [if_pos ha, if_pos hb, if_neg (by simp [ha, hb]), hab, Nat.xor_self]
  · rw [if_pos ha, if_neg hb, if_pos (by simp [ha, hb]), Nat.xor_zero, Nat.xor_assoc, Nat.xor_comm (b >>> 1), ← Nat.xor_assoc]
  · rw [if_neg ha, if_pos hb, if_pos (by simp [ha, hb]), Nat.xor_zero, Nat.xor_assoc]
  · rw [if_neg ha, if_neg hb, if_neg (by simp [ha, hb]), Nat.xor_zero, Nat.xor_zero, Nat.xor_zero]
theorem crcBits_xor (t a b : Nat) : crcBits t (a ^^^ b) = crcBits t a ^^^ crcBits t b := by
  induction t with
  | zero => rfl
  | succ t ih => show crcBit (crcBits t (a ^^^ b)) = crcBit (crcBits t a) ^^^ crcBit (crcBits t b); rw [ih, crcBit_xor]
theorem crcBit_even (m : Nat) : crcBit (2 * m) = m := by
  unfold crcBit
  rw [if_neg (by omega), Nat.xor_zero, Nat.shiftRight_eq_div_pow]
  omega
theorem crcBits_shift (t : Nat) : ∀ m, crcBits t (2 ^ t * m) = m := by
  induction t with
  | zero => intro m; simp [crcBits]
  | succ t ih =>
    intro m
    show crcBit (crcBits t (2 ^ (t + 1) * m)) = m
    rw [show 2 ^ (t + 1) * m = 2 ^ t * (2 * m) by rw [Nat.pow_succ, Nat.mul_assoc], ih, crcBit_even]
theorem low_high (c : Nat) : c = (256 * (c >>> 8)) ^^^ (c % 256) := by
  apply Nat.eq_of_testBit_eq
  intro i
  rw [Nat.testBit_xor, show 256 * (c >>> 8) = (c >>> 8) <<< 8 by rw [Nat.shiftLeft_eq]; omega, Nat.testBit_shiftLeft, show c % 256 = c % 2 ^ 8 from rfl, Nat.testBit_mod_two_pow, Nat.testBit_shiftRight]
  by_cases h : i < 8
  · simp [h, show ¬ (8 ≤ i) by omega]
  · have h8 : 8 ≤ i := by omega
    simp [h, h8, show 8 + (i - 8) = i by omega]
/-- an octet through a register, bit by bit -/
theorem crcStep_bits (c x : Nat) : crcStep c x = crcBits 8 (c ^^^ x) := by
  unfold crcStep
  conv => rhs; rw [low_high c, Nat.xor_assoc, crcBits_xor]
  rw [show 256 * (c >>> 8) = 2 ^ 8 * (c >>> 8) from rfl, crcBits_shift]
theorem crcBit_zero (d : Nat) (hd : d < 4294967296) (h : crcBit d = 0) : d = 0 := by
  unfold crcBit at h
  by_cases ho : d % 2 = 1
  · rw [if_pos ho] at h
    have e : d >>> 1 = 0x82f63b78 := by
      have := congrArg (· ^^^ 0x82f63b78) h
      simpa [Nat.xor_assoc] using this
    rw [Nat.shiftRight_eq_div_pow] at e
    omega
  · rw [if_neg ho, Nat.xor_zero, Nat.shiftRight_eq_div_pow] at h
    omega
theorem xor_eq_zero (a b : Nat) (h : a ^^^ b = 0) : a = b := by
  have := congrArg (· ^^^ b) h
  simpa [Nat.xor_assoc] using this
theorem xor_lt32 (a b : Nat) (ha : a < 4294967296) (hb : b < 4294967296) : a ^^^ b < 4294967296 := Nat.xor_lt_two_pow (n := 32) ha hb
theorem crcBits_inj (t : Nat) : ∀ a b, a < 4294967296 → b < 4294967296 → crcBits t a = crcBits t b → a = b := by
  induction t with
  | zero => intro a b _ _ h; exact h
  | succ t ih =>
    intro a b ha hb h
    have h' : crcBit (crcBits t a) = crcBit (crcBits t b) := h
    refine ih a b ha hb (xor_eq_zero _ _ (crcBit_zero _ (xor_lt32 _ _ (crcBits_lt t a ha) (crcBits_lt t b hb)) ?_))
    rw [crcBit_xor, h', Nat.xor_self]
theorem crcStep_inj_l (c c' x : Nat) (hc : c < 4294967296) (hc' : c' < 4294967296) (hx : x < 256) (h : crcStep c x = crcStep c' x) : c = c' := by
  rw [crcStep_bits, crcStep_bits] at h
  have := crcBits_inj 8 _ _ (xor_lt32 c x hc (by omega)) (xor_lt32 c' x hc' (by omega)) h
  have := congrArg (· ^^^ x) this
  simpa [Nat.xor_assoc] using this
theorem crcStep_inj_r (c x y : Nat) (hc : c < 4294967296) (hx : x < 256) (hy : y < 256) (h : crcStep c x = crcStep c y) : x = y := by
  rw [crcStep_bits, crcStep_bits] at h
  have := crcBits_inj 8 _ _ (xor_lt32 c x hc (by omega)) (xor_lt32 c y hc (by omega)) h
  have := congrArg (c ^^^ ·) this
  simpa [← Nat.xor_assoc] using this
theorem crcRun_inj (l : List Int) (hl : Octs l) : ∀ c c', c < 4294967296 → c' < 4294967296 → crcRun c l = crcRun c' l → c = c' := by
  induction l with
  | nil => intro c c' _ _ h; exact h
  | cons x l ih =>
    intro c c' hc hc' h
    have hx : x.toNat < 256 := by have := hl x (by simp); omega
    exact crcStep_inj_l c c' x.toNat hc hc' hx (ih (fun y hy => hl y (by simp [hy])) _ _ (crcStep_lt c _ hc hx) (crcStep_lt c' _ hc' hx) h)
theorem crcRun_app (c : Nat) (a b : List Int) : crcRun c (a ++ b) = crcRun (crcRun c a) b := by simp [crcRun, List.foldl_append]
/-- one octet that is another one makes another sum -/
theorem crcSum_set (l : List Int) (hl : Octs l) (p : Nat) (hp : p < l.length) (v : Int) (hv : 0 ≤ v ∧ v < 256) (hne : v ≠ l[p]) : crcSum (l.set p v) ≠ crcSum l := by
  intro h
  have ho : Octs (l.set p v) := by
    intro x hx
    rcases List.mem_or_eq_of_mem_set hx with hx | rfl
    · exact hl x hx
    · exact hv
  have h1 := crcRun_lt l 4294967295 (by omega) hl
  have h2 := crcRun_lt (l.set p v) 4294967295 (by omega) ho
  unfold crcSum at h
  have h3 : crcRun 4294967295 (l.set p v) = crcRun 4294967295 l := by omega
  have e1 : l = l.take p ++ (l[p] :: l.drop (p + 1)) := by rw [← List.drop_eq_getElem_cons hp, List.take_append_drop]
  have e2 : l.set p v = l.take p ++ (v :: l.drop (p + 1)) := List.set_eq_take_append_cons_drop.trans (by rw [if_pos hp])
  rw [e2] at h3
  conv at h3 => rhs; rw [e1]
  rw [crcRun_app, crcRun_app] at h3
  have hq := crcRun_lt (l.take p) 4294967295 (by omega) (hl.take p)
  have hlp := hl _ (List.getElem_mem hp)
  have hc : ∀ x : Int, crcRun (crcRun 4294967295 (l.take p)) (x :: l.drop (p + 1)) = crcRun (crcStep (crcRun 4294967295 (l.take p)) x.toNat) (l.drop (p + 1)) := fun x => rfl
  rw [hc, hc] at h3
  have h4 := crcRun_inj _ (hl.drop (p + 1)) _ _ (crcStep_lt _ _ hq (by omega)) (crcStep_lt _ _ hq (by omega)) h3
  have h5 := crcStep_inj_r _ _ _ hq (by omega) (by omega) h4
  omega
/-- numbers of octets: one for each -/
theorem bv_inj : ∀ (n : Nat) (a b : List Int), a.length = n → b.length = n → Octs a → Octs b → bv a = bv b → a = b := by
  intro n
  induction n with
  | zero => intro a b ha hb _ _ _; rw [List.eq_nil_of_length_eq_zero ha, List.eq_nil_of_length_eq_zero hb]
  | succ n ih =>
    intro a b ha hb oa ob h
    obtain ⟨a', x, rfl⟩ : ∃ a' x, a = a' ++ [x] := ⟨a.dropLast, a.getLast (by intro e; subst e; simp at ha), (List.dropLast_concat_getLast _).symm⟩
    obtain ⟨b', y, rfl⟩ : ∃ b' y, b = b' ++ [y] := ⟨b.dropLast, b.getLast (by intro e; subst e; simp at hb), (List.dropLast_concat_getLast _).symm⟩
    rw [bv_snoc, bv_snoc] at h
    have hx := oa x (by simp)
    have hy := ob y (by simp)
    have e : bv a' = bv b' := by omega
    have e2 : x = y := by omega
    rw [ih a' b' (by simpa using ha) (by simpa using hb) (fun z hz => oa z (by simp [hz])) (fun z hz => ob z (by simp [hz])) e, e2]
theorem shr64 (n : Int) (s : Nat) (hs : s ≤ 64) : shr .u64 n (s : Int) = n / 2 ^ s := by
  unfold shr
  rw [Int.toNat_natCast, Nat.min_eq_left (by simpa [IntKind.bits] using hs)]
theorem octets_loop (n : Int) (size : Nat) (hs : size ≤ 8) : ∀ (d k j : Nat), j + d = size → d < k →
    transeptref01_Octets.l0 k n (beOf n (shiftsUp size j)) ((size : Int) - 1 - (j : Int)) = some (beOf n (shiftsOf size)) := by
  intro d
  induction d with
  | zero =>
    intro k j hj hk
    obtain ⟨k, rfl⟩ : ∃ m, k = m + 1 := ⟨k - 1, by omega⟩
    simp only [transeptref01_Octets.l0]
    have : j = size := by omega
    subst this
    rw [if_neg (by omega)]
    rfl
  | succ d ih =>
    intro k j hj hk
    obtain ⟨k, rfl⟩ : ∃ m, k = m + 1 := ⟨k - 1, by omega⟩
    have hlt : j < size := by omega
    have hlen : (beOf n (shiftsUp size j)).length = j := by rw [beOf_length, shiftsUp_length]
    simp only [transeptref01_Octets.l0]
    have e : (8 : Int) * ((size : Int) - 1 - (j : Int)) = ((8 * (size - 1 - j) : Nat) : Int) := by omega
    rw [e, wrap64_id (by omega) (by omega), if_pos (by omega), if_pos (by omega), if_pos (by omega), shr64 n _ (by omega)]
    rw [wrap64_id (by omega) (by omega)]
    have := ih k (j + 1) (by omega) (by omega)
    rw [shiftsUp_succ, beOf_snoc, shift_val size j hs hlt] at this
    rw [show (size : Int) - 1 - (j : Int) - 1 = (size : Int) - 1 - ((j + 1 : Nat) : Int) by omega]
    exact this
theorem refOctets_is (n : Int) (size : Nat) (hs : size ≤ 8) (k : Nat) (hk : size < k) : transeptref01_Octets.f k n (size : Int) = some (beOf n (shiftsOf size)) := by
  unfold transeptref01_Octets.f
  rw [wrap64_id (by omega) (by omega)]
  have := octets_loop n size hs size k 0 (by omega) hk
  simpa [shiftsUp, beOf] using this
theorem number_loop (l : List Int) (hl : Octs l) (hn : l.length ≤ 8) : ∀ (d k i : Nat), i + d = l.length → d < k →
    transeptref01_Number.l0 k l (bv (l.take i)) (i : Int) = some (bv l) := by
  intro d
  induction d with
  | zero =>
    intro k i hi hk
    obtain ⟨k, rfl⟩ : ∃ m, k = m + 1 := ⟨k - 1, by omega⟩
    simp only [transeptref01_Number.l0]
    rw [if_neg (by omega), List.take_of_length_le (by omega)]
  | succ d ih =>
    intro k i hi hk
    obtain ⟨k, rfl⟩ : ∃ m, k = m + 1 := ⟨k - 1, by omega⟩
    have h1 : i < l.length := by omega
    have hx := hl l[i] (List.getElem_mem h1)
    have hb := bv_bound (l.take i) (hl.take i)
    have hlen : (l.take i).length = i := by simp; omega
    rw [hlen] at hb
    have hp := pow256_le (i := i) (by omega)
    simp only [transeptref01_Number.l0]
    rw [if_pos (by omega), if_pos (by omega), rd_nat l i h1]
    rw [u64_id (bv (l.take i) * 256) (by omega) (by omega), u64_id l[i] hx.1 (by omega), u64_id _ (by omega) (by omega)]
    rw [wrap64_id (by omega) (by omega)]
    have := ih k (i + 1) (by omega) (by omega)
    rw [List.take_succ_eq_append_getElem h1, bv_snoc] at this
    exact this
theorem refNumber_is (l : List Int) (hl : Octs l) (hn : l.length ≤ 8) (k : Nat) (hk : l.length < k) : transeptref01_Number.f k l = some (bv l) :=
  number_loop l hl hn l.length k 0 (by omega) hk
/-- what is opened: a whole frame ahead -/
theorem openOf_ok (b : List Int) (h : (openOf b).2.2.2 = 0) : ∃ n : Nat, n ≤ 4096 ∧ n + 8 ≤ b.length ∧ openOf b = (b.getD 1 0, (b.take (n + 4)).drop 4, ((n + 8 : Nat) : Int), 0) ∧
    (bv ((b.take 4).drop 2)).toNat = n ∧ ¬ 4096 < bv ((b.take 4).drop 2) ∧ b.getD 0 0 = 167 ∧ bv ((b.take (n + 8)).drop (n + 4)) = ((crcSum (b.take (n + 4)) : Nat) : Int) := by
  unfold openOf at h ⊢
  by_cases c1 : b.length < 8
  · rw [if_pos c1] at h; exact absurd h (by decide)
  rw [if_neg c1] at h ⊢
  by_cases c2 : b.getD 0 0 ≠ 167
  · rw [if_pos c2] at h; exact absurd h (by decide)
  rw [if_neg c2] at h ⊢
  by_cases c3 : 4096 < bv ((b.take 4).drop 2)
  · rw [if_pos c3] at h; exact absurd h (by decide)
  rw [if_neg c3] at h ⊢
  by_cases c4 : b.length < (bv ((b.take 4).drop 2)).toNat + 8
  · rw [if_pos c4] at h; exact absurd h (by decide)
  rw [if_neg c4] at h ⊢
  by_cases c5 : bv ((b.take ((bv ((b.take 4).drop 2)).toNat + 8)).drop ((bv ((b.take 4).drop 2)).toNat + 4)) ≠ ((crcSum (b.take ((bv ((b.take 4).drop 2)).toNat + 4)) : Nat) : Int)
  · rw [if_pos c5] at h; exact absurd h (by decide)
  rw [if_neg c5]
  exact ⟨(bv ((b.take 4).drop 2)).toNat, by omega, by omega, rfl, rfl, c3, Classical.not_not.1 c2, Classical.not_not.1 c5⟩
theorem openOf_bad (b : List Int) (h : (openOf b).2.2.2 ≠ 0) : ∃ e, e ≠ 0 ∧ openOf b = (0, [], 0, e) := by
  unfold openOf at h ⊢
  by_cases c1 : b.length < 8
  · rw [if_pos c1]; exact ⟨8, by decide, rfl⟩
  rw [if_neg c1] at h ⊢
  by_cases c2 : b.getD 0 0 ≠ 167
  · rw [if_pos c2]; exact ⟨22, by decide, rfl⟩
  rw [if_neg c2] at h ⊢
  by_cases c3 : 4096 < bv ((b.take 4).drop 2)
  · rw [if_pos c3]; exact ⟨5, by decide, rfl⟩
  rw [if_neg c3] at h ⊢
  by_cases c4 : b.length < (bv ((b.take 4).drop 2)).toNat + 8
  · rw [if_pos c4]; exact ⟨8, by decide, rfl⟩
  rw [if_neg c4] at h ⊢
  by_cases c5 : bv ((b.take ((bv ((b.take 4).drop 2)).toNat + 8)).drop ((bv ((b.take 4).drop 2)).toNat + 4)) ≠ ((crcSum (b.take ((bv ((b.take 4).drop 2)).toNat + 4)) : Nat) : Int)
  · rw [if_pos c5]; exact ⟨21, by decide, rfl⟩
  rw [if_neg c5] at h
  exact absurd rfl h
/-- the frames at the head of octets, and how many octets they are -/
def scanOf : Nat → List Int → List (Int × List Int) × Nat
  | 0, _ => ([], 0)
  | d + 1, b => if (openOf b).2.2.2 = 0 then (((openOf b).1, (openOf b).2.1) :: (scanOf d (b.drop (openOf b).2.2.1.toNat)).1, (openOf b).2.2.1.toNat + (scanOf d (b.drop (openOf b).2.2.1.toNat)).2) else ([], 0)
theorem openOf_size (b : List Int) (h : (openOf b).2.2.2 = 0) : 8 ≤ (openOf b).2.2.1.toNat ∧ (openOf b).2.2.1.toNat ≤ b.length ∧ (openOf b).2.2.1 = ((openOf b).2.2.1.toNat : Int) := by
  obtain ⟨n, h1, h2, h3, _⟩ := openOf_ok b h
  rw [h3]
  show 8 ≤ (((n + 8 : Nat) : Int)).toNat ∧ (((n + 8 : Nat) : Int)).toNat ≤ b.length ∧ ((n + 8 : Nat) : Int) = ((((n + 8 : Nat) : Int)).toNat : Int)
  rw [Int.toNat_natCast]
  exact ⟨by omega, h2, rfl⟩
theorem scanOf_fuel : ∀ (d e : Nat) (b : List Int), b.length < d → b.length < e → scanOf d b = scanOf e b := by
  intro d
  induction d with
  | zero => intro e b h; omega
  | succ d ih =>
    intro e b h1 h2
    obtain ⟨e, rfl⟩ : ∃ m, e = m + 1 := ⟨e - 1, by omega⟩
    simp only [scanOf]
    by_cases ho : (openOf b).2.2.2 = 0
    · have hs := openOf_size b ho
      rw [if_pos ho, if_pos ho, ih e (b.drop (openOf b).2.2.1.toNat) (by rw [List.length_drop]; omega) (by rw [List.length_drop]; omega)]
    · rw [if_neg ho, if_neg ho]
def sc (b : List Int) : List (Int × List Int) × Nat := scanOf (b.length + 1) b
theorem sc_ok (b : List Int) (h : (openOf b).2.2.2 = 0) : sc b = (((openOf b).1, (openOf b).2.1) :: (sc (b.drop (openOf b).2.2.1.toNat)).1, (openOf b).2.2.1.toNat + (sc (b.drop (openOf b).2.2.1.toNat)).2) := by
  have hs := openOf_size b h
  unfold sc
  rw [scanOf_fuel ((b.drop (openOf b).2.2.1.toNat).length + 1) b.length (b.drop (openOf b).2.2.1.toNat) (by omega) (by rw [List.length_drop]; omega)]
  show scanOf (b.length + 1) b = _
  simp only [scanOf]
  rw [if_pos h]
theorem sc_bad (b : List Int) (h : (openOf b).2.2.2 ≠ 0) : sc b = ([], 0) := by
  unfold sc
  simp only [scanOf]
  rw [if_neg h]
theorem openOf_nil : (openOf []).2.2.2 ≠ 0 := by decide
theorem sc_nil : sc [] = ([], 0) := sc_bad [] openOf_nil
theorem sc_le : ∀ (n : Nat) (b : List Int), b.length ≤ n → (sc b).2 ≤ b.length ∧ 8 * (sc b).1.length ≤ (sc b).2 := by
  intro n
  induction n with
  | zero =>
    intro b hb
    have : b = [] := List.length_eq_zero_iff.1 (by omega)
    subst this
    rw [sc_nil]; simp
  | succ n ih =>
    intro b hb
    by_cases ho : (openOf b).2.2.2 = 0
    · have hs := openOf_size b ho
      have := ih (b.drop (openOf b).2.2.1.toNat) (by rw [List.length_drop]; omega)
      rw [List.length_drop] at this
      rw [sc_ok b ho]
      simp only [List.length_cons]
      omega
    · rw [sc_bad b ho]; simp
/-- what stands behind a whole frame does not matter to it -/
theorem openOf_append (b c : List Int) (h : (openOf b).2.2.2 = 0) : openOf (b ++ c) = openOf b := by
  obtain ⟨n, h1, h2, h3, h4, h4', h5, h6⟩ := openOf_ok b h
  have t4 : (b ++ c).take 4 = b.take 4 := List.take_append_of_le_length (by omega)
  have tn : (b ++ c).take (n + 4) = b.take (n + 4) := List.take_append_of_le_length (by omega)
  have tm : (b ++ c).take (n + 8) = b.take (n + 8) := List.take_append_of_le_length (by omega)
  have g0 : (b ++ c).getD 0 0 = b.getD 0 0 := by rw [List.getD_eq_getElem?_getD, List.getElem?_append_left (by omega), List.getD_eq_getElem?_getD]
  have g1 : (b ++ c).getD 1 0 = b.getD 1 0 := by rw [List.getD_eq_getElem?_getD, List.getElem?_append_left (by omega), List.getD_eq_getElem?_getD]
  rw [h3]
  unfold openOf
  rw [t4, h4, tn, tm, g0, g1, h5, h6]
  rw [if_neg (by rw [List.length_append]; omega), if_neg (by decide), if_neg h4', if_neg (by rw [List.length_append]; omega), if_neg (by simp)]
theorem sc_append : ∀ (n : Nat) (a b : List Int), a.length ≤ n → sc (a ++ b) = ((sc a).1 ++ (sc (a.drop (sc a).2 ++ b)).1, (sc a).2 + (sc (a.drop (sc a).2 ++ b)).2) := by
  intro n
  induction n with
  | zero =>
    intro a b ha
    have : a = [] := List.length_eq_zero_iff.1 (by omega)
    subst this
    rw [sc_nil]; simp
  | succ n ih =>
    intro a b ha
    by_cases ho : (openOf a).2.2.2 = 0
    · have hs := openOf_size a ho
      have hi := ih (a.drop (openOf a).2.2.1.toNat) b (by rw [List.length_drop]; omega)
      have hab := openOf_append a b ho
      rw [sc_ok (a ++ b) (by rw [hab]; exact ho), hab, sc_ok a ho]
      rw [List.drop_append_of_le_length (by omega), hi]
      simp only [List.drop_drop, List.cons_append]
      rw [Nat.add_assoc]
    · rw [sc_bad a ho]; simp
/-- the scan's rounds -/
theorem scan_loop (l : List Int) (hl : Octs l) (hn : l.length ≤ 4398046511103) : ∀ (d k p : Nat) (acc : List (Int × List Int)), l.length - p ≤ d → d + 7 < k → p ≤ l.length → acc.length + (l.length - p) ≤ 4398046511103 →
    frames_Scan.l0 k l (p : Int) acc = some (acc ++ (sc (l.drop p)).1, ((p + (sc (l.drop p)).2 : Nat) : Int)) := by
  intro d
  induction d with
  | zero =>
    intro k p acc h1 h2 h3 h4
    obtain ⟨k, rfl⟩ : ∃ m, k = m + 1 := ⟨k - 1, by omega⟩
    have hp : l.drop p = [] := List.drop_of_length_le (by omega)
    simp only [frames_Scan.l0]
    rw [if_pos ⟨by omega, by omega, by omega⟩, Int.toNat_natCast, hp, open_is [] Octs.nil (by simp) k (by omega), Option.bind_some, sc_nil]
    rw [if_neg openOf_nil, if_pos (by decide)]
    simp
  | succ d ih =>
    intro k p acc h1 h2 h3 h4
    obtain ⟨k, rfl⟩ : ∃ m, k = m + 1 := ⟨k - 1, by omega⟩
    simp only [frames_Scan.l0]
    rw [if_pos ⟨by omega, by omega, by omega⟩, Int.toNat_natCast, open_is (l.drop p) (hl.drop p) (by rw [List.length_drop]; omega) k (by omega), Option.bind_some]
    by_cases ho : (openOf (l.drop p)).2.2.2 = 0
    · have hs := openOf_size (l.drop p) ho
      rw [List.length_drop] at hs
      rw [if_pos ho, sc_ok (l.drop p) ho]
      obtain ⟨q, hq⟩ : ∃ q, q = (openOf (l.drop p)).2.2.1.toNat := ⟨_, rfl⟩
      rw [← hq] at hs ⊢
      rw [hs.2.2, wrap64_id (by omega) (by omega), show (p : Int) + (q : Int) = ((p + q : Nat) : Int) by omega]
      rw [ih k (p + q) _ (by omega) (by omega) (by omega) (by rw [List.length_append]; simp; omega), List.drop_drop]
      rw [List.append_assoc, Nat.add_assoc]
      rfl
    · obtain ⟨e, he, hb⟩ := openOf_bad _ ho
      rw [if_neg ho, hb, if_pos rfl, sc_bad _ ho]
      simp
def frOf (x : Int × List Int) : S58 := ⟨x.1, x.2⟩
theorem scan_is (l : List Int) (hl : Octs l) (hn : l.length ≤ 4398046511103) (k : Nat) (hk : l.length + 7 < k) : frames_Scan.f k l = some ((sc l).1.map frOf, ((sc l).2 : Int)) := by
  unfold frames_Scan.f
  have := scan_loop l hl hn l.length k 0 [] (by omega) hk (by omega) (by simpa using hn)
  rw [show ((0 : Nat) : Int) = 0 from rfl] at this
  rw [this]
  simp [frOf]
/-! frames laid one behind the other -/
def catOf (fs : List (Int × List Int)) : List Int := fs.flatMap fun f => sealOf f.1 f.2
theorem catOf_cons (f : Int × List Int) (fs : List (Int × List Int)) : catOf (f :: fs) = sealOf f.1 f.2 ++ catOf fs := by simp [catOf]
theorem sc_seal (f : Int × List Int) (h : f.2.length ≤ 4096) (r : List Int) : sc (sealOf f.1 f.2 ++ r) = (f :: (sc r).1, (f.2.length + 8) + (sc r).2) := by
  have ho := openOf_seal f.1 f.2 r h
  rw [sc_ok _ (by rw [ho]), ho]
  simp only [Int.toNat_natCast]
  rw [List.drop_append_of_le_length (by rw [sealOf_length]; omega), List.drop_of_length_le (by rw [sealOf_length]; omega), List.nil_append]
theorem sc_cat : ∀ (fs : List (Int × List Int)), (∀ f ∈ fs, f.2.length ≤ 4096) → sc (catOf fs) = (fs, (catOf fs).length) := by
  intro fs
  induction fs with
  | nil => intro _; exact sc_nil
  | cons f fs ih =>
    intro h
    rw [catOf_cons, sc_seal f (h f (by simp)), ih (fun g hg => h g (by simp [hg]))]
    rw [List.length_append, sealOf_length]
/-- a frame of which the end is cut off is none -/
theorem openOf_torn (f : Int × List Int) (h : f.2.length ≤ 4096) (r : List Int) (c : Nat) (hc : c < f.2.length + 8) : (openOf ((sealOf f.1 f.2 ++ r).take c)).2.2.2 ≠ 0 := by
  obtain ⟨kind, l⟩ := f
  simp only at h hc ⊢
  have hlen := sealOf_length kind l
  rw [List.take_append_of_le_length (by omega)]
  have hb2 := beOf_len (l.length : Int) 2
  obtain ⟨B2, hB2⟩ : ∃ B2, B2 = beOf (l.length : Int) (shiftsOf 2) := ⟨_, rfl⟩
  rw [← hB2] at hb2
  have hhead : headOf kind l = [167, kind] ++ B2 ++ l := by rw [hB2]; rfl
  obtain ⟨x, y, rfl⟩ : ∃ x y, B2 = [x, y] := by
    match B2, hb2 with
    | [x, y], _ => exact ⟨x, y, rfl⟩
  have hbv : bv [x, y] = (l.length : Int) := by rw [hB2]; exact bv_be2 _ (by omega)
  have hseal : sealOf kind l = 167 :: kind :: x :: y :: (l ++ beOf ((crcSum (headOf kind l) : Nat) : Int) (shiftsOf 4)) := by unfold sealOf; rw [hhead]; simp
  unfold openOf
  have hl : ((sealOf kind l).take c).length = c := by rw [List.length_take]; omega
  by_cases h8 : c < 8
  · rw [if_pos (by omega)]; decide
  rw [if_neg (by omega)]
  have t4 : (((sealOf kind l).take c).take 4).drop 2 = [x, y] := by rw [List.take_take, Nat.min_eq_left (by omega), hseal]; rfl
  have g0 : ((sealOf kind l).take c).getD 0 0 = 167 := by rw [List.getD_eq_getElem?_getD, List.getElem?_take_of_lt (by omega), hseal]; rfl
  rw [t4, hbv, g0, if_neg (by decide), if_neg (by omega), Int.toNat_natCast, if_pos (by omega)]
  decide
def tornOf : Nat → List (Int × List Int) → Nat × Nat
  | _, [] => (0, 0)
  | c, f :: fs => if f.2.length + 8 ≤ c then ((tornOf (c - (f.2.length + 8)) fs).1 + 1, (f.2.length + 8) + (tornOf (c - (f.2.length + 8)) fs).2) else (0, 0)
theorem sc_torn : ∀ (fs : List (Int × List Int)) (c : Nat), (∀ f ∈ fs, f.2.length ≤ 4096) → (sc ((catOf fs).take c)).1.length = (tornOf c fs).1 ∧ (sc ((catOf fs).take c)).2 = (tornOf c fs).2 := by
  intro fs
  induction fs with
  | nil => intro c _; simp [catOf, sc_nil, tornOf]
  | cons f fs ih =>
    intro c h
    rw [catOf_cons]
    simp only [tornOf]
    by_cases hc : f.2.length + 8 ≤ c
    · rw [if_pos hc, List.take_append, List.take_of_length_le (by rw [sealOf_length]; omega), sealOf_length, sc_seal f (h f (by simp))]
      have := ih (c - (f.2.length + 8)) (fun g hg => h g (by simp [hg]))
      simp only [List.length_cons]
      omega
    · rw [if_neg hc, sc_bad _ (openOf_torn f (h f (by simp)) _ c (by omega))]
      simp
theorem sc_data : ∀ (n : Nat) (b : List Int), b.length ≤ n → ∀ f ∈ (sc b).1, f.2.length ≤ 4096 := by
  intro n
  induction n with
  | zero =>
    intro b hb f hf
    have : b = [] := List.length_eq_zero_iff.1 (by omega)
    subst this
    rw [sc_nil] at hf
    cases hf
  | succ n ih =>
    intro b hb f hf
    by_cases ho : (openOf b).2.2.2 = 0
    · have hs := openOf_size b ho
      rw [sc_ok b ho] at hf
      rcases List.mem_cons.1 hf with rfl | hf
      · obtain ⟨n, h1, h2, h3, _⟩ := openOf_ok b ho
        rw [h3]
        show ((b.take (n + 4)).drop 4).length ≤ 4096
        rw [List.length_drop, List.length_take]
        omega
      · exact ih (b.drop (openOf b).2.2.1.toNat) (by rw [List.length_drop]; omega) f hf
    · rw [sc_bad b ho] at hf
      cases hf
/-- the page's register, octet by octet, is the program's -/
theorem turn_loop (c : Nat) (hc : c < 4294967296) : ∀ (d k i : Nat), i + d = 8 → d < k → transeptref02_turn.l0 k ((crcBits i c : Nat) : Int) (i : Int) = some ((crcBits 8 c : Nat) : Int) := by
  intro d
  induction d with
  | zero =>
    intro k i hi hk
    obtain ⟨k, rfl⟩ : ∃ m, k = m + 1 := ⟨k - 1, by omega⟩
    simp only [transeptref02_turn.l0]
    rw [if_neg (by omega)]
    have : i = 8 := by omega
    subst this
    rfl
  | succ d ih =>
    intro k i hi hk
    obtain ⟨k, rfl⟩ : ∃ m, k = m + 1 := ⟨k - 1, by omega⟩
    simp only [transeptref02_turn.l0]
    rw [if_pos (by omega), wrap64_id (by omega) (by omega)]
    have hq := crcBits_lt i c hc
    have := ih k (i + 1) (by omega) (by omega)
    obtain ⟨q, hq2⟩ : ∃ q, q = crcBits i c := ⟨_, rfl⟩
    have hs : crcBits (i + 1) c = crcBit q := by rw [hq2]; rfl
    rw [hs] at this
    rw [← hq2] at hq ⊢
    have ha := u32_and q 1 hq (by omega)
    rw [show ((1 : Nat) : Int) = 1 from rfl, Nat.and_one_is_mod] at ha
    rw [ha]
    have h2 : (q : Int) / (2 : Int) = ((q >>> 1 : Nat) : Int) := by rw [Nat.shiftRight_eq_div_pow]; omega
    have hlt : q >>> 1 < 4294967296 := by rw [Nat.shiftRight_eq_div_pow]; omega
    by_cases ho : q % 2 = 1
    · rw [if_pos (by omega), h2]
      have hx := (u32_xor (q >>> 1) 2197175160 hlt (by omega)).1
      rw [show ((2197175160 : Nat) : Int) = 2197175160 from rfl] at hx
      rw [hx]
      unfold crcBit at this
      rw [if_pos ho] at this
      exact this
    · rw [if_neg (by omega), h2]
      unfold crcBit at this
      rw [if_neg ho, Nat.xor_zero] at this
      exact this
theorem turn_is (c : Nat) (hc : c < 4294967296) (x : Int) (hx : 0 ≤ x ∧ x < 256) (k : Nat) (hk : 8 < k) : transeptref02_turn.f k (c : Int) x = some ((crcStep c x.toNat : Nat) : Int) := by
  unfold transeptref02_turn.f
  obtain ⟨n, rfl⟩ := Int.eq_ofNat_of_zero_le hx.1
  rw [Int.emod_eq_of_lt (by omega) (by omega), Int.toNat_natCast]
  obtain ⟨h1, h2⟩ := u32_xor c n hc (by omega)
  rw [h1, crcStep_bits]
  exact turn_loop (c ^^^ n) h2 8 k 0 (by omega) hk
theorem extend_loop (l : List Int) (hl : Octs l) (hn : l.length ≤ 140737488355328) (c : Nat) (hc : c < 4294967296) : ∀ (d k i : Nat), i + d = l.length → d + 9 < k →
    transeptref02_Extend.l0 k ((crcRun c (l.take i) : Nat) : Int) l (i : Int) = some ((4294967295 - crcRun c l : Nat) : Int) := by
  intro d
  induction d with
  | zero =>
    intro k i hi hk
    obtain ⟨k, rfl⟩ : ∃ m, k = m + 1 := ⟨k - 1, by omega⟩
    simp only [transeptref02_Extend.l0]
    rw [if_neg (by omega), List.take_of_length_le (by omega)]
    have := u32_not (crcRun c l) (crcRun_lt l c hc hl)
    rw [show IntKind.u32.max = 4294967295 from by decide] at this
    rw [this]
  | succ d ih =>
    intro k i hi hk
    obtain ⟨k, rfl⟩ : ∃ m, k = m + 1 := ⟨k - 1, by omega⟩
    have h1 : i < l.length := by omega
    simp only [transeptref02_Extend.l0]
    rw [if_pos (by omega), if_pos (by omega), rd_nat l i h1, turn_is _ (crcRun_lt _ c hc (hl.take i)) _ (hl _ (List.getElem_mem h1)) k (by omega), Option.bind_some, wrap64_id (by omega) (by omega)]
    have := ih k (i + 1) (by omega) (by omega)
    rw [List.take_succ_eq_append_getElem h1, crcRun_app] at this
    exact this
theorem refSum_is (l : List Int) (hl : Octs l) (hn : l.length ≤ 140737488355328) (k : Nat) (hk : l.length + 9 < k) : transeptref02_Sum.f k l = some ((crcSum l : Nat) : Int) := by
  unfold transeptref02_Sum.f transeptref02_Extend.f
  have hx := (u32_xor 4294967295 0 (by omega) (by omega)).1
  rw [show ((4294967295 : Nat) : Int) = 4294967295 from rfl, show ((0 : Nat) : Int) = 0 from rfl, Nat.xor_zero] at hx
  rw [hx]
  have := extend_loop l hl hn 4294967295 (by omega) l.length k 0 (by omega) hk
  rw [List.take_zero] at this
  rw [show ((4294967295 : Nat) : Int) = ((crcRun 4294967295 [] : Nat) : Int) from rfl, show (0 : Int) = ((0 : Nat) : Int) from rfl, this]
  rfl
theorem copied_is (l : List Int) (h : l.length < 140737488355328) : transeptref03_Copied.f l = some l := by
  unfold transeptref03_Copied.f
  rw [if_pos (by simpa using h), List.nil_append]
theorem refSeal_is (kind : Int) (hk : 0 ≤ kind ∧ kind < 256) (l : List Int) (hl : Octs l) (hn : l.length ≤ 4096) (k : Nat) (hk2 : l.length + 20 < k) : transeptref03_Seal.f k kind l = some (sealOf kind l, 0) := by
  unfold transeptref03_Seal.f
  rw [if_neg (by omega), Option.bind_some, u64_id _ (by omega) (by omega)]
  have h2 := refOctets_is (l.length : Int) 2 (by omega) k (by omega)
  rw [show ((2 : Nat) : Int) = 2 from rfl] at h2
  rw [h2, Option.bind_some, if_pos (by simp [beOf_len]), Option.bind_some, if_pos (by simp [beOf_len]; omega), Option.bind_some]
  have hh : [167, kind] ++ beOf (l.length : Int) (shiftsOf 2) ++ l = headOf kind l := rfl
  rw [hh, refSum_is _ (headOf_octs kind hk l hl) (by rw [headOf_length]; omega) k (by rw [headOf_length]; omega), Option.bind_some]
  have hc := crcSum_lt (headOf kind l)
  unfold sealOf
  generalize crcSum (headOf kind l) = q at hc ⊢
  have h4 := refOctets_is (q : Int) 4 (by omega) k (by omega)
  rw [show ((4 : Nat) : Int) = 4 from rfl] at h4
  rw [u64_id _ (by omega) (by omega), h4, Option.bind_some, if_pos (by rw [headOf_length, beOf_len]; omega)]
theorem refSeal_long (kind : Int) (l : List Int) (hn : 4096 < l.length) (k : Nat) : transeptref03_Seal.f k kind l = some ([], 5) := by
  unfold transeptref03_Seal.f; rw [if_pos (by omega)]
theorem or_2 (a b : Int) (ha : 0 ≤ a ∧ a < 256) (hb : 0 ≤ b ∧ b < 256) : Go.bits .or .i64 (wrap64 (wrap64 a * 256)) (wrap64 b) = a * 256 + b := by
  rw [wrap64_id (x := a) (by omega) (by omega), wrap64_id (x := b) (by omega) (by omega), wrap64_id (by omega) (by omega)]
  exact bits_join .i64 63 (by decide) (fun n h0 h1 => by unfold IntKind.wrap; simp [IntKind.bits, IntKind.signed]; omega) 8 (a * 256) b (by omega) (by simp) (by simp; omega) hb.1 (by simpa using hb.2) (by simp; omega)
theorem bv_two (x y : Int) : bv [x, y] = x * 256 + y := by simp [bv]
theorem refOpen_is (b : List Int) (hb : Octs b) (hn : b.length ≤ 140737488355328) (k : Nat) (hk : 4120 < k) : transeptref03_Open.f k b = some (openOf b) := by
  unfold transeptref03_Open.f openOf
  by_cases h8 : b.length < 8
  · rw [if_pos (by omega), if_pos h8]
  rw [if_neg (by omega), if_neg h8, if_pos (by omega), if_pos (by omega), if_pos (by omega)]
  obtain ⟨x0, x1, x2, x3, r, rfl⟩ : ∃ x0 x1 x2 x3 r, b = x0 :: x1 :: x2 :: x3 :: r := by
    match b, h8 with
    | x0 :: x1 :: x2 :: x3 :: r, _ => exact ⟨x0, x1, x2, x3, r, rfl⟩
    | [], h => exact absurd (by simp) h
    | [_], h => exact absurd (by simp) h
    | [_, _], h => exact absurd (by simp) h
    | [_, _, _], h => exact absurd (by simp) h
  have e0 : rd (x0 :: x1 :: x2 :: x3 :: r) 0 = x0 := rfl
  have e1 : rd (x0 :: x1 :: x2 :: x3 :: r) 1 = x1 := rfl
  have e2 : rd (x0 :: x1 :: x2 :: x3 :: r) 2 = x2 := rfl
  have e3 : rd (x0 :: x1 :: x2 :: x3 :: r) 3 = x3 := rfl
  have hx2 := hb x2 (by simp)
  have hx3 := hb x3 (by simp)
  rw [e0, e1, e2, e3, or_2 x2 x3 hx2 hx3]
  have g0 : (x0 :: x1 :: x2 :: x3 :: r).getD 0 0 = x0 := rfl
  have g1 : (x0 :: x1 :: x2 :: x3 :: r).getD 1 0 = x1 := rfl
  have t4 : bv (((x0 :: x1 :: x2 :: x3 :: r).take 4).drop 2) = x2 * 256 + x3 := bv_two x2 x3
  rw [g0, g1, t4]
  obtain ⟨n, hn2⟩ := Int.eq_ofNat_of_zero_le (show 0 ≤ x2 * 256 + x3 by omega)
  have hnb : n < 65536 := by omega
  rw [hn2]
  obtain ⟨b, hbb⟩ : ∃ b, b = x0 :: x1 :: x2 :: x3 :: r := ⟨_, rfl⟩
  rw [← hbb] at hb hn h8 ⊢
  clear e0 e1 e2 e3 g0 g1 t4 hx2 hx3 hn2 hbb
  by_cases hm : x0 = 167
  case neg => rw [if_neg hm, if_pos hm]
  rw [if_pos hm, if_neg (show ¬ (x0 ≠ 167) from fun h => h hm)]
  by_cases hl : (4096 : Int) < (n : Int)
  · rw [if_pos (by omega), if_pos hl]
  rw [if_neg (by omega), if_neg hl, Int.toNat_natCast]
  rw [wrap64_id (x := (n : Int) + 8) (by omega) (by omega), wrap64_id (x := (n : Int) + 4) (by omega) (by omega)]
  by_cases hs : b.length < n + 8
  · rw [if_pos (by omega), if_pos hs]
  rw [if_neg (by omega), if_neg hs, if_pos (by omega), if_pos (by omega), if_pos (by omega)]
  have t1 : ((n : Int) + 8).toNat = n + 8 := by omega
  have t2 : ((n : Int) + 4).toNat = n + 4 := by omega
  rw [t1, t2]
  have ho4 : Octs ((b.take (n + 8)).drop (n + 4)) := (hb.take _).drop _
  have hl4 : ((b.take (n + 8)).drop (n + 4)).length = 4 := by simp; omega
  rw [refNumber_is _ ho4 (by omega) k (by omega), Option.bind_some, if_pos (by omega), refSum_is _ (hb.take _) (by simp; omega) k (by simp; omega), Option.bind_some]
  have hc := crcSum_lt (b.take (n + 4))
  rw [u64_id _ (by omega) (by omega)]
  by_cases hc : bv ((b.take (n + 8)).drop (n + 4)) = ((crcSum (b.take (n + 4)) : Nat) : Int)
  case neg => rw [if_neg hc, if_pos hc]
  rw [if_pos hc, if_neg (show ¬ (bv ((b.take (n + 8)).drop (n + 4)) ≠ ((crcSum (b.take (n + 4)) : Nat) : Int)) from fun h => h hc), if_pos (by omega), if_pos (by omega), copied_is _ (by simp; omega), Option.bind_some]
  rfl
def frOf56 (x : Int × List Int) : S56 := ⟨x.1, x.2⟩
theorem refScan_loop (l : List Int) (hl : Octs l) (hn : l.length ≤ 4398046511103) : ∀ (d k p : Nat) (acc : List S56), l.length - p ≤ d → d + 4121 < k → p ≤ l.length → acc.length + (l.length - p) ≤ 4398046511103 →
    transeptref03_Scan.l0 k l acc (p : Int) = some (acc ++ (sc (l.drop p)).1.map frOf56, ((p + (sc (l.drop p)).2 : Nat) : Int)) := by
  intro d
  induction d with
  | zero =>
    intro k p acc h1 h2 h3 h4
    obtain ⟨k, rfl⟩ : ∃ m, k = m + 1 := ⟨k - 1, by omega⟩
    have hp : l.drop p = [] := List.drop_of_length_le (by omega)
    simp only [transeptref03_Scan.l0]
    rw [if_pos (by omega), if_pos (by omega), Int.toNat_natCast, hp, refOpen_is [] Octs.nil (by simp) k (by omega), Option.bind_some, sc_nil]
    rw [if_neg openOf_nil]
    simp
  | succ d ih =>
    intro k p acc h1 h2 h3 h4
    obtain ⟨k, rfl⟩ : ∃ m, k = m + 1 := ⟨k - 1, by omega⟩
    simp only [transeptref03_Scan.l0]
    rw [if_pos (by omega), if_pos (by omega), Int.toNat_natCast, refOpen_is (l.drop p) (hl.drop p) (by rw [List.length_drop]; omega) k (by omega), Option.bind_some]
    by_cases ho : (openOf (l.drop p)).2.2.2 = 0
    · have hs := openOf_size (l.drop p) ho
      rw [List.length_drop] at hs
      rw [if_pos ho, if_pos (by omega), sc_ok (l.drop p) ho]
      obtain ⟨q, hq⟩ : ∃ q, q = (openOf (l.drop p)).2.2.1.toNat := ⟨_, rfl⟩
      rw [← hq] at hs ⊢
      rw [hs.2.2, wrap64_id (by omega) (by omega), show (p : Int) + (q : Int) = ((p + q : Nat) : Int) by omega]
      rw [ih k (p + q) _ (by omega) (by omega) (by omega) (by rw [List.length_append]; simp; omega), List.drop_drop]
      rw [List.append_assoc, Nat.add_assoc]
      rfl
    · rw [if_neg ho, sc_bad _ ho]
      simp
theorem refScan_is (l : List Int) (hl : Octs l) (hn : l.length ≤ 4398046511103) (k : Nat) (hk : l.length + 4121 < k) : transeptref03_Scan.f k l = some ((sc l).1.map frOf56, ((sc l).2 : Int)) := by
  unfold transeptref03_Scan.f
  have := refScan_loop l hl hn l.length k 0 [] (by omega) hk (by omega) (by simpa using hn)
  rw [show ((0 : Nat) : Int) = 0 from rfl] at this
  rw [this]
  simp
set_option maxRecDepth 100000 in
theorem alive03_a : frames_Seal.f 1 [97] = some (sealed03, 0) := by decide +kernel
set_option maxRecDepth 100000 in
theorem alive03_b : frames_Open.f 20 sealed03 = some (1, [97], 9, 0) := by decide +kernel
theorem alive03 : transeptlaw03_alive.f = some true := by
  unfold transeptlaw03_alive.f
  rw [if_pos ⟨alive03_a, alive03_b⟩]
theorem copyBytes_is (l : List Int) (h : l.length < 140737488355328) : transeptplain_CopyBytes.f l = some l := by
  unfold transeptplain_CopyBytes.f
  rw [if_pos (by simp; omega)]; rfl
theorem same03_is (a : Int) (l : List Int) (h : l.length ≤ 4096) (k : Nat) (hk : 4096 < k) : transeptlaw03_same.f k a l a l = some true := by
  unfold transeptlaw03_same.f
  rw [if_pos rfl, same_is l l (by omega) k (by omega), Option.bind_some]
  simp

end Go.Proofs.Ythphelbkfgbejaa.Q
