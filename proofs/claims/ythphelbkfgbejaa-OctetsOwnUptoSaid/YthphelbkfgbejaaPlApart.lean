import Derived.Test.YthphelbkfgbejaaQ2
import Derived.Test.YthphelbkfgbejaaQ1
import Derived.Test.YthphelbkfgbejaaKit
import Derived.Test.YthphelbkfgbejaaPlSame
import Derived.Test.YthphelbkfgbejaaPlOct
namespace Go.Proofs.Ythphelbkfgbejaa.Q
open Go.RowKit Go.Proofs.YthphelbkfgbejaaW.PrintWords Go.Proofs.YthphelbkfgbejaaW.PrintLast Go.Proofs.YthphelbkfgbejaaW.PrintMore
set_option linter.unusedVariables false
set_option linter.unusedSimpArgs false

theorem xor_nat8 (a b : Nat) (ha : a < 256) (hb : b < 256) : Go.bits .xor .u8 (a : Int) (b : Int) = ((a ^^^ b : Nat) : Int) ∧ a ^^^ b < 256 := by
  have hx : a ^^^ b < 2 ^ 8 := Nat.xor_lt_two_pow (by simpa using ha) (by simpa using hb)
  refine ⟨?_, by simpa using hx⟩
  have ha' : a % 2 ^ IntKind.u8.bits = a := Nat.mod_eq_of_lt (by simpa [IntKind.bits] using ha)
  have hb' : b % 2 ^ IntKind.u8.bits = b := Nat.mod_eq_of_lt (by simpa [IntKind.bits] using hb)
  simp only [bits, BitVec.ofInt_natCast, BitVec.toNat_xor, BitVec.toNat_ofNat, ha', hb']
  exact wraps_u8 _ (Int.natCast_nonneg _) (by exact_mod_cast hx)
/-- bits of an octet that are 1, one by one -/
def popN (n : Nat) : Nat := (n.testBit 0).toNat + (n.testBit 1).toNat + (n.testBit 2).toNat + (n.testBit 3).toNat + (n.testBit 4).toNat + (n.testBit 5).toNat + (n.testBit 6).toNat + (n.testBit 7).toNat
set_option maxRecDepth 100000 in
theorem popN_all : ∀ x : Fin 256, pop8 (x.val : Int) = (popN x.val : Int) ∧ (popN x.val = 0 → x.val = 0) := by
  unfold pop8
  decide +kernel
theorem pop8_popN (n : Nat) (h : n < 256) : pop8 (n : Int) = (popN n : Int) := (popN_all ⟨n, h⟩).1
theorem popN_zero (n : Nat) (h : n < 256) (h0 : popN n = 0) : n = 0 := (popN_all ⟨n, h⟩).2 h0
theorem bit_tri (x y z : Bool) : (x ^^ z).toNat ≤ (x ^^ y).toNat + (y ^^ z).toNat := by cases x <;> cases y <;> cases z <;> decide
theorem popN_tri (a b c : Nat) : popN (a ^^^ c) ≤ popN (a ^^^ b) + popN (b ^^^ c) := by
  unfold popN
  simp only [Nat.testBit_xor]
  have h := fun i => bit_tri (a.testBit i) (b.testBit i) (c.testBit i)
  have h0 := h 0; have h1 := h 1; have h2 := h 2; have h3 := h 3; have h4 := h 4; have h5 := h 5; have h6 := h 6; have h7 := h 7
  omega
/-- the distance of two octets -/
def d8 (x y : Int) : Int := pop8 (Go.bits .xor .u8 x y)
theorem d8_is (x y : Int) (hx : 0 ≤ x ∧ x < 256) (hy : 0 ≤ y ∧ y < 256) : bits_OnesCount8.f (Go.bits .xor .u8 x y) = some (d8 x y) ∧ 0 ≤ d8 x y ∧ d8 x y ≤ 8 := by
  obtain ⟨a, rfl⟩ := Int.eq_ofNat_of_zero_le hx.1
  obtain ⟨b, rfl⟩ := Int.eq_ofNat_of_zero_le hy.1
  have h := xor_nat8 a b (by omega) (by omega)
  unfold d8
  rw [h.1]
  exact pop8_is _ (by omega) (by omega)
theorem d8_nat (a b : Nat) (ha : a < 256) (hb : b < 256) : d8 (a : Int) (b : Int) = (popN (a ^^^ b) : Int) := by
  have h := xor_nat8 a b ha hb
  unfold d8
  rw [h.1, pop8_popN _ h.2]
theorem d8_comm (x y : Int) (hx : 0 ≤ x ∧ x < 256) (hy : 0 ≤ y ∧ y < 256) : d8 x y = d8 y x := by
  obtain ⟨a, rfl⟩ := Int.eq_ofNat_of_zero_le hx.1
  obtain ⟨b, rfl⟩ := Int.eq_ofNat_of_zero_le hy.1
  rw [d8_nat a b (by omega) (by omega), d8_nat b a (by omega) (by omega), Nat.xor_comm]
theorem d8_tri (x y z : Int) (hx : 0 ≤ x ∧ x < 256) (hy : 0 ≤ y ∧ y < 256) (hz : 0 ≤ z ∧ z < 256) : d8 x z ≤ d8 x y + d8 y z := by
  obtain ⟨a, rfl⟩ := Int.eq_ofNat_of_zero_le hx.1
  obtain ⟨b, rfl⟩ := Int.eq_ofNat_of_zero_le hy.1
  obtain ⟨c, rfl⟩ := Int.eq_ofNat_of_zero_le hz.1
  rw [d8_nat a b (by omega) (by omega), d8_nat b c (by omega) (by omega), d8_nat a c (by omega) (by omega)]
  have := popN_tri a b c
  omega
theorem d8_zero (x y : Int) (hx : 0 ≤ x ∧ x < 256) (hy : 0 ≤ y ∧ y < 256) : d8 x y = 0 ↔ x = y := by
  obtain ⟨a, rfl⟩ := Int.eq_ofNat_of_zero_le hx.1
  obtain ⟨b, rfl⟩ := Int.eq_ofNat_of_zero_le hy.1
  have h := xor_nat8 a b (by omega) (by omega)
  rw [d8_nat a b (by omega) (by omega)]
  constructor
  · intro h0
    have := popN_zero _ h.2 (by omega)
    have h1 : a ^^^ b ^^^ b = 0 ^^^ b := by rw [this]
    rw [Nat.xor_assoc, Nat.xor_self, Nat.xor_zero, Nat.zero_xor] at h1
    omega
  · intro he
    have : a = b := by omega
    subst this
    rw [Nat.xor_self]
    decide
theorem d8_left0 (x : Int) (hx : 0 ≤ x ∧ x < 256) : d8 x 0 = pop8 x := by
  obtain ⟨a, rfl⟩ := Int.eq_ofNat_of_zero_le hx.1
  rw [show (0 : Int) = ((0 : Nat) : Int) from rfl, d8_nat a 0 (by omega) (by omega), Nat.xor_zero, pop8_popN a (by omega)]
/-- the distance of octets -/
def dist : List Int → List Int → Int
  | x :: a, y :: b => d8 x y + dist a b
  | _, _ => 0
theorem dist_bound (a : List Int) : ∀ b : List Int, Octs a → Octs b → 0 ≤ dist a b ∧ dist a b ≤ 8 * a.length := by
  induction a with
  | nil => intro b _ _; simp [dist]
  | cons x a ih =>
    intro b ha hb
    cases b with
    | nil => simp [dist]; omega
    | cons y b =>
      have h1 := d8_is x y (ha x (by simp)) (hb y (by simp))
      have h2 := ih b (fun z hz => ha z (by simp [hz])) (fun z hz => hb z (by simp [hz]))
      simp only [dist, List.length_cons]
      push_cast
      omega
theorem dist_snoc (a b : List Int) (x y : Int) (h : a.length = b.length) : dist (a ++ [x]) (b ++ [y]) = dist a b + d8 x y := by
  induction a generalizing b with
  | nil => cases b <;> simp_all [dist]
  | cons z a ih =>
    cases b with
    | nil => simp at h
    | cons u b =>
      simp only [List.cons_append, dist, ih b (by simpa using h)]
      omega
theorem dist_comm (a : List Int) : ∀ b : List Int, Octs a → Octs b → dist a b = dist b a := by
  induction a with
  | nil => intro b _ _; cases b <;> simp [dist]
  | cons x a ih =>
    intro b ha hb
    cases b with
    | nil => simp [dist]
    | cons y b =>
      simp only [dist]
      rw [d8_comm x y (ha x (by simp)) (hb y (by simp)), ih b (fun z hz => ha z (by simp [hz])) (fun z hz => hb z (by simp [hz]))]
theorem dist_tri (a : List Int) : ∀ b c : List Int, Octs a → Octs b → Octs c → a.length = b.length → b.length = c.length → dist a c ≤ dist a b + dist b c := by
  induction a with
  | nil => intro b c _ _ _ h1 h2; cases b <;> cases c <;> simp_all [dist]
  | cons x a ih =>
    intro b c ha hb hc h1 h2
    cases b with
    | nil => simp at h1
    | cons y b =>
      cases c with
      | nil => simp at h2
      | cons z c =>
        simp only [dist]
        have := d8_tri x y z (ha x (by simp)) (hb y (by simp)) (hc z (by simp))
        have := ih b c (fun z hz => ha z (by simp [hz])) (fun z hz => hb z (by simp [hz])) (fun z hz => hc z (by simp [hz])) (by simpa using h1) (by simpa using h2)
        omega
theorem dist_zero (a : List Int) : ∀ b : List Int, Octs a → Octs b → a.length = b.length → (dist a b = 0 ↔ a = b) := by
  induction a with
  | nil => intro b _ _ h; cases b <;> simp_all [dist]
  | cons x a ih =>
    intro b ha hb h
    cases b with
    | nil => simp at h
    | cons y b =>
      simp only [dist, List.cons.injEq]
      have h0 := d8_is x y (ha x (by simp)) (hb y (by simp))
      have h1 := d8_zero x y (ha x (by simp)) (hb y (by simp))
      have h2 := ih b (fun z hz => ha z (by simp [hz])) (fun z hz => hb z (by simp [hz])) (by simpa using h)
      have h3 := dist_bound a b (fun z hz => ha z (by simp [hz])) (fun z hz => hb z (by simp [hz]))
      constructor
      · intro h4
        exact ⟨h1.mp (by omega), h2.mp (by omega)⟩
      · rintro ⟨h4, h5⟩
        have := h1.mpr h4
        have := h2.mpr h5
        omega
theorem dist_zeros (a : List Int) (ha : Octs a) : dist a (List.replicate a.length 0) = wt a := by
  induction a with
  | nil => rfl
  | cons x a ih =>
    simp only [List.length_cons, List.replicate_succ, dist, wt]
    rw [d8_left0 x (ha x (by simp)), ih (fun z hz => ha z (by simp [hz]))]
theorem apart_loop (a b : List Int) (ha : Octs a) (hb : Octs b) (h : a.length = b.length) (hn : a.length ≤ 140737488355328) : ∀ (d k i : Nat), i + d = a.length → d < k →
    octets_Apart.l0 k b (dist (a.take i) (b.take i)) a (a.length : Int) (i : Int) = some (dist a b, 0) := by
  intro d
  induction d with
  | zero =>
    intro k i hi hk
    obtain ⟨k, rfl⟩ : ∃ m, k = m + 1 := ⟨k - 1, by omega⟩
    simp only [octets_Apart.l0]
    rw [if_neg (by omega), List.take_of_length_le (by omega), List.take_of_length_le (by omega)]
  | succ d ih =>
    intro k i hi hk
    obtain ⟨k, rfl⟩ : ∃ m, k = m + 1 := ⟨k - 1, by omega⟩
    have h1 : i < a.length := by omega
    have h2 : i < b.length := by omega
    have hp := d8_is a[i] b[i] (ha _ (List.getElem_mem h1)) (hb _ (List.getElem_mem h2))
    have hbd := dist_bound (a.take i) (b.take i) (ha.take i) (hb.take i)
    have hlen : (a.take i).length = i := by simp; omega
    have hlen2 : (b.take i).length = i := by simp; omega
    rw [hlen] at hbd
    simp only [octets_Apart.l0]
    rw [if_pos (by omega), if_pos (by omega), if_pos (by omega), if_pos (by omega), rd_nat a i h1, rd_nat b i h2, hp.1]
    simp only [Option.bind_some]
    rw [wrap64_id (by omega) (by omega), wrap64_id (by omega) (by omega)]
    have := ih k (i + 1) (by omega) (by omega)
    rw [List.take_succ_eq_append_getElem h1, List.take_succ_eq_append_getElem h2, dist_snoc _ _ _ _ (by omega)] at this
    exact this
theorem apart_is (a b : List Int) (ha : Octs a) (hb : Octs b) (h : a.length = b.length) (hn : a.length ≤ 140737488355328) (k : Nat) (hk : a.length < k) : octets_Apart.f k a b = some (dist a b, 0) := by
  unfold octets_Apart.f
  rw [if_pos (by omega)]
  exact apart_loop a b ha hb h hn a.length k 0 (by omega) hk

end Go.Proofs.Ythphelbkfgbejaa.Q
