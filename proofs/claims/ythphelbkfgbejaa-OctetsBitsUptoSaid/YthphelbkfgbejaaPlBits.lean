import Derived.Test.YthphelbkfgbejaaQ21
import Derived.Test.YthphelbkfgbejaaQ22
import Derived.Test.YthphelbkfgbejaaQ26
import Derived.Test.YthphelbkfgbejaaQ27
import Derived.Test.YthphelbkfgbejaaQ18
import Derived.Test.YthphelbkfgbejaaQ20
import Derived.Test.YthphelbkfgbejaaQ19
import Derived.Test.YthphelbkfgbejaaKit
import Derived.Test.YthphelbkfgbejaaPlSame
import Derived.Test.YthphelbkfgbejaaPlOct
import Derived.Test.YthphelbkfgbejaaPlOctB
import Derived.Test.YthphelbkfgbejaaPlApart
import Derived.Test.YthphelbkfgbejaaPlCut
namespace Go.Proofs.Ythphelbkfgbejaa.Q
open Go.RowKit Go.Proofs.YthphelbkfgbejaaW.PrintWords Go.Proofs.YthphelbkfgbejaaW.PrintLast Go.Proofs.YthphelbkfgbejaaW.PrintMore
set_option linter.unusedVariables false
set_option linter.unusedSimpArgs false

/-- the j-th bit of an octet, from the highest on -/
def bitI (x : Int) (j : Nat) : Int := Go.bits .and .u8 (shr .u8 x ((7 - j : Nat) : Int)) 1
def parts (x : Int) : Nat → Int
  | 0 => 0
  | t + 1 => parts x t + bitI x t
def orUp (x : Int) : Nat → Int
  | 0 => 0
  | t + 1 => Go.bits .or .u8 (orUp x t) (shl .u8 (bitI x (7 - t)) ((7 - t : Nat) : Int))
set_option maxRecDepth 100000 in
theorem bit_all : ∀ x : Fin 256, (∀ j : Fin 8, bitI (x.val : Int) j.val = ((x.val.testBit (7 - j.val)).toNat : Int)) ∧ parts (x.val : Int) 8 = pop8 (x.val : Int) ∧ orUp (x.val : Int) 8 = revOf (x.val : Int) := by
  unfold pop8 revOf
  decide +kernel
theorem bitI_nat (n : Nat) (h : n < 256) (j : Nat) (hj : j < 8) : bitI (n : Int) j = ((n.testBit (7 - j)).toNat : Int) := (bit_all ⟨n, h⟩).1 ⟨j, hj⟩
theorem bitI_01 (x : Int) (hx : 0 ≤ x ∧ x < 256) (j : Nat) (hj : j < 8) : bitI x j = 0 ∨ bitI x j = 1 := by
  obtain ⟨n, rfl⟩ := Int.eq_ofNat_of_zero_le hx.1
  rw [bitI_nat n (by omega) j hj]
  cases n.testBit (7 - j) <;> simp
theorem parts_8 (x : Int) (hx : 0 ≤ x ∧ x < 256) : parts x 8 = pop8 x := by
  obtain ⟨n, rfl⟩ := Int.eq_ofNat_of_zero_le hx.1
  exact (bit_all ⟨n, by omega⟩).2.1
theorem orUp_8 (x : Int) (hx : 0 ≤ x ∧ x < 256) : orUp x 8 = revOf x := by
  obtain ⟨n, rfl⟩ := Int.eq_ofNat_of_zero_le hx.1
  exact (bit_all ⟨n, by omega⟩).2.2
theorem parts_bound (x : Int) (hx : 0 ≤ x ∧ x < 256) (j : Nat) (hj : j ≤ 8) : 0 ≤ parts x j ∧ parts x j ≤ j := by
  induction j with
  | zero => simp [parts]
  | succ j ih =>
    have := ih (by omega)
    simp only [parts]
    rcases bitI_01 x hx j (by omega) with h | h <;> rw [h] <;> push_cast <;> omega
/-- the bit at a place of octets -/
theorem bit_at (l : List Int) (hn : l.length ≤ 1048576) (i : Nat) (hi : i < 8 * l.length) : transeptref01_bit.f l (i : Int) = some (bitI (l[i / 8]'(by omega)) (i % 8)) := by
  have e1 : Int.tdiv (i : Int) 8 = ((i / 8 : Nat) : Int) := rfl
  have e2 : Int.tmod (i : Int) 8 = ((i % 8 : Nat) : Int) := rfl
  unfold transeptref01_bit.f
  rw [e1, e2, wrap64_id (x := ((i / 8 : Nat) : Int)) (by omega) (by omega), wrap64_id (x := 7 - ((i % 8 : Nat) : Int)) (by omega) (by omega)]
  rw [if_pos (by omega), if_pos (by omega), if_pos (by omega), rd_nat l (i / 8) (by omega)]
  rw [show (7 : Int) - ((i % 8 : Nat) : Int) = ((7 - i % 8 : Nat) : Int) by omega]
  rfl
/-- the weight of the first bits -/
def wtTo (l : List Int) (i : Nat) : Int := wt (l.take (i / 8)) + parts (l.getD (i / 8) 0) (i % 8)
theorem getD_is (l : List Int) (p : Nat) (h : p < l.length) : l.getD p 0 = l[p] := by rw [List.getD_eq_getElem?_getD, List.getElem?_eq_getElem h]; rfl
theorem wtTo_succ (l : List Int) (hl : Octs l) (i : Nat) (hi : i < 8 * l.length) : wtTo l (i + 1) = wtTo l i + bitI (l[i / 8]'(by omega)) (i % 8) := by
  have hp : i / 8 < l.length := by omega
  unfold wtTo
  rw [getD_is l (i / 8) hp]
  by_cases h7 : i % 8 = 7
  · have e1 : (i + 1) / 8 = i / 8 + 1 := by omega
    have e2 : (i + 1) % 8 = 0 := by omega
    rw [e1, e2, h7, List.take_succ_eq_append_getElem hp, wt_append]
    have := parts_8 l[i / 8] (hl _ (List.getElem_mem hp))
    simp only [parts, wt] at this ⊢
    omega
  · have e1 : (i + 1) / 8 = i / 8 := by omega
    have e2 : (i + 1) % 8 = i % 8 + 1 := by omega
    rw [e1, e2, getD_is l (i / 8) hp]
    simp only [parts]
    omega
theorem wtTo_bound (l : List Int) (hl : Octs l) (hn : l.length ≤ 1048576) (i : Nat) (hi : i ≤ 8 * l.length) : 0 ≤ wtTo l i ∧ wtTo l i ≤ 8388616 := by
  unfold wtTo
  have h1 := wt_bound (l.take (i / 8)) (hl.take _)
  have h2 : (l.take (i / 8)).length ≤ 1048576 := by simp; omega
  by_cases hp : i / 8 < l.length
  · rw [getD_is l _ hp]
    have := parts_bound l[i / 8] (hl _ (List.getElem_mem hp)) (i % 8) (by omega)
    omega
  · have : i % 8 = 0 := by omega
    rw [this]
    simp only [parts]
    omega
theorem refWeight_loop (l : List Int) (hl : Octs l) (hn : l.length ≤ 1048576) : ∀ (d k i : Nat), i + d = 8 * l.length → d < k →
    transeptref01_Weight.l0 k l (wtTo l i) (i : Int) = some (wt l) := by
  intro d
  induction d with
  | zero =>
    intro k i hi hk
    obtain ⟨k, rfl⟩ : ∃ m, k = m + 1 := ⟨k - 1, by omega⟩
    simp only [transeptref01_Weight.l0]
    rw [wrap64_id (x := 8 * (l.length : Int)) (by omega) (by omega), if_neg (by omega)]
    unfold wtTo
    rw [show i % 8 = 0 by omega, show i / 8 = l.length by omega, List.take_of_length_le (Nat.le_refl _)]
    simp [parts]
  | succ d ih =>
    intro k i hi hk
    obtain ⟨k, rfl⟩ : ∃ m, k = m + 1 := ⟨k - 1, by omega⟩
    simp only [transeptref01_Weight.l0]
    rw [wrap64_id (x := 8 * (l.length : Int)) (by omega) (by omega), if_pos (by omega), bit_at l hn i (by omega)]
    simp only [Option.bind_some]
    have hb := wtTo_bound l hl hn i (by omega)
    have h01 := bitI_01 (l[i / 8]'(by omega)) (hl _ (List.getElem_mem _)) (i % 8) (by omega)
    rw [wrap64_id (x := bitI _ _) (by omega) (by omega), wrap64_id (x := (i : Int) + 1) (by omega) (by omega), wrap64_id (by omega) (by omega)]
    rw [← wtTo_succ l hl i (by omega)]
    exact ih k (i + 1) (by omega) (by omega)
theorem refWeight_is (l : List Int) (hl : Octs l) (hn : l.length ≤ 1048576) (k : Nat) (hk : 8 * l.length < k) : transeptref01_Weight.f k l = some (wt l) := by
  unfold transeptref01_Weight.f
  have := refWeight_loop l hl hn (8 * l.length) k 0 (by omega) hk
  simpa [wtTo, wt, parts] using this
/-- in how many of the first bits two octets are not alike -/
def unlike (x y : Int) : Nat → Int
  | 0 => 0
  | t + 1 => unlike x y t + (if bitI x t = bitI y t then 0 else 1)
theorem unlike_8 (x y : Int) (hx : 0 ≤ x ∧ x < 256) (hy : 0 ≤ y ∧ y < 256) : unlike x y 8 = d8 x y := by
  obtain ⟨a, rfl⟩ := Int.eq_ofNat_of_zero_le hx.1
  obtain ⟨b, rfl⟩ := Int.eq_ofNat_of_zero_le hy.1
  rw [d8_nat a b (by omega) (by omega)]
  have key : ∀ j, j < 8 → (if bitI (a : Int) j = bitI (b : Int) j then (0 : Int) else 1) = (((a ^^^ b).testBit (7 - j)).toNat : Int) := by
    intro j hj
    rw [bitI_nat a (by omega) j hj, bitI_nat b (by omega) j hj, Nat.testBit_xor]
    cases a.testBit (7 - j) <;> cases b.testBit (7 - j) <;> rfl
  simp only [unlike]
  rw [key 0 (by decide), key 1 (by decide), key 2 (by decide), key 3 (by decide), key 4 (by decide), key 5 (by decide), key 6 (by decide), key 7 (by decide)]
  unfold popN
  push_cast
  omega
theorem unlike_bound (x y : Int) (j : Nat) : 0 ≤ unlike x y j ∧ unlike x y j ≤ j := by
  induction j with
  | zero => simp [unlike]
  | succ j ih => simp only [unlike]; split <;> push_cast <;> omega
def distTo (a b : List Int) (i : Nat) : Int := dist (a.take (i / 8)) (b.take (i / 8)) + unlike (a.getD (i / 8) 0) (b.getD (i / 8) 0) (i % 8)
theorem distTo_succ (a b : List Int) (ha : Octs a) (hb : Octs b) (h : a.length = b.length) (i : Nat) (hi : i < 8 * a.length) :
    distTo a b (i + 1) = distTo a b i + (if bitI (a[i / 8]'(by omega)) (i % 8) = bitI (b[i / 8]'(by omega)) (i % 8) then 0 else 1) := by
  have hp : i / 8 < a.length := by omega
  have hq : i / 8 < b.length := by omega
  unfold distTo
  rw [getD_is a (i / 8) hp, getD_is b (i / 8) hq]
  by_cases h7 : i % 8 = 7
  · have e1 : (i + 1) / 8 = i / 8 + 1 := by omega
    have e2 : (i + 1) % 8 = 0 := by omega
    rw [e1, e2, h7, List.take_succ_eq_append_getElem hp, List.take_succ_eq_append_getElem hq, dist_snoc _ _ _ _ (by simp; omega)]
    have := unlike_8 a[i / 8] b[i / 8] (ha _ (List.getElem_mem hp)) (hb _ (List.getElem_mem hq))
    simp only [unlike] at this ⊢
    omega
  · have e1 : (i + 1) / 8 = i / 8 := by omega
    have e2 : (i + 1) % 8 = i % 8 + 1 := by omega
    rw [e1, e2, getD_is a (i / 8) hp, getD_is b (i / 8) hq]
    simp only [unlike]
    omega
theorem distTo_bound (a b : List Int) (ha : Octs a) (hb : Octs b) (hn : a.length ≤ 1048576) (i : Nat) (hi : i ≤ 8 * a.length) : 0 ≤ distTo a b i ∧ distTo a b i ≤ 8388616 := by
  unfold distTo
  have h1 := dist_bound (a.take (i / 8)) (b.take (i / 8)) (ha.take _) (hb.take _)
  have h2 : (a.take (i / 8)).length ≤ 1048576 := by simp; omega
  have := unlike_bound (a.getD (i / 8) 0) (b.getD (i / 8) 0) (i % 8)
  omega
theorem refApart_loop (a b : List Int) (ha : Octs a) (hb : Octs b) (h : a.length = b.length) (hn : a.length ≤ 1048576) : ∀ (d k i : Nat), i + d = 8 * a.length → d < k →
    transeptref01_Apart.l0 k a b (distTo a b i) (i : Int) = some (dist a b, 0) := by
  intro d
  induction d with
  | zero =>
    intro k i hi hk
    obtain ⟨k, rfl⟩ : ∃ m, k = m + 1 := ⟨k - 1, by omega⟩
    simp only [transeptref01_Apart.l0]
    rw [wrap64_id (x := 8 * (a.length : Int)) (by omega) (by omega), if_neg (by omega)]
    unfold distTo
    rw [show i % 8 = 0 by omega, show i / 8 = a.length by omega, List.take_of_length_le (Nat.le_refl _), List.take_of_length_le (by omega)]
    simp [unlike]
  | succ d ih =>
    intro k i hi hk
    obtain ⟨k, rfl⟩ : ∃ m, k = m + 1 := ⟨k - 1, by omega⟩
    simp only [transeptref01_Apart.l0]
    rw [wrap64_id (x := 8 * (a.length : Int)) (by omega) (by omega), if_pos (by omega), bit_at a hn i (by omega), bit_at b (by omega) i (by omega)]
    simp only [Option.bind_some]
    have hbd := distTo_bound a b ha hb hn i (by omega)
    have hs := distTo_succ a b ha hb h i (by omega)
    have next := ih k (i + 1) (by omega) (by omega)
    rw [wrap64_id (x := (i : Int) + 1) (by omega) (by omega)]
    rw [hs] at next
    by_cases he : bitI (a[i / 8]'(by omega)) (i % 8) = bitI (b[i / 8]'(by omega)) (i % 8)
    · rw [if_pos he] at next ⊢
      simpa using next
    · rw [if_neg he] at next ⊢
      rw [wrap64_id (by omega) (by omega)]
      exact next
theorem refApart_is (a b : List Int) (ha : Octs a) (hb : Octs b) (h : a.length = b.length) (hn : a.length ≤ 1048576) (k : Nat) (hk : 8 * a.length < k) : transeptref01_Apart.f k a b = some (dist a b, 0) := by
  unfold transeptref01_Apart.f
  rw [if_pos (by omega)]
  have := refApart_loop a b ha hb h hn (8 * a.length) k 0 (by omega) hk
  simpa [distTo, dist, unlike] using this
/-- what the page's Turn has when so many bits are over -/
def turnTo (l : List Int) (i : Nat) : List Int := (List.range l.length).map fun q => if q < i / 8 then revOf (l.getD (l.length - 1 - q) 0) else if q = i / 8 then orUp (l.getD (l.length - 1 - q) 0) (i % 8) else 0
theorem turnTo_length (l : List Int) (i : Nat) : (turnTo l i).length = l.length := by simp [turnTo]
theorem turnTo_at (l : List Int) (i q : Nat) (h : q < l.length) (h2 : q < (turnTo l i).length) : (turnTo l i)[q] = if q < i / 8 then revOf (l.getD (l.length - 1 - q) 0) else if q = i / 8 then orUp (l.getD (l.length - 1 - q) 0) (i % 8) else 0 := by
  simp [turnTo]
theorem turnTo_succ (l : List Int) (hl : Octs l) (i : Nat) (hi : i < 8 * l.length) :
    turnTo l (i + 1) = (turnTo l i).set (i / 8) (orUp (l.getD (l.length - 1 - i / 8) 0) (i % 8 + 1)) := by
  have hp : i / 8 < l.length := by omega
  apply List.ext_getElem (by simp [turnTo_length])
  intro q h1 h2
  have hq : q < l.length := by rw [turnTo_length] at h1; exact h1
  rw [List.getElem_set, turnTo_at l _ q hq h1, turnTo_at l _ q hq (by rw [turnTo_length]; exact hq)]
  by_cases h7 : i % 8 = 7
  · have e1 : (i + 1) / 8 = i / 8 + 1 := by omega
    have e2 : (i + 1) % 8 = 0 := by omega
    rw [e1, e2, h7]
    by_cases c1 : i / 8 = q
    · subst c1
      have hx := hl _ (List.getElem_mem (show l.length - 1 - i / 8 < l.length by omega))
      rw [if_pos (by omega), if_pos rfl, getD_is l _ (by omega), orUp_8 _ hx]
    · rw [if_neg c1]
      by_cases c2 : q < i / 8
      · rw [if_pos (by omega), if_pos c2]
      · rw [if_neg (by omega), if_neg c2]
        by_cases c3 : q = i / 8 + 1
        · rw [if_pos c3, if_neg (by omega)]; rfl
        · rw [if_neg c3, if_neg (by omega)]
  · have e1 : (i + 1) / 8 = i / 8 := by omega
    have e2 : (i + 1) % 8 = i % 8 + 1 := by omega
    rw [e1, e2]
    by_cases c1 : i / 8 = q
    · subst c1
      rw [if_neg (by omega), if_pos rfl, if_pos rfl]
    · rw [if_neg c1]
      by_cases c2 : q < i / 8
      · rw [if_pos c2, if_pos c2]
      · rw [if_neg c2, if_neg (by omega), if_neg c2, if_neg (by omega)]
theorem turnTo_full (l : List Int) (i : Nat) (hi : i = 8 * l.length) : turnTo l i = l.reverse.map revOf := by
  apply List.ext_getElem (by simp [turnTo_length])
  intro q h1 h2
  have hq : q < l.length := by rw [turnTo_length] at h1; exact h1
  rw [turnTo_at l _ q hq h1, if_pos (by omega), getD_is l _ (by omega), List.getElem_map, List.getElem_reverse]
theorem refTurn_loop (l : List Int) (hl : Octs l) (hn : l.length ≤ 1048576) : ∀ (d k i : Nat), i + d = 8 * l.length → d < k →
    transeptref01_Turn.l0 k l (turnTo l i) ((8 * l.length : Nat) : Int) (i : Int) = some (l.reverse.map revOf) := by
  intro d
  induction d with
  | zero =>
    intro k i hi hk
    obtain ⟨k, rfl⟩ : ∃ m, k = m + 1 := ⟨k - 1, by omega⟩
    simp only [transeptref01_Turn.l0]
    rw [if_neg (by omega), turnTo_full l i (by omega)]
  | succ d ih =>
    intro k i hi hk
    obtain ⟨k, rfl⟩ : ∃ m, k = m + 1 := ⟨k - 1, by omega⟩
    have e1 : Int.tdiv (i : Int) 8 = ((i / 8 : Nat) : Int) := rfl
    have e2 : Int.tmod (i : Int) 8 = ((i % 8 : Nat) : Int) := rfl
    have hp : i / 8 < l.length := by omega
    have hlen := turnTo_length l i
    simp only [transeptref01_Turn.l0]
    rw [e1, e2, if_pos (by omega), wrap64_id (x := ((i / 8 : Nat) : Int)) (by omega) (by omega), if_pos (by omega), if_pos (by omega)]
    rw [wrap64_id (x := ((8 * l.length : Nat) : Int) - 1) (by omega) (by omega), wrap64_id (x := ((8 * l.length : Nat) : Int) - 1 - (i : Int)) (by omega) (by omega)]
    rw [show ((8 * l.length : Nat) : Int) - 1 - (i : Int) = ((8 * l.length - 1 - i : Nat) : Int) by omega, bit_at l hn _ (by omega)]
    simp only [Option.bind_some]
    rw [wrap64_id (x := 7 - ((i % 8 : Nat) : Int)) (by omega) (by omega), if_pos (by omega), wrap64_id (by omega) (by omega)]
    have next := ih k (i + 1) (by omega) (by omega)
    rw [turnTo_succ l hl i (by omega)] at next
    have hb1 : (8 * l.length - 1 - i) / 8 = l.length - 1 - i / 8 := by omega
    have hb2 : (8 * l.length - 1 - i) % 8 = 7 - i % 8 := by omega
    have hrd : rd (turnTo l i) ((i / 8 : Nat) : Int) = orUp (l.getD (l.length - 1 - i / 8) 0) (i % 8) := by
      rw [rd_nat _ _ (by omega), turnTo_at l i (i / 8) hp (by omega), if_neg (by omega), if_pos rfl]
    rw [hrd, Int.toNat_natCast]
    have hbit : bitI (l[(8 * l.length - 1 - i) / 8]'(by omega)) ((8 * l.length - 1 - i) % 8) = bitI (l.getD (l.length - 1 - i / 8) 0) (7 - i % 8) := by
      rw [hb2]
      congr 1
      rw [getD_is l _ (by omega)]
      congr 1
    rw [hbit, show (7 : Int) - ((i % 8 : Nat) : Int) = ((7 - i % 8 : Nat) : Int) by omega]
    exact next
theorem refTurn_is (l : List Int) (hl : Octs l) (hn : l.length ≤ 1048576) (k : Nat) (hk : 8 * l.length < k) : transeptref01_Turn.f k l = some (l.reverse.map revOf) := by
  unfold transeptref01_Turn.f
  rw [if_pos (by omega), if_pos (by omega), wrap64_id (by omega) (by omega)]
  have := refTurn_loop l hl hn (8 * l.length) k 0 (by omega) hk
  have h0 : turnTo l 0 = List.replicate l.length 0 := by
    apply List.ext_getElem (by simp [turnTo_length])
    intro q h1 h2
    have hq : q < l.length := by rw [turnTo_length] at h1; exact h1
    rw [turnTo_at l _ q hq h1, if_neg (by omega), List.getElem_replicate]
    split <;> rfl
  rw [h0] at this
  rw [Int.toNat_natCast]
  rw [show (8 : Int) * (l.length : Int) = ((8 * l.length : Nat) : Int) by omega]
  exact this
/-- pieces do not hang on the fuel -/
theorem pieces_fuel (size : Nat) (hs : 1 ≤ size) : ∀ (d e : Nat) (l : List Int), l.length ≤ d → l.length ≤ e → piecesOf size d l = piecesOf size e l := by
  intro d
  induction d with
  | zero =>
    intro e l h1 h2
    have : l = [] := List.eq_nil_of_length_eq_zero (by omega)
    subst this
    cases e <;> simp [piecesOf]
  | succ d ih =>
    intro e l h1 h2
    by_cases he : l = []
    · subst he; cases e <;> simp [piecesOf]
    · have hp : 0 < l.length := List.length_pos_iff.mpr he
      obtain ⟨e, rfl⟩ : ∃ m, e = m + 1 := ⟨e - 1, by omega⟩
      simp only [piecesOf, he, if_false]
      rw [ih e (l.drop size) (by simp; omega) (by simp; omega)]
def pc (size : Nat) (l : List Int) : List (List Int) := piecesOf size l.length l
theorem pc_cons (size : Nat) (hs : 1 ≤ size) (l : List Int) (he : l ≠ []) : pc size l = l.take size :: pc size (l.drop size) := by
  have hp : 0 < l.length := List.length_pos_iff.mpr he
  unfold pc
  obtain ⟨n, hn⟩ : ∃ n, l.length = n + 1 := ⟨l.length - 1, by omega⟩
  rw [hn]
  simp only [piecesOf, he, if_false]
  rw [pieces_fuel size hs n (l.drop size).length (l.drop size) (by simp; omega) (Nat.le_refl _)]
theorem pc_nil (size : Nat) : pc size [] = [] := rfl
theorem pc_snoc (size : Nat) (hs : 1 ≤ size) (x : Int) : ∀ (n : Nat) (l : List Int), l.length ≤ n →
    (l.length % size = 0 → pc size (l ++ [x]) = pc size l ++ [[x]]) ∧
    (l.length % size ≠ 0 → 0 < (pc size l).length ∧ pc size (l ++ [x]) = (pc size l).set ((pc size l).length - 1) ((pc size l).getD ((pc size l).length - 1) [] ++ [x])) := by
  intro n
  induction n with
  | zero =>
    intro l hl
    have : l = [] := List.eq_nil_of_length_eq_zero (by omega)
    subst this
    refine ⟨fun _ => ?_, fun h => absurd (by simp) h⟩
    rw [pc_cons size hs _ (by simp)]
    simp [pc_nil, List.take_of_length_le (show ([x] : List Int).length ≤ size by simpa using hs), List.drop_of_length_le (show ([x] : List Int).length ≤ size by simpa using hs)]
  | succ n ih =>
    intro l hl
    rcases Nat.lt_or_ge l.length size with hlt | hge
    · by_cases he : l = []
      · subst he
        exact ih [] (by simp)
      · have hp : 0 < l.length := List.length_pos_iff.mpr he
        have hm : l.length % size ≠ 0 := by rw [Nat.mod_eq_of_lt hlt]; omega
        refine ⟨fun h => absurd h hm, fun _ => ?_⟩
        rw [pc_cons size hs l he, pc_cons size hs (l ++ [x]) (by simp)]
        rw [List.take_of_length_le (show (l ++ [x]).length ≤ size by rw [List.length_append]; simp only [List.length_cons, List.length_nil]; omega), List.drop_of_length_le (show (l ++ [x]).length ≤ size by rw [List.length_append]; simp only [List.length_cons, List.length_nil]; omega), List.take_of_length_le (show l.length ≤ size by omega), List.drop_of_length_le (show l.length ≤ size by omega), pc_nil]
        simp
    · have he : l ≠ [] := by intro h; subst h; simp at hge; omega
      have e1 : (l ++ [x]).take size = l.take size := by rw [List.take_append_of_le_length hge]
      have e2 : (l ++ [x]).drop size = l.drop size ++ [x] := by rw [List.drop_append_of_le_length hge]
      have hdl : (l.drop size).length = l.length - size := by simp
      have hmod : (l.drop size).length % size = l.length % size := by
        rw [hdl]
        conv => rhs; rw [show l.length = (l.length - size) + size by omega, Nat.add_mod_right]
      have h := ih (l.drop size) (by rw [hdl]; omega)
      rw [hmod] at h
      rw [pc_cons size hs l he, pc_cons size hs (l ++ [x]) (by simp), e1, e2]
      refine ⟨fun h0 => by rw [h.1 h0]; rfl, fun h0 => ?_⟩
      obtain ⟨h3, h4⟩ := h.2 h0
      refine ⟨by simp, ?_⟩
      rw [h4]
      obtain ⟨m, hm⟩ : ∃ m, (pc size (l.drop size)).length = m + 1 := ⟨_, (Nat.succ_pred_eq_of_pos h3).symm⟩
      simp only [List.length_cons, hm, Nat.add_sub_cancel]
      simp
theorem rdL1_nat (l : List (List Int)) (i : Nat) : rd_L1 l (i : Int) = l.getD i [] := by unfold rd_L1; rw [Int.toNat_natCast]
theorem pc_len_le (size : Nat) (hs : 1 ≤ size) (l : List Int) : (pc size l).length ≤ l.length := pieces_length size hs l.length l (Nat.le_refl _)
theorem pc_piece_le (size : Nat) (hs : 1 ≤ size) (l : List Int) (i : Nat) : ((pc size l).getD i []).length ≤ size := by
  rcases Nat.lt_or_ge i (pc size l).length with h | h
  · rw [List.getD_eq_getElem?_getD, List.getElem?_eq_getElem h]
    exact (pieces_at size hs l.length l (Nat.le_refl _) i h).2.1
  · rw [List.getD_eq_getElem?_getD, List.getElem?_eq_none h]
    simp
theorem refCut_loop (l : List Int) (size : Nat) (hs : 1 ≤ size) (hs2 : size ≤ 65536) (hn : l.length ≤ 1048576) : ∀ (d k i : Nat), i + d = l.length → d < k →
    transeptref01_Cut.l0 k l (size : Int) (pc size (l.take i)) (i : Int) = some (pc size l, 0) := by
  intro d
  induction d with
  | zero =>
    intro k i hi hk
    obtain ⟨k, rfl⟩ : ∃ m, k = m + 1 := ⟨k - 1, by omega⟩
    simp only [transeptref01_Cut.l0]
    rw [if_neg (by omega), List.take_of_length_le (by omega)]
  | succ d ih =>
    intro k i hi hk
    obtain ⟨k, rfl⟩ : ∃ m, k = m + 1 := ⟨k - 1, by omega⟩
    have h1 : i < l.length := by omega
    have hti : (l.take i).length = i := by simp; omega
    have hsn := pc_snoc size hs l[i] (l.take i).length (l.take i) (Nat.le_refl _)
    rw [hti, ← List.take_succ_eq_append_getElem h1] at hsn
    have next := ih k (i + 1) (by omega) (by omega)
    have hle := pc_len_le size hs (l.take i)
    have e1 : Int.tmod (i : Int) (size : Int) = ((i % size : Nat) : Int) := rfl
    simp only [transeptref01_Cut.l0]
    rw [if_pos (by omega), if_neg (by omega), e1]
    by_cases h0 : i % size = 0
    · rw [if_pos (by omega), if_pos (by omega)]
      simp only [Option.bind_some]
      obtain ⟨m, hm⟩ : ∃ m, m = (pc size (l.take i)).length := ⟨_, rfl⟩
      have hl2 : (pc size (l.take i) ++ [([] : List Int)]).length = m + 1 := by simp [hm]
      rw [hl2, show wrap64 (((m + 1 : Nat) : Int) - 1) = (m : Int) by rw [wrap64_id (by omega) (by omega)]; omega]
      rw [if_pos (by omega), if_pos (by omega), if_pos (by omega), rdL1_nat, rd_nat l i h1, Int.toNat_natCast]
      have hg : (pc size (l.take i) ++ [([] : List Int)]).getD m [] = [] := by
        rw [List.getD_eq_getElem?_getD, List.getElem?_append_right (by omega), hm]; simp
      have hset : (pc size (l.take i) ++ [([] : List Int)]).set m ([l[i]]) = pc size (l.take i) ++ [[l[i]]] := by
        rw [List.set_append_right _ _ (by omega), hm, Nat.sub_self]; rfl
      rw [hg, if_pos (by simp), List.nil_append, hset, ← hsn.1 h0, wrap64_id (by omega) (by omega)]
      exact next
    · rw [if_neg (by omega)]
      obtain ⟨h3, h4⟩ := hsn.2 h0
      obtain ⟨m, hm⟩ : ∃ m, (pc size (l.take i)).length = m + 1 := ⟨_, (Nat.succ_pred_eq_of_pos h3).symm⟩
      rw [hm] at h4 ⊢
      rw [show wrap64 (((m + 1 : Nat) : Int) - 1) = (m : Int) by rw [wrap64_id (by omega) (by omega)]; omega]
      rw [Nat.add_sub_cancel] at h4
      have hpl := pc_piece_le size hs (l.take i) m
      rw [if_pos (by omega), if_pos (by omega), if_pos (by omega), rdL1_nat, rd_nat l i h1, Int.toNat_natCast, if_pos (by omega), ← h4, wrap64_id (by omega) (by omega)]
      exact next
theorem refCut_is (l : List Int) (size : Nat) (hs : 1 ≤ size) (hs2 : size ≤ 65536) (hn : l.length ≤ 1048576) (k : Nat) (hk : l.length + 1 < k) : transeptref01_Cut.f k l (size : Int) = some (pc size l, 0) := by
  unfold transeptref01_Cut.f
  rw [if_neg (by omega)]
  obtain ⟨k, rfl⟩ : ∃ m, k = m + 1 := ⟨k - 1, by omega⟩
  simp only [transeptref01_Cut.j0]
  rw [if_neg (by simp; omega)]
  have := refCut_loop l size hs hs2 hn l.length k 0 (by omega) (by omega)
  simpa [pc_nil] using this
theorem refCut_bad (l : List Int) (size : Int) (hb : size < 1 ∨ size > 65536) (k : Nat) (hk : 0 < k) : transeptref01_Cut.f k l size = some ([], 4) := by
  unfold transeptref01_Cut.f
  obtain ⟨k, rfl⟩ : ∃ m, k = m + 1 := ⟨k - 1, by omega⟩
  by_cases h : size < 1
  · rw [if_pos h]
    simp [transeptref01_Cut.j0]
  · rw [if_neg h]
    simp only [transeptref01_Cut.j0]
    rw [if_pos (by simp; omega)]
theorem sameLists_loop (a : List (List Int)) (ha : ∀ x ∈ a, x.length ≤ 1048576) (hn : a.length ≤ 1048576) : ∀ (d k i : Nat), i + d = a.length → d + 1048578 < k →
    transeptplain_SameLists.l0 k a a (i : Int) = some true := by
  intro d
  induction d with
  | zero =>
    intro k i hi hk
    obtain ⟨k, rfl⟩ : ∃ m, k = m + 1 := ⟨k - 1, by omega⟩
    simp only [transeptplain_SameLists.l0]
    rw [if_neg (by omega)]
  | succ d ih =>
    intro k i hi hk
    obtain ⟨k, rfl⟩ : ∃ m, k = m + 1 := ⟨k - 1, by omega⟩
    have h1 : i < a.length := by omega
    simp only [transeptplain_SameLists.l0]
    have hx : (rd_L1 a (i : Int)).length ≤ 1048576 := by
      rw [rdL1_nat, List.getD_eq_getElem?_getD, List.getElem?_eq_getElem h1]
      exact ha _ (List.getElem_mem h1)
    rw [if_pos (by omega), if_pos (by omega), if_pos (by omega), same_is _ _ (by omega) k (by omega)]
    simp only [Option.bind_some, decide_true, if_true]
    rw [wrap64_id (by omega) (by omega)]
    exact ih k (i + 1) (by omega) (by omega)
theorem sameLists_is (a : List (List Int)) (ha : ∀ x ∈ a, x.length ≤ 1048576) (hn : a.length ≤ 1048576) (k : Nat) (hk : a.length + 1048578 < k) : transeptplain_SameLists.f k a a = some true := by
  unfold transeptplain_SameLists.f
  rw [if_pos rfl]
  exact sameLists_loop a ha hn a.length k 0 (by omega) hk
theorem spoil_ends (l : List Int) (hn : l.length ≤ 1048576) : ∀ (d k i : Nat) (cur : List Int), cur.length = l.length → i + d = l.length → d < k → ∃ r, transeptplain_Spoil.l0 k cur (i : Int) = some r := by
  intro d
  induction d with
  | zero =>
    intro k i cur hc hi hk
    obtain ⟨k, rfl⟩ : ∃ m, k = m + 1 := ⟨k - 1, by omega⟩
    simp only [transeptplain_Spoil.l0]
    rw [if_neg (by omega)]
    exact ⟨_, rfl⟩
  | succ d ih =>
    intro k i cur hc hi hk
    obtain ⟨k, rfl⟩ : ∃ m, k = m + 1 := ⟨k - 1, by omega⟩
    simp only [transeptplain_Spoil.l0]
    rw [if_pos (by omega), if_pos (by omega), wrap64_id (by omega) (by omega)]
    exact ih k (i + 1) _ (by simp [hc]) (by omega) (by omega)
theorem spoil_is (l : List Int) (hn : l.length ≤ 1048576) (k : Nat) (hk : l.length < k) : ∃ r, transeptplain_Spoil.f k l = some r := spoil_ends l hn l.length k 0 l rfl (by omega) hk

end Go.Proofs.Ythphelbkfgbejaa.Q
