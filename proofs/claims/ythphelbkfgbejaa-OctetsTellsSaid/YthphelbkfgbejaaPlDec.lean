import Derived.Test.YthphelbkfgbejaaQ33
import Derived.Test.YthphelbkfgbejaaQ34
import Derived.Test.YthphelbkfgbejaaKit
import Derived.Test.YthphelbkfgbejaaPlSame
import Derived.Test.YthphelbkfgbejaaPlOctB
import Derived.Lib.SlicesS
namespace Go.Proofs.Ythphelbkfgbejaa.Q
open Go.RowKit Go.Proofs.YthphelbkfgbejaaW.PrintWords Go.Proofs.YthphelbkfgbejaaW.PrintLast Go.Proofs.YthphelbkfgbejaaW.PrintMore
set_option linter.unusedVariables false
set_option linter.unusedSimpArgs false

/-- a number's decimal digits as octets, the last one first -/
def dg : Nat → Nat → List Int
  | 0, _ => []
  | f + 1, c => (48 + ((c % 10 : Nat) : Int)) :: (if c / 10 = 0 then [] else dg f (c / 10))
theorem dg_length (f c : Nat) : (dg f c).length ≤ f := by
  induction f generalizing c with
  | zero => simp [dg]
  | succ f ih =>
    simp only [dg, List.length_cons]
    split
    · simp
    · have := ih (c / 10); omega
theorem strOf_append (a b : List Int) : strOfNums (a ++ b) = strOfNums a ++ strOfNums b := by
  apply ByteArray.ext
  simp [strOfNums, ByteArray.data_append]
theorem strOf_size (a : List Int) : (strOfNums a).size = a.length := by
  show (List.toArray _).size = _
  simp
theorem u64_div (c : Nat) (h : c < 18446744073709551616) : IntKind.u64.wrap (Int.tdiv (c : Int) 10) = ((c / 10 : Nat) : Int) := by
  rw [show Int.tdiv (c : Int) 10 = ((c / 10 : Nat) : Int) from rfl]
  exact u64_id _ (by omega) (by omega)
theorem u8_digit (c : Nat) : (48 + Int.tmod (c : Int) 10) % 256 = 48 + ((c % 10 : Nat) : Int) := by
  rw [show Int.tmod (c : Int) 10 = ((c % 10 : Nat) : Int) from rfl]
  omega
theorem rev_at (l : List Int) (hn : l.length ≤ 140737488355328) (k : Nat) (hk : l.length < k) : slices_Reverse_byte_byte.f k l = some l.reverse :=
  at_rounds (slices_Reverse_byte_byte.mono _) (show l.length + 1 ≤ k by omega) (reverse_ends l hn)
/-- what stands ahead of the digits -/
def sgn (n : Int) : List Int := if n < 0 then [45] else []
theorem dec_loop (n : Int) : ∀ (f k : Nat) (acc : List Int) (c : Nat), c < 10 ^ f → c < 18446744073709551616 → acc.length + f ≤ 40 → f + 60 < k → 0 < f →
    octets_Decimal.l0 k n acc (c : Int) = some (strOfNums (acc ++ dg f c ++ sgn n).reverse) := by
  intro f
  induction f with
  | zero => intro k acc c _ _ _ _ h; omega
  | succ f ih =>
    intro k acc c hc hc2 hl hk _
    obtain ⟨k, rfl⟩ : ∃ m, k = m + 1 := ⟨k - 1, by omega⟩
    simp only [octets_Decimal.l0]
    rw [if_pos (by omega)]
    simp only [Option.bind_some]
    rw [u64_div c hc2, u8_digit]
    by_cases h0 : c / 10 = 0
    · rw [if_pos (by omega)]
      have hd : dg (f + 1) c = [48 + ((c % 10 : Nat) : Int)] := by simp [dg, h0]
      rw [hd]
      by_cases hn : n < 0
      · rw [if_pos hn, if_pos (by simp; omega), rev_at _ (by simp; omega) k (by simp; omega)]
        simp only [Option.bind_some]
        rw [show sgn n = [45] from by simp [sgn, hn]]
      · rw [if_neg hn, rev_at _ (by simp; omega) k (by simp; omega)]
        simp only [Option.bind_some]
        rw [show sgn n = [] from by simp [sgn, hn], List.append_nil]
    · rw [if_neg (by omega)]
      have hf : 0 < f := by
        rcases Nat.eq_zero_or_pos f with h | h
        · subst h; simp at hc; omega
        · exact h
      have hdg : dg (f + 1) c = (48 + ((c % 10 : Nat) : Int)) :: dg f (c / 10) := by simp [dg, h0]
      rw [ih k _ (c / 10) (by rw [Nat.pow_succ] at hc; omega) (by omega) (by simp; omega) (by omega) hf, hdg]
      simp [List.append_assoc]
theorem dec_is (n : Int) (h0 : -9223372036854775808 ≤ n) (h1 : n ≤ 9223372036854775807) (k : Nat) (hk : 100 ≤ k) :
    octets_Decimal.f k n = some (strOfNums (dg 20 n.natAbs ++ sgn n).reverse) := by
  obtain ⟨k, rfl⟩ : ∃ m, k = m + 1 := ⟨k - 1, by omega⟩
  have hp : n.natAbs < 10 ^ 20 := by
    have : (10 : Nat) ^ 20 = 100000000000000000000 := by decide
    omega
  have key := dec_loop n 20 k [] n.natAbs hp (by omega) (by simp) (by omega) (by omega)
  unfold octets_Decimal.f
  by_cases hn : n < 0
  · rw [if_pos hn]
    simp only [octets_Decimal.j0]
    have e : IntKind.u64.wrap (-(IntKind.u64.wrap n)) = (n.natAbs : Int) := by
      simp only [IntKind.wrap, IntKind.bits, IntKind.signed]
      simp
      omega
    rw [e, key]; rfl
  · rw [if_neg hn]
    simp only [octets_Decimal.j0]
    have e : IntKind.u64.wrap n = (n.natAbs : Int) := by
      simp only [IntKind.wrap, IntKind.bits, IntKind.signed]
      simp
      omega
    rw [e, key]; rfl
theorem empty_beq (s : ByteArray) : (s.toList == ([] : List UInt8)) = decide (s.size = 0) := by
  have he : ([] : List UInt8) = (⟨#[]⟩ : ByteArray).toList := ByteArray.toList_empty.symm
  rw [he]
  by_cases h : s.size = 0
  · have hs : s = ⟨#[]⟩ := by
      apply ByteArray.ext
      exact Array.eq_empty_of_size_eq_zero h
    rw [hs]
    simp
    rfl
  · have := (Go.Lib.bytes_beq_false_iff s ⟨#[]⟩).mpr (fun e => h (by rw [e]; rfl))
    rw [this]
    simp [h]
/-- a round of the page's loop, at a number c under the sign of n -/
theorem ref_step (n : Int) (k c : Nat) (s : ByteArray) (m : Int) (hm : m = if n < 0 then -(c : Int) else (c : Int)) (hc : c ≤ 9223372036854775808) (hs : s.size ≤ 100) :
    transeptref01_Decimal.j1 (k + 1) n s m true = transeptref01_Decimal.l0 k n (strOfNums [48 + ((c % 10 : Nat) : Int)] ++ s) (if n < 0 then -((c / 10 : Nat) : Int) else ((c / 10 : Nat) : Int)) := by
  simp only [transeptref01_Decimal.j1, if_true]
  by_cases hn : n < 0
  · rw [if_pos hn] at hm
    subst hm
    have e1 : Int.tmod (-(c : Int)) 10 = -((c % 10 : Nat) : Int) := by rw [Int.neg_tmod]; rfl
    have e2 : Int.tdiv (-(c : Int)) 10 = -((c / 10 : Nat) : Int) := by rw [Int.neg_tdiv]; rfl
    rw [e1, e2, if_pos hn]
    by_cases h0 : c % 10 = 0
    · rw [if_neg (by omega)]
      simp only [Option.bind_some]
      rw [if_pos (by rw [strOf_size]; simp; omega), wrap64_id (x := -((c / 10 : Nat) : Int)) (by omega) (by omega)]
      rw [h0]
      rw [show (wrap64 (48 + -((0 : Nat) : Int))) % 256 = 48 + ((0 : Nat) : Int) by unfold wrap64; omega]
    · rw [if_pos (by omega)]
      simp only [Option.bind_some]
      rw [if_pos (by rw [strOf_size]; simp; omega), wrap64_id (x := -((c / 10 : Nat) : Int)) (by omega) (by omega)]
      rw [Int.neg_neg, wrap64_id (x := ((c % 10 : Nat) : Int)) (by omega) (by omega), wrap64_id (by omega) (by omega)]
      rw [show (48 + ((c % 10 : Nat) : Int)) % 256 = 48 + ((c % 10 : Nat) : Int) by omega]
  · rw [if_neg hn] at hm
    subst hm
    have e1 : Int.tmod ((c : Int)) 10 = ((c % 10 : Nat) : Int) := rfl
    have e2 : Int.tdiv ((c : Int)) 10 = ((c / 10 : Nat) : Int) := rfl
    rw [e1, e2, if_neg hn, if_neg (by omega)]
    simp only [Option.bind_some]
    rw [if_pos (by rw [strOf_size]; simp; omega), wrap64_id (x := ((c / 10 : Nat) : Int)) (by omega) (by omega), wrap64_id (by omega) (by omega)]
    rw [show (48 + ((c % 10 : Nat) : Int)) % 256 = 48 + ((c % 10 : Nat) : Int) by omega]
theorem ref_end (n : Int) (k : Nat) (s : ByteArray) (hs : s.size ≤ 100) : transeptref01_Decimal.j1 (k + 1) n s 0 false = some (strOfNums (sgn n) ++ s) := by
  simp only [transeptref01_Decimal.j1]
  rw [if_neg (by simp)]
  by_cases hn : n < 0
  · rw [if_pos hn, if_pos (by omega), show sgn n = [45] from by simp [sgn, hn]]
    rfl
  · rw [if_neg hn, show sgn n = [] from by simp [sgn, hn]]
    simp only [strOfNums, List.map_nil]
    congr 1
theorem ref_loop (n : Int) : ∀ (f k : Nat) (s : ByteArray) (c : Nat), c < 10 ^ f → c ≤ 9223372036854775808 → s.size + f ≤ 40 → 2 * f + 10 < k → 0 < f →
    ∀ m, m = (if n < 0 then -(c : Int) else (c : Int)) → transeptref01_Decimal.j1 k n s m true = some (strOfNums (dg f c ++ sgn n).reverse ++ s) := by
  intro f
  induction f with
  | zero => intro k s c _ _ _ _ h; omega
  | succ f ih =>
    intro k s c hc hc2 hl hk _ m hm
    obtain ⟨k, rfl⟩ : ∃ m, k = m + 1 := ⟨k - 1, by omega⟩
    rw [ref_step n k c s m hm hc2 (by omega)]
    obtain ⟨k, rfl⟩ : ∃ m, k = m + 1 := ⟨k - 1, by omega⟩
    obtain ⟨k, rfl⟩ : ∃ m, k = m + 1 := ⟨k - 1, by omega⟩
    have hsz : (strOfNums [48 + ((c % 10 : Nat) : Int)] ++ s).size = 1 + s.size := by rw [ByteArray.size_append, strOf_size]; rfl
    simp only [transeptref01_Decimal.l0]
    by_cases h0 : c / 10 = 0
    · have hz : (if n < 0 then -((c / 10 : Nat) : Int) else ((c / 10 : Nat) : Int)) = 0 := by split <;> omega
      rw [hz, if_pos rfl, empty_beq, hsz, show decide (1 + s.size = 0) = false by simp, ref_end n k _ (by omega)]
      have hd : dg (f + 1) c = [48 + ((c % 10 : Nat) : Int)] := by simp [dg, h0]
      rw [hd, List.reverse_append, strOf_append, ← ByteArray.append_assoc]
      congr 2
      simp [sgn]
      split <;> rfl
    · have hz : (if n < 0 then -((c / 10 : Nat) : Int) else ((c / 10 : Nat) : Int)) ≠ 0 := by split <;> omega
      rw [if_neg hz]
      have hf : 0 < f := by
        rcases Nat.eq_zero_or_pos f with h | h
        · subst h; simp at hc; omega
        · exact h
      have hdg : dg (f + 1) c = (48 + ((c % 10 : Nat) : Int)) :: dg f (c / 10) := by simp [dg, h0]
      rw [ih (k + 1) _ (c / 10) (by rw [Nat.pow_succ] at hc; omega) (by omega) (by rw [hsz]; omega) (by omega) hf _ rfl, hdg]
      rw [List.cons_append, List.reverse_cons, strOf_append, ByteArray.append_assoc]
theorem refdec_is (n : Int) (h0 : -9223372036854775808 ≤ n) (h1 : n ≤ 9223372036854775807) (k : Nat) (hk : 100 ≤ k) :
    transeptref01_Decimal.f k n = some (strOfNums (dg 20 n.natAbs ++ sgn n).reverse) := by
  obtain ⟨k, rfl⟩ : ∃ m, k = m + 1 := ⟨k - 1, by omega⟩
  have hp : n.natAbs < 10 ^ 20 := by
    have : (10 : Nat) ^ 20 = 100000000000000000000 := by decide
    omega
  have key := ref_loop n 20 k ⟨#[]⟩ n.natAbs hp (by omega) (by show 0 + 20 ≤ 40; omega) (by omega) (by omega) n (by split <;> omega)
  unfold transeptref01_Decimal.f
  simp only [transeptref01_Decimal.l0]
  have he : strOfNums (dg 20 n.natAbs ++ sgn n).reverse ++ (⟨#[]⟩ : ByteArray) = strOfNums (dg 20 n.natAbs ++ sgn n).reverse := by
    apply ByteArray.ext
    simp [ByteArray.data_append]
  rw [he] at key
  by_cases hz : n = 0
  · rw [if_pos hz, empty_beq, show decide ((⟨#[]⟩ : ByteArray).size = 0) = true from rfl]
    exact key
  · rw [if_neg hz]
    exact key

end Go.Proofs.Ythphelbkfgbejaa.Q
