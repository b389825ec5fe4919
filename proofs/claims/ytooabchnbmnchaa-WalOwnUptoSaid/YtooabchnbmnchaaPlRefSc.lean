-- (thinned for this claim by wip/tools/shake.py: what the claim doesn't use is left out)
import Derived.Test.YtooabchnbmnchaaQ26
import Derived.Test.YtooabchnbmnchaaQ38
import Derived.Test.YtooabchnbmnchaaQ1
import Derived.Test.YtooabchnbmnchaaKit
import Derived.Test.YtooabchnbmnchaaPlNum
import Derived.Test.YtooabchnbmnchaaPlCrc
import Derived.Test.YtooabchnbmnchaaPlLin
import Derived.Test.YtooabchnbmnchaaPlScan
namespace Go.Proofs.Ytooabchnbmnchaa.Q
open Go.RowKit Go.Proofs.YtooabchnbmnchaaW.PrintWords Go.Proofs.YtooabchnbmnchaaW.PrintLast Go.Proofs.YtooabchnbmnchaaW.PrintMore
set_option linter.unusedVariables false
set_option linter.unusedSimpArgs false
theorem number_loop (l : List Int) (hl : Octs l) (hn : l.length ≤ 8) : ∀ (d k i : Nat), i + d = l.length → d < k →
    transeptref01_Number.l0 k l (bv (l.take i)) (i : Int) = some (bv l) := by
  intro d
  induction d with
  | zero =>
    intro k i hi hk
    obtain ⟨k, rfl⟩ : ∃ m, k = m + 1 := ⟨k - 1, by omega⟩
    simp only [transeptref01_Number.l0]
    rw [if_neg (by omega), List.take_of_length_le (by omega)]
  | succ d ih =>
    intro k i hi hk
    obtain ⟨k, rfl⟩ : ∃ m, k = m + 1 := ⟨k - 1, by omega⟩
    have h1 : i < l.length := by omega
    have hx := hl l[i] (List.getElem_mem h1)
    have hb := bv_bound (l.take i) (hl.take i)
    have hlen : (l.take i).length = i := by simp; omega
    rw [hlen] at hb
    have hp := pow256_le (i := i) (by omega)
    simp only [transeptref01_Number.l0]
    rw [if_pos (by omega), if_pos (by omega), rd_nat l i h1]
    rw [u64_id (bv (l.take i) * 256) (by omega) (by omega), u64_id l[i] hx.1 (by omega), u64_id _ (by omega) (by omega)]
    rw [wrap64_id (by omega) (by omega)]
    have := ih k (i + 1) (by omega) (by omega)
    rw [List.take_succ_eq_append_getElem h1, bv_snoc] at this
    exact this
theorem refNumber_is (l : List Int) (hl : Octs l) (hn : l.length ≤ 8) (k : Nat) (hk : l.length < k) : transeptref01_Number.f k l = some (bv l) :=
  number_loop l hl hn l.length k 0 (by omega) hk
theorem turn_loop (c : Nat) (hc : c < 4294967296) : ∀ (d k i : Nat), i + d = 8 → d < k → transeptref02_turn.l0 k ((crcBits i c : Nat) : Int) (i : Int) = some ((crcBits 8 c : Nat) : Int) := by
  intro d
  induction d with
  | zero =>
    intro k i hi hk
    obtain ⟨k, rfl⟩ : ∃ m, k = m + 1 := ⟨k - 1, by omega⟩
    simp only [transeptref02_turn.l0]
    rw [if_neg (by omega)]
    have : i = 8 := by omega
    subst this
    rfl
  | succ d ih =>
    intro k i hi hk
    obtain ⟨k, rfl⟩ : ∃ m, k = m + 1 := ⟨k - 1, by omega⟩
    simp only [transeptref02_turn.l0]
    rw [if_pos (by omega), wrap64_id (by omega) (by omega)]
    have hq := crcBits_lt i c hc
    have := ih k (i + 1) (by omega) (by omega)
    obtain ⟨q, hq2⟩ : ∃ q, q = crcBits i c := ⟨_, rfl⟩
    have hs : crcBits (i + 1) c = crcBit q := by rw [hq2]; rfl
    rw [hs] at this
    rw [← hq2] at hq ⊢
    have ha := u32_and q 1 hq (by omega)
    rw [show ((1 : Nat) : Int) = 1 from rfl, Nat.and_one_is_mod] at ha
    rw [ha]
    have h2 : (q : Int) / (2 : Int) = ((q >>> 1 : Nat) : Int) := by rw [Nat.shiftRight_eq_div_pow]; omega
    have hlt : q >>> 1 < 4294967296 := by rw [Nat.shiftRight_eq_div_pow]; omega
    by_cases ho : q % 2 = 1
    · rw [if_pos (by omega), h2]
      have hx := (u32_xor (q >>> 1) 2197175160 hlt (by omega)).1
      rw [show ((2197175160 : Nat) : Int) = 2197175160 from rfl] at hx
      rw [hx]
      unfold crcBit at this
      rw [if_pos ho] at this
      exact this
    · rw [if_neg (by omega), h2]
      unfold crcBit at this
      rw [if_neg ho, Nat.xor_zero] at this
      exact this
theorem turn_is (c : Nat) (hc : c < 4294967296) (x : Int) (hx : 0 ≤ x ∧ x < 256) (k : Nat) (hk : 8 < k) : transeptref02_turn.f k (c : Int) x = some ((crcStep c x.toNat : Nat) : Int) := by
  unfold transeptref02_turn.f
  obtain ⟨n, rfl⟩ := Int.eq_ofNat_of_zero_le hx.1
  rw [Int.emod_eq_of_lt (by omega) (by omega), Int.toNat_natCast]
  obtain ⟨h1, h2⟩ := u32_xor c n hc (by omega)
  rw [h1, crcStep_bits]
  exact turn_loop (c ^^^ n) h2 8 k 0 (by omega) hk
theorem extend_loop (l : List Int) (hl : Octs l) (hn : l.length ≤ 140737488355328) (c : Nat) (hc : c < 4294967296) : ∀ (d k i : Nat), i + d = l.length → d + 9 < k →
    transeptref02_Extend.l0 k ((crcRun c (l.take i) : Nat) : Int) l (i : Int) = some ((4294967295 - crcRun c l : Nat) : Int) := by
  intro d
  induction d with
  | zero =>
    intro k i hi hk
    obtain ⟨k, rfl⟩ : ∃ m, k = m + 1 := ⟨k - 1, by omega⟩
    simp only [transeptref02_Extend.l0]
    rw [if_neg (by omega), List.take_of_length_le (by omega)]
    have := u32_not (crcRun c l) (crcRun_lt l c hc hl)
    rw [show IntKind.u32.max = 4294967295 from by decide] at this
    rw [this]
  | succ d ih =>
    intro k i hi hk
    obtain ⟨k, rfl⟩ : ∃ m, k = m + 1 := ⟨k - 1, by omega⟩
    have h1 : i < l.length := by omega
    simp only [transeptref02_Extend.l0]
    rw [if_pos (by omega), if_pos (by omega), rd_nat l i h1, turn_is _ (crcRun_lt _ c hc (hl.take i)) _ (hl _ (List.getElem_mem h1)) k (by omega), Option.bind_some, wrap64_id (by omega) (by omega)]
    have := ih k (i + 1) (by omega) (by omega)
    rw [List.take_succ_eq_append_getElem h1, crcRun_app] at this
    exact this
theorem refSum_is (l : List Int) (hl : Octs l) (hn : l.length ≤ 140737488355328) (k : Nat) (hk : l.length + 9 < k) : transeptref02_Sum.f k l = some ((crcSum l : Nat) : Int) := by
  unfold transeptref02_Sum.f transeptref02_Extend.f
  have hx := (u32_xor 4294967295 0 (by omega) (by omega)).1
  rw [show ((4294967295 : Nat) : Int) = 4294967295 from rfl, show ((0 : Nat) : Int) = 0 from rfl, Nat.xor_zero] at hx
  rw [hx]
  have := extend_loop l hl hn 4294967295 (by omega) l.length k 0 (by omega) hk
  rw [List.take_zero] at this
  rw [show ((4294967295 : Nat) : Int) = ((crcRun 4294967295 [] : Nat) : Int) from rfl, show (0 : Int) = ((0 : Nat) : Int) from rfl, this]
  rfl
theorem copied_is (l : List Int) (h : l.length < 140737488355328) : transeptref03_Copied.f l = some l := by
  unfold transeptref03_Copied.f
  rw [if_pos (by simpa using h), List.nil_append]
theorem or_2 (a b : Int) (ha : 0 ≤ a ∧ a < 256) (hb : 0 ≤ b ∧ b < 256) : Go.bits .or .i64 (wrap64 (wrap64 a * 256)) (wrap64 b) = a * 256 + b := by
  rw [wrap64_id (x := a) (by omega) (by omega), wrap64_id (x := b) (by omega) (by omega), wrap64_id (by omega) (by omega)]
  exact bits_join .i64 63 (by decide) (fun n h0 h1 => by unfold IntKind.wrap; simp [IntKind.bits, IntKind.signed]; omega) 8 (a * 256) b (by omega) (by simp) (by simp; omega) hb.1 (by simpa using hb.2) (by simp; omega)
theorem bv_two (x y : Int) : bv [x, y] = x * 256 + y := by simp [bv]
theorem refOpen_is (b : List Int) (hb : Octs b) (hn : b.length ≤ 140737488355328) (k : Nat) (hk : 4120 < k) : transeptref03_Open.f k b = some (openOf b) := by
  unfold transeptref03_Open.f openOf
  by_cases h8 : b.length < 8
  · rw [if_pos (by omega), if_pos h8]
  rw [if_neg (by omega), if_neg h8, if_pos (by omega), if_pos (by omega), if_pos (by omega)]
  obtain ⟨x0, x1, x2, x3, r, rfl⟩ : ∃ x0 x1 x2 x3 r, b = x0 :: x1 :: x2 :: x3 :: r := by
    match b, h8 with
    | x0 :: x1 :: x2 :: x3 :: r, _ => exact ⟨x0, x1, x2, x3, r, rfl⟩
    | [], h => exact absurd (by simp) h
    | [_], h => exact absurd (by simp) h
    | [_, _], h => exact absurd (by simp) h
    | [_, _, _], h => exact absurd (by simp) h
  have e0 : rd (x0 :: x1 :: x2 :: x3 :: r) 0 = x0 := rfl
  have e1 : rd (x0 :: x1 :: x2 :: x3 :: r) 1 = x1 := rfl
  have e2 : rd (x0 :: x1 :: x2 :: x3 :: r) 2 = x2 := rfl
  have e3 : rd (x0 :: x1 :: x2 :: x3 :: r) 3 = x3 := rfl
  have hx2 := hb x2 (by simp)
  have hx3 := hb x3 (by simp)
  rw [e0, e1, e2, e3, or_2 x2 x3 hx2 hx3]
  have g0 : (x0 :: x1 :: x2 :: x3 :: r).getD 0 0 = x0 := rfl
  have g1 : (x0 :: x1 :: x2 :: x3 :: r).getD 1 0 = x1 := rfl
  have t4 : bv (((x0 :: x1 :: x2 :: x3 :: r).take 4).drop 2) = x2 * 256 + x3 := bv_two x2 x3
  rw [g0, g1, t4]
  obtain ⟨n, hn2⟩ := Int.eq_ofNat_of_zero_le (show 0 ≤ x2 * 256 + x3 by omega)
  have hnb : n < 65536 := by omega
  rw [hn2]
  obtain ⟨b, hbb⟩ : ∃ b, b = x0 :: x1 :: x2 :: x3 :: r := ⟨_, rfl⟩
  rw [← hbb] at hb hn h8 ⊢
  clear e0 e1 e2 e3 g0 g1 t4 hx2 hx3 hn2 hbb
  by_cases hm : x0 = 167
  case neg => rw [if_neg hm, if_pos hm]
  rw [if_pos hm, if_neg (show ¬ (x0 ≠ 167) from fun h => h hm)]
  by_cases hl : (4096 : Int) < (n : Int)
  · rw [if_pos (by omega), if_pos hl]
  rw [if_neg (by omega), if_neg hl, Int.toNat_natCast]
  rw [wrap64_id (x := (n : Int) + 8) (by omega) (by omega), wrap64_id (x := (n : Int) + 4) (by omega) (by omega)]
  by_cases hs : b.length < n + 8
  · rw [if_pos (by omega), if_pos hs]
  rw [if_neg (by omega), if_neg hs, if_pos (by omega), if_pos (by omega), if_pos (by omega)]
  have t1 : ((n : Int) + 8).toNat = n + 8 := by omega
  have t2 : ((n : Int) + 4).toNat = n + 4 := by omega
  rw [t1, t2]
  have ho4 : Octs ((b.take (n + 8)).drop (n + 4)) := (hb.take _).drop _
  have hl4 : ((b.take (n + 8)).drop (n + 4)).length = 4 := by simp; omega
  rw [refNumber_is _ ho4 (by omega) k (by omega), Option.bind_some, if_pos (by omega), refSum_is _ (hb.take _) (by simp; omega) k (by simp; omega), Option.bind_some]
  have hc := crcSum_lt (b.take (n + 4))
  rw [u64_id _ (by omega) (by omega)]
  by_cases hc : bv ((b.take (n + 8)).drop (n + 4)) = ((crcSum (b.take (n + 4)) : Nat) : Int)
  case neg => rw [if_neg hc, if_pos hc]
  rw [if_pos hc, if_neg (show ¬ (bv ((b.take (n + 8)).drop (n + 4)) ≠ ((crcSum (b.take (n + 4)) : Nat) : Int)) from fun h => h hc), if_pos (by omega), if_pos (by omega), copied_is _ (by simp; omega), Option.bind_some]
  rfl
def frOf56 (x : Int × List Int) : S134 := ⟨x.1, x.2⟩
theorem refScan_loop (l : List Int) (hl : Octs l) (hn : l.length ≤ 4398046511103) : ∀ (d k p : Nat) (acc : List S134), l.length - p ≤ d → d + 4121 < k → p ≤ l.length → acc.length + (l.length - p) ≤ 4398046511103 →
    transeptref03_Scan.l0 k l acc (p : Int) = some (acc ++ (sc (l.drop p)).1.map frOf56, ((p + (sc (l.drop p)).2 : Nat) : Int)) := by
  intro d
  induction d with
  | zero =>
    intro k p acc h1 h2 h3 h4
    obtain ⟨k, rfl⟩ : ∃ m, k = m + 1 := ⟨k - 1, by omega⟩
    have hp : l.drop p = [] := List.drop_of_length_le (by omega)
    simp only [transeptref03_Scan.l0]
    rw [if_pos (by omega), if_pos (by omega), Int.toNat_natCast, hp, refOpen_is [] Octs.nil (by simp) k (by omega), Option.bind_some, sc_nil]
    rw [if_neg openOf_nil]
    simp
  | succ d ih =>
    intro k p acc h1 h2 h3 h4
    obtain ⟨k, rfl⟩ : ∃ m, k = m + 1 := ⟨k - 1, by omega⟩
    simp only [transeptref03_Scan.l0]
    rw [if_pos (by omega), if_pos (by omega), Int.toNat_natCast, refOpen_is (l.drop p) (hl.drop p) (by rw [List.length_drop]; omega) k (by omega), Option.bind_some]
    by_cases ho : (openOf (l.drop p)).2.2.2 = 0
    · have hs := openOf_size (l.drop p) ho
      rw [List.length_drop] at hs
      rw [if_pos ho, if_pos (by omega), sc_ok (l.drop p) ho]
      obtain ⟨q, hq⟩ : ∃ q, q = (openOf (l.drop p)).2.2.1.toNat := ⟨_, rfl⟩
      rw [← hq] at hs ⊢
      rw [hs.2.2, wrap64_id (by omega) (by omega), show (p : Int) + (q : Int) = ((p + q : Nat) : Int) by omega]
      rw [ih k (p + q) _ (by omega) (by omega) (by omega) (by rw [List.length_append]; simp; omega), List.drop_drop]
      rw [List.append_assoc, Nat.add_assoc]
      rfl
    · rw [if_neg ho, sc_bad _ ho]
      simp
theorem refScan_is (l : List Int) (hl : Octs l) (hn : l.length ≤ 4398046511103) (k : Nat) (hk : l.length + 4121 < k) : transeptref03_Scan.f k l = some ((sc l).1.map frOf56, ((sc l).2 : Int)) := by
  unfold transeptref03_Scan.f
  have := refScan_loop l hl hn l.length k 0 [] (by omega) hk (by omega) (by simpa using hn)
  rw [show ((0 : Nat) : Int) = 0 from rfl] at this
  rw [this]
  simp
end Go.Proofs.Ytooabchnbmnchaa.Q
