-- (thinned for this claim by wip/tools/shake.py: what the claim doesn't use is left out)
import Derived.Test.YtooabchnbmnchaaQ1
import Derived.Test.YtooabchnbmnchaaQ16
import Derived.Test.YtooabchnbmnchaaKit
import Derived.Test.YtooabchnbmnchaaPlNum
namespace Go.Proofs.Ytooabchnbmnchaa.Q
open Go.RowKit Go.Proofs.YtooabchnbmnchaaW.PrintWords Go.Proofs.YtooabchnbmnchaaW.PrintLast Go.Proofs.YtooabchnbmnchaaW.PrintMore
set_option linter.unusedVariables false
set_option linter.unusedSimpArgs false
def headOf (kind : Int) (l : List Int) : List Int := [167, kind] ++ beOf (l.length : Int) (shiftsOf 2) ++ l
def sealOf (kind : Int) (l : List Int) : List Int := headOf kind l ++ beOf ((crcSum (headOf kind l) : Nat) : Int) (shiftsOf 4)
theorem beOf_len (n : Int) (k : Nat) : (beOf n (shiftsOf k)).length = k := by rw [beOf_length, shiftsOf_length]
theorem headOf_length (kind : Int) (l : List Int) : (headOf kind l).length = l.length + 4 := by
  simp only [headOf, List.length_append, beOf_len]; simp; omega
theorem sealOf_length (kind : Int) (l : List Int) : (sealOf kind l).length = l.length + 8 := by
  simp only [sealOf, List.length_append, headOf_length, beOf_len]
theorem headOf_octs (kind : Int) (hk : 0 ≤ kind ∧ kind < 256) (l : List Int) (hl : Octs l) : Octs (headOf kind l) := by
  intro x hx
  simp only [headOf, List.mem_append] at hx
  rcases hx with (hx | hx) | hx
  · simp at hx; rcases hx with rfl | rfl
    · omega
    · exact hk
  · exact be_octs _ _ x hx
  · exact hl x hx
theorem sealOf_octs (kind : Int) (hk : 0 ≤ kind ∧ kind < 256) (l : List Int) (hl : Octs l) : Octs (sealOf kind l) := by
  intro x hx
  simp only [sealOf, List.mem_append] at hx
  rcases hx with hx | hx
  · exact headOf_octs kind hk l hl x hx
  · exact be_octs _ _ x hx
theorem crcSum_lt (l : List Int) : crcSum l < 4294967296 := by unfold crcSum; omega
theorem crcf_is (l : List Int) (hl : Octs l) (hn : l.length ≤ 140737488355328) : crc_Sum.f l = some ((crcSum l : Nat) : Int) := by
  unfold crc_Sum.f; rw [if_pos ⟨hl, hn⟩]
theorem pow28 : (2 : Int) ^ (8 * 2) = 65536 := by decide
theorem pow48 : (2 : Int) ^ (8 * 4) = 4294967296 := by decide +kernel
def openOf (b : List Int) : Int × List Int × Int × Int :=
  if b.length < 8 then (0, [], 0, 8) else
  if b.getD 0 0 ≠ 167 then (0, [], 0, 22) else
  if 4096 < bv ((b.take 4).drop 2) then (0, [], 0, 5) else
  if b.length < (bv ((b.take 4).drop 2)).toNat + 8 then (0, [], 0, 8) else
  if bv ((b.take ((bv ((b.take 4).drop 2)).toNat + 8)).drop ((bv ((b.take 4).drop 2)).toNat + 4)) ≠ ((crcSum (b.take ((bv ((b.take 4).drop 2)).toNat + 4)) : Nat) : Int) then (0, [], 0, 21)
  else (b.getD 1 0, (b.take ((bv ((b.take 4).drop 2)).toNat + 4)).drop 4, (((bv ((b.take 4).drop 2)).toNat + 8 : Nat) : Int), 0)
theorem rd_getD (l : List Int) (i : Nat) : rd l (i : Int) = l.getD i 0 := by unfold rd; rw [Int.toNat_natCast]
theorem open_is (b : List Int) (hb : Octs b) (hn : b.length ≤ 140737488355328) (k : Nat) (hk : 6 < k) : frames_Open.f k b = some (openOf b) := by
  unfold frames_Open.f openOf
  by_cases h8 : b.length < 8
  · rw [if_pos (by omega), if_pos h8]
  rw [if_neg (by omega), if_neg h8, if_pos (by omega), if_pos (by omega)]
  have ho2 : Octs ((b.take 4).drop 2) := (hb.take 4).drop 2
  have hl2 : ((b.take 4).drop 2).length = 2 := by simp; omega
  rw [get_is _ ho2 (by omega) (by omega) k (by omega)]
  simp only [Option.bind_some]
  have hbd := bv_bound _ ho2
  rw [hl2] at hbd
  obtain ⟨n, hn2⟩ := Int.eq_ofNat_of_zero_le hbd.1
  have hnb : n < 65536 := by have := hbd.2; rw [hn2, show (256 : Int) ^ 2 = 65536 from by decide] at this; omega
  rw [hn2, if_pos (by omega)]
  have e0 : rd b 0 = b.getD 0 0 := rd_getD b 0
  have e1 : rd b 1 = b.getD 1 0 := rd_getD b 1
  rw [e0, e1]
  by_cases hm : b.getD 0 0 = 167
  case neg => rw [if_neg hm, if_pos hm]
  rw [if_pos hm, if_neg (show ¬ (b.getD 0 0 ≠ 167) from fun h => h hm)]
  by_cases hl : (4096 : Int) < (n : Int)
  · rw [if_pos hl, if_pos hl]
  rw [if_neg hl, if_neg hl]
  rw [wrap64_id (x := (n : Int)) (by omega) (by omega), wrap64_id (x := 4 + (n : Int)) (by omega) (by omega), wrap64_id (x := 4 + (n : Int) + 4) (by omega) (by omega)]
  rw [Int.toNat_natCast]
  by_cases hs : b.length < n + 8
  · rw [if_pos (by omega), if_pos hs]
  rw [if_neg (by omega), if_neg hs, if_pos (by omega), if_pos (by omega), if_pos (by omega)]
  have t1 : ((4 + (n : Int) + 4)).toNat = n + 8 := by omega
  have t2 : ((4 + (n : Int))).toNat = n + 4 := by omega
  rw [t1, t2]
  have ho4 : Octs ((b.take (n + 8)).drop (n + 4)) := (hb.take _).drop _
  have hl4 : ((b.take (n + 8)).drop (n + 4)).length = 4 := by simp; omega
  rw [get_is _ ho4 (by omega) (by omega) k (by omega)]
  simp only [Option.bind_some]
  have hb4 := bv_bound _ ho4
  rw [hl4] at hb4
  rw [if_pos (by omega), crcf_is _ (hb.take _) (by simp; omega)]
  simp only [Option.bind_some]
  rw [Int.emod_eq_of_lt hb4.1 (by have := hb4.2; rw [show (256 : Int) ^ 4 = 4294967296 from by decide] at this; omega)]
  by_cases hc : bv ((b.take (n + 8)).drop (n + 4)) = ((crcSum (b.take (n + 4)) : Nat) : Int)
  case neg => rw [if_neg hc, if_pos hc]
  rw [if_pos hc, if_neg (show ¬ (bv ((b.take (n + 8)).drop (n + 4)) ≠ ((crcSum (b.take (n + 4)) : Nat) : Int)) from fun h => h hc), if_pos (by omega), if_pos (by omega)]
  unfold bytes_Clone.f
  rw [if_pos (by simp; omega)]
  simp only [Option.bind_some]
  rw [show (4 + (n : Int) + 4) = ((n + 8 : Nat) : Int) by omega]
theorem bv_be2 (n : Nat) (h : n < 65536) : bv (beOf (n : Int) (shiftsOf 2)) = (n : Int) := back_put (n : Int) (by omega) 2 (by omega) (by rw [pow28]; omega)
theorem bv_be4 (n : Nat) (h : n < 4294967296) : bv (beOf (n : Int) (shiftsOf 4)) = (n : Int) := back_put (n : Int) (by omega) 4 (by omega) (by rw [pow48]; omega)
theorem openOf_seal (kind : Int) (l r : List Int) (hn : l.length ≤ 4096) : openOf (sealOf kind l ++ r) = (kind, l, ((l.length + 8 : Nat) : Int), 0) := by
  have hlen := sealOf_length kind l
  have hh := headOf_length kind l
  have hb2 := beOf_len (l.length : Int) 2
  obtain ⟨B2, hB2⟩ : ∃ B2, B2 = beOf (l.length : Int) (shiftsOf 2) := ⟨_, rfl⟩
  obtain ⟨B4, hB4⟩ : ∃ B4, B4 = beOf ((crcSum (headOf kind l) : Nat) : Int) (shiftsOf 4) := ⟨_, rfl⟩
  have hb4 : B4.length = 4 := by rw [hB4]; exact beOf_len _ 4
  rw [← hB2] at hb2
  have hhead : headOf kind l = [167, kind] ++ B2 ++ l := by rw [hB2]; rfl
  have hseal : sealOf kind l = headOf kind l ++ B4 := by rw [hB4]; rfl
  obtain ⟨x, y, rfl⟩ : ∃ x y, B2 = [x, y] := by
    match B2, hb2 with
    | [x, y], _ => exact ⟨x, y, rfl⟩
  have hbv : bv [x, y] = (l.length : Int) := by rw [hB2]; exact bv_be2 _ (by omega)
  have hform : sealOf kind l ++ r = 167 :: kind :: x :: y :: (l ++ (B4 ++ r)) := by rw [hseal, hhead]; simp
  have t4 : ((sealOf kind l ++ r).take 4).drop 2 = [x, y] := by rw [hform]; rfl
  have th : (sealOf kind l ++ r).take (l.length + 4) = headOf kind l := by rw [hseal, List.append_assoc, List.take_append_of_le_length (by omega), List.take_of_length_le (by omega)]
  have ts : ((sealOf kind l ++ r).take (l.length + 8)).drop (l.length + 4) = B4 := by
    rw [List.take_append_of_le_length (by omega), List.take_of_length_le (by omega), hseal, List.drop_append_of_le_length (by omega), List.drop_of_length_le (by omega), List.nil_append]
  unfold openOf
  rw [t4, hbv, Int.toNat_natCast, th, ts]
  rw [if_neg (by rw [List.length_append]; omega), if_neg (by rw [hform]; simp), if_neg (by omega), if_neg (by rw [List.length_append]; omega)]
  have hc : bv B4 = ((crcSum (headOf kind l) : Nat) : Int) := by rw [hB4]; exact bv_be4 _ (crcSum_lt _)
  rw [if_neg (by rw [hc]; simp)]
  have e1 : (sealOf kind l ++ r).getD 1 0 = kind := by rw [hform]; rfl
  have e2 : (headOf kind l).drop 4 = l := by rw [hhead]; rfl
  rw [e1, e2]
end Go.Proofs.Ytooabchnbmnchaa.Q
