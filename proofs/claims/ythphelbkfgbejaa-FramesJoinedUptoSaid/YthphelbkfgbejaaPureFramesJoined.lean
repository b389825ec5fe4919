/- What is proved: the plain half of FramesJoined: what is scanned of two texts, one behind the other, begins with what is scanned of the first. Conditions: the arguments' measure is at most 1048576. -/
import Derived.Test.YthphelbkfgbejaaQ34
import Derived.Test.YthphelbkfgbejaaKit
import Derived.Test.YthphelbkfgbejaaPlNum
import Derived.Test.YthphelbkfgbejaaPlSame
import Derived.Test.YthphelbkfgbejaaPlCrc
import Derived.Test.YthphelbkfgbejaaPlScan
import Derived.Test.YthphelbkfgbejaaPlAlive3
namespace Go.Proofs.Ythphelbkfgbejaa.Pure
open Go.RowKit Go.Proofs.Ythphelbkfgbejaa.Q Go.Proofs.YthphelbkfgbejaaW.PrintWords Go.Proofs.YthphelbkfgbejaaW.PrintLast
theorem joined_loop (xs ys : List (Int × List Int)) (hx : ∀ f ∈ xs, f.2.length ≤ 4096) (hn : xs.length ≤ 4398046511103) : ∀ (d k i : Nat), i + d = xs.length → d + 4097 < k →
    transeptlaw03_FramesJoined.l0 k (xs.map frOf) ((xs ++ ys).map frOf) (i : Int) = some true := by
  intro d
  induction d with
  | zero =>
    intro k i hi hk
    obtain ⟨k, rfl⟩ : ∃ m, k = m + 1 := ⟨k - 1, by omega⟩
    simp only [transeptlaw03_FramesJoined.l0]
    rw [if_neg (by rw [List.length_map]; omega)]
  | succ d ih =>
    intro k i hi hk
    obtain ⟨k, rfl⟩ : ∃ m, k = m + 1 := ⟨k - 1, by omega⟩
    have h1 : i < xs.length := by omega
    have r1 : rd_T58 (xs.map frOf) (i : Int) = frOf xs[i] := by
      unfold rd_T58
      rw [Int.toNat_natCast, List.getD_eq_getElem?_getD, List.getElem?_map, List.getElem?_eq_getElem h1]; rfl
    have r2 : rd_T58 ((xs ++ ys).map frOf) (i : Int) = frOf xs[i] := by
      unfold rd_T58
      rw [Int.toNat_natCast, List.getD_eq_getElem?_getD, List.getElem?_map, List.getElem?_append_left h1, List.getElem?_eq_getElem h1]; rfl
    have hd := hx xs[i] (List.getElem_mem h1)
    simp only [transeptlaw03_FramesJoined.l0]
    rw [if_pos (by rw [List.length_map]; omega), if_pos (by omega), if_pos (by rw [List.length_map, List.length_append]; omega), r1, r2, if_pos rfl]
    rw [same_is (frOf xs[i]).f1 (frOf xs[i]).f1 (by show xs[i].2.length ≤ _; omega) k (by show xs[i].2.length < _; omega), Option.bind_some, decide_eq_true rfl, if_pos rfl, wrap64_id (by omega) (by omega)]
    exact ih k (i + 1) (by omega) (by omega)
theorem FramesJoined (l0 l1 : List Int) (wf0 : l0.length ≤ maxLen ∧ ∀ x ∈ l0, (Lit.int .u8 x).wf = true) (wf1 : l1.length ≤ maxLen ∧ ∀ x ∈ l1, (Lit.int .u8 x).wf = true)
    (hmu : (1 + (l0.map (fun x => 1)).sum) + (1 + (l1.map (fun x => 1)).sum) ≤ 1048576) : ∃ k, transeptlaw03_FramesJoined.f k l0 l1 = some true := by
  have h0 := octs_wf wf0.2
  have h1 := octs_wf wf1.2
  rw [sum_ones, sum_ones] at hmu
  refine ⟨10000000, ?_⟩
  unfold transeptlaw03_FramesJoined.f
  have hle := sc_le l0.length l0 (Nat.le_refl _)
  have hle1 := sc_le l1.length l1 (Nat.le_refl _)
  have hdat := sc_data l0.length l0 (Nat.le_refl _)
  rw [alive03, Option.bind_some, if_pos rfl, scan_is l0 h0 (by omega) _ (by omega), Option.bind_some, scan_is l1 h1 (by omega) _ (by omega), Option.bind_some, copyBytes_is l0 (by omega), Option.bind_some, if_pos (by omega),
    scan_is (l0 ++ l1) (h0.append h1) (by rw [List.length_append]; omega) _ (by rw [List.length_append]; omega), Option.bind_some]
  have happ := sc_append l0.length l0 l1 (Nat.le_refl _)
  have hloop := joined_loop (sc l0).1 (sc (l0.drop (sc l0).2 ++ l1)).1 hdat (by omega) (sc l0).1.length 9999999 0 (by omega) (by omega)
  simp only [happ, List.length_map, List.length_append]
  rw [if_neg (by omega), if_neg (by omega)]
  by_cases hw : (sc l0).2 = l0.length
  · have hnil : l0.drop (sc l0).2 = [] := List.drop_of_length_le (by omega)
    rw [hnil, List.nil_append] at hloop ⊢
    rw [if_pos (by omega), if_pos (by rw [wrap64_id (by omega) (by omega)]; omega)]
    simp only [transeptlaw03_FramesJoined.j0]
    rw [wrap64_id (by omega) (by omega), if_neg (by simp)]
    exact hloop
  · rw [if_neg (by omega)]
    simp only [transeptlaw03_FramesJoined.j0]
    rw [if_neg (by simp)]
    exact hloop
end Go.Proofs.Ythphelbkfgbejaa.Pure
