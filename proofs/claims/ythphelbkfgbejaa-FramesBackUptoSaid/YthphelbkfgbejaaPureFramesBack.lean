/- What is proved: the plain half of FramesBack: frames laid one behind the other are scanned back, all of them. Conditions: the arguments' measure is at most 1048576. -/
import Derived.Test.YthphelbkfgbejaaQ32
import Derived.Test.YthphelbkfgbejaaKit
import Derived.Test.YthphelbkfgbejaaPlNum
import Derived.Test.YthphelbkfgbejaaPlSame
import Derived.Test.YthphelbkfgbejaaPlCrc
import Derived.Test.YthphelbkfgbejaaPlScan
import Derived.Test.YthphelbkfgbejaaPlAlive3
import Derived.Test.YthphelbkfgbejaaPlLaid
namespace Go.Proofs.Ythphelbkfgbejaa.Pure
open Go.RowKit Go.Proofs.Ythphelbkfgbejaa.Q Go.Proofs.YthphelbkfgbejaaW.PrintWords Go.Proofs.YthphelbkfgbejaaW.PrintLast
theorem back_loop (l : List S56) (p : List S58) (hn : l.length ≤ 1048576) (hp : p.length ≤ 1048576) : ∀ (d k i j : Nat), i + d = l.length → d + 4097 < k → j ≤ p.length →
    p.drop j = (okFr (l.drop i)).map frOf → transeptlaw03_FramesBack.l0 k l p (j : Int) (i : Int) = some true := by
  intro d
  induction d with
  | zero =>
    intro k i j hi hk hj h
    obtain ⟨k, rfl⟩ : ∃ m, k = m + 1 := ⟨k - 1, by omega⟩
    simp only [transeptlaw03_FramesBack.l0]
    rw [List.drop_of_length_le (l := l) (by omega)] at h
    have := congrArg List.length h
    rw [List.length_drop, List.length_map, okFr_nil] at this
    rw [if_neg (by omega)]
    have hjp : j = p.length := by simp at this; omega
    rw [hjp]
    simp
  | succ d ih =>
    intro k i j hi hk hj h
    obtain ⟨k, rfl⟩ : ∃ m, k = m + 1 := ⟨k - 1, by omega⟩
    have h1 : i < l.length := by omega
    have hd : l.drop i = l[i] :: l.drop (i + 1) := List.drop_eq_getElem_cons h1
    simp only [transeptlaw03_FramesBack.l0]
    rw [if_pos (by omega), if_pos (by omega), rd56 l i h1]
    rw [hd] at h
    generalize l[i] = x at h ⊢
    by_cases hl : x.f1.length ≤ 4096
    · rw [okFr_cons_ok x _ hl, List.map_cons] at h
      have hjl : j < p.length := by
        have := congrArg List.length h
        rw [List.length_drop, List.length_cons] at this
        omega
      rw [List.drop_eq_getElem_cons hjl] at h
      injection h with h2 h3
      have r1 : rd_T58 p (j : Int) = frOf (x.f0, x.f1) := by
        unfold rd_T58
        rw [Int.toNat_natCast, List.getD_eq_getElem?_getD, List.getElem?_eq_getElem hjl]; exact h2
      rw [if_neg (by omega), if_neg (by omega), if_pos (by omega), if_pos (by omega), r1]
      have hs := same03_is x.f0 x.f1 hl k (by omega)
      rw [show (frOf (x.f0, x.f1)).f0 = x.f0 from rfl, show (frOf (x.f0, x.f1)).f1 = x.f1 from rfl, hs, Option.bind_some, if_pos rfl, wrap64_id (by omega) (by omega), wrap64_id (by omega) (by omega)]
      exact ih k (i + 1) (j + 1) (by omega) (by omega) (by omega) h3
    · rw [okFr_cons_no x _ hl] at h
      rw [if_pos (by omega), wrap64_id (x := (i : Int) + 1) (by omega) (by omega)]
      exact ih k (i + 1) j (by omega) (by omega) hj h
theorem FramesBack (l0 : List S56) (wf0 : l0.length ≤ maxLen ∧ ∀ x ∈ l0, (Lit.int .u8 x.f0).wf = true ∧ x.f1.length ≤ maxLen ∧ ∀ y ∈ x.f1, (Lit.int .u8 y).wf = true)
    (hmu : (1 + (l0.map (fun x => (1 + (1 + (1 + (x.f1.map (fun x => 1)).sum))))).sum) ≤ 1048576) : ∃ k, transeptlaw03_FramesBack.f k l0 = some true := by
  have hw := wf_frames l0 wf0.2
  have hlen := len_le l0
  refine ⟨10000000, ?_⟩
  obtain ⟨h1, h2⟩ := laid_is l0 hw (by omega) 10000000 (by omega)
  have ho := catOf_octs _ (okFr_octs l0 hw)
  have hok := okFr_length l0
  unfold transeptlaw03_FramesBack.f
  rw [alive03, Option.bind_some, if_pos rfl, h1, Option.bind_some]
  simp only
  rw [scan_is (catOf (okFr l0)) ho (by omega) _ (by omega), Option.bind_some, sc_cat _ (okFr_le l0)]
  simp only
  rw [if_pos (by trivial), List.length_map, endsOf_length]
  simp only [transeptlaw03_FramesBack.j0]
  rw [if_neg (by simp)]
  exact back_loop l0 ((okFr l0).map frOf) (by omega) (by rw [List.length_map]; omega) l0.length 9999999 0 0 (by omega) (by omega) (by omega) (by simp)
end Go.Proofs.Ythphelbkfgbejaa.Pure
