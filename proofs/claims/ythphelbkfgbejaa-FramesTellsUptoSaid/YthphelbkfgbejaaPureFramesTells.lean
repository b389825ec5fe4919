/- What is proved: the plain half of FramesTells: any frame as octets, any octets read as one, and as far as they are frames, are as the page says. Conditions: the arguments' measure is at most 1048576. -/
import Derived.Test.YthphelbkfgbejaaQ30
import Derived.Test.YthphelbkfgbejaaKit
import Derived.Test.YthphelbkfgbejaaPlNum
import Derived.Test.YthphelbkfgbejaaPlSame
import Derived.Test.YthphelbkfgbejaaPlCrc
import Derived.Test.YthphelbkfgbejaaPlFrTells
namespace Go.Proofs.Ythphelbkfgbejaa.Pure
open Go.RowKit Go.Proofs.Ythphelbkfgbejaa.Q Go.Proofs.YthphelbkfgbejaaW.PrintWords Go.Proofs.YthphelbkfgbejaaW.PrintLast
theorem tells_loop (b d : List Int) (a : Int) (hb : b.length ≤ 1048576) (hd : d.length ≤ 1048576) (xs : List (Int × List Int)) (hx : ∀ f ∈ xs, f.2.length ≤ 4096) (hn : xs.length ≤ 1048576) : ∀ (n k i : Nat), i + n = xs.length → n + 1048577 < k →
    transeptlaw03_FramesTells.l0 k b d b (xs.map frOf) (xs.map frOf56) (i : Int) a d = some true := by
  intro n
  induction n with
  | zero =>
    intro k i hi hk
    obtain ⟨k, rfl⟩ : ∃ m, k = m + 1 := ⟨k - 1, by omega⟩
    simp only [transeptlaw03_FramesTells.l0]
    rw [if_neg (by rw [List.length_map]; omega), same_is b b (by omega) k (by omega), Option.bind_some, decide_eq_true rfl, if_pos rfl, same_is d d (by omega) k (by omega), Option.bind_some, decide_eq_true rfl, if_pos rfl, alive03]
    rfl
  | succ n ih =>
    intro k i hi hk
    obtain ⟨k, rfl⟩ : ∃ m, k = m + 1 := ⟨k - 1, by omega⟩
    have h1 : i < xs.length := by omega
    have r1 : rd_T58 (xs.map frOf) (i : Int) = frOf xs[i] := by
      unfold rd_T58
      rw [Int.toNat_natCast, List.getD_eq_getElem?_getD, List.getElem?_map, List.getElem?_eq_getElem h1]; rfl
    have r2 : rd_T56 (xs.map frOf56) (i : Int) = frOf56 xs[i] := by
      unfold rd_T56
      rw [Int.toNat_natCast, List.getD_eq_getElem?_getD, List.getElem?_map, List.getElem?_eq_getElem h1]; rfl
    have hd := hx xs[i] (List.getElem_mem h1)
    simp only [transeptlaw03_FramesTells.l0]
    rw [if_pos (by rw [List.length_map]; omega), if_pos (by omega), if_pos (by rw [List.length_map]; omega), r1, r2]
    have hs := same03_is xs[i].1 xs[i].2 hd k (by omega)
    rw [show (frOf xs[i]).f0 = xs[i].1 from rfl, show (frOf xs[i]).f1 = xs[i].2 from rfl, show (frOf56 xs[i]).f0 = xs[i].1 from rfl, show (frOf56 xs[i]).f1 = xs[i].2 from rfl, hs, Option.bind_some, if_pos rfl, wrap64_id (by omega) (by omega)]
    exact ih k (i + 1) (by omega) (by omega)
theorem seal_both (kind : Int) (hk : 0 ≤ kind ∧ kind < 256) (l : List Int) (hl : Octs l) (k : Nat) (hk2 : 5000 < k) : ∃ (r : List Int) (e : Int), frames_Seal.f kind l = some (r, e) ∧ transeptref03_Seal.f k kind l = some (r, e) ∧ r.length ≤ 4104 := by
  by_cases h : l.length ≤ 4096
  · exact ⟨_, _, seal_is kind hk l hl h, refSeal_is kind hk l hl h k (by omega), by rw [sealOf_length]; omega⟩
  · exact ⟨_, _, seal_long kind l (by omega), refSeal_long kind l (by omega) k, by simp⟩
theorem openOf_data (b : List Int) : (openOf b).2.1.length ≤ 4096 := by
  by_cases h : (openOf b).2.2.2 = 0
  · obtain ⟨n, h1, h2, h3, _⟩ := openOf_ok b h
    rw [h3]
    show ((b.take (n + 4)).drop 4).length ≤ 4096
    rw [List.length_drop, List.length_take]; omega
  · obtain ⟨e, _, h3⟩ := openOf_bad b h
    rw [h3]; simp
theorem FramesTells (a0_0 : Int) (l0_1 l1 : List Int) (wf0 : (Lit.int .u8 a0_0).wf = true ∧ l0_1.length ≤ maxLen ∧ ∀ x ∈ l0_1, (Lit.int .u8 x).wf = true) (wf1 : l1.length ≤ maxLen ∧ ∀ x ∈ l1, (Lit.int .u8 x).wf = true)
    (hmu : (1 + (1 + (1 + (l0_1.map (fun x => 1)).sum))) + (1 + (l1.map (fun x => 1)).sum) ≤ 1048576) : ∃ k, transeptlaw03_FramesTells.f k a0_0 l0_1 l1 = some true := by
  have hk := wf_u8 wf0.1
  have hd := octs_wf wf0.2.2
  have hb := octs_wf wf1.2
  rw [sum_ones, sum_ones] at hmu
  refine ⟨10000000, ?_⟩
  have hle := sc_le l1.length l1 (Nat.le_refl _)
  have hdat := sc_data l1.length l1 (Nat.le_refl _)
  have hod := openOf_data l1
  obtain ⟨r, e, s1, s2, s3⟩ := seal_both a0_0 hk l0_1 hd 10000000 (by omega)
  have hloop := tells_loop l1 l0_1 a0_0 (by omega) (by omega) (sc l1).1 hdat (by omega) (sc l1).1.length 9999999 0 (by omega) (by omega)
  unfold transeptlaw03_FramesTells.f
  rw [copyBytes_is l0_1 (by omega), Option.bind_some, copyBytes_is l1 (by omega), Option.bind_some, s1, Option.bind_some, s2, Option.bind_some, open_is l1 hb (by omega) _ (by omega), Option.bind_some, refOpen_is l1 hb (by omega) _ (by omega), Option.bind_some,
    scan_is l1 hb (by omega) _ (by omega), Option.bind_some, refScan_is l1 hb (by omega) _ (by omega), Option.bind_some]
  unfold transeptlaw03_num.f
  rw [same_is r r (by omega) _ (by omega), Option.bind_some, decide_eq_true rfl, if_pos rfl, Option.bind_some, if_pos rfl, same03_is _ _ hod _ (by omega), Option.bind_some, if_pos rfl, if_pos rfl, Option.bind_some, if_pos rfl, if_pos rfl]
  simp only [transeptlaw03_FramesTells.j0, List.length_map]
  rw [if_neg (by simp)]
  exact hloop
end Go.Proofs.Ythphelbkfgbejaa.Pure
