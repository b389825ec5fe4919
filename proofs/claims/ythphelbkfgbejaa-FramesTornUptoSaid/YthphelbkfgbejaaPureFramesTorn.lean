/- What is proved: the plain half of FramesTorn: wherever octets are cut off, the frames ahead of the cut are scanned, and none else. Conditions: the arguments' measure is at most 1048576. -/
import Derived.Test.YthphelbkfgbejaaQ33
import Derived.Test.YthphelbkfgbejaaKit
import Derived.Test.YthphelbkfgbejaaPlNum
import Derived.Test.YthphelbkfgbejaaPlSame
import Derived.Test.YthphelbkfgbejaaPlCrc
import Derived.Test.YthphelbkfgbejaaPlScan
import Derived.Test.YthphelbkfgbejaaPlAlive3
import Derived.Test.YthphelbkfgbejaaPlLaid
namespace Go.Proofs.Ythphelbkfgbejaa.Pure
open Go.RowKit Go.Proofs.Ythphelbkfgbejaa.Q Go.Proofs.YthphelbkfgbejaaW.PrintWords Go.Proofs.YthphelbkfgbejaaW.PrintLast
theorem torn_loop (c : Nat) (es : List Int) (p : List S58) (g : Nat) (hes : es.length ≤ 1048576) : ∀ (gs : List (Int × List Int)) (k i a : Nat), i + gs.length = es.length → gs.length < k → a ≤ c → es.drop i = endsOf a gs →
    p.length = i + (tornOf (c - a) gs).1 → g = a + (tornOf (c - a) gs).2 → transeptlaw03_FramesTorn.l0 k (c : Int) es p (g : Int) (i : Int) (a : Int) (i : Int) = some true := by
  intro gs
  induction gs with
  | nil =>
    intro k i a hi hk ha he hp hg
    obtain ⟨k, rfl⟩ : ∃ m, k = m + 1 := ⟨k - 1, by omega⟩
    simp only [transeptlaw03_FramesTorn.l0]
    simp only [tornOf, List.length_nil] at hp hg hi
    rw [if_neg (by omega), if_pos (by omega)]
    have : g = a := by omega
    subst this
    simp
  | cons f gs ih =>
    intro k i a hi hk ha he hp hg
    obtain ⟨k, rfl⟩ : ∃ m, k = m + 1 := ⟨k - 1, by omega⟩
    rw [List.length_cons] at hi hk
    have h1 : i < es.length := by omega
    rw [List.drop_eq_getElem_cons h1] at he
    simp only [endsOf] at he
    injection he with h2 h3
    simp only [transeptlaw03_FramesTorn.l0]
    rw [if_pos (by omega), if_pos (by omega), rd_nat es i h1, h2]
    simp only [tornOf] at hp hg
    by_cases hc : f.2.length + 8 ≤ c - a
    · rw [if_pos hc] at hp hg
      rw [if_pos (by omega), wrap64_id (by omega) (by omega)]
      have hsub : c - (a + (f.2.length + 8)) = c - a - (f.2.length + 8) := by omega
      exact ih k (i + 1) (a + (f.2.length + 8)) (by omega) (by omega) (by omega) h3 (by rw [hsub]; omega) (by rw [hsub]; omega)
    · rw [if_neg hc] at hp hg
      simp only at hp hg
      rw [if_neg (by omega), if_pos (by omega)]
      have : g = a := by omega
      subst this
      simp
theorem cut_in (a n : Int) (h0 : 0 ≤ n) (h1 : n ≤ 100000000) (ha : -9223372036854775808 ≤ a) (hb : a ≤ 9223372036854775807) :
    ∃ c : Nat, Int.tmod (wrap64 (wrap64 (Int.tmod a (wrap64 (n + 1)) + n) + 1)) (wrap64 (n + 1)) = (c : Int) ∧ (c : Int) ≤ n := by
  rw [wrap64_id (x := n + 1) (by omega) (by omega)]
  have hlt : Int.tmod a (n + 1) < n + 1 := Int.tmod_lt_of_pos a (by omega)
  have hgt : -(n + 1) < Int.tmod a (n + 1) := by
    have := Int.lt_tmod_of_pos a (show 0 < n + 1 by omega)
    omega
  rw [wrap64_id (x := Int.tmod a (n + 1) + n) (by omega) (by omega), wrap64_id (by omega) (by omega)]
  have hnn : 0 ≤ Int.tmod a (n + 1) + n + 1 := by omega
  have h2 : Int.tmod (Int.tmod a (n + 1) + n + 1) (n + 1) < n + 1 := Int.tmod_lt_of_pos _ (by omega)
  have h3 : 0 ≤ Int.tmod (Int.tmod a (n + 1) + n + 1) (n + 1) := Int.tmod_nonneg _ hnn
  exact ⟨(Int.tmod (Int.tmod a (n + 1) + n + 1) (n + 1)).toNat, by omega, by omega⟩
theorem FramesTorn (l0 : List S56) (a1 : Int) (wf0 : l0.length ≤ maxLen ∧ ∀ x ∈ l0, (Lit.int .u8 x.f0).wf = true ∧ x.f1.length ≤ maxLen ∧ ∀ y ∈ x.f1, (Lit.int .u8 y).wf = true) (w1 : (Lit.int .i64 a1).wf = true)
    (hmu : (1 + (l0.map (fun x => (1 + (1 + (1 + (x.f1.map (fun x => 1)).sum))))).sum) + 1 ≤ 1048576) : ∃ k, transeptlaw03_FramesTorn.f k l0 a1 = some true := by
  have hw := wf_frames l0 wf0.2
  have hlen := len_le l0
  have ha := wf_i64 w1
  refine ⟨10000000, ?_⟩
  obtain ⟨h1, h2⟩ := laid_is l0 hw (by omega) 10000000 (by omega)
  have ho := catOf_octs _ (okFr_octs l0 hw)
  have hok := okFr_length l0
  unfold transeptlaw03_FramesTorn.f
  rw [alive03, Option.bind_some, if_pos rfl, h1, Option.bind_some]
  simp only
  obtain ⟨c, hc, hcn⟩ := cut_in a1 ((catOf (okFr l0)).length : Int) (by omega) (by omega) ha.1 ha.2
  rw [if_neg (by rw [wrap64_id (by omega) (by omega)]; omega), hc, if_pos (by omega), if_pos hcn, Int.toNat_natCast]
  rw [scan_is _ (ho.take c) (by rw [List.length_take]; omega) _ (by rw [List.length_take]; omega), Option.bind_some]
  simp only
  obtain ⟨t1, t2⟩ := sc_torn (okFr l0) c (okFr_le l0)
  have hel := endsOf_length (okFr l0) 0
  exact torn_loop c (endsOf 0 (okFr l0)) _ _ (by omega) (okFr l0) 10000000 0 0 (by omega) (by omega) (by omega) (by simp) (by rw [List.length_map, t1]; simp) (by rw [t2]; simp)
end Go.Proofs.Ythphelbkfgbejaa.Pure
