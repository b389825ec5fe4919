/- What is proved: the plain half of WalRecovers: of any segments, the log that is recovered, and its records, are the page's. Conditions: the arguments' measure is at most 1048576. -/
import Derived.Test.YtooabchnbmnchaaQ56
import Derived.Test.YtooabchnbmnchaaKit
import Derived.Test.YtooabchnbmnchaaPlNum
import Derived.Test.YtooabchnbmnchaaPlCrc
import Derived.Test.YtooabchnbmnchaaPlLin
import Derived.Test.YtooabchnbmnchaaPlScan
import Derived.Test.YtooabchnbmnchaaPlRefSc
import Derived.Test.YtooabchnbmnchaaPlSame
import Derived.Test.YtooabchnbmnchaaPlSameL
import Derived.Test.YtooabchnbmnchaaPlWal
import Derived.Test.YtooabchnbmnchaaPlWalF
import Derived.Test.YtooabchnbmnchaaPlWalV
import Derived.Test.YtooabchnbmnchaaPlWalW
import Derived.Test.YtooabchnbmnchaaPlWalX
import Derived.Test.YtooabchnbmnchaaPlAlive8
namespace Go.Proofs.Ytooabchnbmnchaa.Pure
open Go.RowKit Go.Proofs.Ytooabchnbmnchaa.Q Go.Proofs.YtooabchnbmnchaaW.PrintWords Go.Proofs.YtooabchnbmnchaaW.PrintLast
theorem recG_cnt : ∀ (r : List (Int × List Int)) (first : Bool) (z : Int) (S : List (Int × List Int)) (all : List (List Int)), (recG first z S all r).2.2.1.length ≤ all.length + (r.map fun x => x.2.length).sum := by
  intro r
  induction r with
  | nil => intro first z S all; simp [recG]
  | cons x r ih =>
    intro first z S all
    obtain ⟨f, b⟩ := x
    have hc := rcs_count b
    simp only [recG, List.map_cons, List.sum_cons]
    by_cases hfz : f = z
    case neg => rw [if_neg hfz]; dsimp only; omega
    rw [if_pos hfz]
    by_cases hov : z + ((rcs b).length : Int) > 1099511627776
    · rw [if_pos hov]; simp
    rw [if_neg hov]
    by_cases ht : lenR (rcs b) < b.length
    · rw [if_pos ht]
      dsimp only
      rw [List.length_append]; omega
    · rw [if_neg ht]
      refine Nat.le_trans (ih _ _ _ _) ?_
      rw [List.length_append]; omega
theorem recA_cnt (l : List (Int × List Int)) : (recA l).2.2.1.length ≤ (l.map fun x => x.2.length).sum := by
  cases l with
  | nil => simp [recA]
  | cons x r =>
    obtain ⟨f, b⟩ := x
    simp only [recA]
    split
    · simp
    · have := recG_cnt ((f, b) :: r) true f [] []
      simpa using this
theorem num_is (e : Int) (h : 0 ≤ e ∧ e ≤ 81) : transeptlaw08_num.f e = some e := by
  unfold transeptlaw08_num.f
  first | rfl | (rw [wrap64_id (by omega) (by omega)])
theorem recovers_loop (l : List (Int × List Int)) (hg : GoodS l) (S : List (Int × List Int)) (hS : ∀ x ∈ S, Octs x.2 ∧ x.2.length ≤ 1048576) (hl : S.length ≤ 4096) (z : Int) (hz : 0 ≤ z ∧ z ≤ 1099511627776) (a : Int) (hc : ChainOK a S z) (e : Int) : ∀ (d k i : Nat), i + d = l.length → d + 30000002 < k →
    transeptlaw08_WalRecovers.l0 k (l.map sgR) (l.map sgP) e (i : Int) (S.map sgP) z [] = some true := by
  have hm : (l.map sgP).length = l.length := List.length_map _
  have hm2 : (l.map sgR).length = l.length := List.length_map _
  have hgl := hg.len
  intro d
  induction d with
  | zero =>
    intro k i hi hk
    obtain ⟨k, rfl⟩ : ∃ m, k = m + 1 := ⟨k - 1, by omega⟩
    simp only [transeptlaw08_WalRecovers.l0]
    rw [if_neg (by omega)]
    by_cases h81 : e = 81
    · rw [if_pos h81, alive08_is k (by omega)]; rfl
    · rw [if_neg h81, check_any S hS hl z hz a hc k (by omega), Option.bind_some, num_is 0 (by omega), Option.bind_some, if_pos rfl, alive08_is k (by omega)]; rfl
  | succ d ih =>
    intro k i hi hk
    obtain ⟨k, rfl⟩ : ∃ m, k = m + 1 := ⟨k - 1, by omega⟩
    have h1 : i < l.length := by omega
    have hb := (hg.each _ (List.getElem_mem h1)).2
    simp only [transeptlaw08_WalRecovers.l0]
    rw [if_pos (by omega), if_pos (by omega), if_pos (by omega), rdPm l i h1, rdRm l i h1]
    dsimp only
    rw [if_pos rfl, same_is _ _ (by omega) k (by omega), Option.bind_some, decide_eq_true rfl, if_pos rfl, wrap64_id (by omega) (by omega)]
    exact ih k (i + 1) (by omega) (by omega)
theorem len_each : ∀ (l : List S87), 3 * l.length ≤ (l.map (fun x => (1 + (1 + (1 + (x.f1.map (fun x => 1)).sum))))).sum ∧ (l.map fun x => x.f1.length).sum ≤ (l.map (fun x => (1 + (1 + (1 + (x.f1.map (fun x => 1)).sum))))).sum ∧ ∀ x ∈ l, x.f1.length ≤ (l.map (fun x => (1 + (1 + (1 + (x.f1.map (fun x => 1)).sum))))).sum := by
  have hs : ∀ b : List Int, (b.map fun _ => 1).sum = b.length := by
    intro b; induction b with
    | nil => rfl
    | cons x b ih => simp [ih]; omega
  intro l
  induction l with
  | nil => exact ⟨by simp, by simp, fun x hx => by cases hx⟩
  | cons y l ih =>
    rw [List.map_cons, List.map_cons, List.sum_cons, List.sum_cons, List.length_cons, hs]
    refine ⟨by omega, by omega, fun x hx => ?_⟩
    rcases List.mem_cons.1 hx with rfl | hx
    · omega
    · have := ih.2.2 x hx; omega
theorem WalRecovers (l0 : List S87) (wf0 : l0.length ≤ maxLen ∧ ∀ x ∈ l0, (Lit.int .i64 x.f0).wf = true ∧ x.f1.length ≤ maxLen ∧ ∀ y ∈ x.f1, (Lit.int .u8 y).wf = true)
    (hmu : 1 + (l0.map (fun x => (1 + (1 + (1 + (x.f1.map (fun x => 1)).sum))))).sum ≤ 1048576) : ∃ k, transeptlaw08_WalRecovers.f k l0 = some true := by
  have hlen := len_each l0
  obtain ⟨l, rfl⟩ : ∃ l : List (Int × List Int), l0 = l.map sgR := ⟨l0.map fun x => (x.f0, x.f1), by rw [List.map_map]; exact (List.map_id' _).symm⟩
  have hg : GoodS l := by
    refine ⟨by have := hlen.1; rw [List.length_map] at this; omega, fun x hx => ?_⟩
    have h1 : sgR x ∈ l.map sgR := List.mem_map_of_mem hx
    have := hlen.2.2 _ h1
    exact ⟨octs_wf (wf0.2 _ h1).2.2, by have h2 : x.2.length ≤ _ := this; omega⟩
  refine ⟨40000001, ?_⟩
  generalize hK : 40000000 = K
  rw [show 40000001 = K + 1 by omega]
  obtain ⟨⟨a, hc⟩, hf, hz, hd, he, hS, hle⟩ := recA_fit l hg
  unfold transeptlaw08_WalRecovers.f
  rw [segs_any l hg (K + 1) (by omega), Option.bind_some, recover_any l hg (K + 1) (by omega), Option.bind_some]
  dsimp only
  rw [recoverR_any l hg (K + 1) (by omega), Option.bind_some]
  dsimp only
  rw [same08_any (recA l).1 (fun x hx => (hf.each x hx).2) (by omega) (recA l).2.1 (K + 1) (by omega), Option.bind_some, if_pos rfl]
  have hcnt : (recA l).2.2.1.length ≤ 1048576 := by
    have h1 := recA_cnt l
    have h2 := hlen.2.1
    rw [List.map_map] at h2
    have h3 : (l.map ((fun x => x.f1.length) ∘ sgR)).sum = (l.map fun x => x.2.length).sum := rfl
    omega
  rw [sameLists_is (recA l).2.2.1 (fun d hd' => by have := hd d hd'; omega) hcnt (K + 1) (by omega), Option.bind_some, if_pos rfl, num_is _ he, Option.bind_some]
  have hne : ((recA l).2.2.2 != (recA l).2.2.2) = false := by simp
  rw [hne]
  simp only [transeptlaw08_WalRecovers.j0]
  rw [if_neg (by simp)]
  exact recovers_loop l hg (recA l).1 hf.each hS (recA l).2.1 hz a hc _ l.length K 0 (by omega) (by have := hg.len; omega)
end Go.Proofs.Ytooabchnbmnchaa.Pure
