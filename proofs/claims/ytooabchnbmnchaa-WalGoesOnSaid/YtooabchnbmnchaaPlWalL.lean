-- (thinned for this claim by wip/tools/shake.py: what the claim doesn't use is left out)
import Derived.Test.YtooabchnbmnchaaQ49
import Derived.Test.YtooabchnbmnchaaQ17
import Derived.Test.YtooabchnbmnchaaQ26
import Derived.Test.YtooabchnbmnchaaKit
import Derived.Test.YtooabchnbmnchaaPlNum
import Derived.Test.YtooabchnbmnchaaPlCrc
import Derived.Test.YtooabchnbmnchaaPlScan
import Derived.Test.YtooabchnbmnchaaPlWal
import Derived.Test.YtooabchnbmnchaaPlWalF
namespace Go.Proofs.Ytooabchnbmnchaa.Q
open Go.RowKit Go.Proofs.YtooabchnbmnchaaW.PrintWords Go.Proofs.YtooabchnbmnchaaW.PrintLast Go.Proofs.YtooabchnbmnchaaW.PrintMore
set_option linter.unusedVariables false
set_option linter.unusedSimpArgs false
theorem laid_loop (bt : List (List (List Int))) (hB : ∀ b ∈ bt, b.length ≤ 1000000000000000 ∧ ∀ d ∈ b, Octs d) (lim : Int) (h1 : 1 ≤ lim) (h2 : lim ≤ 1048576) : ∀ (d k i : Nat) (gs : List (List (List Int))), i + d = 30 → 2 * d + 30000002 < k → GoodG gs → NE gs → gs.flatten.length ≤ 4000 →
    ∃ gs', transeptlaw08_laid.l0 k bt lim gs.flatten (i : Int) (segsOf 0 gs) ((0 + gs.flatten.length : Nat) : Int) [] = some (segsOf 0 gs', ((0 + gs'.flatten.length : Nat) : Int), [], gs'.flatten, true) ∧ GoodG gs' ∧ NE gs' ∧ gs'.flatten.length ≤ 4000 := by
  intro d
  induction d with
  | zero =>
    intro k i gs hi hk hg hn ht
    obtain ⟨k, rfl⟩ : ∃ m, k = m + 2 := ⟨k - 2, by omega⟩
    refine ⟨gs, ?_, hg, hn, ht⟩
    simp only [transeptlaw08_laid.l0]
    by_cases hc : (i : Int) < (bt.length : Int)
    · rw [if_pos hc, decide_eq_false (by omega)]
      simp only [transeptlaw08_laid.j1]
      rfl
    · rw [if_neg hc]
      simp only [transeptlaw08_laid.j1]
      rfl
  | succ d ih =>
    intro k i gs hi hk hg hn ht
    obtain ⟨k, rfl⟩ : ∃ m, k = m + 2 := ⟨k - 2, by omega⟩
    simp only [transeptlaw08_laid.l0]
    by_cases hc : (i : Int) < (bt.length : Int)
    · rw [if_pos hc, decide_eq_true (by omega)]
      simp only [transeptlaw08_laid.j1]
      have hi2 : i < bt.length := by omega
      have hrd : rd_L3 bt (i : Int) = bt[i] := by
        unfold rd_L3
        rw [Int.toNat_natCast, List.getD_eq_getElem?_getD, List.getElem?_eq_getElem hi2]; rfl
      obtain ⟨hbl, hbo⟩ := hB _ (List.getElem_mem hi2)
      have hw : wrap64 ((gs.flatten.length : Int) + ((bt[i]).length : Int)) = (gs.flatten.length : Int) + ((bt[i]).length : Int) := wrap64_id (by omega) (by omega)
      have hw2 : wrap64 ((i : Int) + 1) = ((i + 1 : Nat) : Int) := wrap64_id (by omega) (by omega)
      rw [if_pos trivial, if_pos (by omega), if_pos hc, hrd, hw, hw2]
      clear hw hw2
      by_cases h4 : (gs.flatten.length : Int) + ((bt[i]).length : Int) > 4000
      · rw [if_pos h4]; exact ⟨gs, rfl, hg, hn, ht⟩
      · rw [if_neg h4]
        by_cases hlong : ((bt[i]).any fun v => decide (4096 < v.length)) = true
        · rw [append_long 0 (by omega) _ gs hlong hg hn (by omega) k (by omega), Option.bind_some]
          have h5 : transeptlaw08_num.f 5 = some 5 := rfl
          simp only
          rw [h5, Option.bind_some, if_neg (by omega)]
          exact ih k (i + 1) gs (by omega) (by omega) hg hn ht
        · have hrec : ∀ d ∈ bt[i], Rec d := by
            intro d hd
            refine ⟨?_, hbo d hd⟩
            by_cases hl : d.length ≤ 4096
            · exact hl
            · exact absurd (List.any_eq_true.2 ⟨d, hd, decide_eq_true (by omega)⟩) hlong
          obtain ⟨gs', e1, e2, e3, e4⟩ := flush_is lim h1 h2 0 (by omega) (bt[i]) gs hrec hg hn (by omega) k (by omega)
          have h0 : transeptlaw08_num.f 0 = some 0 := rfl
          rw [append_is 0 (by omega) _ gs hrec hg hn (by omega) k (by omega), Option.bind_some]
          simp only
          rw [h0, Option.bind_some, if_pos rfl, e1, Option.bind_some]
          simp only
          rw [h0, Option.bind_some, if_pos rfl, if_pos (by omega), ← e2]
          have hlen : gs'.flatten.length = gs.flatten.length + (bt[i]).length := by rw [e2, List.length_append]
          exact ih k (i + 1) gs' (by omega) (by omega) e3 e4 (by omega)
    · refine ⟨gs, ?_, hg, hn, ht⟩
      rw [if_neg hc]
      simp only [transeptlaw08_laid.j1]
      rfl
theorem laid_is (bt : List (List (List Int))) (hB : ∀ b ∈ bt, b.length ≤ 1000000000000000 ∧ ∀ d ∈ b, Octs d) (lim : Int) (h1 : 1 ≤ lim) (h2 : lim ≤ 1048576) (k : Nat) (hk : 30000100 < k) :
    ∃ gs, transeptlaw08_laid.f k bt lim = some (segsOf 0 gs, ((0 + gs.flatten.length : Nat) : Int), [], gs.flatten, true) ∧ GoodG gs ∧ NE gs ∧ gs.flatten.length ≤ 4000 := by
  unfold transeptlaw08_laid.f
  exact laid_loop bt hB lim h1 h2 30 k 0 [] (by omega) (by omega) (fun g hg => by cases hg) (fun g hg => by cases hg) (by simp)
theorem lim_ok (a : Int) : 1 ≤ wrap64 (1 + Int.tmod (wrap64 (Int.tmod a 300 + 300)) 300) ∧ wrap64 (1 + Int.tmod (wrap64 (Int.tmod a 300 + 300)) 300) ≤ 300 := by
  have h1 := Int.tmod_lt_of_pos a (show (0 : Int) < 300 by omega)
  have h2 : -300 < Int.tmod a 300 := by
    rcases Int.le_total 0 a with h0 | h0
    · have := Int.tmod_nonneg (300 : Int) h0; omega
    · have h3 := Int.tmod_lt_of_pos (-a) (show (0 : Int) < 300 by omega)
      rw [Int.neg_tmod] at h3
      omega
  rw [wrap64_id (x := Int.tmod a 300 + 300) (by omega) (by omega)]
  have h3 := Int.tmod_lt_of_pos (Int.tmod a 300 + 300) (show (0 : Int) < 300 by omega)
  have h4 := Int.tmod_nonneg (300 : Int) (show 0 ≤ Int.tmod a 300 + 300 by omega)
  rw [wrap64_id (by omega) (by omega)]
  omega
end Go.Proofs.Ytooabchnbmnchaa.Q
