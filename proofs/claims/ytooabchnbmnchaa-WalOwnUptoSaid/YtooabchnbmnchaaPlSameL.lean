-- (thinned for this claim by wip/tools/shake.py: what the claim doesn't use is left out)
import Derived.Test.YtooabchnbmnchaaQ43
import Derived.Test.YtooabchnbmnchaaKit
import Derived.Test.YtooabchnbmnchaaPlSame
namespace Go.Proofs.Ytooabchnbmnchaa.Q
open Go.RowKit Go.Proofs.YtooabchnbmnchaaW.PrintWords Go.Proofs.YtooabchnbmnchaaW.PrintLast Go.Proofs.YtooabchnbmnchaaW.PrintMore
set_option linter.unusedVariables false
set_option linter.unusedSimpArgs false
theorem sameLists_loop (a : List (List Int)) (ha : ∀ x ∈ a, x.length ≤ 1048576) (hn : a.length ≤ 1048576) : ∀ (d k i : Nat), i + d = a.length → d + 1048578 < k →
    transeptplain_SameLists.l0 k a a (i : Int) = some true := by
  intro d
  induction d with
  | zero =>
    intro k i hi hk
    obtain ⟨k, rfl⟩ : ∃ m, k = m + 1 := ⟨k - 1, by omega⟩
    simp only [transeptplain_SameLists.l0]
    rw [if_neg (by omega)]
  | succ d ih =>
    intro k i hi hk
    obtain ⟨k, rfl⟩ : ∃ m, k = m + 1 := ⟨k - 1, by omega⟩
    have h1 : i < a.length := by omega
    simp only [transeptplain_SameLists.l0]
    have hx : (rd_L1 a (i : Int)).length ≤ 1048576 := by
      unfold rd_L1
      rw [Int.toNat_natCast, List.getD_eq_getElem?_getD, List.getElem?_eq_getElem h1]
      exact ha _ (List.getElem_mem h1)
    rw [if_pos (by omega), if_pos (by omega), if_pos (by omega), same_is _ _ (by omega) k (by omega)]
    simp only [Option.bind_some, decide_true, if_true]
    rw [wrap64_id (by omega) (by omega)]
    exact ih k (i + 1) (by omega) (by omega)
theorem sameLists_is (a : List (List Int)) (ha : ∀ x ∈ a, x.length ≤ 1048576) (hn : a.length ≤ 1048576) (k : Nat) (hk : a.length + 1048578 < k) : transeptplain_SameLists.f k a a = some true := by
  unfold transeptplain_SameLists.f
  rw [if_pos rfl]
  exact sameLists_loop a ha hn a.length k 0 (by omega) hk
end Go.Proofs.Ytooabchnbmnchaa.Q
