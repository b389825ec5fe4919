/- What is proved: the plain half of NodeOwn: what is answered is its holder's. Conditions: none beyond the kinds' bounds and what one argument can hold. -/
import Derived.Test.YtooabchnbmnchaaQ34
import Derived.Test.YtooabchnbmnchaaKit
import Derived.Test.YtooabchnbmnchaaPlNode
import Derived.Test.YtooabchnbmnchaaPlAlive9
import Derived.Test.YtooabchnbmnchaaPlSplit
namespace Go.Proofs.Ytooabchnbmnchaa.Pure
open Go.RowKit Go.Proofs.Ytooabchnbmnchaa.Q Go.Proofs.YtooabchnbmnchaaW.PrintWords Go.Proofs.YtooabchnbmnchaaW.PrintLast
theorem own_loop (x8 x9 : List ByteArray) (h8 : x8.length ≤ 9000000000000) (h9 : x9.length ≤ 9000000000000) (b1 b2 b3 : Bool) (v1 v2 v3 : List ByteArray) (d1 d2 d3 : List Int) (n M : Nat) (hn : n ≤ 9000000000000) (hM : x8.length < M ∧ x9.length < M) : ∀ (d k i : Nat) (cur : List ByteArray), cur.length = n → i + d = n → d + M < k →
    transeptlaw09_NodeOwn.l0 k x8 x9 (i : Int) b1 cur v1 d1 b2 x8 v2 d2 b3 x9 v3 d3 = some true := by
  intro d
  induction d with
  | zero =>
    intro k i cur hc hi hk
    obtain ⟨k, rfl⟩ : ∃ m, k = m + 1 := ⟨k - 1, by omega⟩
    simp only [transeptlaw09_NodeOwn.l0]
    rw [if_neg (by omega), sameStr_is x8 h8 k (by omega), Option.bind_some, if_pos rfl, sameStr_is x9 h9 k (by omega)]
    rfl
  | succ d ih =>
    intro k i cur hc hi hk
    obtain ⟨k, rfl⟩ : ∃ m, k = m + 1 := ⟨k - 1, by omega⟩
    simp only [transeptlaw09_NodeOwn.l0]
    rw [if_pos (by omega), if_pos (by omega), wrap64_id (by omega) (by omega)]
    exact ih k (i + 1) _ (by simp [hc]) (by omega) (by omega)
theorem NodeOwn (a0_0 : Bool) (l0_1 l0_2 : List ByteArray) (l0_3 : List Int)
    (wf0 : True ∧ (l0_1.length ≤ maxLen ∧ ∀ x ∈ l0_1, x.size ≤ maxLen) ∧ (l0_2.length ≤ maxLen ∧ ∀ x ∈ l0_2, x.size ≤ maxLen) ∧ (l0_3.length ≤ maxLen ∧ ∀ x ∈ l0_3, (Lit.int .i64 x).wf = true))
    (z0 : True ∧ (l0_1.length * 16 ≤ 140737488351232 ∧ ∀ x ∈ l0_1, x.size ≤ 140737488351232) ∧ (l0_2.length * 16 ≤ 140737488351232 ∧ ∀ x ∈ l0_2, x.size ≤ 140737488351232) ∧ (l0_3.length * 8 ≤ 140737488351232 ∧ ∀ x ∈ l0_3, True)) :
    ∃ k, transeptlaw09_NodeOwn.f k a0_0 l0_1 l0_2 l0_3 = some true := by
  have z1 := z0.2.1.1
  have z2 := z0.2.2.1.1
  have z3 := z0.2.2.2.1
  refine ⟨2 * l0_1.length + 100, ?_⟩
  unfold transeptlaw09_NodeOwn.f
  rw [alive09 _ (by omega), Option.bind_some, if_pos rfl, of_is a0_0 l0_1 l0_2 l0_3 (by omega) (by omega) (by omega), Option.bind_some]
  simp only
  unfold transeptlaw09_num.f
  rcases split_is a0_0 l0_1 l0_2 l0_3 (by omega) (by omega) (by omega) (2 * l0_1.length + 100) (by omega) with ⟨e, he, hs⟩ | ⟨hok, h2, hs⟩
  · rw [hs]
    simp only [Option.bind_some, noSplit]
    rw [if_neg he]
    rfl
  · rw [hs]
    unfold splitOf
    by_cases hl : a0_0 = true
    · rw [if_pos hl]
      simp only [Option.bind_some]
      rw [if_pos trivial, copyStr_is _ (by rw [List.length_take]; omega), Option.bind_some, copyStr_is _ (by rw [List.length_drop]; omega), Option.bind_some]
      exact own_loop _ _ (by rw [List.length_take]; omega) (by rw [List.length_drop]; omega) _ _ _ _ _ _ _ _ _ l0_1.length (l0_1.length + 1) (by omega) ⟨by rw [List.length_take]; omega, by rw [List.length_drop]; omega⟩ l0_1.length _ 0 l0_1 rfl (by omega) (by omega)
    · rw [if_neg hl]
      simp only [Option.bind_some]
      rw [if_pos trivial, copyStr_is _ (by rw [List.length_take]; omega), Option.bind_some, copyStr_is _ (by rw [List.length_drop]; omega), Option.bind_some]
      exact own_loop _ _ (by rw [List.length_take]; omega) (by rw [List.length_drop]; omega) _ _ _ _ _ _ _ _ _ l0_1.length (l0_1.length + 1) (by omega) ⟨by rw [List.length_take]; omega, by rw [List.length_drop]; omega⟩ l0_1.length _ 0 l0_1 rfl (by omega) (by omega)
end Go.Proofs.Ytooabchnbmnchaa.Pure
