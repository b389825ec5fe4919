/- What is proved: the plain half of NodeBack: nodes are read back from their octets; what is read is built again of what was read. Conditions: none beyond the kinds' bounds and what one argument can hold. -/
import Derived.Test.YtooabchnbmnchaaQ29
import Derived.Test.YtooabchnbmnchaaKit
import Derived.Test.YtooabchnbmnchaaPlNode
import Derived.Test.YtooabchnbmnchaaPlSame
import Derived.Test.YtooabchnbmnchaaPlNodeB
namespace Go.Proofs.Ytooabchnbmnchaa.Pure
open Go.RowKit Go.Proofs.Ytooabchnbmnchaa.Q Go.Proofs.YtooabchnbmnchaaW.PrintWords Go.Proofs.YtooabchnbmnchaaW.PrintLast
theorem back_octs (k : Nat) (hk : 600 < k) (l : List Int) (hl : Octs l) (hn : l.length ≤ 140737488351232) (hk2 : l.length < k) : transeptlaw09_NodeBack.j0 (k + 1) l = some true := by
  simp only [transeptlaw09_NodeBack.j0]
  obtain ⟨leaf, ks, vs, ds, e, hd, hc⟩ := decode_total k hk l hl
  rw [hd, Option.bind_some]
  unfold transeptlaw09_num.f
  simp only [Option.bind_some]
  rcases hc with ⟨rfl, hok, hlen, he⟩ | ⟨hne, rfl⟩
  · rw [if_pos rfl, encode_is hok (by omega) k (by omega), Option.bind_some]
    simp only [Option.bind_some]
    rw [if_pos trivial, he, same_is l l (by omega) k hk2, Option.bind_some]
    simp
  · rw [if_neg hne]
    rfl
theorem NodeBack (a0_0 : Bool) (l0_1 l0_2 : List ByteArray) (l0_3 : List Int) (l1 : List Int)
    (wf0 : True ∧ (l0_1.length ≤ maxLen ∧ ∀ x ∈ l0_1, x.size ≤ maxLen) ∧ (l0_2.length ≤ maxLen ∧ ∀ x ∈ l0_2, x.size ≤ maxLen) ∧ (l0_3.length ≤ maxLen ∧ ∀ x ∈ l0_3, (Lit.int .i64 x).wf = true))
    (wf1 : l1.length ≤ maxLen ∧ ∀ x ∈ l1, (Lit.int .u8 x).wf = true)
    (z0 : True ∧ (l0_1.length * 16 ≤ 140737488351232 ∧ ∀ x ∈ l0_1, x.size ≤ 140737488351232) ∧ (l0_2.length * 16 ≤ 140737488351232 ∧ ∀ x ∈ l0_2, x.size ≤ 140737488351232) ∧ (l0_3.length * 8 ≤ 140737488351232 ∧ ∀ x ∈ l0_3, True))
    (z1 : l1.length * 1 ≤ 140737488351232 ∧ ∀ x ∈ l1, True) :
    ∃ k, transeptlaw09_NodeBack.f k a0_0 l0_1 l0_2 l0_3 l1 = some true := by
  have z2 := z0.2.1.1
  have z3 := z0.2.2.1.1
  have z4 := z0.2.2.2.1
  have z5 := z1.1
  have hl := octs_wf wf1.2
  refine ⟨l0_1.length + l0_2.length + l0_3.length + l1.length + 1000 + 1, ?_⟩
  have hj := back_octs (l0_1.length + l0_2.length + l0_3.length + l1.length + 1000) (by omega) l1 hl (by omega) (by omega)
  generalize hK : l0_1.length + l0_2.length + l0_3.length + l1.length + 1000 = K at hj ⊢
  unfold transeptlaw09_NodeBack.f
  rw [alive09 _ (by omega), Option.bind_some, if_pos rfl, of_is a0_0 l0_1 l0_2 l0_3 (by omega) (by omega) (by omega), Option.bind_some]
  simp only
  obtain ⟨e, he, he2⟩ := check_is a0_0 l0_1 l0_2 l0_3 (by omega) (K + 1) (by omega)
  unfold transeptlaw09_num.f
  by_cases hz : e = 0
  · have hok := he2.1 hz
    rw [encode_is hok (by omega) _ (by omega), Option.bind_some]
    simp only [Option.bind_some]
    rw [if_pos trivial, decode_enc hok (by omega) _ (by omega), Option.bind_some]
    simp only [Option.bind_some]
    rw [if_pos trivial]
    unfold transeptlaw09_same.f
    rw [if_pos (by simp), sameStr_is l0_1 (by omega) _ (by omega), Option.bind_some, if_pos rfl, sameStr_is l0_2 (by omega) _ (by omega), Option.bind_some, if_pos rfl, sameInt_is l0_3 (by omega) _ (by omega)]
    simp only [Option.bind_some]
    rw [if_pos trivial]
    exact hj
  · unfold node_Encode.f
    rw [he, Option.bind_some, if_neg hz, Option.bind_some]
    simp only [Option.bind_some]
    rw [if_neg hz]
    exact hj
end Go.Proofs.Ytooabchnbmnchaa.Pure
