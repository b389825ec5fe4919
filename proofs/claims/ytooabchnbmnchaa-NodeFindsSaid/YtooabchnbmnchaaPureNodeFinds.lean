/- What is proved: the plain half of NodeFinds: where a key is in a node, or would be, and a node split in two, are as the page says. Conditions: none beyond the kinds' bounds and what one argument can hold. -/
import Derived.Test.YtooabchnbmnchaaQ43
import Derived.Test.YtooabchnbmnchaaQ28
import Derived.Test.YtooabchnbmnchaaKit
import Derived.Test.YtooabchnbmnchaaPlNode
import Derived.Test.YtooabchnbmnchaaPlNodeS
import Derived.Test.YtooabchnbmnchaaPlAlive9
import Derived.Test.YtooabchnbmnchaaPlSum
import Derived.Test.YtooabchnbmnchaaPlNodeX
import Derived.Test.YtooabchnbmnchaaPlFindX
namespace Go.Proofs.Ytooabchnbmnchaa.Pure
open Go.RowKit Go.Proofs.Ytooabchnbmnchaa.Q Go.Proofs.YtooabchnbmnchaaW.PrintWords Go.Proofs.YtooabchnbmnchaaW.PrintLast
theorem sameN (leaf : Bool) (ks vs : List ByteArray) (ds : List Int) (h1 : ks.length ≤ 8796093022208) (h2 : vs.length ≤ 8796093022208) (h3 : ds.length ≤ 17592186044416) (k : Nat) (hk : ks.length + vs.length + ds.length < k) : transeptlaw09_same.f k leaf ks vs ds leaf ks vs ds = some true := by
  unfold transeptlaw09_same.f
  rw [if_pos (by simp), sameStr_is ks (by omega) k (by omega), Option.bind_some, if_pos rfl, sameStr_is vs (by omega) k (by omega), Option.bind_some, if_pos rfl, sameInt_is ds (by omega) k (by omega), Option.bind_some]
theorem NodeFinds (a0_0 : Bool) (l0_1 l0_2 : List ByteArray) (l0_3 : List Int) (a1 : ByteArray)
    (wf0 : True ∧ (l0_1.length ≤ maxLen ∧ ∀ x ∈ l0_1, x.size ≤ maxLen) ∧ (l0_2.length ≤ maxLen ∧ ∀ x ∈ l0_2, x.size ≤ maxLen) ∧ (l0_3.length ≤ maxLen ∧ ∀ x ∈ l0_3, (Lit.int .i64 x).wf = true)) (wf1 : a1.size ≤ maxLen)
    (z0 : True ∧ (l0_1.length * 16 ≤ 140737488351232 ∧ ∀ x ∈ l0_1, x.size ≤ 140737488351232) ∧ (l0_2.length * 16 ≤ 140737488351232 ∧ ∀ x ∈ l0_2, x.size ≤ 140737488351232) ∧ (l0_3.length * 8 ≤ 140737488351232 ∧ ∀ x ∈ l0_3, True)) (z1 : a1.size ≤ 140737488351232) :
    ∃ k, transeptlaw09_NodeFinds.f k a0_0 l0_1 l0_2 l0_3 a1 = some true := by
  have z2 := z0.2.1.1
  have z3 := z0.2.2.1.1
  have z4 := z0.2.2.2.1
  refine ⟨2 * l0_1.length + 2 * l0_2.length + 2 * l0_3.length + 1000, ?_⟩
  generalize hK : 2 * l0_1.length + 2 * l0_2.length + 2 * l0_3.length + 1000 = K
  unfold transeptlaw09_NodeFinds.f
  obtain ⟨r, hr1, hr2⟩ := find_both a0_0 l0_1 l0_2 l0_3 a1 (by omega) (by omega) (by omega) K (by omega)
  rw [of_is a0_0 l0_1 l0_2 l0_3 (by omega) (by omega) (by omega), Option.bind_some]
  simp only
  rw [hr1, Option.bind_some, hr2, Option.bind_some, psplit_is a0_0 l0_1 l0_2 l0_3 (by omega) (by omega) (by omega) K (by omega), Option.bind_some, rsplit_is a0_0 l0_1 l0_2 l0_3 (by omega) (by omega) (by omega) K (by omega), Option.bind_some]
  have hs : ∀ q, spl a0_0 l0_1 l0_2 l0_3 = q → transeptlaw09_same.f K q.1 q.2.1 q.2.2.1 q.2.2.2.1 q.1 q.2.1 q.2.2.1 q.2.2.2.1 = some true ∧ transeptlaw09_same.f K q.2.2.2.2.2.1 q.2.2.2.2.2.2.1 q.2.2.2.2.2.2.2.1 q.2.2.2.2.2.2.2.2.1 q.2.2.2.2.2.1 q.2.2.2.2.2.2.1 q.2.2.2.2.2.2.2.1 q.2.2.2.2.2.2.2.2.1 = some true := by
    intro q hq
    have hno : ∀ e, transeptlaw09_same.f K (noSplit e).1 (noSplit e).2.1 (noSplit e).2.2.1 (noSplit e).2.2.2.1 (noSplit e).1 (noSplit e).2.1 (noSplit e).2.2.1 (noSplit e).2.2.2.1 = some true := fun e => sameN false [] [] [] (by simp) (by simp) (by simp) K (by simp; omega)
    unfold spl at hq
    by_cases c0 : chk a0_0 l0_1 l0_2 l0_3 = 0
    · rw [if_pos c0] at hq
      by_cases c1 : l0_1.length < (if a0_0 = true then 2 else 3)
      · rw [if_pos c1] at hq; subst hq; exact ⟨hno 3, hno 3⟩
      · rw [if_neg c1] at hq
        unfold splitOf at hq
        by_cases c2 : a0_0 = true
        · rw [if_pos c2] at hq
          subst hq
          exact ⟨sameN _ _ _ _ (by rw [List.length_take]; omega) (by rw [List.length_take]; omega) (by simp) K (by rw [List.length_take, List.length_take, List.length_nil]; omega), sameN _ _ _ _ (by rw [List.length_drop]; omega) (by rw [List.length_drop]; omega) (by simp) K (by rw [List.length_drop, List.length_drop, List.length_nil]; omega)⟩
        · rw [if_neg c2] at hq
          subst hq
          exact ⟨sameN _ _ _ _ (by rw [List.length_take]; omega) (by simp) (by rw [List.length_take]; omega) K (by rw [List.length_take, List.length_take, List.length_nil]; omega), sameN _ _ _ _ (by rw [List.length_drop]; omega) (by simp) (by rw [List.length_drop]; omega) K (by rw [List.length_drop, List.length_drop, List.length_nil]; omega)⟩
    · rw [if_neg c0] at hq; subst hq; exact ⟨hno (chk a0_0 l0_1 l0_2 l0_3), hno (chk a0_0 l0_1 l0_2 l0_3)⟩
  obtain ⟨s1, s2⟩ := hs _ rfl
  unfold transeptlaw09_num.f
  simp only [Option.bind_some, if_true, beq_self_eq_true]
  rw [s1, Option.bind_some, if_pos rfl, s2, Option.bind_some, if_pos rfl, sameN a0_0 l0_1 l0_2 l0_3 (by omega) (by omega) (by omega) K (by omega), Option.bind_some, if_pos rfl, alive09 K (by omega), Option.bind_some]
end Go.Proofs.Ytooabchnbmnchaa.Pure
