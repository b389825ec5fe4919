/- What is proved: the plain half of NodeEach: a node has as many octets as Size says; each of its keys is found in its place, and what lies between is not. Conditions: none beyond the kinds' bounds and what one argument can hold. -/
import Derived.Test.YtooabchnbmnchaaQ31
import Derived.Test.YtooabchnbmnchaaKit
import Derived.Test.YtooabchnbmnchaaPlNode
import Derived.Test.YtooabchnbmnchaaPlSame
import Derived.Test.YtooabchnbmnchaaPlNodeB
import Derived.Test.YtooabchnbmnchaaPlNodeE
import Derived.Lib.Strings
namespace Go.Proofs.Ytooabchnbmnchaa.Pure
open Go.RowKit Go.Proofs.Ytooabchnbmnchaa.Q Go.Proofs.YtooabchnbmnchaaW.PrintWords Go.Proofs.YtooabchnbmnchaaW.PrintLast
theorem toList_zero (s : ByteArray) : (s ++ (⟨#[0]⟩ : ByteArray)).toList = s.toList ++ [0] := by
  rw [ByteArray.toList_eq, ByteArray.toList_eq, ByteArray.data_append]; simp
theorem each_loop {leaf : Bool} {ks vs : List ByteArray} {ds : List Int} (h : NodeOk leaf ks vs ds) (h1 : ks.length < 8796093022208) (h2 : vs.length < 8796093022208) (h3 : ds.length < 17592186044416) :
    ∀ (d k i : Nat), i + d = ks.length → 3 * d + ks.length + 1 < k → transeptlaw09_NodeEach.l0 k (i : Int) leaf ks vs ds = some true := by
  intro d
  induction d with
  | zero =>
    intro k i hi hk
    obtain ⟨k, rfl⟩ : ∃ m, k = m + 1 := ⟨k - 1, by omega⟩
    simp only [transeptlaw09_NodeEach.l0]
    rw [if_neg (by omega)]
  | succ d ih =>
    intro k i hi hk
    obtain ⟨k, rfl⟩ : ∃ m, k = m + 3 := ⟨k - 3, by omega⟩
    have hl : i < ks.length := by omega
    have hs := (h.keys _ (List.getElem_mem hl)).2
    have f1 := find_is h (by omega) (k + 2) (by omega) ks[i] i (by omega) true (search_there ks h.up (by omega) i hl (k + 2) (by omega))
    obtain ⟨f, b1, b2⟩ := search_behind ks h.up (by omega) i hl (ks[i] ++ (⟨#[0]⟩ : ByteArray)) (toList_zero _) k (by omega)
    have f2 := find_is h (by omega) k (by omega) _ (i + 1) (by omega) f b1
    have hnext := ih k (i + 1) (by omega) (by omega)
    have hj2 : transeptlaw09_NodeEach.j2 (k + 1) (i : Int) false leaf ks vs ds = some true := by
      simp only [transeptlaw09_NodeEach.j2]
      rw [if_neg (by simp), of_is leaf ks vs ds h1 h2 h3, Option.bind_some, if_pos (by omega), if_pos (by omega), rdOf_nat ks i hl, if_pos (by omega), f2, Option.bind_some]
      unfold transeptlaw09_num.f
      simp only [Option.bind_some, if_true]
      rw [wrap64_id (x := (i : Int) + 1) (by omega) (by omega)]
      cases f with
      | false =>
        rw [if_neg (show ¬ (false = true) by simp), if_pos (by omega), if_neg (show ¬ (false = true) by simp)]
        exact hnext
      | true =>
        obtain ⟨hl2, he⟩ := b2.1 rfl
        have key : (if (i : Int) + 1 ≥ (ks.length : Int) then none else if 0 ≤ (i : Int) + 1 then if (i : Int) + 1 < (ks.length : Int) then if (rdOf ByteArray.empty ks ((i : Int) + 1)).toList = (ks[i] ++ (⟨#[0]⟩ : ByteArray)).toList then transeptlaw09_NodeEach.l0 k ((i : Int) + 1) leaf ks vs ds else none else none else none) = some true := by
          rw [if_neg (by omega), if_pos (by omega), if_pos (by omega), show (i : Int) + 1 = ((i + 1 : Nat) : Int) by omega, rdOf_nat ks (i + 1) hl2, if_pos he, hnext]
        cases leaf with
        | true =>
          simp only [if_true]
          rw [if_pos (by omega)]
          exact key
        | false =>
          simp only [if_true, Bool.false_eq_true, if_false]
          rw [if_neg (by omega)]
          exact key
    simp only [transeptlaw09_NodeEach.l0]
    rw [if_pos (by omega), of_is leaf ks vs ds h1 h2 h3, Option.bind_some, if_pos (by omega), rdOf_nat ks i hl, f1, Option.bind_some]
    simp only [transeptlaw09_NodeEach.j1]
    unfold transeptlaw09_num.f
    simp only [Option.bind_some, if_true]
    rw [wrap64_id (x := (i : Int) + 1) (by omega) (by omega)]
    cases leaf with
    | true => simpa using hj2
    | false => simpa using hj2
theorem NodeEach (a0_0 : Bool) (l0_1 l0_2 : List ByteArray) (l0_3 : List Int)
    (wf0 : True ∧ (l0_1.length ≤ maxLen ∧ ∀ x ∈ l0_1, x.size ≤ maxLen) ∧ (l0_2.length ≤ maxLen ∧ ∀ x ∈ l0_2, x.size ≤ maxLen) ∧ (l0_3.length ≤ maxLen ∧ ∀ x ∈ l0_3, (Lit.int .i64 x).wf = true))
    (z0 : True ∧ (l0_1.length * 16 ≤ 140737488351232 ∧ ∀ x ∈ l0_1, x.size ≤ 140737488351232) ∧ (l0_2.length * 16 ≤ 140737488351232 ∧ ∀ x ∈ l0_2, x.size ≤ 140737488351232) ∧ (l0_3.length * 8 ≤ 140737488351232 ∧ ∀ x ∈ l0_3, True)) :
    ∃ k, transeptlaw09_NodeEach.f k a0_0 l0_1 l0_2 l0_3 = some true := by
  have z2 := z0.2.1.1
  have z3 := z0.2.2.1.1
  have z4 := z0.2.2.2.1
  refine ⟨4 * l0_1.length + l0_2.length + l0_3.length + 1000, ?_⟩
  generalize hK : 4 * l0_1.length + l0_2.length + l0_3.length + 1000 = K
  have hof := of_is a0_0 l0_1 l0_2 l0_3 (by omega) (by omega) (by omega)
  unfold transeptlaw09_NodeEach.f
  rw [alive09 _ (by omega), Option.bind_some, if_pos rfl, hof, Option.bind_some]
  simp only
  obtain ⟨e, he, he2⟩ := check_is a0_0 l0_1 l0_2 l0_3 (by omega) K (by omega)
  unfold transeptlaw09_num.f
  by_cases hz : e = 0
  · have hok := he2.1 hz
    rw [encode_is hok (by omega) _ (by omega), Option.bind_some]
    simp only [Option.bind_some]
    rw [if_pos trivial]
    unfold node_Size.f
    rw [Option.bind_some, if_pos (encB_len hok (by omega)), show (0 : Int) = ((0 : Nat) : Int) from rfl]
    exact each_loop hok (by omega) (by omega) (by omega) l0_1.length K 0 (by omega) (by omega)
  · unfold node_Encode.f
    rw [he, Option.bind_some, if_neg hz, Option.bind_some]
    simp only [Option.bind_some]
    rw [if_neg hz]
    rfl
end Go.Proofs.Ytooabchnbmnchaa.Pure
