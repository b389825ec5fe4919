/- What is proved: the plain half of WalKeeps: a log of flushed batches whose elder segments went keeps every record from there on. Conditions: none beyond the kinds' bounds and what one argument's rows hold. -/
import Derived.Test.YtooabchnbmnchaaQ53
import Derived.Test.YtooabchnbmnchaaKit
import Derived.Test.YtooabchnbmnchaaPlNum
import Derived.Test.YtooabchnbmnchaaPlCrc
import Derived.Test.YtooabchnbmnchaaPlScan
import Derived.Test.YtooabchnbmnchaaPlSame
import Derived.Test.YtooabchnbmnchaaPlSameL
import Derived.Test.YtooabchnbmnchaaPlWal
import Derived.Test.YtooabchnbmnchaaPlWalF
import Derived.Test.YtooabchnbmnchaaPlWalL
import Derived.Test.YtooabchnbmnchaaPlWalT
import Derived.Test.YtooabchnbmnchaaPlAlive8
namespace Go.Proofs.Ytooabchnbmnchaa.Pure
open Go.RowKit Go.Proofs.Ytooabchnbmnchaa.Q Go.Proofs.YtooabchnbmnchaaW.PrintWords Go.Proofs.YtooabchnbmnchaaW.PrintLast
theorem WalKeeps (l0 : List (List (List Int))) (a1 a2 : Int) (wf0 : l0.length ≤ maxLen ∧ ∀ x ∈ l0, (x.length ≤ maxLen ∧ ∀ y ∈ x, (y.length ≤ maxLen ∧ ∀ z ∈ y, (Lit.int .u8 z).wf = true)))
    (wf1 : (Lit.int .i64 a1).wf = true) (wf2 : (Lit.int .i64 a2).wf = true)
    (z0 : l0.length * 24 ≤ 140737488351232 ∧ ∀ x ∈ l0, (x.length * 24 ≤ 140737488351232 ∧ ∀ y ∈ x, (y.length * 1 ≤ 140737488351232 ∧ ∀ z ∈ y, True))) :
    ∃ k, transeptlaw08_WalKeeps.f k l0 a1 a2 = some true := by
  have hB : ∀ b ∈ l0, b.length ≤ 1000000000000000 ∧ ∀ d ∈ b, Octs d := by
    intro b hb
    have := (z0.2 b hb).1
    exact ⟨by omega, fun d hd => octs_wf ((wf0.2 b hb).2 d hd).2⟩
  refine ⟨40000000, ?_⟩
  generalize hK : 40000000 = K
  have hlim := lim_ok a1
  obtain ⟨gs, e1, hg, hn, ht⟩ := laid_is l0 hB _ hlim.1 (by omega) K (by omega)
  obtain ⟨i, hi, hor, e2⟩ := truncate_is a2 gs hg hn (by omega) K (by omega)
  have hlen := NE_len gs hn
  have hfl : gs.flatten = (gs.take i).flatten ++ (gs.drop i).flatten := by rw [← List.flatten_append, List.take_append_drop]
  have hsum : (0 + (gs.take i).flatten.length) + (gs.drop i).flatten.length = 0 + gs.flatten.length := by
    rw [hfl, List.length_append]; omega
  have hgd : GoodG (gs.drop i) := fun g hg' => hg g (List.mem_of_mem_drop hg')
  have e3 := Records_is (0 + (gs.take i).flatten.length) (gs.drop i) hgd (by omega) (by omega) (by rw [List.length_drop]; omega) K (by omega)
  rw [hsum] at e3
  have hdrop : gs.flatten.drop (0 + (gs.take i).flatten.length) = (gs.drop i).flatten := by
    rw [hfl, Nat.zero_add, List.drop_left]
  have hsame := sameLists_is (gs.drop i).flatten (fun x hx => by
    obtain ⟨g, hg1, hg2⟩ := List.mem_flatten.1 hx
    have := (hgd g hg1 x hg2).1
    omega) (by omega) K (by omega)
  have hmx : a2 ≤ mx a2 0 ∧ 0 ≤ mx a2 0 := by
    unfold mx
    split <;> omega
  have hfirst : ¬ (((0 + (gs.take i).flatten.length : Nat) : Int) > mx a2 0) := by
    rcases hor with rfl | h
    · simp only [List.take_zero, List.flatten_nil, List.length_nil]; omega
    · omega
  have h0 : transeptlaw08_num.f 0 = some 0 := rfl
  have hw : wrap64 ((0 : Int) + 0) = 0 := by decide +kernel
  unfold transeptlaw08_WalKeeps.f
  rw [alive08_is K (by omega), Option.bind_some, if_pos rfl, e1, Option.bind_some]
  dsimp only
  rw [if_pos rfl, e2, Option.bind_some]
  dsimp only
  rw [e3, Option.bind_some]
  dsimp only
  rw [h0, Option.bind_some, Option.bind_some, if_pos hw, if_neg (by omega), if_neg (by omega), if_neg hfirst, if_pos (by omega), if_pos (by omega), Int.toNat_natCast, hdrop, hsame, Option.bind_some, if_pos rfl]
  simp
end Go.Proofs.Ytooabchnbmnchaa.Pure
