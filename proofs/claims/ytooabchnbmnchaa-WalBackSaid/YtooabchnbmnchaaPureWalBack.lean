/- What is proved: the plain half of WalBack: what was flushed is recovered, all of it, in order. Conditions: none beyond the kinds' bounds and what one argument's rows hold. -/
import Derived.Test.YtooabchnbmnchaaQ57
import Derived.Test.YtooabchnbmnchaaKit
import Derived.Test.YtooabchnbmnchaaPlNum
import Derived.Test.YtooabchnbmnchaaPlCrc
import Derived.Test.YtooabchnbmnchaaPlScan
import Derived.Test.YtooabchnbmnchaaPlSame
import Derived.Test.YtooabchnbmnchaaPlSameL
import Derived.Test.YtooabchnbmnchaaPlWal
import Derived.Test.YtooabchnbmnchaaPlWalF
import Derived.Test.YtooabchnbmnchaaPlWalL
import Derived.Test.YtooabchnbmnchaaPlWalR
import Derived.Test.YtooabchnbmnchaaPlAlive8
namespace Go.Proofs.Ytooabchnbmnchaa.Pure
open Go.RowKit Go.Proofs.Ytooabchnbmnchaa.Q Go.Proofs.YtooabchnbmnchaaW.PrintWords Go.Proofs.YtooabchnbmnchaaW.PrintLast
theorem WalBack (l0 : List (List (List Int))) (a1 : Int) (wf0 : l0.length ≤ maxLen ∧ ∀ x ∈ l0, (x.length ≤ maxLen ∧ ∀ y ∈ x, (y.length ≤ maxLen ∧ ∀ z ∈ y, (Lit.int .u8 z).wf = true)))
    (wf1 : (Lit.int .i64 a1).wf = true)
    (z0 : l0.length * 24 ≤ 140737488351232 ∧ ∀ x ∈ l0, (x.length * 24 ≤ 140737488351232 ∧ ∀ y ∈ x, (y.length * 1 ≤ 140737488351232 ∧ ∀ z ∈ y, True))) :
    ∃ k, transeptlaw08_WalBack.f k l0 a1 = some true := by
  have hB : ∀ b ∈ l0, b.length ≤ 1000000000000000 ∧ ∀ d ∈ b, Octs d := by
    intro b hb
    have := (z0.2 b hb).1
    exact ⟨by omega, fun d hd => octs_wf ((wf0.2 b hb).2 d hd).2⟩
  refine ⟨40000000, ?_⟩
  generalize hK : 40000000 = K
  have hlim := lim_ok a1
  obtain ⟨gs, e1, hg, hn, ht⟩ := laid_is l0 hB _ hlim.1 (by omega) K (by omega)
  have e2 := recover_is gs hg hn (by omega) K (by omega)
  have hsame := sameLists_is gs.flatten (fun x hx => by
    obtain ⟨g, hg1, hg2⟩ := List.mem_flatten.1 hx
    have := (hg g hg1 x hg2).1
    omega) (by omega) K (by omega)
  have h0 : transeptlaw08_num.f 0 = some 0 := rfl
  unfold transeptlaw08_WalBack.f
  rw [alive08_is K (by omega), Option.bind_some, if_pos rfl, e1, Option.bind_some]
  dsimp only
  rw [if_pos rfl, e2, Option.bind_some]
  dsimp only
  rw [h0, Option.bind_some, if_pos rfl, hsame, Option.bind_some, if_pos rfl, if_pos rfl]
  rfl
end Go.Proofs.Ytooabchnbmnchaa.Pure
