/- What is proved: WalSegments: each segment but the last has as many octets as the bound asks for, and one record fewer would not. Conditions: none beyond the kinds' bounds and what the argument's rows hold. -/
import Derived.Test.YtooabchnbmnchaaQ49
import Derived.Test.YtooabchnbmnchaaKit
import Derived.Test.YtooabchnbmnchaaSq
import Derived.Test.YtooabchnbmnchaaPlNum
import Derived.Test.YtooabchnbmnchaaPlCrc
import Derived.Test.YtooabchnbmnchaaPlScan
import Derived.Test.YtooabchnbmnchaaPlWal
import Derived.Test.YtooabchnbmnchaaPlWalF
import Derived.Test.YtooabchnbmnchaaPlWalL
import Derived.Test.YtooabchnbmnchaaPlAlive8
import Derived.Test.YtooabchnbmnchaaPlWalG
import Derived.Test.YtooabchnbmnchaaWalkSegs
namespace Go.Proofs.Ytooabchnbmnchaa.Pure
open Go.RowKit Go.Proofs.Ytooabchnbmnchaa.Q Go.Proofs.YtooabchnbmnchaaW.PrintWords Go.Proofs.YtooabchnbmnchaaW.PrintLast
theorem WalSegments (w : World) (A0 : Option Addr) (c0 : Nat) (l0 : List (List (List Int))) (a1 : Int) (hr0 : Kd.C (Kd.slice 26 (Kd.slice 5 (Kd.int .u8))) w A0 l0.length l0) (hc0 : l0.length ≤ c0)
    (wf0 : l0.length ≤ maxLen ∧ ∀ x ∈ l0, (x.length ≤ maxLen ∧ ∀ y ∈ x, (y.length ≤ maxLen ∧ ∀ z ∈ y, (Lit.int .u8 z).wf = true)))
    (_wf1 : (Lit.int .i64 a1).wf = true)
    (z0 : l0.length * 24 ≤ 140737488351232 ∧ ∀ x ∈ l0, (x.length * 24 ≤ 140737488351232 ∧ ∀ y ∈ x, (y.length * 1 ≤ 140737488351232 ∧ ∀ z ∈ y, True))) :
    Calls Try.prog 9 #[.slice A0 l0.length c0, .int .i64 a1] w fun e w' => e = .returned (.bool true) ∧ Below w.heap.size w w' := by
  have hB : ∀ b ∈ l0, b.length ≤ 1000000000000000 ∧ ∀ d ∈ b, Octs d := by
    intro b hb
    have := (z0.2 b hb).1
    exact ⟨by omega, fun d hd => octs_wf ((wf0.2 b hb).2 d hd).2⟩
  have hlim := lim_ok a1
  obtain ⟨gs, e1, hg, hn, ht, hm⟩ := laidL_is l0 hB _ hlim.1 (by omega) 40000000 (by omega)
  refine transeptlaw08_WalSegments.walk 40000000 A0 c0 l0 a1 _ gs _ _ _ w hr0 hc0 rfl hlim.1 hlim.2 (alive08_is 40000000 (by omega)) e1 ⟨hg, hn, by omega, fun i hi j hj => hm.1 _ (List.getElem_mem hi) j hj, fun i hi h2 => hm.2 _ ?_⟩ rfl rfl
  rw [List.mem_iff_getElem]
  exact ⟨i, by rw [List.length_dropLast]; omega, by rw [List.getElem_dropLast]⟩
end Go.Proofs.Ytooabchnbmnchaa.Pure
