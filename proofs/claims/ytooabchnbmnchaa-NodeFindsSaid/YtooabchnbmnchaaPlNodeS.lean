-- (thinned for this claim by wip/tools/shake.py: what the claim doesn't use is left out)
import Derived.Test.YtooabchnbmnchaaQ22
import Derived.Test.YtooabchnbmnchaaKit
import Derived.Test.YtooabchnbmnchaaPlNode
namespace Go.Proofs.Ytooabchnbmnchaa.Q
open Go.RowKit Go.Proofs.YtooabchnbmnchaaW.PrintWords Go.Proofs.YtooabchnbmnchaaW.PrintLast Go.Proofs.YtooabchnbmnchaaW.PrintMore
set_option linter.unusedVariables false
set_option linter.unusedSimpArgs false
theorem sameStr_loop (l : List ByteArray) (hn : l.length ≤ 9000000000000) : ∀ (d k i : Nat), i + d = l.length → d < k → transeptplain_SameStrings.l0 k l l (i : Int) = some true := by
  intro d
  induction d with
  | zero =>
    intro k i hi hk
    obtain ⟨k, rfl⟩ : ∃ m, k = m + 1 := ⟨k - 1, by omega⟩
    simp only [transeptplain_SameStrings.l0]
    rw [if_neg (by omega)]
  | succ d ih =>
    intro k i hi hk
    obtain ⟨k, rfl⟩ : ∃ m, k = m + 1 := ⟨k - 1, by omega⟩
    simp only [transeptplain_SameStrings.l0]
    rw [if_pos (by omega), if_pos (by omega), if_pos (by omega), if_pos trivial, wrap64_id (by omega) (by omega)]
    exact ih k (i + 1) (by omega) (by omega)
theorem sameStr_is (l : List ByteArray) (hn : l.length ≤ 9000000000000) (k : Nat) (hk : l.length < k) : transeptplain_SameStrings.f k l l = some true := by
  unfold transeptplain_SameStrings.f
  rw [if_pos rfl]
  exact sameStr_loop l hn l.length k 0 (by omega) hk
theorem sameInt_loop (l : List Int) (hn : l.length ≤ 18000000000000) : ∀ (d k i : Nat), i + d = l.length → d < k → transeptplain_SameInts.l0 k l l (i : Int) = some true := by
  intro d
  induction d with
  | zero =>
    intro k i hi hk
    obtain ⟨k, rfl⟩ : ∃ m, k = m + 1 := ⟨k - 1, by omega⟩
    simp only [transeptplain_SameInts.l0]
    rw [if_neg (by omega)]
  | succ d ih =>
    intro k i hi hk
    obtain ⟨k, rfl⟩ : ∃ m, k = m + 1 := ⟨k - 1, by omega⟩
    simp only [transeptplain_SameInts.l0]
    rw [if_pos (by omega), if_pos (by omega), if_pos (by omega), if_pos trivial, wrap64_id (by omega) (by omega)]
    exact ih k (i + 1) (by omega) (by omega)
theorem sameInt_is (l : List Int) (hn : l.length ≤ 18000000000000) (k : Nat) (hk : l.length < k) : transeptplain_SameInts.f k l l = some true := by
  unfold transeptplain_SameInts.f
  rw [if_pos rfl]
  exact sameInt_loop l hn l.length k 0 (by omega) hk
end Go.Proofs.Ytooabchnbmnchaa.Q
