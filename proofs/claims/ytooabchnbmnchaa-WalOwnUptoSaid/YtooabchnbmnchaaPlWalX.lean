-- (thinned for this claim by wip/tools/shake.py: what the claim doesn't use is left out)
import Derived.Test.YtooabchnbmnchaaQ1
import Derived.Test.YtooabchnbmnchaaQ43
import Derived.Test.YtooabchnbmnchaaQ38
import Derived.Test.YtooabchnbmnchaaQ55
import Derived.Test.YtooabchnbmnchaaQ26
import Derived.Test.YtooabchnbmnchaaKit
import Derived.Test.YtooabchnbmnchaaPlNum
import Derived.Test.YtooabchnbmnchaaPlCrc
import Derived.Test.YtooabchnbmnchaaPlLin
import Derived.Test.YtooabchnbmnchaaPlScan
import Derived.Test.YtooabchnbmnchaaPlRefSc
import Derived.Test.YtooabchnbmnchaaPlSame
import Derived.Test.YtooabchnbmnchaaPlSameL
import Derived.Test.YtooabchnbmnchaaPlWal
import Derived.Test.YtooabchnbmnchaaPlWalF
import Derived.Test.YtooabchnbmnchaaPlWalV
import Derived.Test.YtooabchnbmnchaaPlWalW
namespace Go.Proofs.Ytooabchnbmnchaa.Q
open Go.RowKit Go.Proofs.YtooabchnbmnchaaW.PrintWords Go.Proofs.YtooabchnbmnchaaW.PrintLast Go.Proofs.YtooabchnbmnchaaW.PrintMore
set_option linter.unusedVariables false
set_option linter.unusedSimpArgs false
theorem copyBytes_is (l : List Int) (h : l.length < 140737488355328) : transeptplain_CopyBytes.f l = some l := by
  unfold transeptplain_CopyBytes.f
  rw [if_pos (by simpa using h), List.nil_append]
theorem segs_loop (l : List (Int × List Int)) (hg : GoodS l) : ∀ (d k i : Nat), i + d = l.length → d < k → transeptlaw08_Segs.l0 k (l.map sgR) ((l.take i).map sgP) (i : Int) = some (l.map sgP) := by
  have hm : (l.map sgR).length = l.length := List.length_map _
  have hgl := hg.len
  intro d
  induction d with
  | zero =>
    intro k i hi hk
    obtain ⟨k, rfl⟩ : ∃ m, k = m + 1 := ⟨k - 1, by omega⟩
    simp only [transeptlaw08_Segs.l0]
    rw [if_neg (by omega), List.take_of_length_le (by omega)]
  | succ d ih =>
    intro k i hi hk
    obtain ⟨k, rfl⟩ : ∃ m, k = m + 1 := ⟨k - 1, by omega⟩
    have h1 : i < l.length := by omega
    have hb := hg.each _ (List.getElem_mem h1)
    simp only [transeptlaw08_Segs.l0]
    rw [if_pos (by omega), if_pos (by omega), rdRm l i h1]
    dsimp only
    rw [copyBytes_is _ (by omega), Option.bind_some, if_pos (by rw [List.length_map, List.length_take]; omega), wrap64_id (by omega) (by omega)]
    have := ih k (i + 1) (by omega) (by omega)
    rw [← List.take_append_getElem h1, List.map_append] at this
    exact this
theorem segs_any (l : List (Int × List Int)) (hg : GoodS l) (k : Nat) (hk : 1048576 < k) : transeptlaw08_Segs.f k (l.map sgR) = some (l.map sgP) := by
  have hgl := hg.len
  unfold transeptlaw08_Segs.f
  exact segs_loop l hg l.length k 0 (by omega) (by omega)
end Go.Proofs.Ytooabchnbmnchaa.Q
