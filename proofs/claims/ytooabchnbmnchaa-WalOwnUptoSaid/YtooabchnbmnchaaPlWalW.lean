-- (thinned for this claim by wip/tools/shake.py: what the claim doesn't use is left out)
import Derived.Test.YtooabchnbmnchaaQ1
import Derived.Test.YtooabchnbmnchaaQ43
import Derived.Test.YtooabchnbmnchaaQ38
import Derived.Test.YtooabchnbmnchaaQ55
import Derived.Test.YtooabchnbmnchaaQ26
import Derived.Test.YtooabchnbmnchaaKit
import Derived.Test.YtooabchnbmnchaaPlNum
import Derived.Test.YtooabchnbmnchaaPlCrc
import Derived.Test.YtooabchnbmnchaaPlLin
import Derived.Test.YtooabchnbmnchaaPlScan
import Derived.Test.YtooabchnbmnchaaPlRefSc
import Derived.Test.YtooabchnbmnchaaPlSame
import Derived.Test.YtooabchnbmnchaaPlSameL
import Derived.Test.YtooabchnbmnchaaPlWal
import Derived.Test.YtooabchnbmnchaaPlWalF
import Derived.Test.YtooabchnbmnchaaPlWalV
namespace Go.Proofs.Ytooabchnbmnchaa.Q
open Go.RowKit Go.Proofs.YtooabchnbmnchaaW.PrintWords Go.Proofs.YtooabchnbmnchaaW.PrintLast Go.Proofs.YtooabchnbmnchaaW.PrintMore
set_option linter.unusedVariables false
set_option linter.unusedSimpArgs false
def sgP (x : Int × List Int) : S70 := ⟨x.1, x.2⟩
def sgR (x : Int × List Int) : S87 := ⟨x.1, x.2⟩
theorem rdSR (l : List S87) (i : Nat) (h : i < l.length) : rd_T87 l (i : Int) = l[i] := by
  unfold rd_T87
  rw [Int.toNat_natCast, List.getD_eq_getElem?_getD, List.getElem?_eq_getElem h]; rfl
theorem rdPm (L : List (Int × List Int)) (i : Nat) (h : i < L.length) : rd_T70 (L.map sgP) (i : Int) = ⟨L[i].1, L[i].2⟩ := by
  rw [rdS _ i (by rw [List.length_map]; exact h), List.getElem_map]; rfl
theorem rdRm (L : List (Int × List Int)) (i : Nat) (h : i < L.length) : rd_T87 (L.map sgR) (i : Int) = ⟨L[i].1, L[i].2⟩ := by
  rw [rdSR _ i (by rw [List.length_map]; exact h), List.getElem_map]; rfl
structure GoodS (l : List (Int × List Int)) : Prop where
  len : l.length ≤ 1048576
  each : ∀ x ∈ l, Octs x.2 ∧ x.2.length ≤ 1048576
theorem pIndex (n : Int) : wal_index.f n = some (decide (0 ≤ n ∧ n ≤ 1099511627776)) := by
  unfold wal_index.f
  by_cases h : n ≥ 0
  · rw [if_pos h]; congr 1; simp; omega
  · rw [if_neg h]; simp; omega
theorem rIndex (n : Int) : transeptref08_index.f n = some (decide (0 ≤ n ∧ n ≤ 1099511627776)) := by
  unfold transeptref08_index.f
  by_cases h : n ≥ 0
  · rw [if_pos h]; congr 1; simp; omega
  · rw [if_neg h]; simp; omega
end Go.Proofs.Ytooabchnbmnchaa.Q
