-- (thinned for this claim by wip/tools/shake.py: what the claim doesn't use is left out)
import Derived.Test.YtooabchnbmnchaaQ51
import Derived.Test.YtooabchnbmnchaaKit
import Derived.Test.YtooabchnbmnchaaPlNum
import Derived.Test.YtooabchnbmnchaaPlCrc
import Derived.Test.YtooabchnbmnchaaPlScan
import Derived.Test.YtooabchnbmnchaaPlWal
import Derived.Test.YtooabchnbmnchaaPlWalF
namespace Go.Proofs.Ytooabchnbmnchaa.Q
open Go.RowKit Go.Proofs.YtooabchnbmnchaaW.PrintWords Go.Proofs.YtooabchnbmnchaaW.PrintLast Go.Proofs.YtooabchnbmnchaaW.PrintMore
set_option linter.unusedVariables false
set_option linter.unusedSimpArgs false
theorem Records_loop (a : Nat) (gs : List (List (List Int))) (hg : GoodG gs) (ht : gs.flatten.length ≤ 5000) (ha : a ≤ 1000000) (hn : gs.length ≤ 4096) (wt : List (List Int)) : ∀ (d k i : Nat), i + d = gs.length → d + 25100000 < k →
    wal_Records.l0 k (gs.take i).flatten (segsOf a gs) ((segsOf a gs).length : Int) (i : Int) (segsOf a gs) ((a + gs.flatten.length : Nat) : Int) wt = some (gs.flatten, (a : Int), 0) := by
  have hl := segsOf_length gs a
  intro d
  induction d with
  | zero =>
    intro k i hi hk
    obtain ⟨k, rfl⟩ : ∃ m, k = m + 1 := ⟨k - 1, by omega⟩
    have hb1 : -9223372036854775808 ≤ ((a + gs.flatten.length : Nat) : Int) - (gs.flatten.length : Int) := by omega
    have hb2 : ((a + gs.flatten.length : Nat) : Int) - (gs.flatten.length : Int) ≤ 9223372036854775807 := by omega
    simp only [wal_Records.l0]
    rw [if_neg (by omega), List.take_of_length_le (by omega), wrap64_id hb1 hb2, show ((a + gs.flatten.length : Nat) : Int) - (gs.flatten.length : Int) = (a : Int) by omega]
  | succ d ih =>
    intro k i hi hk
    obtain ⟨k, rfl⟩ : ∃ m, k = m + 1 := ⟨k - 1, by omega⟩
    have h1 : i < gs.length := by omega
    have hmem := mem_flat_le gs i h1
    have hrec := records_is gs[i] (by omega) (hg _ (List.getElem_mem h1)) k (by omega)
    have hw : wrap64 ((i : Int) + 1) = ((i + 1 : Nat) : Int) := wrap64_id (by omega) (by omega)
    simp only [wal_Records.l0]
    rw [if_pos (by omega), if_pos (by omega), if_pos (by omega), rdS _ i (by omega), segsOf_get gs a i h1]
    simp only
    rw [hrec, Option.bind_some]
    simp only
    rw [if_pos (by omega), hw, show (gs.take i).flatten ++ gs[i] = (gs.take (i + 1)).flatten by rw [← List.take_append_getElem h1, List.flatten_append]; simp]
    exact ih k (i + 1) (by omega) (by omega)
theorem Records_is (a : Nat) (gs : List (List (List Int))) (hg : GoodG gs) (ht : gs.flatten.length ≤ 5000) (ha : a ≤ 1000000) (hn : gs.length ≤ 4096) (k : Nat) (hk : 30000000 < k) :
    wal_Records.f k (segsOf a gs) ((a + gs.flatten.length : Nat) : Int) [] = some (gs.flatten, (a : Int), 0) := by
  unfold wal_Records.f
  rw [check_is a gs hg ht ha hn [] (fun d hd => by cases hd) (by simp) k hk, Option.bind_some, if_pos rfl]
  exact Records_loop a gs hg ht ha hn [] gs.length k 0 (by omega) (by omega)
end Go.Proofs.Ytooabchnbmnchaa.Q
