-- (thinned for this claim by wip/tools/shake.py: what the claim doesn't use is left out)
import Derived.Test.YtooabchnbmnchaaQ49
import Derived.Test.YtooabchnbmnchaaQ17
import Derived.Test.YtooabchnbmnchaaQ26
import Derived.Test.YtooabchnbmnchaaKit
import Derived.Test.YtooabchnbmnchaaPlNum
import Derived.Test.YtooabchnbmnchaaPlCrc
import Derived.Test.YtooabchnbmnchaaPlScan
import Derived.Test.YtooabchnbmnchaaPlWal
import Derived.Test.YtooabchnbmnchaaPlWalF
namespace Go.Proofs.Ytooabchnbmnchaa.Q
open Go.RowKit Go.Proofs.YtooabchnbmnchaaW.PrintWords Go.Proofs.YtooabchnbmnchaaW.PrintLast Go.Proofs.YtooabchnbmnchaaW.PrintMore
set_option linter.unusedVariables false
set_option linter.unusedSimpArgs false
theorem lim_ok (a : Int) : 1 ≤ wrap64 (1 + Int.tmod (wrap64 (Int.tmod a 300 + 300)) 300) ∧ wrap64 (1 + Int.tmod (wrap64 (Int.tmod a 300 + 300)) 300) ≤ 300 := by
  have h1 := Int.tmod_lt_of_pos a (show (0 : Int) < 300 by omega)
  have h2 : -300 < Int.tmod a 300 := by
    rcases Int.le_total 0 a with h0 | h0
    · have := Int.tmod_nonneg (300 : Int) h0; omega
    · have h3 := Int.tmod_lt_of_pos (-a) (show (0 : Int) < 300 by omega)
      rw [Int.neg_tmod] at h3
      omega
  rw [wrap64_id (x := Int.tmod a 300 + 300) (by omega) (by omega)]
  have h3 := Int.tmod_lt_of_pos (Int.tmod a 300 + 300) (show (0 : Int) < 300 by omega)
  have h4 := Int.tmod_nonneg (300 : Int) (show 0 ≤ Int.tmod a 300 + 300 by omega)
  rw [wrap64_id (by omega) (by omega)]
  omega
end Go.Proofs.Ytooabchnbmnchaa.Q
