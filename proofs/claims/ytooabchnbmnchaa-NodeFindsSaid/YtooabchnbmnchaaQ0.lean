-- (thinned for this claim by wip/tools/shake.py: what the claim doesn't use is left out)
-- Laid by this session's own program (wip/tools) out of the translation; Lean checks it.
import Derived.Test.YtooabchnbmnchaaProg
import Derived.Below
import Derived.Deep.Draws
import Derived.Deep.AppendLies
import Derived.Maps.AppendAt
import Derived.OwnWalk
import Derived.Laws.BytesArg
import Derived.Laws.MakeOwn
import Derived.Laws.OwnMore
import Derived.Deep.OwnRows
import Derived.Tactics
import Derived.Lib.ConvBytes
import Derived.Laws.Slices
import Derived.WalkKit
import Derived.KernelRfl
import Derived.RowKit3
import Derived.Deep.LoopGhost
import Derived.Deep.QuietTactic
import Derived.BigQuiet
import Derived.WideLaws
import Derived.Deep.DeepCutAuto
import Derived.Deep.CutBlock
import Derived.Deep.RegionHeld3
import Derived.Laws.Rows
import Derived.Lib.AppendStr
import Derived.ArgAppend
import Derived.Laws.IdiomCopy
import Derived.OrdersHeld
import Derived.Laws.BitsLemmas
import Derived.RowKit
import Derived.Lib.Hide
import Derived.Test.YtooabchnbmnchaaKit
import Derived.Test.YtooabchnbmnchaaWWords
import Derived.Test.YtooabchnbmnchaaWLast
import Derived.Test.YtooabchnbmnchaaWTab
import Derived.Test.YtooabchnbmnchaaWFour
import Derived.Test.YtooabchnbmnchaaWQPut
import Derived.Test.YtooabchnbmnchaaWApart
import Derived.Test.YtooabchnbmnchaaWArr
import Derived.Test.YtooabchnbmnchaaWZeros
import Derived.Test.YtooabchnbmnchaaWFoot
import Derived.Test.YtooabchnbmnchaaWKept
import Derived.Test.YtooabchnbmnchaaWShare
import Derived.Test.YtooabchnbmnchaaWN
import Derived.Test.YtooabchnbmnchaaWFootNe
import Derived.Test.YtooabchnbmnchaaWAt
import Derived.Test.YtooabchnbmnchaaWEqStruct
import Derived.Test.YtooabchnbmnchaaWRepsOne
import Derived.Test.YtooabchnbmnchaaWInv
import Derived.Test.YtooabchnbmnchaaWInvWords
import Derived.Test.YtooabchnbmnchaaWGuard
import Derived.Test.YtooabchnbmnchaaWNEv
import Derived.Test.YtooabchnbmnchaaWMore
namespace Go.Proofs.Ytooabchnbmnchaa.Q
open Go.RowKit Go.Proofs.YtooabchnbmnchaaW.PrintWords Go.Proofs.YtooabchnbmnchaaW.PrintLast Go.Proofs.YtooabchnbmnchaaW.PrintMore
attribute [local go_sem] max2_int min2_int max_two min_two max_three min_three max_four min_four binOp_string_leq binOp_string_geq binOp_string_gtr   -- for this text's walks alone
set_option linter.unusedVariables false
set_option linter.unusedSimpArgs false
def errW : Option Int → Value
 | none => .nilIface
 | some c => .iface 0 (.int .i64 c)
theorem errW_none : errW none = .nilIface := rfl
theorem errW_some (c : Int) : errW (some c) = .iface 0 (.int .i64 c) := rfl
theorem info3 : (Try.prog.info? 3).map (fun i => (i.zero, i.size, i.bytes)) = some (some (.int .i64 0), 1, 8) := by kernel_rfl
theorem info5 : (Try.prog.info? 5).map (fun i => (i.zero, i.size, i.bytes)) = some (some (.int .u8 0), 1, 1) := by kernel_rfl
theorem info9 : (Try.prog.info? 9).map (fun i => (i.zero, i.size, i.bytes)) = some (some (.string ⟨#[]⟩), 1, 16) := by kernel_rfl
-- the values' own types
end Go.Proofs.Ytooabchnbmnchaa.Q
