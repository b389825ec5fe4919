-- (thinned for this claim by wip/tools/shake.py: what the claim doesn't use is left out)
import Derived.Test.YtooabchnbmnchaaWInv
import Derived.Test.YtooabchnbmnchaaWFootNe
namespace Go.Proofs.YtooabchnbmnchaaW.PrintWords
open Go.RowKit
end Go.Proofs.YtooabchnbmnchaaW.PrintWords
namespace Go.Proofs.YtooabchnbmnchaaW.PrintLast
section
variable {ops : Array Oper} {a : Act} {o og : Oper} {g : Nat} {t : Tmp} {u : Bool}
end
end Go.Proofs.YtooabchnbmnchaaW.PrintLast
