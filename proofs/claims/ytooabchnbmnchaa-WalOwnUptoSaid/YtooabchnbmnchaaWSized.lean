-- (thinned for this claim by wip/tools/shake.py: what the claim doesn't use is left out)
import Derived.SizedLaws
import Derived.ChangeSlices
namespace Go.Proofs.YtooabchnbmnchaaW.PrintWords
open Go.ChangeShapes Go.WideShapes
end Go.Proofs.YtooabchnbmnchaaW.PrintWords
