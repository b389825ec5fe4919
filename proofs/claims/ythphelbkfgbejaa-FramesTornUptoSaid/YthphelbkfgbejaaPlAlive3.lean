import Derived.Test.YthphelbkfgbejaaQ17
import Derived.Test.YthphelbkfgbejaaQ18
import Derived.Test.YthphelbkfgbejaaQ12
import Derived.Test.YthphelbkfgbejaaQ16
import Derived.Test.YthphelbkfgbejaaQ2
import Derived.Test.YthphelbkfgbejaaKit
import Derived.Test.YthphelbkfgbejaaPlSame
namespace Go.Proofs.Ythphelbkfgbejaa.Q
open Go.RowKit Go.Proofs.YthphelbkfgbejaaW.PrintWords Go.Proofs.YthphelbkfgbejaaW.PrintLast Go.Proofs.YthphelbkfgbejaaW.PrintMore
set_option linter.unusedVariables false
set_option linter.unusedSimpArgs false

set_option maxRecDepth 100000 in
theorem alive03_a : frames_Seal.f 1 [97] = some (sealed03, 0) := by decide +kernel
set_option maxRecDepth 100000 in
theorem alive03_b : frames_Open.f 20 sealed03 = some (1, [97], 9, 0) := by decide +kernel
theorem alive03 : transeptlaw03_alive.f = some true := by
  unfold transeptlaw03_alive.f
  rw [if_pos ⟨alive03_a, alive03_b⟩]
theorem copyBytes_is (l : List Int) (h : l.length < 140737488355328) : transeptplain_CopyBytes.f l = some l := by
  unfold transeptplain_CopyBytes.f
  rw [if_pos (by simp; omega)]; rfl
theorem same03_is (a : Int) (l : List Int) (h : l.length ≤ 4096) (k : Nat) (hk : 4096 < k) : transeptlaw03_same.f k a l a l = some true := by
  unfold transeptlaw03_same.f
  rw [if_pos rfl, same_is l l (by omega) k (by omega), Option.bind_some]
  simp

end Go.Proofs.Ythphelbkfgbejaa.Q
