-- (thinned for this claim by wip/tools/shake.py: what the claim doesn't use is left out)
import Derived.Test.YtooabchnbmnchaaQ16
import Derived.Test.YtooabchnbmnchaaQ26
import Derived.Test.YtooabchnbmnchaaKit
import Derived.Test.YtooabchnbmnchaaPlNum
import Derived.Test.YtooabchnbmnchaaPlCrc
import Derived.Test.YtooabchnbmnchaaPlScan
import Derived.Test.YtooabchnbmnchaaPlWal
namespace Go.Proofs.Ytooabchnbmnchaa.Q
open Go.RowKit Go.Proofs.YtooabchnbmnchaaW.PrintWords Go.Proofs.YtooabchnbmnchaaW.PrintLast Go.Proofs.YtooabchnbmnchaaW.PrintMore
set_option linter.unusedVariables false
set_option linter.unusedSimpArgs false
def NE (gs : List (List (List Int))) : Prop := ∀ g ∈ gs, g ≠ []
theorem NE_len (gs : List (List (List Int))) (h : NE gs) : gs.length ≤ gs.flatten.length := by
  induction gs with
  | nil => simp
  | cons g gs ih =>
    have h1 := ih (fun x hx => h x (by simp [hx]))
    have h2 := List.length_pos_iff.2 (h g (by simp))
    rw [List.flatten_cons, List.length_append, List.length_cons]
    omega
theorem append_is (a : Nat) (ha : a ≤ 1000000) (bs : List (List Int)) (gs : List (List (List Int))) (hb : ∀ d ∈ bs, Rec d) (hg : GoodG gs) (hn : NE gs) (ht : gs.flatten.length + bs.length ≤ 4096) (k : Nat) (hk : 30000000 < k) :
    wal_Append.f k (segsOf a gs) ((a + gs.flatten.length : Nat) : Int) [] bs = some (segsOf a gs, ((a + gs.flatten.length : Nat) : Int), bs, 0) := by
  have hlen := NE_len gs hn
  have hz : (([] : List (List Int)).length : Int) = 0 := rfl
  have hb1 : -9223372036854775808 ≤ (([] : List (List Int)).length : Int) + (bs.length : Int) := by omega
  have hb2 : (([] : List (List Int)).length : Int) + (bs.length : Int) ≤ 9223372036854775807 := by omega
  unfold wal_Append.f
  rw [own_is a gs hg (by omega) ha (by omega) [] (fun d hd => by cases hd) (by simp) k hk, Option.bind_some]
  simp only
  rw [if_pos trivial, contains68, Option.bind_some, any_long bs (fun d hd => (hb d hd).1), if_neg (by simp), wrap64_id hb1 hb2, if_neg (by omega), cloneAll_is bs (by omega) (fun d hd => by have := (hb d hd).1; omega) k (by omega), Option.bind_some, if_pos (by simp; omega)]
  rfl
end Go.Proofs.Ytooabchnbmnchaa.Q
