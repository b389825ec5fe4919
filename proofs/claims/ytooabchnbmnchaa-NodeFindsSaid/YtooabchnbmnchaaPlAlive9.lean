-- (thinned for this claim by wip/tools/shake.py: what the claim doesn't use is left out)
import Derived.Test.YtooabchnbmnchaaQ22
import Derived.Test.YtooabchnbmnchaaQ13
import Derived.Test.YtooabchnbmnchaaQ20
import Derived.Test.YtooabchnbmnchaaQ1
import Derived.Test.YtooabchnbmnchaaKit
import Derived.Test.YtooabchnbmnchaaPlNode
import Derived.Test.YtooabchnbmnchaaPlSame
import Derived.Lib.SlicesS
namespace Go.Proofs.Ytooabchnbmnchaa.Q
open Go.RowKit Go.Proofs.YtooabchnbmnchaaW.PrintWords Go.Proofs.YtooabchnbmnchaaW.PrintLast Go.Proofs.YtooabchnbmnchaaW.PrintMore
set_option linter.unusedVariables false
set_option linter.unusedSimpArgs false
theorem empty_beq (s : ByteArray) : (s.toList == ([] : List UInt8)) = decide (s.size = 0) := by
  have he : ([] : List UInt8) = (⟨#[]⟩ : ByteArray).toList := ByteArray.toList_empty.symm
  rw [he]
  by_cases h : s.size = 0
  · have hs : s = ⟨#[]⟩ := by
      apply ByteArray.ext
      exact Array.eq_empty_of_size_eq_zero h
    rw [hs]
    simp
    rfl
  · have := (Go.Lib.bytes_beq_false_iff s ⟨#[]⟩).mpr (fun e => h (by rw [e]; rfl))
    rw [this]
    simp [h]
theorem toList_ne (s : ByteArray) (h : s.size ≠ 0) : s.toList ≠ [] := by
  intro e
  have := empty_beq s
  rw [e] at this
  simp [h] at this
def kA : ByteArray := ⟨#[97]⟩
def vX : ByteArray := ⟨#[120]⟩
theorem node_ax : NodeOk true [kA] [vX] [] := by
  refine ⟨fun x hx => ?_, fun i hi => by simp at hi, by unfold ShapeOk; simp, fun v hv => ?_, fun d hd => (by cases hd), by decide +kernel⟩
  · obtain rfl : x = kA := by simpa using hx
    exact ⟨toList_ne _ (by decide), by decide⟩
  · obtain rfl : v = vX := by simpa using hv
    decide
theorem check_ax (k : Nat) (hk : 1 < k) : node_Check.f k true [kA] [vX] [] = some 0 := check_ok true [kA] [vX] [] (by decide) k hk node_ax
theorem short_a : node_short.f [1, 1] kA = some [1, 1, 1, 97] := by decide +kernel
theorem short_x : node_short.f [1, 1, 1, 97] vX = some [1, 1, 1, 97, 1, 120] := by decide +kernel
theorem encode_ax (k : Nat) (hk : 4 < k) : node_Encode.f k true [kA] [vX] [] = some ([1, 1, 1, 97, 1, 120], 0) := by
  unfold node_Encode.f
  rw [check_ax k (by omega), Option.bind_some, if_pos rfl, Option.bind_some, if_pos rfl]
  obtain ⟨k, rfl⟩ : ∃ m, k = m + 4 := ⟨k - 4, by omega⟩
  simp only [node_Encode.j0, node_Encode.l0]
  rw [if_pos (by decide), if_pos (by decide), if_pos (by decide)]
  rw [show rdOf ByteArray.empty [kA] 0 = kA from rfl, show ((([kA].length : Nat) : Int)) % 256 = 1 from rfl, short_a, Option.bind_some, if_pos trivial, if_pos (by decide), show rdOf ByteArray.empty [vX] 0 = vX from rfl, short_x, Option.bind_some]
  rw [show wrap64 (0 + 1) = 1 from by decide +kernel, if_neg (by decide)]
theorem txt_a : txtS [1, 97, 1, 120] = kA := by decide +kernel
theorem txt_x : txtS [1, 120] = vX := by decide +kernel
theorem decode_ax (k : Nat) (hk : 1 < k) : node_Decode.f k [1, 1, 1, 97, 1, 120] = some (true, [kA], [vX], [], 0) := by
  unfold node_Decode.f
  rw [if_pos (by decide +kernel)]
  rw [show tkr (tkr [1, 1, 1, 97, 1, 120] 1) 1 = [1, 97, 1, 120] from by decide +kernel, show txtR [1, 97, 1, 120] = [1, 120] from by decide +kernel, txt_a, txt_x, check_ax k hk, Option.bind_some, if_pos rfl]
theorem alive09 (k : Nat) (hk : 10 < k) : transeptlaw09_alive.f k = some true := by
  unfold transeptlaw09_alive.f
  rw [show (⟨#[97]⟩ : ByteArray) = kA from rfl, show (⟨#[120]⟩ : ByteArray) = vX from rfl, encode_ax k (by omega), Option.bind_some]
  simp only
  rw [decode_ax k (by omega), Option.bind_some]
  unfold transeptlaw09_num.f
  rw [Option.bind_some, Option.bind_some, if_pos (by decide +kernel), same_is _ _ (by decide) k (by simp; omega), Option.bind_some]
  simp
end Go.Proofs.Ytooabchnbmnchaa.Q
