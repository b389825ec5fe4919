-- (thinned for this claim by wip/tools/shake.py: what the claim doesn't use is left out)
import Derived.Test.YtooabchnbmnchaaQ132
import Derived.Test.YtooabchnbmnchaaQ7
import Derived.Test.YtooabchnbmnchaaQ30
import Derived.Test.YtooabchnbmnchaaQ31
import Derived.Test.YtooabchnbmnchaaKit
import Derived.Test.YtooabchnbmnchaaPlNode
namespace Go.Proofs.Ytooabchnbmnchaa.Q
open Go.RowKit Go.Proofs.YtooabchnbmnchaaW.PrintWords Go.Proofs.YtooabchnbmnchaaW.PrintLast Go.Proofs.YtooabchnbmnchaaW.PrintMore
set_option linter.unusedVariables false
set_option linter.unusedSimpArgs false
theorem clone_str (l : List ByteArray) (h : l.length ≤ 8796093022207) : slices_Clone_string_string.f l = some l := by unfold slices_Clone_string_string.f; rw [if_pos h]
theorem clone_int (l : List Int) (h : l.length ≤ 17592186044415) : slices_Clone_int_int.f l = some l := by unfold slices_Clone_int_int.f; rw [if_pos h]
def splitOf (leaf : Bool) (ks vs : List ByteArray) (ds : List Int) : Bool × List ByteArray × List ByteArray × List Int × ByteArray × Bool × List ByteArray × List ByteArray × List Int × Int :=
  if leaf = true then (true, ks.take (ks.length / 2), vs.take (ks.length / 2), [], ks.getD (ks.length / 2) ByteArray.empty, true, ks.drop (ks.length / 2), vs.drop (ks.length / 2), [], 0)
  else (false, ks.take (ks.length / 2), [], ds.take (ks.length / 2 + 1), ks.getD (ks.length / 2) ByteArray.empty, false, ks.drop (ks.length / 2 + 1), [], ds.drop (ks.length / 2 + 1), 0)
def noSplit (e : Int) : Bool × List ByteArray × List ByteArray × List Int × ByteArray × Bool × List ByteArray × List ByteArray × List Int × Int := (false, [], [], [], ⟨#[]⟩, false, [], [], [], e)
theorem split_is (leaf : Bool) (ks vs : List ByteArray) (ds : List Int) (hk1 : ks.length ≤ 8796093022207) (hv1 : vs.length ≤ 8796093022207) (hd1 : ds.length ≤ 17592186044415) (k : Nat) (hk : ks.length + 1 < k) :
    (∃ e, e ≠ 0 ∧ node_Split.f k leaf ks vs ds = some (noSplit e)) ∨ (NodeOk leaf ks vs ds ∧ (if leaf = true then 2 else 3) ≤ ks.length ∧ node_Split.f k leaf ks vs ds = some (splitOf leaf ks vs ds)) := by
  obtain ⟨e, he, he2⟩ := check_is leaf ks vs ds (by omega) k (by omega)
  unfold node_Split.f
  rw [he, Option.bind_some]
  by_cases h0 : e = 0
  case neg => exact .inl ⟨e, h0, by rw [if_neg h0]; rfl⟩
  have hok := he2.1 h0
  have hsh := hok.shape
  unfold ShapeOk at hsh
  rw [if_pos h0]
  obtain ⟨k, rfl⟩ : ∃ m, k = m + 1 := ⟨k - 1, by omega⟩
  have hw : wrap64 ((ks.length : Int) / 2) = ((ks.length / 2 : Nat) : Int) := by rw [wrap64_id (by omega) (by omega)]; omega
  by_cases hl : leaf = true
  · rw [if_pos hl] at hsh
    rw [if_pos hl]
    simp only [node_Split.j0]
    by_cases h2 : (ks.length : Int) < 2
    · exact .inl ⟨3, by decide, by rw [if_pos h2]; rfl⟩
    · refine .inr ⟨hok, by rw [if_pos hl]; omega, ?_⟩
      rw [if_neg h2, hw, if_pos (by omega), if_pos (by omega), Int.toNat_natCast, clone_str _ (by rw [List.length_take]; omega), Option.bind_some, wrap64_id (x := ((ks.length / 2 : Nat) : Int) + 0) (by omega) (by omega), Int.add_zero, if_pos (by omega), if_pos (by omega), Int.toNat_natCast, clone_str _ (by rw [List.length_drop]; omega), Option.bind_some,
        if_pos hl, if_pos (by omega), clone_str _ (by rw [List.length_take]; omega), Option.bind_some, clone_str _ (by rw [List.length_drop]; omega), Option.bind_some, if_pos (by omega)]
      unfold splitOf
      rw [if_pos hl, hl, rdOf_nat ks (ks.length / 2) (by omega), List.getD_eq_getElem?_getD, List.getElem?_eq_getElem (by omega)]
      rfl
  · rw [if_neg hl] at hsh
    rw [if_neg hl]
    simp only [node_Split.j0]
    by_cases h2 : (ks.length : Int) < 3
    · exact .inl ⟨3, by decide, by rw [if_pos h2]; rfl⟩
    · refine .inr ⟨hok, by rw [if_neg hl]; omega, ?_⟩
      rw [if_neg h2, hw, if_pos (by omega), if_pos (by omega), Int.toNat_natCast, clone_str _ (by rw [List.length_take]; omega), Option.bind_some, wrap64_id (x := ((ks.length / 2 : Nat) : Int) + 1) (by omega) (by omega), show ((ks.length / 2 : Nat) : Int) + 1 = ((ks.length / 2 + 1 : Nat) : Int) from rfl, if_pos (by omega), if_pos (by omega), Int.toNat_natCast, clone_str _ (by rw [List.length_drop]; omega), Option.bind_some,
        if_neg hl, if_pos (by omega), if_pos (by omega), clone_int _ (by rw [List.length_take]; omega), Option.bind_some, clone_int _ (by rw [List.length_drop]; omega), Option.bind_some, if_pos (by omega)]
      unfold splitOf
      have hlf : leaf = false := by simpa using hl
      rw [if_neg hl, hlf, rdOf_nat ks (ks.length / 2) (by omega), List.getD_eq_getElem?_getD, List.getElem?_eq_getElem (by omega)]
      rfl
end Go.Proofs.Ytooabchnbmnchaa.Q
