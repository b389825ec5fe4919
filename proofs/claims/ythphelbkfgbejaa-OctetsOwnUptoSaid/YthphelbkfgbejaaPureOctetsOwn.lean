/- What is proved: the plain half of OctetsOwn: what the package gave is its caller's own. Conditions: the arguments' measure is at most 1048576. -/
import Derived.Test.YthphelbkfgbejaaQ23
import Derived.Test.YthphelbkfgbejaaKit
import Derived.Test.YthphelbkfgbejaaPlSame
import Derived.Test.YthphelbkfgbejaaPlOct
import Derived.Test.YthphelbkfgbejaaPlOctB
import Derived.Test.YthphelbkfgbejaaPlCut
import Derived.Test.YthphelbkfgbejaaPlBits
namespace Go.Proofs.Ythphelbkfgbejaa.Pure
open Go.RowKit Go.Proofs.Ythphelbkfgbejaa.Q Go.Proofs.YthphelbkfgbejaaW.PrintWords Go.Proofs.YthphelbkfgbejaaW.PrintLast
theorem copy_own (l : List Int) (h : l.length ≤ 1048576) : transeptplain_CopyBytes.f l = some l := by
  unfold transeptplain_CopyBytes.f
  rw [if_pos (by simp; omega)]; rfl
theorem cut_own (l : List Int) (hl : l.length ≤ 1048576) (a : Int) (k : Nat) (hk : l.length + 1 < k) : ∃ r : List (List Int) × Int, octets_Cut.f k l a = some r ∧ transeptref01_Cut.f k l a = some r ∧ (∀ x ∈ r.1, x.length ≤ 1048576) ∧ r.1.length ≤ 1048576 := by
  by_cases hb : a < 1 ∨ a > 65536
  · exact ⟨_, cut_bad a hb l k (by omega), refCut_bad l a hb k (by omega), by simp, by simp⟩
  · obtain ⟨size, rfl⟩ : ∃ s : Nat, a = (s : Int) := ⟨a.toNat, by omega⟩
    refine ⟨_, cut_is size (by omega) (by omega) l hl k hk, refCut_is l size (by omega) (by omega) hl k hk, ?_, ?_⟩
    · intro x hx
      obtain ⟨i, hi, rfl⟩ := List.getElem_of_mem hx
      have := (pieces_at size (by omega) l.length l (Nat.le_refl _) i hi).2.1
      simp only at this ⊢
      omega
    · have := pieces_length size (by omega) l.length l (Nat.le_refl _)
      simp only; omega
theorem OctetsOwn (l0 : List Int) (a1 : Int) (wf0 : l0.length ≤ maxLen ∧ ∀ x ∈ l0, (Lit.int .u8 x).wf = true) (wf1 : (Lit.int .i64 a1).wf = true) (hmu : (1 + (l0.map (fun _ => 1)).sum) + 1 ≤ 1048576) :
    ∃ k, transeptlaw01_OctetsOwn.f k l0 a1 = some true := by
  rw [sum_ones] at hmu
  have h0 : Octs l0 := octs_wf wf0.2
  refine ⟨9 * l0.length + 1048578 + 1048578 + 20, ?_⟩
  obtain ⟨q, e3, e4, e5, e6⟩ := cut_own l0 (by omega) a1 (9 * l0.length + 1048578 + 1048578 + 20) (by omega)
  obtain ⟨s, e7⟩ := spoil_is l0 (by omega) (9 * l0.length + 1048578 + 1048578 + 20) (by omega)
  unfold transeptlaw01_OctetsOwn.f
  rw [alive01 _ (by omega)]
  simp only [Option.bind_some, if_true]
  rw [copy_own l0 (by omega)]
  simp only [Option.bind_some, transeptlaw01_num.f]
  rw [turn_is l0 h0 (by omega), e3, e4, refTurn_is l0 h0 (by omega) _ (by omega)]
  simp only [Option.bind_some]
  rw [e7]
  simp only [Option.bind_some, if_true]
  rw [sameLists_is q.1 e5 e6 _ (by omega)]
  simp only [Option.bind_some, if_true]
  rw [same_is _ _ (by simp; omega) _ (by simp; omega)]
  simp
end Go.Proofs.Ythphelbkfgbejaa.Pure
