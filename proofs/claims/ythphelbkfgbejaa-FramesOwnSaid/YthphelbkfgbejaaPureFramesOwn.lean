/- What is proved: the plain half of FramesOwn: what is answered is its holder's. Conditions: none beyond the kinds' bounds. -/
import Derived.Test.YthphelbkfgbejaaQ21
import Derived.Test.YthphelbkfgbejaaQ18
import Derived.Test.YthphelbkfgbejaaQ20
import Derived.Test.YthphelbkfgbejaaKit
import Derived.Test.YthphelbkfgbejaaPlSame
import Derived.Test.YthphelbkfgbejaaPlNum
import Derived.Test.YthphelbkfgbejaaPlCrc
namespace Go.Proofs.Ythphelbkfgbejaa.Pure
open Go.RowKit Go.Proofs.Ythphelbkfgbejaa.Q Go.Proofs.YthphelbkfgbejaaW.PrintWords Go.Proofs.YthphelbkfgbejaaW.PrintLast
set_option maxRecDepth 100000 in
theorem alive03_a : frames_Seal.f 1 [97] = some (sealed03, 0) := by decide +kernel
set_option maxRecDepth 100000 in
theorem alive03_b : frames_Open.f 20 sealed03 = some (1, [97], 9, 0) := by decide +kernel
theorem alive03 : transeptlaw03_alive.f = some true := by
  unfold transeptlaw03_alive.f
  rw [if_pos ⟨alive03_a, alive03_b⟩]
theorem spoil_ends (n : Nat) (hn : n ≤ 140737488355328) : ∀ (d k i : Nat) (cur : List Int), cur.length = n → i + d = n → d < k → ∃ r, transeptplain_Spoil.l0 k cur (i : Int) = some r := by
  intro d
  induction d with
  | zero =>
    intro k i cur hc hi hk
    obtain ⟨k, rfl⟩ : ∃ m, k = m + 1 := ⟨k - 1, by omega⟩
    simp only [transeptplain_Spoil.l0]
    rw [if_neg (by omega)]
    exact ⟨_, rfl⟩
  | succ d ih =>
    intro k i cur hc hi hk
    obtain ⟨k, rfl⟩ : ∃ m, k = m + 1 := ⟨k - 1, by omega⟩
    simp only [transeptplain_Spoil.l0]
    rw [if_pos (by omega), if_pos (by omega), wrap64_id (by omega) (by omega)]
    exact ih k (i + 1) _ (by simp [hc]) (by omega) (by omega)
theorem spoil_is (l : List Int) (hn : l.length ≤ 140737488355328) (k : Nat) (hk : l.length < k) : ∃ r, transeptplain_Spoil.f k l = some r := spoil_ends l.length hn l.length k 0 l rfl (by omega) hk
theorem FramesOwn (a0 : Int) (l1 : List Int) (wf0 : (Lit.int .u8 a0).wf = true ∧ l1.length ≤ maxLen ∧ ∀ x ∈ l1, (Lit.int .u8 x).wf = true) (z0 : True ∧ l1.length * 1 ≤ 140737488351232 ∧ ∀ x ∈ l1, True) :
    ∃ k, transeptlaw03_FramesOwn.f k a0 l1 = some true := by
  have hk := octs_wf (l := [a0]) (by simpa using wf0.1) a0 (by simp)
  have hl := octs_wf wf0.2.2
  have hz := z0.2.1
  refine ⟨l1.length + 4096 + 20, ?_⟩
  unfold transeptlaw03_FramesOwn.f
  rw [alive03, Option.bind_some, if_pos rfl]
  unfold transeptplain_CopyBytes.f
  rw [if_pos (by simp; omega), Option.bind_some, List.nil_append]
  by_cases h : l1.length ≤ 4096
  · rw [seal_is a0 hk l1 hl h, Option.bind_some]
    unfold transeptlaw03_num.f
    rw [Option.bind_some, if_pos rfl]
    obtain ⟨r, hr⟩ := spoil_is l1 (by omega) (l1.length + 4096 + 20) (by omega)
    obtain ⟨q, hq⟩ := spoil_is (sealOf a0 l1) (by rw [sealOf_length]; omega) (l1.length + 4096 + 20) (by rw [sealOf_length]; omega)
    rw [hr, Option.bind_some, open_is _ (sealOf_octs a0 hk l1 hl) (by rw [sealOf_length]; omega) _ (by omega), Option.bind_some, hq, Option.bind_some, openOf_seal0 a0 l1 h, Option.bind_some, if_pos rfl]
    unfold transeptlaw03_same.f
    rw [if_pos rfl, same_is l1 l1 (by omega) _ (by omega), Option.bind_some]
    simp
  · rw [seal_long a0 l1 (by omega), Option.bind_some]
    unfold transeptlaw03_num.f
    rw [Option.bind_some, if_neg (by decide)]
    rfl
end Go.Proofs.Ythphelbkfgbejaa.Pure
