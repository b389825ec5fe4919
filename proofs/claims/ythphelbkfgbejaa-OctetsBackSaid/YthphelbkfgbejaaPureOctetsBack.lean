/- What is proved: the plain half of OctetsBack: a number comes back from its octets; octets turned twice are what they were, and weigh as much turned once. Conditions: none beyond the kinds' bounds. -/
import Derived.Test.YthphelbkfgbejaaQ25
import Derived.Test.YthphelbkfgbejaaKit
import Derived.Test.YthphelbkfgbejaaPlSame
import Derived.Test.YthphelbkfgbejaaPlOct
import Derived.Test.YthphelbkfgbejaaPlOctB
namespace Go.Proofs.Ythphelbkfgbejaa.Pure
open Go.RowKit Go.Proofs.Ythphelbkfgbejaa.Q Go.Proofs.YthphelbkfgbejaaW.PrintWords Go.Proofs.YthphelbkfgbejaaW.PrintLast
theorem OctetsBack : transeptlaw01_OctetsBack.Pure := by
  intro a0 a1 l2 h0 h1 hm hn hw
  have h0 := wf_u64 h0
  have h1 := wf_i64 h1
  have hl := octs_wf hw
  refine ⟨l2.length + 20, ?_⟩
  unfold transeptlaw01_OctetsBack.f
  rw [alive01 _ (by omega)]
  simp only [Option.bind_some, if_true]
  have ht := turn_octs l2 hl
  have htl : (l2.reverse.map revOf).length = l2.length := by simp
  rw [turn_is l2 hl (by omega)]
  simp only [Option.bind_some]
  rw [turn_is _ ht (by omega), turn_turn l2 hl]
  simp only [Option.bind_some]
  rw [same_is _ _ (by omega) _ (by omega)]
  simp only [Option.bind_some, decide_true, if_true]
  rw [weight_is _ ht (by omega) _ (by omega), wt_turn l2 hl, weight_is _ hl (by omega) _ (by omega)]
  simp only [Option.bind_some, bne_self_eq_false]
  rw [show l2.length + 20 = (l2.length + 19) + 1 from rfl]
  simp only [transeptlaw01_OctetsBack.j0]
  rw [if_neg (by simp)]
  by_cases hbad : a1 < 1 ∨ a1 > 8 ∨ a0 ≥ 2 ^ (8 * a1.toNat)
  · rw [put_bad a0 a1 h0.1 h0.2 hbad]
    simp [transeptlaw01_num.f]
  · obtain ⟨size, rfl⟩ : ∃ s : Nat, a1 = (s : Int) := ⟨a1.toNat, by omega⟩
    have hs1 : 1 ≤ size := by omega
    have hs8 : size ≤ 8 := by omega
    have hlt : a0 < 2 ^ (8 * size) := by
      rcases Int.lt_or_le a0 (2 ^ (8 * size)) with h | h
      · exact h
      · exact absurd (.inr (.inr (by simpa using h))) hbad
    rw [put_ok a0 h0.1 h0.2 size hs1 hs8 hlt]
    simp only [Option.bind_some, transeptlaw01_num.f, if_true]
    have hlen : (beOf a0 (shiftsOf size)).length = size := by rw [beOf_length, shiftsOf_length]
    rw [get_is _ (be_octs _ _) (by omega) (by omega) _ (by omega), back_put a0 h0.1 size hs8 hlt]
    simp only [Option.bind_some, if_true]
    rw [hlen]
    simp
end Go.Proofs.Ythphelbkfgbejaa.Pure
