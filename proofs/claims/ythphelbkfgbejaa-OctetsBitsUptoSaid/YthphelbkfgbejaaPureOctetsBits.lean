/- What is proved: the plain half of OctetsBits: the package's octets answer as the page does. Conditions: the arguments' measure is at most 1048576. -/
import Derived.Test.YthphelbkfgbejaaQ28
import Derived.Test.YthphelbkfgbejaaKit
import Derived.Test.YthphelbkfgbejaaPlSame
import Derived.Test.YthphelbkfgbejaaPlOct
import Derived.Test.YthphelbkfgbejaaPlOctB
import Derived.Test.YthphelbkfgbejaaPlCut
import Derived.Test.YthphelbkfgbejaaPlApart
import Derived.Test.YthphelbkfgbejaaPlBits
namespace Go.Proofs.Ythphelbkfgbejaa.Pure
open Go.RowKit Go.Proofs.Ythphelbkfgbejaa.Q Go.Proofs.YthphelbkfgbejaaW.PrintWords Go.Proofs.YthphelbkfgbejaaW.PrintLast
theorem copy_is (l : List Int) (h : l.length ≤ 1048576) : transeptplain_CopyBytes.f l = some l := by
  unfold transeptplain_CopyBytes.f
  rw [if_pos (by simp; omega)]; rfl
theorem cut_both (l : List Int) (hl : l.length ≤ 1048576) (a : Int) (k : Nat) (hk : l.length + 1 < k) : ∃ r : List (List Int) × Int, octets_Cut.f k l a = some r ∧ transeptref01_Cut.f k l a = some r ∧ (∀ x ∈ r.1, x.length ≤ 1048576) ∧ r.1.length ≤ 1048576 := by
  by_cases hb : a < 1 ∨ a > 65536
  · exact ⟨_, cut_bad a hb l k (by omega), refCut_bad l a hb k (by omega), by simp, by simp⟩
  · obtain ⟨size, rfl⟩ : ∃ s : Nat, a = (s : Int) := ⟨a.toNat, by omega⟩
    refine ⟨_, cut_is size (by omega) (by omega) l hl k hk, refCut_is l size (by omega) (by omega) hl k hk, ?_, ?_⟩
    · intro x hx
      obtain ⟨i, hi, rfl⟩ := List.getElem_of_mem hx
      have := (pieces_at size (by omega) l.length l (Nat.le_refl _) i hi).2.1
      simp only at this ⊢
      omega
    · have := pieces_length size (by omega) l.length l (Nat.le_refl _)
      simp only; omega
theorem apart_both (a b : List Int) (ha : Octs a) (hb : Octs b) (hn : a.length ≤ 1048576) (k : Nat) (hk : 8 * a.length < k) : ∃ r : Int × Int, octets_Apart.f k a b = some r ∧ transeptref01_Apart.f k a b = some r := by
  by_cases h : a.length = b.length
  · exact ⟨_, apart_is a b ha hb h (by omega) k (by omega), refApart_is a b ha hb h hn k hk⟩
  · refine ⟨(0, 3), ?_, ?_⟩
    · unfold octets_Apart.f; rw [if_neg (by omega)]
    · unfold transeptref01_Apart.f; rw [if_neg (by omega)]
theorem OctetsBits (l0 l1 : List Int) (a2 : Int) (wf0 : l0.length ≤ maxLen ∧ ∀ x ∈ l0, (Lit.int .u8 x).wf = true) (wf1 : l1.length ≤ maxLen ∧ ∀ x ∈ l1, (Lit.int .u8 x).wf = true) (wf2 : (Lit.int .i64 a2).wf = true) (hmu : (1 + (l0.map (fun _ => 1)).sum) + (1 + (l1.map (fun _ => 1)).sum) + 1 ≤ 1048576) :
    ∃ k, transeptlaw01_OctetsBits.f k l0 l1 a2 = some true := by
  rw [sum_ones, sum_ones] at hmu
  have h0 : Octs l0 := octs_wf wf0.2
  have h1 : Octs l1 := octs_wf wf1.2
  refine ⟨9 * l0.length + 1048578 + 1048578 + 9 * l1.length + 20, ?_⟩
  obtain ⟨r, e1, e2⟩ := apart_both l0 l1 h0 h1 (by omega) (9 * l0.length + 1048578 + 1048578 + 9 * l1.length + 20) (by omega)
  obtain ⟨q, e3, e4, e5, e6⟩ := cut_both l0 (by omega) a2 (9 * l0.length + 1048578 + 1048578 + 9 * l1.length + 20) (by omega)
  unfold transeptlaw01_OctetsBits.f
  rw [copy_is l0 (by omega), copy_is l1 (by omega)]
  simp only [Option.bind_some, transeptlaw01_num.f]
  rw [e1, e2, e3, e4, turn_is l0 h0 (by omega), refTurn_is l0 h0 (by omega) _ (by omega)]
  simp only [Option.bind_some]
  rw [same_is _ _ (by simp; omega) _ (by simp; omega)]
  simp only [Option.bind_some, decide_true, if_true]
  rw [weight_is l0 h0 (by omega) _ (by omega), refWeight_is l0 h0 (by omega) _ (by omega)]
  simp only [Option.bind_some, if_true]
  rw [sameLists_is q.1 e5 e6 _ (by omega)]
  simp only [Option.bind_some, if_true]
  rw [same_is l0 l0 (by omega) _ (by omega), same_is l1 l1 (by omega) _ (by omega)]
  simp only [Option.bind_some, decide_true, if_true]
  rw [alive01 _ (by omega)]
  rfl
end Go.Proofs.Ythphelbkfgbejaa.Pure
