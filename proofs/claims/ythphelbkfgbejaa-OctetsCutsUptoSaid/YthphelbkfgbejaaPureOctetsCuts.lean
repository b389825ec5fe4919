/- What is proved: the plain half of OctetsCuts: the pieces, one behind the other, are the octets; all but the last have the size. Conditions: the arguments' measure is at most 1048576. -/
import Derived.Test.YthphelbkfgbejaaQ16
import Derived.Test.YthphelbkfgbejaaKit
import Derived.Test.YthphelbkfgbejaaPlSame
import Derived.Test.YthphelbkfgbejaaPlOctB
import Derived.Test.YthphelbkfgbejaaPlCut
namespace Go.Proofs.Ythphelbkfgbejaa.Pure
open Go.RowKit Go.Proofs.Ythphelbkfgbejaa.Q Go.Proofs.YthphelbkfgbejaaW.PrintWords Go.Proofs.YthphelbkfgbejaaW.PrintLast
theorem rdL_nat (l : List (List Int)) (i : Nat) (h : i < l.length) : rd_L1 l (i : Int) = l[i] := by
  unfold rd_L1
  rw [show ((i : Int)).toNat = i from by omega, List.getD_eq_getElem?_getD, List.getElem?_eq_getElem h]; rfl
theorem cuts_loop (l0 : List Int) (size : Nat) (hs : 1 ≤ size) (hl : l0.length ≤ 1048576) (ps : List (List Int)) (hps : ps = piecesOf size l0.length l0) : ∀ (d k i : Nat), i + d = ps.length → d + l0.length + 1 < k →
    transeptlaw01_OctetsCuts.l0 k l0 (size : Int) ps (ps.take i).flatten (i : Int) = some true := by
  have hflat : ps.flatten = l0 := by rw [hps]; exact pieces_flat size hs l0.length l0 (Nat.le_refl _)
  have hpl : ps.length ≤ l0.length := by rw [hps]; exact pieces_length size hs l0.length l0 (Nat.le_refl _)
  intro d
  induction d with
  | zero =>
    intro k i hi hk
    obtain ⟨k, rfl⟩ : ∃ m, k = m + 1 := ⟨k - 1, by omega⟩
    simp only [transeptlaw01_OctetsCuts.l0]
    rw [if_neg (by omega), List.take_of_length_le (by omega), hflat, same_is l0 l0 (by omega) k (by omega)]
    simp
  | succ d ih =>
    intro k i hi hk
    obtain ⟨k, rfl⟩ : ∃ m, k = m + 1 := ⟨k - 1, by omega⟩
    have h1 : i < ps.length := by omega
    have hat : 1 ≤ ps[i].length ∧ ps[i].length ≤ size ∧ (i + 1 < ps.length → ps[i].length = size) := by
      subst hps
      exact pieces_at size hs l0.length l0 (Nat.le_refl _) i h1
    have hacc : (ps.take i).flatten.length + ps[i].length ≤ l0.length := by
      have e : (ps.take (i + 1)).flatten = (ps.take i).flatten ++ ps[i] := by
        rw [List.take_succ_eq_append_getElem h1, List.flatten_append]; simp only [List.flatten_cons, List.flatten_nil, List.append_nil]
      have : (ps.take (i + 1)).flatten.length ≤ ps.flatten.length := by
        conv => rhs; rw [← List.take_append_drop (i + 1) ps, List.flatten_append, List.length_append]
        omega
      rw [e, List.length_append, hflat] at this
      exact this
    have next := ih k (i + 1) (by omega) (by omega)
    rw [List.take_succ_eq_append_getElem h1, List.flatten_append] at next
    simp only [List.flatten_cons, List.flatten_nil, List.append_nil] at next
    simp only [transeptlaw01_OctetsCuts.l0]
    rw [if_pos (by omega), if_pos (by omega), rdL_nat ps i h1, if_neg (by omega), if_neg (by omega)]
    rw [wrap64_id (x := (ps.length : Int) - 1) (by omega) (by omega), wrap64_id (x := (i : Int) + 1) (by omega) (by omega)]
    by_cases hlast : (i : Int) < (ps.length : Int) - 1
    · rw [if_pos hlast, if_pos (by have := hat.2.2 (by omega); omega), if_pos (by omega)]
      exact next
    · rw [if_neg hlast, if_pos (by omega)]
      exact next
theorem OctetsCuts (l0 : List Int) (a1 : Int) (wf0 : l0.length ≤ maxLen ∧ ∀ x ∈ l0, (Lit.int .u8 x).wf = true) (wf1 : (Lit.int .i64 a1).wf = true) (hmu : (1 + (l0.map (fun _ => 1)).sum) + 1 ≤ 1048576) :
    ∃ k, transeptlaw01_OctetsCuts.f k l0 a1 = some true := by
  rw [sum_ones] at hmu
  refine ⟨l0.length + l0.length + 20, ?_⟩
  unfold transeptlaw01_OctetsCuts.f
  rw [alive01 _ (by omega)]
  simp only [Option.bind_some, if_true]
  by_cases hb : a1 < 1 ∨ a1 > 65536
  · rw [cut_bad a1 hb l0 _ (by omega)]
    simp only [Option.bind_some, transeptlaw01_num.f]
    rw [if_neg (by decide), if_pos (by simp)]
    by_cases h : a1 < 1
    · rw [if_pos h]
    · rw [if_neg h]
      simp only [Option.some.injEq, decide_eq_true_eq]
      omega
  · obtain ⟨size, rfl⟩ : ∃ s : Nat, a1 = (s : Int) := ⟨a1.toNat, by omega⟩
    rw [cut_is size (by omega) (by omega) l0 (by omega) _ (by omega)]
    simp only [Option.bind_some, transeptlaw01_num.f, if_true]
    have hpl := pieces_length size (by omega) l0.length l0 (Nat.le_refl _)
    have := cuts_loop l0 size (by omega) (by omega) _ rfl (piecesOf size l0.length l0).length (l0.length + l0.length + 20) 0 (by omega) (by omega)
    simpa using this
end Go.Proofs.Ythphelbkfgbejaa.Pure
