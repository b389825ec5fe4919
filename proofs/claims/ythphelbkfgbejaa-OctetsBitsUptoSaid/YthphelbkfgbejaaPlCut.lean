import Derived.Test.YthphelbkfgbejaaQ15
import Derived.Test.YthphelbkfgbejaaKit
namespace Go.Proofs.Ythphelbkfgbejaa.Q
open Go.RowKit Go.Proofs.YthphelbkfgbejaaW.PrintWords Go.Proofs.YthphelbkfgbejaaW.PrintLast Go.Proofs.YthphelbkfgbejaaW.PrintMore
set_option linter.unusedVariables false
set_option linter.unusedSimpArgs false

/-- octets in pieces of a size -/
def piecesOf (size : Nat) : Nat → List Int → List (List Int)
  | 0, _ => []
  | d + 1, l => if l = [] then [] else l.take size :: piecesOf size d (l.drop size)
theorem mn_nat (a b : Nat) : mn (a : Int) (b : Int) = ((min a b : Nat) : Int) := by unfold mn; omega
theorem clone_is (l : List Int) (h : l.length ≤ 140737488355327) : bytes_Clone.f l = some l := by unfold bytes_Clone.f; rw [if_pos h]
theorem cut_loop (size : Nat) (hs : 1 ≤ size) : ∀ (d k : Nat) (l : List Int) (acc : List (List Int)), l.length ≤ d → d < k → l.length ≤ 1048576 → acc.length + l.length ≤ 1048576 →
    octets_Cut.l0 k l (size : Int) acc = some (acc ++ piecesOf size d l, 0) := by
  intro d
  induction d with
  | zero =>
    intro k l acc hl hk hb hb2
    obtain ⟨k, rfl⟩ : ∃ m, k = m + 1 := ⟨k - 1, by omega⟩
    simp only [octets_Cut.l0]
    rw [if_neg (by omega)]
    simp [piecesOf]
  | succ d ih =>
    intro k l acc hl hk hb hb2
    obtain ⟨k, rfl⟩ : ∃ m, k = m + 1 := ⟨k - 1, by omega⟩
    simp only [octets_Cut.l0]
    by_cases he : l = []
    · subst he
      rw [if_neg (by simp)]
      simp [piecesOf]
    · have hp : 0 < l.length := List.length_pos_iff.mpr he
      rw [if_pos (by omega), mn_nat, if_pos (by omega), if_pos (by omega)]
      simp only [Int.toNat_natCast]
      have e1 : l.take (min size l.length) = l.take size := by
        rcases Nat.le_total size l.length with h | h
        · rw [Nat.min_eq_left h]
        · rw [Nat.min_eq_right h, List.take_of_length_le (Nat.le_refl _), List.take_of_length_le h]
      have e2 : l.drop (min size l.length) = l.drop size := by
        rcases Nat.le_total size l.length with h | h
        · rw [Nat.min_eq_left h]
        · rw [Nat.min_eq_right h, List.drop_of_length_le (Nat.le_refl _), List.drop_of_length_le h]
      rw [e1, e2, clone_is _ (by simp; omega)]
      simp only [Option.bind_some]
      rw [if_pos (by omega)]
      rw [ih k (l.drop size) (acc ++ [l.take size]) (by simp; omega) (by omega) (by simp; omega) (by simp; omega)]
      simp [piecesOf, he]
theorem cut_is (size : Nat) (hs : 1 ≤ size) (hs2 : size ≤ 65536) (l : List Int) (hl : l.length ≤ 1048576) (k : Nat) (hk : l.length + 1 < k) :
    octets_Cut.f k l (size : Int) = some (piecesOf size l.length l, 0) := by
  unfold octets_Cut.f
  rw [if_neg (by omega)]
  obtain ⟨k, rfl⟩ : ∃ m, k = m + 1 := ⟨k - 1, by omega⟩
  simp only [octets_Cut.j0]
  rw [if_neg (by simp; omega)]
  rw [cut_loop size hs l.length k l [] (Nat.le_refl _) (by omega) hl (by simpa using hl)]
  simp
theorem cut_bad (size : Int) (hb : size < 1 ∨ size > 65536) (l : List Int) (k : Nat) (hk : 0 < k) : octets_Cut.f k l size = some ([], 4) := by
  unfold octets_Cut.f
  obtain ⟨k, rfl⟩ : ∃ m, k = m + 1 := ⟨k - 1, by omega⟩
  by_cases h : size < 1
  · rw [if_pos h]
    simp [octets_Cut.j0]
  · rw [if_neg h]
    simp only [octets_Cut.j0]
    rw [if_pos (by simp; omega)]
theorem pieces_flat (size : Nat) (hs : 1 ≤ size) : ∀ (d : Nat) (l : List Int), l.length ≤ d → (piecesOf size d l).flatten = l := by
  intro d
  induction d with
  | zero => intro l hl; have : l = [] := List.eq_nil_of_length_eq_zero (by omega); subst this; rfl
  | succ d ih =>
    intro l hl
    by_cases he : l = []
    · subst he; simp [piecesOf]
    · have hp : 0 < l.length := List.length_pos_iff.mpr he
      simp only [piecesOf, he, if_false, List.flatten_cons]
      rw [ih (l.drop size) (by simp; omega), List.take_append_drop]
/-- each piece but the last has the size; the last has at least one -/
theorem pieces_at (size : Nat) (hs : 1 ≤ size) : ∀ (d : Nat) (l : List Int), l.length ≤ d → ∀ (i : Nat) (h : i < (piecesOf size d l).length),
    1 ≤ ((piecesOf size d l)[i]).length ∧ ((piecesOf size d l)[i]).length ≤ size ∧ (i + 1 < (piecesOf size d l).length → ((piecesOf size d l)[i]).length = size) := by
  intro d
  induction d with
  | zero => intro l hl i h; simp [piecesOf] at h
  | succ d ih =>
    intro l hl i h
    by_cases he : l = []
    · subst he; simp [piecesOf] at h
    · have hp : 0 < l.length := List.length_pos_iff.mpr he
      have e : piecesOf size (d + 1) l = l.take size :: piecesOf size d (l.drop size) := by simp [piecesOf, he]
      simp only [e] at h ⊢
      rcases i with _ | i
      · simp only [List.getElem_cons_zero, List.length_take, List.length_cons]
        refine ⟨by omega, by omega, fun hlt => ?_⟩
        rcases Nat.lt_or_ge l.length size with hh | hh
        · have : l.drop size = [] := List.drop_of_length_le (by omega)
          rw [this] at hlt
          cases d <;> simp [piecesOf] at hlt
        · omega
      · simp only [List.getElem_cons_succ, List.length_cons] at h ⊢
        have := ih (l.drop size) (by simp; omega) i (by omega)
        exact ⟨this.1, this.2.1, fun hlt => this.2.2 (by omega)⟩
theorem pieces_length (size : Nat) (hs : 1 ≤ size) : ∀ (d : Nat) (l : List Int), l.length ≤ d → (piecesOf size d l).length ≤ l.length := by
  intro d
  induction d with
  | zero => intro l hl; simp [piecesOf]
  | succ d ih =>
    intro l hl
    by_cases he : l = []
    · subst he; simp [piecesOf]
    · have hp : 0 < l.length := List.length_pos_iff.mpr he
      simp only [piecesOf, he, if_false, List.length_cons]
      have := ih (l.drop size) (by simp; omega)
      simp at this
      omega

end Go.Proofs.Ythphelbkfgbejaa.Q
