import Derived.Test.YthphelbkfgbejaaQ24
import Derived.Test.YthphelbkfgbejaaQ13
import Derived.Test.YthphelbkfgbejaaQ8
import Derived.Test.YthphelbkfgbejaaQ11
import Derived.Test.YthphelbkfgbejaaQ1
import Derived.Test.YthphelbkfgbejaaQ2
import Derived.Test.YthphelbkfgbejaaKit
import Derived.Test.YthphelbkfgbejaaPlSame
namespace Go.Proofs.Ythphelbkfgbejaa.Q
open Go.RowKit Go.Proofs.YthphelbkfgbejaaW.PrintWords Go.Proofs.YthphelbkfgbejaaW.PrintLast Go.Proofs.YthphelbkfgbejaaW.PrintMore
set_option linter.unusedVariables false
set_option linter.unusedSimpArgs false

/-- how many bits of an octet are 1 -/
def pop8 (x : Int) : Int := (bits_OnesCount8.f x).getD 0
set_option maxRecDepth 100000 in
theorem pop8_all : ∀ x : Fin 256, (bits_OnesCount8.f (x.val : Int)).isSome = true ∧ 0 ≤ pop8 (x.val : Int) ∧ pop8 (x.val : Int) ≤ 8 ∧ 0 ≤ revOf (x.val : Int) ∧ revOf (x.val : Int) < 256 ∧ revOf (revOf (x.val : Int)) = (x.val : Int) ∧ pop8 (revOf (x.val : Int)) = pop8 (x.val : Int) := by
  unfold pop8 revOf
  decide +kernel
theorem pop8_is (x : Int) (h0 : 0 ≤ x) (h1 : x < 256) : bits_OnesCount8.f x = some (pop8 x) ∧ 0 ≤ pop8 x ∧ pop8 x ≤ 8 := by
  obtain ⟨n, rfl⟩ := Int.eq_ofNat_of_zero_le h0
  have h := pop8_all ⟨n, by omega⟩
  refine ⟨?_, h.2.1, h.2.2.1⟩
  have := h.1
  unfold pop8
  simp only at this
  cases hq : bits_OnesCount8.f (n : Int) with
  | none => rw [hq] at this; cases this
  | some v => rfl
theorem revOf_is (x : Int) (h0 : 0 ≤ x) (h1 : x < 256) : 0 ≤ revOf x ∧ revOf x < 256 ∧ revOf (revOf x) = x ∧ pop8 (revOf x) = pop8 x := by
  obtain ⟨n, rfl⟩ := Int.eq_ofNat_of_zero_le h0
  have h := pop8_all ⟨n, by omega⟩
  exact ⟨h.2.2.2.1, h.2.2.2.2.1, h.2.2.2.2.2.1, h.2.2.2.2.2.2⟩
/-- the weight of octets -/
def wt : List Int → Int
  | [] => 0
  | x :: l => pop8 x + wt l
theorem wt_bound (l : List Int) (h : Octs l) : 0 ≤ wt l ∧ wt l ≤ 8 * l.length := by
  induction l with
  | nil => simp [wt]
  | cons x l ih =>
    have h1 := pop8_is x (h x (by simp)).1 (h x (by simp)).2
    have h2 := ih (fun y hy => h y (by simp [hy]))
    simp only [wt, List.length_cons]
    push_cast
    omega
theorem wt_append (a b : List Int) : wt (a ++ b) = wt a + wt b := by
  induction a with
  | nil => simp [wt]
  | cons x a ih => simp only [List.cons_append, wt, ih]; omega
theorem weight_loop (l : List Int) (hl : Octs l) (hn : l.length ≤ 140737488355328) : ∀ (d k i : Nat), i + d = l.length → d < k →
    octets_Weight.l0 k (wt (l.take i)) l (l.length : Int) (i : Int) = some (wt l) := by
  intro d
  induction d with
  | zero =>
    intro k i hi hk
    obtain ⟨k, rfl⟩ : ∃ m, k = m + 1 := ⟨k - 1, by omega⟩
    simp only [octets_Weight.l0]
    rw [if_neg (by omega), List.take_of_length_le (by omega)]
  | succ d ih =>
    intro k i hi hk
    obtain ⟨k, rfl⟩ : ∃ m, k = m + 1 := ⟨k - 1, by omega⟩
    have h1 : i < l.length := by omega
    have hx := hl l[i] (List.getElem_mem h1)
    have hp := pop8_is l[i] hx.1 hx.2
    have hb := wt_bound (l.take i) (hl.take i)
    have hlen : (l.take i).length = i := by simp; omega
    rw [hlen] at hb
    simp only [octets_Weight.l0]
    rw [if_pos (by omega), if_pos (by omega), if_pos (by omega), rd_nat l i h1, hp.1]
    simp only [Option.bind_some]
    rw [wrap64_id (by omega) (by omega), wrap64_id (by omega) (by omega)]
    have := ih k (i + 1) (by omega) (by omega)
    rw [List.take_succ_eq_append_getElem h1, wt_append] at this
    simp only [wt, Int.add_zero] at this
    exact this
theorem weight_is (l : List Int) (hl : Octs l) (hn : l.length ≤ 140737488355328) (k : Nat) (hk : l.length < k) : octets_Weight.f k l = some (wt l) :=
  weight_loop l hl hn l.length k 0 (by omega) hk
theorem turn_is (l : List Int) (hl : Octs l) (hn : l.length ≤ 140737488355327) : octets_Turn.f l = some (l.reverse.map revOf) := by
  unfold octets_Turn.f
  rw [if_pos ⟨hn, hl⟩]
theorem turn_octs (l : List Int) (hl : Octs l) : Octs (l.reverse.map revOf) := by
  intro x hx
  obtain ⟨y, hy, rfl⟩ := List.mem_map.mp hx
  have h := hl.rev y hy
  have := revOf_is y h.1 h.2
  omega
theorem turn_turn (l : List Int) (hl : Octs l) : (l.reverse.map revOf).reverse.map revOf = l := by
  rw [← List.map_reverse, List.reverse_reverse, List.map_map]
  conv => rhs; rw [← List.map_id l]
  apply List.map_congr_left
  intro x hx
  have := hl x hx
  exact (revOf_is x this.1 this.2).2.2.1
theorem wt_turn (l : List Int) (hl : Octs l) : wt (l.reverse.map revOf) = wt l := by
  induction l with
  | nil => rfl
  | cons x l ih =>
    have hx := hl x (by simp)
    rw [List.reverse_cons, List.map_append, wt_append, ih (fun y hy => hl y (by simp [hy]))]
    simp only [List.map_cons, List.map_nil, wt]
    have := (revOf_is x hx.1 hx.2).2.2.2
    omega

end Go.Proofs.Ythphelbkfgbejaa.Q
