-- (thinned for this claim by wip/tools/shake.py: what the claim doesn't use is left out)
import Derived.Test.YtooabchnbmnchaaQ1
import Derived.Test.YtooabchnbmnchaaKit
import Derived.Test.YtooabchnbmnchaaPlNode
namespace Go.Proofs.Ytooabchnbmnchaa.Q
open Go.RowKit Go.Proofs.YtooabchnbmnchaaW.PrintWords Go.Proofs.YtooabchnbmnchaaW.PrintLast Go.Proofs.YtooabchnbmnchaaW.PrintMore
set_option linter.unusedVariables false
set_option linter.unusedSimpArgs false
def sumK (l : List ByteArray) : Nat := (l.map fun k => 1 + k.size).sum
def sumV (l : List ByteArray) : Nat := (l.map fun k => k.size).sum
theorem sumK_le (l : List ByteArray) (h : ∀ x ∈ l, x.size ≤ 32) : sumK l ≤ 33 * l.length := by
  induction l with
  | nil => simp [sumK]
  | cons x l ih =>
    have := ih (fun y hy => h y (by simp [hy]))
    have := h x (by simp)
    simp only [sumK, List.map_cons, List.sum_cons, List.length_cons] at *
    omega
theorem szk_cons (x : ByteArray) (l : List ByteArray) (a : Int) : szk (x :: l) a = szk l (wrap64 (a + wrap64 (1 + (x.size : Int)))) := rfl
theorem szv_cons (x : ByteArray) (l : List ByteArray) (a : Int) : szv (x :: l) a = szv l (wrap64 (a + (x.size : Int))) := rfl
theorem szk_is : ∀ (l : List ByteArray) (a : Nat), (∀ x ∈ l, x.size ≤ 32) → a + 33 * l.length ≤ 1000000000000000 → szk l (a : Int) = ((a + sumK l : Nat) : Int) := by
  intro l
  induction l with
  | nil => intro a _ _; simp [szk, sumK]
  | cons x l ih =>
    intro a h hb
    have hx := h x (by simp)
    rw [List.length_cons] at hb
    rw [szk_cons, wrap64_id (x := 1 + (x.size : Int)) (by omega) (by omega), wrap64_id (by omega) (by omega), show (a : Int) + (1 + (x.size : Int)) = ((a + (1 + x.size) : Nat) : Int) by omega, ih _ (fun y hy => h y (by simp [hy])) (by omega)]
    simp only [sumK, List.map_cons, List.sum_cons]
    omega
theorem szv_is : ∀ (l : List ByteArray) (a : Nat), (∀ x ∈ l, x.size ≤ 64) → a + 64 * l.length ≤ 1000000000000000 → szv l (a : Int) = ((a + sumV l : Nat) : Int) := by
  intro l
  induction l with
  | nil => intro a _ _; simp [szv, sumV]
  | cons x l ih =>
    intro a h hb
    have hx := h x (by simp)
    rw [List.length_cons] at hb
    rw [szv_cons, wrap64_id (by omega) (by omega), show (a : Int) + (x.size : Int) = ((a + x.size : Nat) : Int) by omega, ih _ (fun y hy => h y (by simp [hy])) (by omega)]
    simp only [sumV, List.map_cons, List.sum_cons]
    omega
theorem size_leaf (ks vs : List ByteArray) (ds : List Int) (hk : ∀ x ∈ ks, x.size ≤ 32) (hv : ∀ x ∈ vs, x.size ≤ 64) (hl : vs.length = ks.length) (hn : ks.length ≤ 9000000000000) : node_Size.v true ks vs ds = ((2 + sumK ks + ks.length + sumV vs : Nat) : Int) := by
  unfold node_Size.v
  have h1 := sumK_le ks hk
  have := szk_is ks 2 hk (by omega)
  rw [show ((2 : Nat) : Int) = 2 from rfl] at this
  rw [if_pos rfl, this, wrap64_id (by omega) (by omega), show ((2 + sumK ks : Nat) : Int) + (ks.length : Int) = ((2 + sumK ks + ks.length : Nat) : Int) by omega, List.take_of_length_le (by omega), szv_is vs _ hv (by omega)]
theorem size_inner (ks vs : List ByteArray) (ds : List Int) (hk : ∀ x ∈ ks, x.size ≤ 32) (hn : ks.length ≤ 9000000000000) (hd : ds.length ≤ 18000000000000) : node_Size.v false ks vs ds = ((2 + sumK ks + 4 * ds.length : Nat) : Int) := by
  unfold node_Size.v
  have h1 := sumK_le ks hk
  have := szk_is ks 2 hk (by omega)
  rw [show ((2 : Nat) : Int) = 2 from rfl] at this
  rw [if_neg (by decide), this, wrap64_id (x := 4 * (ds.length : Int)) (by omega) (by omega), wrap64_id (by omega) (by omega)]
  omega
end Go.Proofs.Ytooabchnbmnchaa.Q
