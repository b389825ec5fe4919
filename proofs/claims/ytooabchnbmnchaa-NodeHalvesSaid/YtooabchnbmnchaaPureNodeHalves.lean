-- (thinned for this claim by wip/tools/shake.py: what the claim doesn't use is left out)
/- What is proved: the plain half of NodeHalves: the halves of a node that is split have all its keys, in order; each may be. Conditions: none beyond the kinds' bounds and what one argument can hold. -/
import Derived.Test.YtooabchnbmnchaaQ33
import Derived.Test.YtooabchnbmnchaaKit
import Derived.Test.YtooabchnbmnchaaPlNode
import Derived.Test.YtooabchnbmnchaaPlAlive9
import Derived.Test.YtooabchnbmnchaaPlSplit
namespace Go.Proofs.Ytooabchnbmnchaa.Pure
open Go.RowKit Go.Proofs.Ytooabchnbmnchaa.Q Go.Proofs.YtooabchnbmnchaaW.PrintWords Go.Proofs.YtooabchnbmnchaaW.PrintLast
def sumK (l : List ByteArray) : Nat := (l.map fun k => 1 + k.size).sum
def sumV (l : List ByteArray) : Nat := (l.map fun k => k.size).sum
theorem sumK_le (l : List ByteArray) (h : ∀ x ∈ l, x.size ≤ 32) : sumK l ≤ 33 * l.length := by
  induction l with
  | nil => simp [sumK]
  | cons x l ih =>
    have := ih (fun y hy => h y (by simp [hy]))
    have := h x (by simp)
    simp only [sumK, List.map_cons, List.sum_cons, List.length_cons] at *
    omega
theorem szk_cons (x : ByteArray) (l : List ByteArray) (a : Int) : szk (x :: l) a = szk l (wrap64 (a + wrap64 (1 + (x.size : Int)))) := rfl
theorem szv_cons (x : ByteArray) (l : List ByteArray) (a : Int) : szv (x :: l) a = szv l (wrap64 (a + (x.size : Int))) := rfl
theorem szk_is : ∀ (l : List ByteArray) (a : Nat), (∀ x ∈ l, x.size ≤ 32) → a + 33 * l.length ≤ 1000000000000000 → szk l (a : Int) = ((a + sumK l : Nat) : Int) := by
  intro l
  induction l with
  | nil => intro a _ _; simp [szk, sumK]
  | cons x l ih =>
    intro a h hb
    have hx := h x (by simp)
    rw [List.length_cons] at hb
    rw [szk_cons, wrap64_id (x := 1 + (x.size : Int)) (by omega) (by omega), wrap64_id (by omega) (by omega), show (a : Int) + (1 + (x.size : Int)) = ((a + (1 + x.size) : Nat) : Int) by omega, ih _ (fun y hy => h y (by simp [hy])) (by omega)]
    simp only [sumK, List.map_cons, List.sum_cons]
    omega
theorem szv_is : ∀ (l : List ByteArray) (a : Nat), (∀ x ∈ l, x.size ≤ 64) → a + 64 * l.length ≤ 1000000000000000 → szv l (a : Int) = ((a + sumV l : Nat) : Int) := by
  intro l
  induction l with
  | nil => intro a _ _; simp [szv, sumV]
  | cons x l ih =>
    intro a h hb
    have hx := h x (by simp)
    rw [List.length_cons] at hb
    rw [szv_cons, wrap64_id (by omega) (by omega), show (a : Int) + (x.size : Int) = ((a + x.size : Nat) : Int) by omega, ih _ (fun y hy => h y (by simp [hy])) (by omega)]
    simp only [sumV, List.map_cons, List.sum_cons]
    omega
theorem size_leaf (ks vs : List ByteArray) (ds : List Int) (hk : ∀ x ∈ ks, x.size ≤ 32) (hv : ∀ x ∈ vs, x.size ≤ 64) (hl : vs.length = ks.length) (hn : ks.length ≤ 9000000000000) : node_Size.v true ks vs ds = ((2 + sumK ks + ks.length + sumV vs : Nat) : Int) := by
  unfold node_Size.v
  have h1 := sumK_le ks hk
  have := szk_is ks 2 hk (by omega)
  rw [show ((2 : Nat) : Int) = 2 from rfl] at this
  rw [if_pos rfl, this, wrap64_id (by omega) (by omega), show ((2 + sumK ks : Nat) : Int) + (ks.length : Int) = ((2 + sumK ks + ks.length : Nat) : Int) by omega, List.take_of_length_le (by omega), szv_is vs _ hv (by omega)]
theorem size_inner (ks vs : List ByteArray) (ds : List Int) (hk : ∀ x ∈ ks, x.size ≤ 32) (hn : ks.length ≤ 9000000000000) (hd : ds.length ≤ 18000000000000) : node_Size.v false ks vs ds = ((2 + sumK ks + 4 * ds.length : Nat) : Int) := by
  unfold node_Size.v
  have h1 := sumK_le ks hk
  have := szk_is ks 2 hk (by omega)
  rw [show ((2 : Nat) : Int) = 2 from rfl] at this
  rw [if_neg (by decide), this, wrap64_id (x := 4 * (ds.length : Int)) (by omega) (by omega), wrap64_id (by omega) (by omega)]
  omega
theorem sumK_part (l : List ByteArray) (n : Nat) : sumK (l.take n) + sumK (l.drop n) = sumK l := by
  unfold sumK; rw [← List.sum_append, ← List.map_append, List.take_append_drop]
theorem sumV_part (l : List ByteArray) (n : Nat) : sumV (l.take n) + sumV (l.drop n) = sumV l := by
  unfold sumV; rw [← List.sum_append, ← List.map_append, List.take_append_drop]
theorem sumK_drop_le (l : List ByteArray) (n m : Nat) (h : m ≤ n) : sumK (l.drop n) ≤ sumK (l.drop m) := by
  have := sumK_part (l.drop m) (n - m)
  rw [List.drop_drop, show m + (n - m) = n by omega] at this
  omega
theorem up_take {ks : List ByteArray} (h : Up ks) (n : Nat) : Up (ks.take n) := by
  intro i hi
  rw [List.length_take] at hi
  rw [List.getElem_take, List.getElem_take]
  exact h i (by omega)
theorem up_drop {ks : List ByteArray} (h : Up ks) (n : Nat) : Up (ks.drop n) := by
  intro i hi
  rw [List.length_drop] at hi
  rw [List.getElem_drop, List.getElem_drop]
  exact h (n + i) (by omega)
theorem half_leaf (ks vs : List ByteArray) (ds : List Int) (hn : ks.length ≤ 9000000000000) (h : NodeOk true ks vs ds) (n : Nat) : NodeOk true (ks.take n) (vs.take n) [] ∧ NodeOk true (ks.drop n) (vs.drop n) [] := by
  have hsh := h.shape
  unfold ShapeOk at hsh
  rw [if_pos rfl] at hsh
  have hk : ∀ x ∈ ks, x.size ≤ 32 := fun x hx => (h.keys x hx).2
  have hr := h.room
  rw [size_leaf ks vs ds hk h.vals hsh.1 hn] at hr
  have p1 := sumK_part ks n
  have p2 := sumV_part vs n
  refine ⟨⟨fun x hx => h.keys x (List.mem_of_mem_take hx), up_take h.up n, ?_, fun v hv => h.vals v (List.mem_of_mem_take hv), fun d hd => absurd hd (by simp), ?_⟩, ⟨fun x hx => h.keys x (List.mem_of_mem_drop hx), up_drop h.up n, ?_, fun v hv => h.vals v (List.mem_of_mem_drop hv), fun d hd => absurd hd (by simp), ?_⟩⟩
  · unfold ShapeOk; rw [if_pos rfl, List.length_take, List.length_take]; exact ⟨by omega, rfl⟩
  · rw [size_leaf _ _ _ (fun x hx => hk x (List.mem_of_mem_take hx)) (fun v hv => h.vals v (List.mem_of_mem_take hv)) (by rw [List.length_take, List.length_take]; omega) (by rw [List.length_take]; omega), List.length_take]
    omega
  · unfold ShapeOk; rw [if_pos rfl, List.length_drop, List.length_drop]; exact ⟨by omega, rfl⟩
  · rw [size_leaf _ _ _ (fun x hx => hk x (List.mem_of_mem_drop hx)) (fun v hv => h.vals v (List.mem_of_mem_drop hv)) (by rw [List.length_drop, List.length_drop]; omega) (by rw [List.length_drop]; omega), List.length_drop]
    omega
theorem half_inner (ks vs : List ByteArray) (ds : List Int) (hn : ks.length ≤ 8796093022207) (h : NodeOk false ks vs ds) (n : Nat) (h1 : 1 ≤ n) (h2 : n + 2 ≤ ks.length) : NodeOk false (ks.take n) [] (ds.take (n + 1)) ∧ NodeOk false (ks.drop (n + 1)) [] (ds.drop (n + 1)) := by
  have hsh := h.shape
  unfold ShapeOk at hsh
  rw [if_neg (by decide)] at hsh
  have hk : ∀ x ∈ ks, x.size ≤ 32 := fun x hx => (h.keys x hx).2
  have hr := h.room
  rw [size_inner ks vs ds hk (by omega) (by omega)] at hr
  have p1 := sumK_part ks n
  have p2 := sumK_drop_le ks (n + 1) n (by omega)
  refine ⟨⟨fun x hx => h.keys x (List.mem_of_mem_take hx), up_take h.up n, ?_, fun v hv => absurd hv (by simp), fun d hd => h.kids d (List.mem_of_mem_take hd), ?_⟩, ⟨fun x hx => h.keys x (List.mem_of_mem_drop hx), up_drop h.up _, ?_, fun v hv => absurd hv (by simp), fun d hd => h.kids d (List.mem_of_mem_drop hd), ?_⟩⟩
  · unfold ShapeOk; rw [if_neg (by decide), List.length_take, List.length_take]; exact ⟨rfl, by omega, by omega⟩
  · rw [size_inner _ _ _ (fun x hx => hk x (List.mem_of_mem_take hx)) (by rw [List.length_take]; omega) (by rw [List.length_take]; omega), List.length_take]
    omega
  · unfold ShapeOk; rw [if_neg (by decide), List.length_drop, List.length_drop]; exact ⟨rfl, by omega, by omega⟩
  · rw [size_inner _ _ _ (fun x hx => hk x (List.mem_of_mem_drop hx)) (by rw [List.length_drop]; omega) (by rw [List.length_drop]; omega), List.length_drop]
    omega
theorem NodeHalves (a0_0 : Bool) (l0_1 l0_2 : List ByteArray) (l0_3 : List Int)
    (wf0 : True ∧ (l0_1.length ≤ maxLen ∧ ∀ x ∈ l0_1, x.size ≤ maxLen) ∧ (l0_2.length ≤ maxLen ∧ ∀ x ∈ l0_2, x.size ≤ maxLen) ∧ (l0_3.length ≤ maxLen ∧ ∀ x ∈ l0_3, (Lit.int .i64 x).wf = true))
    (z0 : True ∧ (l0_1.length * 16 ≤ 140737488351232 ∧ ∀ x ∈ l0_1, x.size ≤ 140737488351232) ∧ (l0_2.length * 16 ≤ 140737488351232 ∧ ∀ x ∈ l0_2, x.size ≤ 140737488351232) ∧ (l0_3.length * 8 ≤ 140737488351232 ∧ ∀ x ∈ l0_3, True)) :
    ∃ k, transeptlaw09_NodeHalves.f k a0_0 l0_1 l0_2 l0_3 = some true := by
  have z1 := z0.2.1.1
  have z2 := z0.2.2.1.1
  have z3 := z0.2.2.2.1
  refine ⟨l0_1.length + l0_2.length + l0_3.length + 100 + 2, ?_⟩
  unfold transeptlaw09_NodeHalves.f
  rw [alive09 _ (by omega), Option.bind_some, if_pos rfl, of_is a0_0 l0_1 l0_2 l0_3 (by omega) (by omega) (by omega), Option.bind_some]
  simp only
  unfold transeptlaw09_num.f
  rcases split_is a0_0 l0_1 l0_2 l0_3 (by omega) (by omega) (by omega) (l0_1.length + l0_2.length + l0_3.length + 100 + 2) (by omega) with ⟨e, he, hs⟩ | ⟨hok, h2, hs⟩
  · rw [hs]
    simp only [Option.bind_some, noSplit]
    rw [if_neg he, if_pos (by decide +kernel), empty_beq]
    rfl
  · rw [hs]
    have hsh := hok.shape
    unfold ShapeOk at hsh
    unfold splitOf
    by_cases hl : a0_0 = true
    · subst hl
      rw [if_pos rfl] at hsh h2 ⊢
      obtain ⟨g1, g2⟩ := half_leaf l0_1 l0_2 l0_3 (by omega) hok (l0_1.length / 2)
      have hd0 : l0_3 = [] := List.length_eq_zero_iff.1 hsh.2
      simp only [Option.bind_some]
      rw [if_pos trivial, copyStr_is _ (by rw [List.length_take]; omega), Option.bind_some, if_pos trivial]
      simp only [transeptlaw09_NodeHalves.j0]
      rw [if_pos (by rw [List.length_take, List.length_drop]; omega), Option.bind_some, copyInt_is [] (by simp), Option.bind_some, if_pos (by simp), Option.bind_some, copyStr_is _ (by rw [List.length_take]; omega), Option.bind_some, if_pos (by rw [List.length_take, List.length_drop]; omega), Option.bind_some, List.take_append_drop, List.take_append_drop,
        check_ok _ _ _ _ (by rw [List.length_take]; omega) _ (by rw [List.length_take]; omega) g1, Option.bind_some]
      unfold transeptlaw09_num.f
      rw [Option.bind_some, if_pos rfl, check_ok _ _ _ _ (by rw [List.length_drop]; omega) _ (by rw [List.length_drop]; omega) g2, Option.bind_some, Option.bind_some]
      simp only [transeptlaw09_NodeHalves.j1]
      rw [if_neg (by decide), sameStr_is l0_1 (by omega) _ (by omega), Option.bind_some, if_pos rfl, hd0, List.nil_append, sameInt_is _ (by simp) _ (by simp only [List.length_nil]; omega), Option.bind_some, if_pos rfl, sameStr_is l0_2 (by omega) _ (by omega), Option.bind_some, if_pos rfl, if_pos trivial, if_pos (by rw [List.length_drop]; omega)]
      rw [show rdOf ByteArray.empty (l0_1.drop (l0_1.length / 2)) 0 = l0_1.getD (l0_1.length / 2) ByteArray.empty from ?_]
      · simp
      · unfold rdOf
        rw [show ((0 : Int)).toNat = 0 from rfl, List.getD_eq_getElem?_getD, List.getD_eq_getElem?_getD, List.getElem?_drop, Nat.add_zero]
    · have hlf : a0_0 = false := by simpa using hl
      subst hlf
      rw [if_neg (by decide)] at hsh h2 ⊢
      obtain ⟨g1, g2⟩ := half_inner l0_1 l0_2 l0_3 (by omega) hok (l0_1.length / 2) (by omega) (by omega)
      have hv0 : l0_2 = [] := List.length_eq_zero_iff.1 hsh.1
      have hg : l0_1.getD (l0_1.length / 2) ByteArray.empty = l0_1[l0_1.length / 2]'(by omega) := by rw [List.getD_eq_getElem?_getD, List.getElem?_eq_getElem (by omega)]; rfl
      have hcat : l0_1.take (l0_1.length / 2) ++ [l0_1.getD (l0_1.length / 2) ByteArray.empty] ++ l0_1.drop (l0_1.length / 2 + 1) = l0_1 := by
        rw [hg, ← List.take_succ_eq_append_getElem (by omega), List.take_append_drop]
      simp only [Option.bind_some]
      rw [if_pos trivial, copyStr_is _ (by rw [List.length_take]; omega), Option.bind_some, if_neg (by decide), if_pos (by rw [List.length_take]; omega)]
      simp only [transeptlaw09_NodeHalves.j0]
      rw [if_pos (by rw [List.length_append, List.length_take, List.length_drop]; simp; omega), Option.bind_some, copyInt_is _ (by rw [List.length_take]; omega), Option.bind_some, if_pos (by rw [List.length_take, List.length_drop]; omega), Option.bind_some, copyStr_is [] (by simp), Option.bind_some, if_pos (by simp), Option.bind_some, hcat, List.take_append_drop,
        check_ok _ _ _ _ (by rw [List.length_take]; omega) _ (by rw [List.length_take]; omega) g1, Option.bind_some]
      unfold transeptlaw09_num.f
      rw [Option.bind_some, if_pos rfl, check_ok _ _ _ _ (by rw [List.length_drop]; omega) _ (by rw [List.length_drop]; omega) g2, Option.bind_some, Option.bind_some]
      simp only [transeptlaw09_NodeHalves.j1]
      rw [if_neg (by decide), sameStr_is l0_1 (by omega) _ (by omega), Option.bind_some, if_pos rfl, sameInt_is _ (by omega) _ (by omega), Option.bind_some, if_pos rfl, hv0, List.nil_append, sameStr_is _ (by simp) _ (by simp only [List.length_nil]; omega), Option.bind_some, if_pos rfl, if_neg (by decide)]
end Go.Proofs.Ytooabchnbmnchaa.Pure
