-- (thinned for this claim by wip/tools/shake.py: what the claim doesn't use is left out)
import Derived.Test.YtooabchnbmnchaaQ1
import Derived.Test.YtooabchnbmnchaaQ43
import Derived.Test.YtooabchnbmnchaaQ38
import Derived.Test.YtooabchnbmnchaaQ55
import Derived.Test.YtooabchnbmnchaaQ26
import Derived.Test.YtooabchnbmnchaaKit
import Derived.Test.YtooabchnbmnchaaPlNum
import Derived.Test.YtooabchnbmnchaaPlCrc
import Derived.Test.YtooabchnbmnchaaPlLin
import Derived.Test.YtooabchnbmnchaaPlScan
import Derived.Test.YtooabchnbmnchaaPlRefSc
import Derived.Test.YtooabchnbmnchaaPlSame
import Derived.Test.YtooabchnbmnchaaPlSameL
import Derived.Test.YtooabchnbmnchaaPlWal
import Derived.Test.YtooabchnbmnchaaPlWalF
namespace Go.Proofs.Ytooabchnbmnchaa.Q
open Go.RowKit Go.Proofs.YtooabchnbmnchaaW.PrintWords Go.Proofs.YtooabchnbmnchaaW.PrintLast Go.Proofs.YtooabchnbmnchaaW.PrintMore
set_option linter.unusedVariables false
set_option linter.unusedSimpArgs false
def rcs (b : List Int) : List (List Int) := ((sc b).1.takeWhile fun f => decide (f.1 = 1)).map (·.2)
theorem openOf_take (b : List Int) (h : (openOf b).2.2.2 = 0) (c : Nat) (hc : (openOf b).2.2.1.toNat ≤ c) : openOf (b.take c) = openOf b := by
  obtain ⟨n, h1, h2, h3, h4, h4', h5, h6⟩ := openOf_ok b h
  have hc2 : n + 8 ≤ c := by rw [h3] at hc; simp at hc; omega
  have t4 : (b.take c).take 4 = b.take 4 := by rw [List.take_take]; congr 1; omega
  have tn : (b.take c).take (n + 4) = b.take (n + 4) := by rw [List.take_take]; congr 1; omega
  have tm : (b.take c).take (n + 8) = b.take (n + 8) := by rw [List.take_take]; congr 1; omega
  have g0 : (b.take c).getD 0 0 = b.getD 0 0 := by rw [List.getD_eq_getElem?_getD, List.getElem?_take_of_lt (by omega), List.getD_eq_getElem?_getD]
  have g1 : (b.take c).getD 1 0 = b.getD 1 0 := by rw [List.getD_eq_getElem?_getD, List.getElem?_take_of_lt (by omega), List.getD_eq_getElem?_getD]
  rw [h3]
  unfold openOf
  rw [t4, h4, tn, tm, g0, g1, h5, h6]
  rw [if_neg (by rw [List.length_take]; omega), if_neg (by decide), if_neg h4', if_neg (by rw [List.length_take]; omega), if_neg (by simp)]
theorem openOf_data (b : List Int) (h : (openOf b).2.2.2 = 0) : (openOf b).2.1.length + 8 = (openOf b).2.2.1.toNat := by
  obtain ⟨n, h1, h2, h3, _⟩ := openOf_ok b h
  rw [h3]
  show ((b.take (n + 4)).drop 4).length + 8 = (((n + 8 : Nat) : Int)).toNat
  rw [List.length_drop, List.length_take, Int.toNat_natCast]
  omega
theorem rcs_ok (b : List Int) (h : (openOf b).2.2.2 = 0) (hk : (openOf b).1 = 1) : rcs b = (openOf b).2.1 :: rcs (b.drop (openOf b).2.2.1.toNat) := by
  unfold rcs
  rw [sc_ok b h, List.takeWhile_cons, if_pos (by simpa using hk)]
  rfl
theorem rcs_no (b : List Int) (h : ¬ ((openOf b).2.2.2 = 0 ∧ (openOf b).1 = 1)) : rcs b = [] := by
  unfold rcs
  by_cases ho : (openOf b).2.2.2 = 0
  · rw [sc_ok b ho, List.takeWhile_cons, if_neg (by simpa using fun e => h ⟨ho, e⟩)]; rfl
  · rw [sc_bad b ho]; rfl
theorem lenR_cons (d : List Int) (g : List (List Int)) : lenR (d :: g) = d.length + 8 + lenR g := by simp [lenR]
theorem rcs_take : ∀ (N : Nat) (b : List Int), b.length ≤ N → lenR (rcs b) ≤ b.length ∧ rcs (b.take (lenR (rcs b))) = rcs b := by
  intro N
  induction N with
  | zero =>
    intro b hb
    have : b = [] := List.length_eq_zero_iff.1 (by omega)
    subst this
    rw [rcs_no [] (fun h => openOf_nil h.1)]
    refine ⟨by simp [lenR], rcs_no _ (fun h => openOf_nil ?_)⟩
    simpa using h.1
  | succ N ih =>
    intro b hb
    by_cases h : (openOf b).2.2.2 = 0 ∧ (openOf b).1 = 1
    · have hs := openOf_size b h.1
      have hd := openOf_data b h.1
      obtain ⟨i1, i2⟩ := ih (b.drop (openOf b).2.2.1.toNat) (by rw [List.length_drop]; omega)
      rw [List.length_drop] at i1
      rw [rcs_ok b h.1 h.2, lenR_cons]
      refine ⟨by omega, ?_⟩
      have ht := openOf_take b h.1 ((openOf b).2.1.length + 8 + lenR (rcs (b.drop (openOf b).2.2.1.toNat))) (by omega)
      rw [rcs_ok _ (by rw [ht]; exact h.1) (by rw [ht]; exact h.2), ht, List.drop_take,
        show (openOf b).2.1.length + 8 + lenR (rcs (b.drop (openOf b).2.2.1.toNat)) - (openOf b).2.2.1.toNat = lenR (rcs (b.drop (openOf b).2.2.1.toNat)) by omega, i2]
    · rw [rcs_no b h]
      refine ⟨by simp [lenR], rcs_no _ (fun h => openOf_nil ?_)⟩
      simpa [lenR] using h.1
theorem rcs_len (b : List Int) : lenR (rcs b) ≤ b.length := (rcs_take b.length b (Nat.le_refl _)).1
theorem rcs_count (b : List Int) : 8 * (rcs b).length ≤ b.length := by
  have := lenR_ge (rcs b)
  have := rcs_len b
  omega
theorem records_any_loop : ∀ (ys : List (Int × List Int)) (xs : List (Int × List Int)) (k i n : Nat) (acc : List (List Int)), xs.length ≤ 1048576 → (∀ f ∈ xs, f.2.length ≤ 4096) → xs.drop i = ys → i ≤ xs.length → ys.length < k → acc.length ≤ i → n ≤ 4104 * i →
    wal_records.l0 k acc (n : Int) (xs.map frOf) ((xs.map frOf).length : Int) (i : Int) = some (acc ++ (ys.takeWhile fun f => decide (f.1 = 1)).map (·.2), ((n + lenR ((ys.takeWhile fun f => decide (f.1 = 1)).map (·.2)) : Nat) : Int)) := by
  intro ys
  induction ys with
  | nil =>
    intro xs k i n acc hx hd hs hi hk ha hn
    obtain ⟨k, rfl⟩ : ∃ m, k = m + 1 := ⟨k - 1, by omega⟩
    have : xs.length ≤ i := by have := congrArg List.length hs; rw [List.length_drop] at this; simp at this; omega
    simp only [wal_records.l0]
    rw [if_neg (by rw [List.length_map]; omega)]
    simp [lenR]
  | cons f ys ih =>
    intro xs k i n acc hx hd hs hi hk ha hn
    rw [List.length_cons] at hk
    obtain ⟨k, rfl⟩ : ∃ m, k = m + 1 := ⟨k - 1, by omega⟩
    have h1 : i < xs.length := by have := congrArg List.length hs; rw [List.length_drop, List.length_cons] at this; omega
    rw [List.drop_eq_getElem_cons h1] at hs
    injection hs with hf hr
    have hrd : rd_T117 (xs.map frOf) (i : Int) = ⟨f.1, f.2⟩ := by rw [rdF _ i (by rw [List.length_map]; exact h1), List.getElem_map, hf]; rfl
    have hdf : f.2.length ≤ 4096 := by rw [← hf]; exact hd _ (List.getElem_mem h1)
    simp only [wal_records.l0]
    rw [if_pos (by rw [List.length_map]; omega), if_pos (by omega), if_pos (by rw [List.length_map]; omega), hrd]
    dsimp only
    by_cases hk1 : f.1 = 1
    · have hw1 : wrap64 (((f.2.length : Nat) : Int) + 8) = ((f.2.length + 8 : Nat) : Int) := by rw [wrap64_id (by omega) (by omega)]; omega
      rw [hw1]
      have hw2 : wrap64 ((n : Int) + ((f.2.length + 8 : Nat) : Int)) = ((n + (f.2.length + 8) : Nat) : Int) := by rw [wrap64_id (by omega) (by omega)]; omega
      rw [hw2]
      have hw3 : wrap64 ((i : Int) + 1) = ((i + 1 : Nat) : Int) := by rw [wrap64_id (by omega) (by omega)]; omega
      rw [hw3]
      clear hw1 hw2 hw3
      rw [if_pos hk1, if_pos (by omega), ih xs k (i + 1) (n + (f.2.length + 8)) _ hx hd hr (by omega) (by omega) (by simp; omega) (by omega)]
      rw [List.takeWhile_cons, if_pos (by simpa using hk1), List.map_cons, lenR_cons, List.append_assoc, Nat.add_assoc]
      rfl
    · rw [if_neg hk1, List.takeWhile_cons, if_neg (by simpa using hk1)]
      simp [lenR]
theorem records_any (b : List Int) (hb : Octs b) (hn : b.length ≤ 1048576) (k : Nat) (hk : b.length + 100 < k) : wal_records.f k b = some (rcs b, ((lenR (rcs b) : Nat) : Int)) := by
  unfold wal_records.f
  have hs := sc_le b.length b (Nat.le_refl _)
  rw [scan_is b hb (by omega) k (by omega), Option.bind_some]
  have := records_any_loop (sc b).1 (sc b).1 k 0 0 [] (by omega) (sc_data b.length b (Nat.le_refl _)) rfl (by omega) (by omega) (by simp) (by omega)
  simpa [rcs] using this
theorem rdG (l : List S134) (i : Nat) (h : i < l.length) : rd_T134 l (i : Int) = l[i] := by
  unfold rd_T134
  rw [Int.toNat_natCast, List.getD_eq_getElem?_getD, List.getElem?_eq_getElem h]; rfl
theorem whole_any_loop : ∀ (ys : List (Int × List Int)) (xs : List (Int × List Int)) (k i n : Nat) (acc : List (List Int)), xs.length ≤ 1048576 → (∀ f ∈ xs, f.2.length ≤ 4096) → xs.drop i = ys → i ≤ xs.length → ys.length < k → acc.length ≤ i → n ≤ 4104 * i →
    transeptref08_Whole.l0 k (xs.map frOf56) acc (n : Int) (i : Int) = some (acc ++ (ys.takeWhile fun f => decide (f.1 = 1)).map (·.2), ((n + lenR ((ys.takeWhile fun f => decide (f.1 = 1)).map (·.2)) : Nat) : Int)) := by
  intro ys
  induction ys with
  | nil =>
    intro xs k i n acc hx hd hs hi hk ha hn
    obtain ⟨k, rfl⟩ : ∃ m, k = m + 1 := ⟨k - 1, by omega⟩
    have : xs.length ≤ i := by have := congrArg List.length hs; rw [List.length_drop] at this; simp at this; omega
    simp only [transeptref08_Whole.l0]
    rw [if_neg (by rw [List.length_map]; omega)]
    simp [lenR]
  | cons f ys ih =>
    intro xs k i n acc hx hd hs hi hk ha hn
    rw [List.length_cons] at hk
    obtain ⟨k, rfl⟩ : ∃ m, k = m + 1 := ⟨k - 1, by omega⟩
    have h1 : i < xs.length := by have := congrArg List.length hs; rw [List.length_drop, List.length_cons] at this; omega
    rw [List.drop_eq_getElem_cons h1] at hs
    injection hs with hf hr
    have hrd : rd_T134 (xs.map frOf56) (i : Int) = ⟨f.1, f.2⟩ := by rw [rdG _ i (by rw [List.length_map]; exact h1), List.getElem_map, hf]; rfl
    have hdf : f.2.length ≤ 4096 := by rw [← hf]; exact hd _ (List.getElem_mem h1)
    simp only [transeptref08_Whole.l0]
    rw [if_pos (by rw [List.length_map]; omega), if_pos (by omega), hrd]
    dsimp only
    by_cases hk1 : f.1 = 1
    · have hw1 : wrap64 ((n : Int) + ((f.2.length : Nat) : Int)) = ((n + f.2.length : Nat) : Int) := by rw [wrap64_id (by omega) (by omega)]; omega
      rw [hw1]
      have hw2 : wrap64 (((n + f.2.length : Nat) : Int) + 8) = ((n + (f.2.length + 8) : Nat) : Int) := by rw [wrap64_id (by omega) (by omega)]; omega
      rw [hw2]
      have hw3 : wrap64 ((i : Int) + 1) = ((i + 1 : Nat) : Int) := by rw [wrap64_id (by omega) (by omega)]; omega
      rw [hw3]
      clear hw1 hw2 hw3
      rw [if_pos hk1, if_pos (by omega), ih xs k (i + 1) (n + (f.2.length + 8)) _ hx hd hr (by omega) (by omega) (by simp; omega) (by omega)]
      rw [List.takeWhile_cons, if_pos (by simpa using hk1), List.map_cons, lenR_cons, List.append_assoc, Nat.add_assoc]
      rfl
    · rw [if_neg hk1, List.takeWhile_cons, if_neg (by simpa using hk1)]
      simp [lenR]
theorem whole_any (b : List Int) (hb : Octs b) (hn : b.length ≤ 1048576) (k : Nat) (hk : b.length + 4200 < k) : transeptref08_Whole.f k b = some (rcs b, ((lenR (rcs b) : Nat) : Int)) := by
  unfold transeptref08_Whole.f
  have hs := sc_le b.length b (Nat.le_refl _)
  rw [refScan_is b hb (by omega) k (by omega), Option.bind_some]
  have := whole_any_loop (sc b).1 (sc b).1 k 0 0 [] (by omega) (sc_data b.length b (Nat.le_refl _)) rfl (by omega) (by omega) (by simp) (by omega)
  simpa [rcs] using this
end Go.Proofs.Ytooabchnbmnchaa.Q
