-- (thinned for this claim by wip/tools/shake.py: what the claim doesn't use is left out)
import Derived.Test.YtooabchnbmnchaaQ9
import Derived.Test.YtooabchnbmnchaaQ54
import Derived.Test.YtooabchnbmnchaaQ14
import Derived.Test.YtooabchnbmnchaaQ39
import Derived.Test.YtooabchnbmnchaaQ55
import Derived.Test.YtooabchnbmnchaaQ27
import Derived.Test.YtooabchnbmnchaaQ47
import Derived.Test.YtooabchnbmnchaaKit
import Derived.Test.YtooabchnbmnchaaPlNum
import Derived.Test.YtooabchnbmnchaaPlCrc
import Derived.Test.YtooabchnbmnchaaPlLin
import Derived.Test.YtooabchnbmnchaaPlScan
import Derived.Test.YtooabchnbmnchaaPlRefSc
import Derived.Test.YtooabchnbmnchaaPlSame
import Derived.Test.YtooabchnbmnchaaPlSameL
import Derived.Test.YtooabchnbmnchaaPlWal
import Derived.Test.YtooabchnbmnchaaPlWalF
import Derived.Test.YtooabchnbmnchaaPlWalV
namespace Go.Proofs.Ytooabchnbmnchaa.Q
open Go.RowKit Go.Proofs.YtooabchnbmnchaaW.PrintWords Go.Proofs.YtooabchnbmnchaaW.PrintLast Go.Proofs.YtooabchnbmnchaaW.PrintMore
set_option linter.unusedVariables false
set_option linter.unusedSimpArgs false
def sgP (x : Int × List Int) : S70 := ⟨x.1, x.2⟩
def sgR (x : Int × List Int) : S87 := ⟨x.1, x.2⟩
theorem rdSR (l : List S87) (i : Nat) (h : i < l.length) : rd_T87 l (i : Int) = l[i] := by
  unfold rd_T87
  rw [Int.toNat_natCast, List.getD_eq_getElem?_getD, List.getElem?_eq_getElem h]; rfl
theorem rdPm (L : List (Int × List Int)) (i : Nat) (h : i < L.length) : rd_T70 (L.map sgP) (i : Int) = ⟨L[i].1, L[i].2⟩ := by
  rw [rdS _ i (by rw [List.length_map]; exact h), List.getElem_map]; rfl
theorem rdRm (L : List (Int × List Int)) (i : Nat) (h : i < L.length) : rd_T87 (L.map sgR) (i : Int) = ⟨L[i].1, L[i].2⟩ := by
  rw [rdSR _ i (by rw [List.length_map]; exact h), List.getElem_map]; rfl
structure GoodS (l : List (Int × List Int)) : Prop where
  len : l.length ≤ 1048576
  each : ∀ x ∈ l, Octs x.2 ∧ x.2.length ≤ 1048576
structure Fit (l S : List (Int × List Int)) (all : List (List Int)) (i : Nat) : Prop where
  len : S.length ≤ i
  each : ∀ x ∈ S, Octs x.2 ∧ x.2.length ≤ 1048576
  cnt : all.length ≤ 131072 * i
theorem rec_any_loop (l : List (Int × List Int)) (hg : GoodS l) (hl : l.length ≤ 4096) : ∀ (r : List (Int × List Int)) (k i : Nat) (z : Int) (S : List (Int × List Int)) (all : List (List Int)), l.drop i = r → i ≤ l.length → 3 * r.length + 1100000 < k → Fit l S all i → 0 ≤ z ∧ z ≤ 1099511627776 →
    wal_Recover.l0 k (l.map sgP) all 0 (l.map sgP) ((l.map sgP).length : Int) (i : Int) (S.map sgP) z
      = some ((recG (decide (i = 0)) z S all r).1.map sgP, (recG (decide (i = 0)) z S all r).2.1, [], (recG (decide (i = 0)) z S all r).2.2.1, (recG (decide (i = 0)) z S all r).2.2.2) := by
  have hm : (l.map sgP).length = l.length := List.length_map _
  intro r
  induction r with
  | nil =>
    intro k i z S all hs hi hk hf hz
    obtain ⟨k, rfl⟩ : ∃ m, k = m + 1 := ⟨k - 1, by omega⟩
    have : l.length ≤ i := by have := congrArg List.length hs; rw [List.length_drop] at this; simp at this; omega
    simp only [wal_Recover.l0]
    rw [if_neg (by omega)]
    rfl
  | cons x r ih =>
    intro k i z S all hs hi hk hf hz
    obtain ⟨f, b⟩ := x
    rw [List.length_cons] at hk
    obtain ⟨k, rfl⟩ : ∃ m, k = m + 3 := ⟨k - 3, by omega⟩
    have hlen : l.length - i = r.length + 1 := by have := congrArg List.length hs; rw [List.length_drop, List.length_cons] at this; exact this
    have h1 : i < l.length := by omega
    rw [List.drop_eq_getElem_cons h1] at hs
    injection hs with hx hr
    have hb : Octs b ∧ b.length ≤ 1048576 := by
      have hb := hg.each _ (List.getElem_mem h1)
      rw [hx] at hb
      exact hb
    simp only [recG, wal_Recover.l0]
    rw [if_pos (by omega), if_pos (by omega), if_pos (by omega), rdPm l i h1, hx]
    dsimp only
    by_cases hfz : f = z
    case neg => rw [if_neg hfz, if_neg hfz]
    subst hfz
    have hc := rcs_count b
    have hn := rcs_len b
    have hr3 := records_any b hb.1 hb.2 (k + 2) (by omega)
    rw [if_pos rfl, if_pos rfl, hr3, Option.bind_some]
    dsimp only
    have hfs := hf.cnt
    have hfl := hf.len
    have hw : wrap64 (f + ((rcs b).length : Int)) = f + ((rcs b).length : Int) := wrap64_id (by omega) (by omega)
    have hw2 : wrap64 ((i : Int) + 1) = ((i + 1 : Nat) : Int) := by rw [wrap64_id (by omega) (by omega)]; omega
    have HW2 := Aside0.mk hw2
    clear hw2
    rw [hw]
    clear hw
    by_cases hov : f + ((rcs b).length : Int) > 1099511627776
    · rw [if_pos hov, if_pos hov]; rfl
    rw [if_neg hov, if_neg hov, if_pos (by omega), Option.bind_some]
    have hj3 : ∀ S2 : List (Int × List Int), Fit l S2 (all ++ rcs b) (i + 1) → wal_Recover.j3 (k + 1) (l.map sgP) (all ++ rcs b) 0 (i : Int) ((lenR (rcs b) : Nat) : Int) (l.map sgP) ((l.map sgP).length : Int) (i : Int) (S2.map sgP) (f + ((rcs b).length : Int)) f b
        = some ((if lenR (rcs b) < b.length then (S2, f + ((rcs b).length : Int), all ++ rcs b, if r = [] then (0 : Int) else 21) else recG false (f + ((rcs b).length : Int)) S2 (all ++ rcs b) r).1.map sgP,
          (if lenR (rcs b) < b.length then (S2, f + ((rcs b).length : Int), all ++ rcs b, if r = [] then (0 : Int) else 21) else recG false (f + ((rcs b).length : Int)) S2 (all ++ rcs b) r).2.1, [],
          (if lenR (rcs b) < b.length then (S2, f + ((rcs b).length : Int), all ++ rcs b, if r = [] then (0 : Int) else 21) else recG false (f + ((rcs b).length : Int)) S2 (all ++ rcs b) r).2.2.1,
          (if lenR (rcs b) < b.length then (S2, f + ((rcs b).length : Int), all ++ rcs b, if r = [] then (0 : Int) else 21) else recG false (f + ((rcs b).length : Int)) S2 (all ++ rcs b) r).2.2.2) := by
      intro S2 hS2
      simp only [wal_Recover.j3]
      rw [HW2.out]
      by_cases ht : lenR (rcs b) < b.length
      · rw [if_pos (by omega), if_pos ht]
        by_cases hre : r = []
        · have : r.length = 0 := by rw [hre]; rfl
          rw [if_neg (by omega), if_pos hre]
        · have : 0 < r.length := List.length_pos_iff.2 hre
          rw [if_pos (by omega), if_neg hre]
      · rw [if_neg (by omega), if_neg ht]
        have := ih k (i + 1) (f + ((rcs b).length : Int)) S2 (all ++ rcs b) hr (by omega) (by omega) hS2 (by omega)
        rw [decide_eq_false (by omega)] at this
        exact this
    have hcut : Octs (b.take (lenR (rcs b))) ∧ (b.take (lenR (rcs b))).length ≤ 1048576 := ⟨fun y hy => hb.1 y (List.mem_of_mem_take hy), by rw [List.length_take]; omega⟩
    have hall : (all ++ rcs b).length ≤ 131072 * (i + 1) := by rw [List.length_append]; omega
    have hj2 : ∀ c : Bool, wal_Recover.j2 (k + 2) (l.map sgP) (all ++ rcs b) 0 (i : Int) ((lenR (rcs b) : Nat) : Int) (l.map sgP) ((l.map sgP).length : Int) (i : Int) c (S.map sgP) (f + ((rcs b).length : Int)) f b
        = wal_Recover.j3 (k + 1) (l.map sgP) (all ++ rcs b) 0 (i : Int) ((lenR (rcs b) : Nat) : Int) (l.map sgP) ((l.map sgP).length : Int) (i : Int) ((if c = true then S ++ [(f, b.take (lenR (rcs b)))] else S).map sgP) (f + ((rcs b).length : Int)) f b := by
      intro c
      simp only [wal_Recover.j2]
      cases c with
      | false => rw [if_neg (by simp), if_neg (by simp)]
      | true =>
        rw [if_pos rfl, if_pos (by omega), if_pos (by omega)]
        unfold bytes_Clone.f
        rw [if_pos (by rw [List.length_take]; omega), Option.bind_some, if_pos (by rw [List.length_map]; omega), if_pos rfl, Int.toNat_natCast, List.map_append]
        rfl
    have hfit : ∀ c : Bool, Fit l (if c = true then S ++ [(f, b.take (lenR (rcs b)))] else S) (all ++ rcs b) (i + 1) := by
      intro c
      cases c with
      | false => exact ⟨by rw [if_neg (by simp)]; omega, by rw [if_neg (by simp)]; exact hf.each, hall⟩
      | true =>
        refine ⟨by rw [if_pos rfl, List.length_append]; simp; omega, ?_, hall⟩
        rw [if_pos rfl]
        intro x hx
        rcases List.mem_append.1 hx with hx | hx
        · exact hf.each x hx
        · rw [List.mem_singleton] at hx; subst hx; exact hcut
    by_cases hz0 : (i : Int) = 0
    · rw [if_pos hz0, hj2, hj3 _ (hfit _), decide_eq_true (by omega)]
      rfl
    · have hq : decide (((lenR (rcs b) : Nat) : Int) > 0) = (decide (i = 0) || decide (0 < lenR (rcs b))) := by
        rw [decide_eq_false (show ¬ i = 0 by omega), Bool.false_or]
        exact decide_eq_decide.2 (by omega)
      rw [if_neg hz0, hq, hj2, hj3 _ (hfit _)]
theorem pIndex (n : Int) : wal_index.f n = some (decide (0 ≤ n ∧ n ≤ 1099511627776)) := by
  unfold wal_index.f
  by_cases h : n ≥ 0
  · rw [if_pos h]; congr 1; simp; omega
  · rw [if_neg h]; simp; omega
theorem rIndex (n : Int) : transeptref08_index.f n = some (decide (0 ≤ n ∧ n ≤ 1099511627776)) := by
  unfold transeptref08_index.f
  by_cases h : n ≥ 0
  · rw [if_pos h]; congr 1; simp; omega
  · rw [if_neg h]; simp; omega
theorem recover_any (l : List (Int × List Int)) (hg : GoodS l) (k : Nat) (hk : 10000000 < k) :
    wal_Recover.f k (l.map sgP) = some ((recA l).1.map sgP, (recA l).2.1, [], (recA l).2.2.1, (recA l).2.2.2) := by
  unfold wal_Recover.f
  cases l with
  | nil => rfl
  | cons x r =>
    obtain ⟨f, b⟩ := x
    have hm : (((f, b) :: r).map sgP).length = r.length + 1 := by simp
    have hll : ((f, b) :: r).length = r.length + 1 := rfl
    have h0 : (rd_T70 (((f, b) :: r).map sgP) 0).f0 = f := congrArg (fun x => x.f0) (rdPm ((f, b) :: r) 0 (by simp))
    obtain ⟨k, rfl⟩ : ∃ m, k = m + 1 := ⟨k - 1, by omega⟩
    rw [if_neg (by omega)]
    simp only [recA]
    by_cases hbig : ((((f, b) :: r).map sgP).length : Int) > 4096
    · rw [if_pos hbig, if_pos (Or.inl (by omega))]
      simp only [wal_Recover.j0]
      rfl
    · rw [if_neg hbig, if_pos (by omega), h0, pIndex, Option.bind_some]
      simp only [wal_Recover.j0]
      by_cases hix : 0 ≤ f ∧ f ≤ 1099511627776
      · rw [decide_eq_true hix, if_neg (by simp), if_pos (by omega), h0, if_neg (by omega)]
        have := rec_any_loop ((f, b) :: r) hg (by omega) ((f, b) :: r) k 0 f [] [] rfl (by omega) (by omega) ⟨by simp, (fun x hx => by cases hx), by simp⟩ hix
        exact this
      · rw [decide_eq_false hix, if_pos (by simp), if_pos (Or.inr hix)]
        rfl
theorem recR_any_loop (l : List (Int × List Int)) (hg : GoodS l) (hl : l.length ≤ 4096) : ∀ (r : List (Int × List Int)) (k i : Nat) (z : Int) (S : List (Int × List Int)) (all : List (List Int)), l.drop i = r → i ≤ l.length → 3 * r.length + 1100000 < k → Fit l S all i → 0 ≤ z ∧ z ≤ 1099511627776 →
    transeptref08_Recover.l0 k (l.map sgR) all (i : Int) (S.map sgR) z
      = some ((recG (decide (i = 0)) z S all r).1.map sgR, (recG (decide (i = 0)) z S all r).2.1, [], (recG (decide (i = 0)) z S all r).2.2.1, (recG (decide (i = 0)) z S all r).2.2.2) := by
  have hm : (l.map sgR).length = l.length := List.length_map _
  intro r
  induction r with
  | nil =>
    intro k i z S all hs hi hk hf hz
    obtain ⟨k, rfl⟩ : ∃ m, k = m + 1 := ⟨k - 1, by omega⟩
    have : l.length ≤ i := by have := congrArg List.length hs; rw [List.length_drop] at this; simp at this; omega
    simp only [transeptref08_Recover.l0]
    rw [if_neg (by omega)]
    rfl
  | cons x r ih =>
    intro k i z S all hs hi hk hf hz
    obtain ⟨f, b⟩ := x
    rw [List.length_cons] at hk
    obtain ⟨k, rfl⟩ : ∃ m, k = m + 3 := ⟨k - 3, by omega⟩
    have hlen : l.length - i = r.length + 1 := by have := congrArg List.length hs; rw [List.length_drop, List.length_cons] at this; exact this
    have h1 : i < l.length := by omega
    rw [List.drop_eq_getElem_cons h1] at hs
    injection hs with hx hr
    have hb : Octs b ∧ b.length ≤ 1048576 := by
      have hb := hg.each _ (List.getElem_mem h1)
      rw [hx] at hb
      exact hb
    simp only [recG, transeptref08_Recover.l0]
    rw [if_pos (by omega), if_pos (by omega), rdRm l i h1, hx]
    dsimp only
    by_cases hfz : f = z
    case neg => rw [if_neg hfz, if_neg hfz]
    subst hfz
    have hc := rcs_count b
    have hn := rcs_len b
    have hr3 := whole_any b hb.1 hb.2 (k + 2) (by omega)
    rw [if_pos rfl, if_pos rfl, hr3, Option.bind_some]
    dsimp only
    have hfs := hf.cnt
    have hfl := hf.len
    have hw : wrap64 (f + ((rcs b).length : Int)) = f + ((rcs b).length : Int) := wrap64_id (by omega) (by omega)
    have hw2 : wrap64 ((i : Int) + 1) = ((i + 1 : Nat) : Int) := by rw [wrap64_id (by omega) (by omega)]; omega
    have hw3 : wrap64 (((l.map sgR).length : Int) - 1) = ((l.map sgR).length : Int) - 1 := wrap64_id (by omega) (by omega)
    have HW := Aside0.mk hw
    have HW2 := Aside0.mk hw2
    have HW3 := Aside0.mk hw3
    clear hw hw2 hw3
    rw [HW.out]
    by_cases hov : f + ((rcs b).length : Int) > 1099511627776
    · rw [if_pos hov, if_pos hov]; rfl
    rw [if_neg hov, if_neg hov]
    have hj3 : ∀ S2 : List (Int × List Int), Fit l S2 (all ++ rcs b) (i + 1) → transeptref08_Recover.j3 (k + 1) (l.map sgR) all (i : Int) (rcs b) ((lenR (rcs b) : Nat) : Int) (S2.map sgR) f f b
        = some ((if lenR (rcs b) < b.length then (S2, f + ((rcs b).length : Int), all ++ rcs b, if r = [] then (0 : Int) else 21) else recG false (f + ((rcs b).length : Int)) S2 (all ++ rcs b) r).1.map sgR,
          (if lenR (rcs b) < b.length then (S2, f + ((rcs b).length : Int), all ++ rcs b, if r = [] then (0 : Int) else 21) else recG false (f + ((rcs b).length : Int)) S2 (all ++ rcs b) r).2.1, [],
          (if lenR (rcs b) < b.length then (S2, f + ((rcs b).length : Int), all ++ rcs b, if r = [] then (0 : Int) else 21) else recG false (f + ((rcs b).length : Int)) S2 (all ++ rcs b) r).2.2.1,
          (if lenR (rcs b) < b.length then (S2, f + ((rcs b).length : Int), all ++ rcs b, if r = [] then (0 : Int) else 21) else recG false (f + ((rcs b).length : Int)) S2 (all ++ rcs b) r).2.2.2) := by
      intro S2 hS2
      have hi2 := ih k (i + 1) (f + ((rcs b).length : Int)) S2 (all ++ rcs b) hr (by omega) (by omega) hS2 (by omega)
      rw [decide_eq_false (by omega)] at hi2
      simp only [transeptref08_Recover.j3]
      rw [if_pos (by omega), Option.bind_some, HW.out, HW2.out, HW3.out]
      by_cases ht : lenR (rcs b) < b.length
      · rw [if_neg (by omega), if_pos ht]
        by_cases hre : r = []
        · have : r.length = 0 := by rw [hre]; rfl
          rw [if_neg (by omega), if_pos hre, hi2, hre]
          rfl
        · have : 0 < r.length := List.length_pos_iff.2 hre
          rw [if_pos (by omega), if_neg hre]
      · rw [if_pos (by omega), if_neg ht, hi2]
    have hcut : Octs (b.take (lenR (rcs b))) ∧ (b.take (lenR (rcs b))).length ≤ 1048576 := ⟨fun y hy => hb.1 y (List.mem_of_mem_take hy), by rw [List.length_take]; omega⟩
    have hall : (all ++ rcs b).length ≤ 131072 * (i + 1) := by rw [List.length_append]; omega
    have hj2 : ∀ c : Bool, transeptref08_Recover.j2 (k + 2) (l.map sgR) all (i : Int) (rcs b) ((lenR (rcs b) : Nat) : Int) c (S.map sgR) f f b
        = transeptref08_Recover.j3 (k + 1) (l.map sgR) all (i : Int) (rcs b) ((lenR (rcs b) : Nat) : Int) ((if c = true then S ++ [(f, b.take (lenR (rcs b)))] else S).map sgR) f f b := by
      intro c
      simp only [transeptref08_Recover.j2]
      cases c with
      | false => rw [if_neg (by simp), if_neg (by simp)]
      | true =>
        rw [if_pos rfl, if_pos (by omega), if_pos (by omega), copied_is _ (by rw [List.length_take]; omega), Option.bind_some, if_pos (by rw [List.length_map]; omega), if_pos rfl, Int.toNat_natCast, List.map_append]
        rfl
    have hfit : ∀ c : Bool, Fit l (if c = true then S ++ [(f, b.take (lenR (rcs b)))] else S) (all ++ rcs b) (i + 1) := by
      intro c
      cases c with
      | false => exact ⟨by rw [if_neg (by simp)]; omega, by rw [if_neg (by simp)]; exact hf.each, hall⟩
      | true =>
        refine ⟨by rw [if_pos rfl, List.length_append]; simp; omega, ?_, hall⟩
        rw [if_pos rfl]
        intro x hx
        rcases List.mem_append.1 hx with hx | hx
        · exact hf.each x hx
        · rw [List.mem_singleton] at hx; subst hx; exact hcut
    by_cases hz0 : ((lenR (rcs b) : Nat) : Int) > 0
    · rw [if_pos hz0, hj2, hj3 _ (hfit _), decide_eq_true (show 0 < lenR (rcs b) by omega), Bool.or_true]
    · rw [if_neg hz0, hj2, hj3 _ (hfit _), decide_eq_false (show ¬ 0 < lenR (rcs b) by omega), Bool.or_false]
      have hq : ((i : Int) == 0) = decide (i = 0) := by by_cases hi0 : i = 0 <;> simp [hi0]
      rw [hq]
theorem recoverR_any (l : List (Int × List Int)) (hg : GoodS l) (k : Nat) (hk : 10000000 < k) :
    transeptref08_Recover.f k (l.map sgR) = some ((recA l).1.map sgR, (recA l).2.1, [], (recA l).2.2.1, (recA l).2.2.2) := by
  unfold transeptref08_Recover.f
  cases l with
  | nil => rfl
  | cons x r =>
    obtain ⟨f, b⟩ := x
    have hm : (((f, b) :: r).map sgR).length = r.length + 1 := by simp
    have hll : ((f, b) :: r).length = r.length + 1 := rfl
    have h0 : (rd_T87 (((f, b) :: r).map sgR) 0).f0 = f := congrArg (fun x => x.f0) (rdRm ((f, b) :: r) 0 (by simp))
    obtain ⟨k, rfl⟩ : ∃ m, k = m + 1 := ⟨k - 1, by omega⟩
    rw [if_neg (by omega)]
    simp only [recA]
    by_cases hbig : ((((f, b) :: r).map sgR).length : Int) > 4096
    · rw [if_pos hbig, if_pos (Or.inl (by omega))]
      simp only [transeptref08_Recover.j0]
      rfl
    · rw [if_neg hbig, if_pos (by omega), h0, rIndex, Option.bind_some]
      simp only [transeptref08_Recover.j0]
      by_cases hix : 0 ≤ f ∧ f ≤ 1099511627776
      · rw [decide_eq_true hix, if_neg (by simp), if_pos (by omega), h0, if_neg (by omega)]
        have := recR_any_loop ((f, b) :: r) hg (by omega) ((f, b) :: r) k 0 f [] [] rfl (by omega) (by omega) ⟨by simp, (fun x hx => by cases hx), by simp⟩ hix
        exact this
      · rw [decide_eq_false hix, if_pos (by simp), if_pos (Or.inr hix)]
        rfl
end Go.Proofs.Ytooabchnbmnchaa.Q
