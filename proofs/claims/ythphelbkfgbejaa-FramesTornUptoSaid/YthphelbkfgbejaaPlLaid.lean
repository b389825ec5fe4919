import Derived.Test.YthphelbkfgbejaaQ31
import Derived.Test.YthphelbkfgbejaaQ13
import Derived.Test.YthphelbkfgbejaaKit
import Derived.Test.YthphelbkfgbejaaPlNum
import Derived.Test.YthphelbkfgbejaaPlCrc
import Derived.Test.YthphelbkfgbejaaPlScan
namespace Go.Proofs.Ythphelbkfgbejaa.Q
open Go.RowKit Go.Proofs.YthphelbkfgbejaaW.PrintWords Go.Proofs.YthphelbkfgbejaaW.PrintLast Go.Proofs.YthphelbkfgbejaaW.PrintMore
set_option linter.unusedVariables false
set_option linter.unusedSimpArgs false

/-- the frames that may be, in order -/
def okFr (l : List S56) : List (Int × List Int) := (l.filter fun x => decide (x.f1.length ≤ 4096)).map fun x => (x.f0, x.f1)
theorem okFr_nil : okFr [] = [] := rfl
theorem okFr_cons_ok (x : S56) (l : List S56) (h : x.f1.length ≤ 4096) : okFr (x :: l) = (x.f0, x.f1) :: okFr l := by
  unfold okFr; rw [List.filter_cons_of_pos (by simpa using h)]; rfl
theorem okFr_cons_no (x : S56) (l : List S56) (h : ¬ x.f1.length ≤ 4096) : okFr (x :: l) = okFr l := by
  unfold okFr; rw [List.filter_cons_of_neg (by simpa using h)]
theorem okFr_le (l : List S56) : ∀ f ∈ okFr l, f.2.length ≤ 4096 := by
  intro f hf
  obtain ⟨x, hx, rfl⟩ := List.mem_map.1 hf
  have := (List.mem_filter.1 hx).2
  simpa using this
theorem okFr_length (l : List S56) : (okFr l).length ≤ l.length := by
  unfold okFr
  rw [List.length_map]
  exact List.length_filter_le _ _
/-- where each ends -/
def endsOf : Nat → List (Int × List Int) → List Int
  | _, [] => []
  | a, f :: fs => ((a + (f.2.length + 8) : Nat) : Int) :: endsOf (a + (f.2.length + 8)) fs
theorem endsOf_length : ∀ (fs : List (Int × List Int)) (a : Nat), (endsOf a fs).length = fs.length := by
  intro fs
  induction fs with
  | nil => intro a; rfl
  | cons f fs ih => intro a; simp [endsOf, ih]
theorem catOf_len : ∀ (l : List S56), (catOf (okFr l)).length ≤ 8 * (l.map (fun x => (1 + (1 + (1 + (x.f1.map (fun x => 1)).sum))))).sum := by
  intro l
  induction l with
  | nil => simp [okFr_nil, catOf]
  | cons x l ih =>
    rw [List.map_cons, List.sum_cons, sum_ones]
    by_cases h : x.f1.length ≤ 4096
    · rw [okFr_cons_ok x l h, catOf_cons, List.length_append, sealOf_length]
      simp only
      omega
    · rw [okFr_cons_no x l h]
      omega
theorem len_le : ∀ (l : List S56), 3 * l.length ≤ (l.map (fun x => (1 + (1 + (1 + (x.f1.map (fun x => 1)).sum))))).sum := by
  intro l
  induction l with
  | nil => simp
  | cons x l ih => rw [List.map_cons, List.sum_cons, List.length_cons]; omega
theorem catOf_octs : ∀ (fs : List (Int × List Int)), (∀ f ∈ fs, (0 ≤ f.1 ∧ f.1 < 256) ∧ Octs f.2) → Octs (catOf fs) := by
  intro fs
  induction fs with
  | nil => intro _; exact Octs.nil
  | cons f fs ih =>
    intro h
    rw [catOf_cons]
    exact (sealOf_octs f.1 (h f (by simp)).1 f.2 (h f (by simp)).2).append (ih (fun g hg => h g (by simp [hg])))
theorem okFr_octs (l : List S56) (h : ∀ x ∈ l, (0 ≤ x.f0 ∧ x.f0 < 256) ∧ Octs x.f1) : ∀ f ∈ okFr l, (0 ≤ f.1 ∧ f.1 < 256) ∧ Octs f.2 := by
  intro f hf
  obtain ⟨x, hx, rfl⟩ := List.mem_map.1 hf
  exact h x (List.mem_filter.1 hx).1
theorem rd56 (l : List S56) (i : Nat) (h : i < l.length) : rd_T56 l (i : Int) = l[i] := by
  unfold rd_T56
  rw [Int.toNat_natCast, List.getD_eq_getElem?_getD, List.getElem?_eq_getElem h]; rfl
theorem laid_loop (l : List S56) (hw : ∀ x ∈ l, (0 ≤ x.f0 ∧ x.f0 < 256) ∧ Octs x.f1) (hn : l.length ≤ 1048576) : ∀ (d k i : Nat) (b : List Int) (e : List Int), i + d = l.length → d < k →
    b.length + (catOf (okFr (l.drop i))).length ≤ 100000000 → e.length + d ≤ 1048576 →
    transeptlaw03_laid.l0 k l b e (i : Int) = some (b ++ catOf (okFr (l.drop i)), e ++ endsOf b.length (okFr (l.drop i))) := by
  intro d
  induction d with
  | zero =>
    intro k i b e hi hk hb he
    obtain ⟨k, rfl⟩ : ∃ m, k = m + 1 := ⟨k - 1, by omega⟩
    simp only [transeptlaw03_laid.l0]
    rw [if_neg (by omega), List.drop_of_length_le (by omega)]
    simp [okFr_nil, catOf, endsOf]
  | succ d ih =>
    intro k i b e hi hk hb he
    obtain ⟨k, rfl⟩ : ∃ m, k = m + 1 := ⟨k - 1, by omega⟩
    have h1 : i < l.length := by omega
    have hd : l.drop i = l[i] :: l.drop (i + 1) := List.drop_eq_getElem_cons h1
    have hx := hw l[i] (List.getElem_mem h1)
    simp only [transeptlaw03_laid.l0]
    rw [if_pos (by omega), if_pos (by omega), rd56 l i h1]
    unfold transeptlaw03_num.f
    rw [hd] at hb ⊢
    generalize l[i] = x at hx hb ⊢
    by_cases h : x.f1.length ≤ 4096
    · rw [okFr_cons_ok x _ h, catOf_cons, List.length_append, sealOf_length] at hb
      simp only at hb
      rw [seal_is x.f0 hx.1 x.f1 hx.2 h, Option.bind_some, Option.bind_some, if_pos rfl, if_pos (by rw [sealOf_length]; omega), Option.bind_some, if_pos (by omega), wrap64_id (by omega) (by omega)]
      rw [show ((i : Int) + 1) = ((i + 1 : Nat) : Int) from rfl, ih k (i + 1) _ _ (by omega) (by omega) (by rw [List.length_append, sealOf_length]; omega) (by rw [List.length_append]; simp; omega)]
      rw [okFr_cons_ok x _ h, catOf_cons, List.append_assoc, List.append_assoc]
      simp only [endsOf, List.length_append, sealOf_length, List.singleton_append]
    · rw [okFr_cons_no x _ h] at hb ⊢
      rw [seal_long x.f0 x.f1 (by omega), Option.bind_some, Option.bind_some, if_neg (by decide), wrap64_id (by omega) (by omega)]
      exact ih k (i + 1) _ _ (by omega) (by omega) hb (by omega)
theorem laid_is (l : List S56) (hw : ∀ x ∈ l, (0 ≤ x.f0 ∧ x.f0 < 256) ∧ Octs x.f1) (hm : (l.map (fun x => (1 + (1 + (1 + (x.f1.map (fun x => 1)).sum))))).sum ≤ 1048576) (k : Nat) (hk : l.length < k) :
    transeptlaw03_laid.f k l = some (catOf (okFr l), endsOf 0 (okFr l)) ∧ (catOf (okFr l)).length ≤ 8388608 := by
  have h1 := catOf_len l
  have h2 := len_le l
  refine ⟨?_, by omega⟩
  unfold transeptlaw03_laid.f
  have := laid_loop l hw (by omega) l.length k 0 [] [] (by omega) hk (by rw [List.drop_zero]; simp; omega) (by simp; omega)
  simpa using this
theorem wf_frames (l : List S56) (h : ∀ x ∈ l, (Lit.int .u8 x.f0).wf = true ∧ x.f1.length ≤ maxLen ∧ ∀ y ∈ x.f1, (Lit.int .u8 y).wf = true) : ∀ x ∈ l, (0 ≤ x.f0 ∧ x.f0 < 256) ∧ Octs x.f1 :=
  fun x hx => ⟨wf_u8 (h x hx).1, octs_wf (h x hx).2.2⟩

end Go.Proofs.Ythphelbkfgbejaa.Q
