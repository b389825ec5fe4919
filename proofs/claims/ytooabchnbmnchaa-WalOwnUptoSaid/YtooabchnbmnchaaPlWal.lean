-- (thinned for this claim by wip/tools/shake.py: what the claim doesn't use is left out)
import Derived.Test.YtooabchnbmnchaaQ1
import Derived.Test.YtooabchnbmnchaaQ16
import Derived.Test.YtooabchnbmnchaaKit
import Derived.Test.YtooabchnbmnchaaPlNum
import Derived.Test.YtooabchnbmnchaaPlCrc
import Derived.Test.YtooabchnbmnchaaPlScan
namespace Go.Proofs.Ytooabchnbmnchaa.Q
open Go.RowKit Go.Proofs.YtooabchnbmnchaaW.PrintWords Go.Proofs.YtooabchnbmnchaaW.PrintLast Go.Proofs.YtooabchnbmnchaaW.PrintMore
set_option linter.unusedVariables false
set_option linter.unusedSimpArgs false
def Rec (d : List Int) : Prop := d.length ≤ 4096 ∧ Octs d
def recsR (g : List (List Int)) : List (Int × List Int) := g.map fun d => ((1 : Int), d)
def catR (g : List (List Int)) : List Int := catOf (recsR g)
def lenR (g : List (List Int)) : Nat := (g.map fun d => d.length + 8).sum
theorem catR_len (g : List (List Int)) : (catR g).length = lenR g := by
  induction g with
  | nil => rfl
  | cons d g ih =>
    have h : catR (d :: g) = sealOf 1 d ++ catR g := by simp [catR, catOf, recsR]
    rw [h, List.length_append, sealOf_length, ih]
    simp [lenR]
theorem lenR_append (a b : List (List Int)) : lenR (a ++ b) = lenR a + lenR b := by simp [lenR]
theorem lenR_le (g : List (List Int)) (h : ∀ d ∈ g, Rec d) : lenR g ≤ 4104 * g.length := by
  induction g with
  | nil => simp [lenR]
  | cons d g ih =>
    have := ih (fun x hx => h x (by simp [hx]))
    have := (h d (by simp)).1
    simp only [lenR, List.map_cons, List.sum_cons, List.length_cons] at *
    omega
theorem lenR_ge (g : List (List Int)) : 8 * g.length ≤ lenR g := by
  induction g with
  | nil => simp [lenR]
  | cons d g ih => simp only [lenR, List.map_cons, List.sum_cons, List.length_cons] at *; omega
theorem catOf_octs : ∀ (fs : List (Int × List Int)), (∀ f ∈ fs, (0 ≤ f.1 ∧ f.1 < 256) ∧ Octs f.2) → Octs (catOf fs) := by
  intro fs
  induction fs with
  | nil => intro _; exact Octs.nil
  | cons f fs ih =>
    intro h
    rw [catOf_cons]
    exact (sealOf_octs f.1 (h f (by simp)).1 f.2 (h f (by simp)).2).append (ih (fun g hg => h g (by simp [hg])))
theorem catR_octs (g : List (List Int)) (h : ∀ d ∈ g, Rec d) : Octs (catR g) := by
  refine catOf_octs _ (fun f hf => ?_)
  obtain ⟨d, hd, rfl⟩ := List.mem_map.1 hf
  exact ⟨by simp, (h d hd).2⟩
theorem rdF (l : List S117) (i : Nat) (h : i < l.length) : rd_T117 l (i : Int) = l[i] := by
  unfold rd_T117
  rw [Int.toNat_natCast, List.getD_eq_getElem?_getD, List.getElem?_eq_getElem h]; rfl
theorem rdS (l : List S70) (i : Nat) (h : i < l.length) : rd_T70 l (i : Int) = l[i] := by
  unfold rd_T70
  rw [Int.toNat_natCast, List.getD_eq_getElem?_getD, List.getElem?_eq_getElem h]; rfl
theorem rdL (l : List (List Int)) (i : Nat) (h : i < l.length) : rd_L1 l (i : Int) = l[i] := by
  unfold rd_L1
  rw [Int.toNat_natCast, List.getD_eq_getElem?_getD, List.getElem?_eq_getElem h]; rfl
theorem records_loop (g : List (List Int)) (hg : g.length ≤ 1000000) (hr : ∀ d ∈ g, Rec d) : ∀ (d k i : Nat), i + d = g.length → d < k →
    wal_records.l0 k (g.take i) ((lenR (g.take i) : Nat) : Int) ((recsR g).map frOf) (((recsR g).map frOf).length : Int) (i : Int) = some (g, ((lenR g : Nat) : Int)) := by
  have hl : ((recsR g).map frOf).length = g.length := by simp [recsR]
  intro d
  induction d with
  | zero =>
    intro k i hi hk
    obtain ⟨k, rfl⟩ : ∃ m, k = m + 1 := ⟨k - 1, by omega⟩
    simp only [wal_records.l0]
    rw [if_neg (by omega), List.take_of_length_le (by omega)]
  | succ d ih =>
    intro k i hi hk
    obtain ⟨k, rfl⟩ : ∃ m, k = m + 1 := ⟨k - 1, by omega⟩
    have h1 : i < g.length := by omega
    have he : ((recsR g).map frOf)[i]'(by omega) = ⟨1, g[i]⟩ := by simp [recsR, frOf]
    have hd := (hr _ (List.getElem_mem h1)).1
    have hb := lenR_le (g.take i) (fun x hx => hr x (List.mem_of_mem_take hx))
    rw [List.length_take] at hb
    simp only [wal_records.l0]
    rw [if_pos (by omega), if_pos (by omega), if_pos (by omega), rdF _ i (by omega), he]
    simp only
    rw [if_pos trivial, if_pos (by rw [List.length_take]; omega), wrap64_id (x := ((g[i].length : Nat) : Int) + 8) (by omega) (by omega), wrap64_id (x := (i : Int) + 1) (by omega) (by omega), wrap64_id (by omega) (by omega)]
    have := ih k (i + 1) (by omega) (by omega)
    rw [← List.take_append_getElem h1, lenR_append] at this
    rw [show ((lenR (List.take i g) : Nat) : Int) + (((g[i].length : Nat) : Int) + 8) = ((lenR (List.take i g) + lenR [g[i]] : Nat) : Int) by simp [lenR]]
    exact this
theorem records_is (g : List (List Int)) (hg : g.length ≤ 1000000) (hr : ∀ d ∈ g, Rec d) (k : Nat) (hk : 5000 * g.length + 100 < k) : wal_records.f k (catR g) = some (g, ((lenR g : Nat) : Int)) := by
  have hb := lenR_le g hr
  have hs : sc (catR g) = (recsR g, (catR g).length) := sc_cat (recsR g) (fun f hf => by obtain ⟨d, hd, rfl⟩ := List.mem_map.1 hf; exact (hr d hd).1)
  unfold wal_records.f
  rw [scan_is (catR g) (catR_octs g hr) (by rw [catR_len]; omega) k (by rw [catR_len]; omega), Option.bind_some, hs]
  have := records_loop g hg hr g.length k 0 (by omega) (by omega)
  simpa [lenR] using this
def segsOf : Nat → List (List (List Int)) → List S70
  | _, [] => []
  | a, g :: gs => ⟨(a : Int), catR g⟩ :: segsOf (a + g.length) gs
theorem segsOf_length : ∀ (gs : List (List (List Int))) (a : Nat), (segsOf a gs).length = gs.length := by
  intro gs
  induction gs with
  | nil => intro a; rfl
  | cons g gs ih => intro a; simp [segsOf, ih]
theorem segsOf_get : ∀ (gs : List (List (List Int))) (a i : Nat) (h : i < gs.length), (segsOf a gs)[i]'(by rw [segsOf_length]; exact h) = ⟨((a + (gs.take i).flatten.length : Nat) : Int), catR gs[i]⟩ := by
  intro gs
  induction gs with
  | nil => intro a i h; simp at h
  | cons g gs ih =>
    intro a i h
    cases i with
    | zero => simp [segsOf]
    | succ i =>
      have := ih (a + g.length) i (by simpa using h)
      simp only [segsOf, List.getElem_cons_succ, this, List.take_succ_cons, List.flatten_cons, List.length_append]
      congr 2
      omega
def GoodG (gs : List (List (List Int))) : Prop := ∀ g ∈ gs, ∀ d ∈ g, Rec d
theorem take_flat_le (gs : List (List (List Int))) (i : Nat) : (gs.take i).flatten.length ≤ gs.flatten.length := by
  conv => rhs; rw [← List.take_append_drop i gs, List.flatten_append, List.length_append]
  omega
theorem index_ok (n : Nat) (h : n ≤ 1099511627776) : wal_index.f (n : Int) = some true := by
  unfold wal_index.f
  rw [if_pos (by omega), decide_eq_true (by omega)]
theorem mem_flat_le (gs : List (List (List Int))) (i : Nat) (h : i < gs.length) : (gs.take i).flatten.length + gs[i].length ≤ gs.flatten.length := by
  have := take_flat_le gs (i + 1)
  rw [← List.take_append_getElem h, List.flatten_append, List.length_append] at this
  simpa using this
theorem check_loop (a : Nat) (gs : List (List (List Int))) (hg : GoodG gs) (ht : gs.flatten.length ≤ 5000) (ha : a ≤ 1000000) (hn : gs.length ≤ 4096) (wait : List (List Int)) : ∀ (d k i : Nat) (nx : Int), i + d = gs.length → d + 25100000 < k → (i = 0 → gs.length = 0 → nx = ((a : Nat) : Int)) → (0 < i → nx = ((a + (gs.take i).flatten.length : Nat) : Int)) →
    wal_Check.l0 k true nx (segsOf a gs) ((segsOf a gs).length : Int) (i : Int) (segsOf a gs) ((a + gs.flatten.length : Nat) : Int) wait = some 0 := by
  have hl := segsOf_length gs a
  intro d
  induction d with
  | zero =>
    intro k i nx hi hk h0 hp
    obtain ⟨k, rfl⟩ : ∃ m, k = m + 1 := ⟨k - 1, by omega⟩
    simp only [wal_Check.l0]
    rw [if_neg (by omega), if_pos trivial, if_pos ?_]
    by_cases hz : i = 0
    · rw [h0 hz (by omega), List.length_eq_zero_iff.1 (show gs.length = 0 by omega)]; rfl
    · rw [hp (by omega), List.take_of_length_le (by omega)]
  | succ d ih =>
    intro k i nx hi hk h0 hp
    obtain ⟨k, rfl⟩ : ∃ m, k = m + 1 := ⟨k - 1, by omega⟩
    have h1 : i < gs.length := by omega
    have hmem := mem_flat_le gs i h1
    have hgi := hg _ (List.getElem_mem h1)
    have hrec := records_is gs[i] (by omega) hgi k (by omega)
    have hix := index_ok (a + (gs.take i).flatten.length) (by omega)
    have hb := lenR_le gs[i] hgi
    simp only [wal_Check.l0]
    rw [if_pos (by omega), if_pos (by omega), if_pos (by omega), if_pos trivial, rdS _ i (by omega), segsOf_get gs a i h1]
    simp only
    have hnext := ih k (i + 1) ((a + (gs.take (i + 1)).flatten.length : Nat) : Int) (by omega) (by omega) (fun h => by omega) (fun _ => rfl)
    have hfl : (gs.take (i + 1)).flatten.length = (gs.take i).flatten.length + gs[i].length := by
      rw [← List.take_append_getElem h1, List.flatten_append, List.length_append]; simp
    have hz2 : ((a + (List.take i gs).flatten.length : Nat) : Int) + ((gs[i].length : Nat) : Int) = ((a + (gs.take (i + 1)).flatten.length : Nat) : Int) := by rw [hfl]; omega
    have hq : (((lenR gs[i] : Nat) : Int) == ((catR gs[i]).length : Int)) = true := by rw [catR_len]; simp
    have hcase : (i : Int) = 0 ∨ (¬ (i : Int) = 0 ∧ nx = ((a + (List.take i gs).flatten.length : Nat) : Int)) := by
      by_cases hz : i = 0
      · left; omega
      · right; exact ⟨by omega, hp (by omega)⟩
    have hb1 : -9223372036854775808 ≤ ((a + (List.take i gs).flatten.length : Nat) : Int) + ((gs[i].length : Nat) : Int) := by omega
    have hb2 : ((a + (List.take i gs).flatten.length : Nat) : Int) + ((gs[i].length : Nat) : Int) ≤ 9223372036854775807 := by omega
    have hb3 : -9223372036854775808 ≤ (i : Int) + 1 := by omega
    have hb4 : (i : Int) + 1 ≤ 9223372036854775807 := by omega
    rw [hrec, hix, wrap64_id hb3 hb4]
    simp only [Option.bind_some, if_true]
    rw [hq, wrap64_id hb1 hb2, hz2]
    rcases hcase with hz | ⟨hz, hnx⟩
    · rw [if_pos hz]; exact hnext
    · rw [if_neg hz, hnx, if_pos rfl, wrap64_id hb1 hb2, hz2]
      exact hnext
theorem contains78 (l : List (List Int)) : slices_ContainsFunc_byte_byte.f l 78 = some (l.any fun v => decide (4096 < v.length)) := rfl
theorem contains68 (l : List (List Int)) : slices_ContainsFunc_byte_byte.f l 68 = some (l.any fun v => decide (4096 < v.length)) := rfl
theorem any_long (l : List (List Int)) (h : ∀ d ∈ l, d.length ≤ 4096) : (l.any fun v => decide (4096 < v.length)) = false := by
  rw [List.any_eq_false]
  intro d hd
  have := h d hd
  simp; omega
theorem check_is (a : Nat) (gs : List (List (List Int))) (hg : GoodG gs) (ht : gs.flatten.length ≤ 5000) (ha : a ≤ 1000000) (hn : gs.length ≤ 4096) (wait : List (List Int)) (hw : ∀ d ∈ wait, d.length ≤ 4096) (hwl : wait.length ≤ 4096) (k : Nat) (hk : 30000000 < k) :
    wal_Check.f k (segsOf a gs) ((a + gs.flatten.length : Nat) : Int) wait = some 0 := by
  obtain ⟨k, rfl⟩ : ∃ m, k = m + 2 := ⟨k - 2, by omega⟩
  unfold wal_Check.f
  rw [if_pos (by rw [segsOf_length]; omega), index_ok (a + gs.flatten.length) (by omega), Option.bind_some, if_pos rfl, decide_eq_true (by omega)]
  simp only [wal_Check.j0]
  rw [if_pos trivial, contains78, Option.bind_some, any_long wait hw]
  simp only [wal_Check.j1, Bool.not_false]
  refine check_loop a gs hg ht ha hn wait gs.length k 0 _ (by omega) (by omega) (fun _ h => ?_) (fun h => by omega)
  rw [List.length_eq_zero_iff.1 h]; rfl
theorem cloneAll_loop (l : List (List Int)) (hl : l.length ≤ 100000) (hs : ∀ d ∈ l, d.length ≤ 100000) : ∀ (d k i : Nat), i + d = l.length → d < k → wal_cloneAll.l0 k (l.take i) l (l.length : Int) (i : Int) = some l := by
  intro d
  induction d with
  | zero =>
    intro k i hi hk
    obtain ⟨k, rfl⟩ : ∃ m, k = m + 1 := ⟨k - 1, by omega⟩
    simp only [wal_cloneAll.l0]
    rw [if_neg (by omega), List.take_of_length_le (by omega)]
  | succ d ih =>
    intro k i hi hk
    obtain ⟨k, rfl⟩ : ∃ m, k = m + 1 := ⟨k - 1, by omega⟩
    have h1 : i < l.length := by omega
    have hd := hs _ (List.getElem_mem h1)
    simp only [wal_cloneAll.l0]
    rw [if_pos (by omega), if_pos (by omega), if_pos (by omega), rdL l i h1]
    unfold bytes_Clone.f
    rw [if_pos (by omega), Option.bind_some, if_pos (by rw [List.length_take]; omega), wrap64_id (by omega) (by omega), List.take_append_getElem h1]
    exact ih k (i + 1) (by omega) (by omega)
theorem cloneAll_is (l : List (List Int)) (hl : l.length ≤ 100000) (hs : ∀ d ∈ l, d.length ≤ 100000) (k : Nat) (hk : l.length < k) : wal_cloneAll.f k l = some l := by
  have := cloneAll_loop l hl hs l.length k 0 (by omega) hk
  simpa [wal_cloneAll.f] using this
theorem own_loop (l : List S70) (hl : l.length ≤ 100000) (hs : ∀ s ∈ l, s.f1.length ≤ 100000000) (nx : Int) (wt : List (List Int)) : ∀ (d k i : Nat), i + d = l.length → d < k → wal_own.l0 k l (l.length : Int) (i : Int) (l.take i) nx wt = some (l, nx, wt, 0) := by
  intro d
  induction d with
  | zero =>
    intro k i hi hk
    obtain ⟨k, rfl⟩ : ∃ m, k = m + 1 := ⟨k - 1, by omega⟩
    simp only [wal_own.l0]
    rw [if_neg (by omega), List.take_of_length_le (by omega)]
  | succ d ih =>
    intro k i hi hk
    obtain ⟨k, rfl⟩ : ∃ m, k = m + 1 := ⟨k - 1, by omega⟩
    have h1 : i < l.length := by omega
    have hd := hs _ (List.getElem_mem h1)
    simp only [wal_own.l0]
    rw [if_pos (by omega), if_pos (by omega), if_pos (by omega), rdS l i h1]
    unfold bytes_Clone.f
    rw [if_pos (by omega), Option.bind_some, if_pos (by rw [List.length_take]; omega), wrap64_id (by omega) (by omega), show (⟨l[i].f0, l[i].f1⟩ : S70) = l[i] from rfl, List.take_append_getElem h1]
    exact ih k (i + 1) (by omega) (by omega)
theorem segsOf_small (a : Nat) (gs : List (List (List Int))) (hg : GoodG gs) (ht : gs.flatten.length ≤ 5000) : ∀ s ∈ segsOf a gs, s.f1.length ≤ 100000000 := by
  intro s hs
  obtain ⟨i, hi, rfl⟩ := List.getElem_of_mem hs
  rw [segsOf_length] at hi
  rw [segsOf_get gs a i hi]
  have h1 := mem_flat_le gs i hi
  have h2 := lenR_le gs[i] (hg _ (List.getElem_mem hi))
  simp only [catR_len]
  omega
theorem own_is (a : Nat) (gs : List (List (List Int))) (hg : GoodG gs) (ht : gs.flatten.length ≤ 5000) (ha : a ≤ 1000000) (hn : gs.length ≤ 4096) (wait : List (List Int)) (hw : ∀ d ∈ wait, d.length ≤ 4096) (hwl : wait.length ≤ 4096) (k : Nat) (hk : 30000000 < k) :
    wal_own.f k (segsOf a gs) ((a + gs.flatten.length : Nat) : Int) wait = some (segsOf a gs, ((a + gs.flatten.length : Nat) : Int), wait, 0) := by
  unfold wal_own.f
  rw [check_is a gs hg ht ha hn wait hw hwl k hk, Option.bind_some, if_pos rfl, cloneAll_is wait (by omega) (fun d hd => by have := hw d hd; omega) k (by omega), Option.bind_some]
  have := own_loop (segsOf a gs) (by rw [segsOf_length]; omega) (segsOf_small a gs hg ht) ((a + gs.flatten.length : Nat) : Int) wait (segsOf a gs).length k 0 (by omega) (by rw [segsOf_length]; omega)
  simpa using this
end Go.Proofs.Ytooabchnbmnchaa.Q
