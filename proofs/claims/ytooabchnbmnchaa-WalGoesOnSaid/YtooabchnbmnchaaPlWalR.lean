-- (thinned for this claim by wip/tools/shake.py: what the claim doesn't use is left out)
import Derived.Test.YtooabchnbmnchaaQ54
import Derived.Test.YtooabchnbmnchaaQ9
import Derived.Test.YtooabchnbmnchaaKit
import Derived.Test.YtooabchnbmnchaaPlNum
import Derived.Test.YtooabchnbmnchaaPlCrc
import Derived.Test.YtooabchnbmnchaaPlScan
import Derived.Test.YtooabchnbmnchaaPlWal
import Derived.Test.YtooabchnbmnchaaPlWalF
namespace Go.Proofs.Ytooabchnbmnchaa.Q
open Go.RowKit Go.Proofs.YtooabchnbmnchaaW.PrintWords Go.Proofs.YtooabchnbmnchaaW.PrintLast Go.Proofs.YtooabchnbmnchaaW.PrintMore
set_option linter.unusedVariables false
set_option linter.unusedSimpArgs false
theorem rec_loop (a : Nat) (gs : List (List (List Int))) (tl : List S70) (hg : GoodG gs) (hn : NE gs) (ht : gs.flatten.length ≤ 5000) (ha : a ≤ 1000000) (htl : tl.length ≤ 1000) : ∀ (d k i : Nat), i + d = gs.length → 25100000 < k →
    wal_Recover.l0 (k + 3 * d) (segsOf a gs ++ tl) (gs.take i).flatten 0 (segsOf a gs ++ tl) ((segsOf a gs ++ tl).length : Int) (i : Int) (segsOf a (gs.take i)) ((a + (gs.take i).flatten.length : Nat) : Int)
      = wal_Recover.l0 k (segsOf a gs ++ tl) gs.flatten 0 (segsOf a gs ++ tl) ((segsOf a gs ++ tl).length : Int) (gs.length : Int) (segsOf a gs) ((a + gs.flatten.length : Nat) : Int) := by
  have hl := segsOf_length gs a
  have hlen := NE_len gs hn
  intro d
  induction d with
  | zero =>
    intro k i hi hk
    have h : i = gs.length := by omega
    subst h
    rw [List.take_length]
    rfl
  | succ d ih =>
    intro k i hi hk
    have h1 : i < gs.length := by omega
    have hmem := mem_flat_le gs i h1
    have hgi := hg _ (List.getElem_mem h1)
    have hrec := records_is gs[i] (by omega) hgi (k + 3 * d + 2) (by omega)
    have hcnt := (segsOf a gs ++ tl).length
    have hll : (segsOf a gs ++ tl).length = gs.length + tl.length := by rw [List.length_append, hl]
    have hget : rd_T70 (segsOf a gs ++ tl) (i : Int) = ⟨((a + (gs.take i).flatten.length : Nat) : Int), catR gs[i]⟩ := by
      rw [rdS _ i (by omega), List.getElem_append_left (by omega), segsOf_get gs a i h1]
    have hb := lenR_le gs[i] hgi
    have hge := lenR_ge gs[i]
    have hpos : 0 < gs[i].length := List.length_pos_iff.2 (hn _ (List.getElem_mem h1))
    have hw1 : wrap64 (((a + (gs.take i).flatten.length : Nat) : Int) + ((gs[i]).length : Int)) = ((a + (gs.take (i + 1)).flatten.length : Nat) : Int) := by
      have hfl : (gs.take (i + 1)).flatten.length = (gs.take i).flatten.length + gs[i].length := by
        rw [← List.take_append_getElem h1, List.flatten_append, List.length_append]; simp
      have hb1 : -9223372036854775808 ≤ ((a + (gs.take i).flatten.length : Nat) : Int) + ((gs[i]).length : Int) := by omega
      have hb2 : ((a + (gs.take i).flatten.length : Nat) : Int) + ((gs[i]).length : Int) ≤ 9223372036854775807 := by omega
      rw [wrap64_id hb1 hb2, hfl]; omega
    have hw2 : wrap64 ((i : Int) + 1) = ((i + 1 : Nat) : Int) := wrap64_id (by omega) (by omega)
    have HW1 := Aside0.mk hw1
    have HW2 := Aside0.mk hw2
    clear hw1 hw2
    have hle := take_flat_le gs (i + 1)
    have hcl := catR_len gs[i]
    have htk : (catR gs[i]).take (((lenR gs[i] : Nat) : Int)).toNat = catR gs[i] := by rw [Int.toNat_natCast, List.take_of_length_le (by omega)]
    have hsg : segsOf a (gs.take i) ++ [(⟨((a + (gs.take i).flatten.length : Nat) : Int), catR gs[i]⟩ : S70)] = segsOf a (gs.take (i + 1)) := by
      rw [← List.take_append_getElem h1, segsOf_append]; rfl
    have hfl2 : (gs.take i).flatten ++ gs[i] = (gs.take (i + 1)).flatten := by rw [← List.take_append_getElem h1, List.flatten_append]; simp
    have hj : ∀ b : Bool, b = true → wal_Recover.j2 (k + 3 * d + 2) (segsOf a gs ++ tl) (gs.take (i + 1)).flatten 0 (i : Int) ((lenR gs[i] : Nat) : Int) (segsOf a gs ++ tl) ((segsOf a gs ++ tl).length : Int) (i : Int) b (segsOf a (gs.take i)) ((a + (gs.take (i + 1)).flatten.length : Nat) : Int) ((a + (gs.take i).flatten.length : Nat) : Int) (catR gs[i])
        = wal_Recover.l0 k (segsOf a gs ++ tl) gs.flatten 0 (segsOf a gs ++ tl) ((segsOf a gs ++ tl).length : Int) (gs.length : Int) (segsOf a gs) ((a + gs.flatten.length : Nat) : Int) := by
      intro b hb0
      subst hb0
      simp only [wal_Recover.j2]
      rw [if_pos trivial, if_pos (by omega), if_pos (by omega), htk]
      unfold bytes_Clone.f
      rw [if_pos (by omega), Option.bind_some, if_pos (by rw [segsOf_length, List.length_take]; omega), hsg]
      simp only [wal_Recover.j3]
      rw [if_neg (by omega), HW2.out]
      exact ih k (i + 1) (by omega) hk
    rw [show k + 3 * (d + 1) = k + 3 * d + 2 + 1 by omega]
    simp only [wal_Recover.l0]
    rw [if_pos (by omega), if_pos (by omega), if_pos (by omega), hget]
    dsimp only
    rw [if_pos rfl, hrec, Option.bind_some]
    dsimp only
    rw [HW1.out, if_neg (by omega), if_pos (by have := take_flat_le gs i; omega), Option.bind_some, hfl2]
    by_cases hz : (i : Int) = 0
    · rw [if_pos hz]; exact hj true rfl
    · rw [if_neg hz]; exact hj _ (decide_eq_true (by omega))
theorem recover_is (gs : List (List (List Int))) (hg : GoodG gs) (hn : NE gs) (ht : gs.flatten.length ≤ 4096) (k : Nat) (hk : 30000000 < k) :
    wal_Recover.f k (segsOf 0 gs) = some (segsOf 0 gs, ((0 + gs.flatten.length : Nat) : Int), [], gs.flatten, 0) := by
  have hl := segsOf_length gs 0
  have hlen := NE_len gs hn
  unfold wal_Recover.f
  by_cases hz : gs = []
  · subst hz; rfl
  · have hpos : 0 < gs.length := List.length_pos_iff.2 hz
    have h0 : rd_T70 (segsOf 0 gs) 0 = ⟨0, catR (gs[0]'hpos)⟩ := by
      have := rdS (segsOf 0 gs) 0 (by omega)
      rw [segsOf_get gs 0 0 hpos] at this
      simpa using this
    have hi : wal_index.f 0 = some true := index_ok 0 (by omega)
    obtain ⟨k, rfl⟩ : ∃ m, k = m + 3 * gs.length + 1 := ⟨k - 3 * gs.length - 1, by omega⟩
    rw [if_neg (by omega), if_neg (by omega), if_pos (by omega), h0]
    dsimp only
    rw [hi, Option.bind_some]
    simp only [wal_Recover.j0]
    rw [if_neg (by simp), if_pos (by omega), h0]
    dsimp only
    have h := rec_loop 0 gs [] hg hn (by omega) (by omega) (by simp) gs.length k 0 (by omega) (by omega)
    rw [List.append_nil] at h
    refine Eq.trans h ?_
    obtain ⟨k, rfl⟩ : ∃ m, k = m + 1 := ⟨k - 1, by omega⟩
    simp only [wal_Recover.l0]
    rw [if_neg (by omega)]
end Go.Proofs.Ytooabchnbmnchaa.Q
