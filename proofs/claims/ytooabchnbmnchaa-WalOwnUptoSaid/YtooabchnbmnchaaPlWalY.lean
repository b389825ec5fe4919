-- (thinned for this claim by wip/tools/shake.py: what the claim doesn't use is left out)
import Derived.Test.YtooabchnbmnchaaQ1
import Derived.Test.YtooabchnbmnchaaQ16
import Derived.Test.YtooabchnbmnchaaQ38
import Derived.Test.YtooabchnbmnchaaQ43
import Derived.Test.YtooabchnbmnchaaQ26
import Derived.Test.YtooabchnbmnchaaKit
import Derived.Test.YtooabchnbmnchaaPlNum
import Derived.Test.YtooabchnbmnchaaPlCrc
import Derived.Test.YtooabchnbmnchaaPlLin
import Derived.Test.YtooabchnbmnchaaPlScan
import Derived.Test.YtooabchnbmnchaaPlRefSc
import Derived.Test.YtooabchnbmnchaaPlSame
import Derived.Test.YtooabchnbmnchaaPlSameL
import Derived.Test.YtooabchnbmnchaaPlWal
import Derived.Test.YtooabchnbmnchaaPlWalF
import Derived.Test.YtooabchnbmnchaaPlWalV
import Derived.Test.YtooabchnbmnchaaPlWalW
import Derived.Test.YtooabchnbmnchaaPlWalX
namespace Go.Proofs.Ytooabchnbmnchaa.Q
open Go.RowKit Go.Proofs.YtooabchnbmnchaaW.PrintWords Go.Proofs.YtooabchnbmnchaaW.PrintLast Go.Proofs.YtooabchnbmnchaaW.PrintMore
set_option linter.unusedVariables false
set_option linter.unusedSimpArgs false
def chainB : Bool → Int → List (Int × List Int) → Int → Bool
  | _, x, [], z => decide (x = z)
  | first, x, (f, b) :: r, z => decide (0 ≤ f ∧ f ≤ 1099511627776) && (decide (first = true ∨ f = x) && (decide (lenR (rcs b) = b.length) && chainB false (f + ((rcs b).length : Int)) r z))
def checkB (L : List (Int × List Int)) (nx : Int) (wt : List (List Int)) : Bool :=
  decide (L.length ≤ 4096) && (decide (0 ≤ nx ∧ nx ≤ 1099511627776) && (decide (wt.length ≤ 4096) && ((!wt.any fun v => decide (4096 < v.length)) && chainB true nx L nx)))
theorem check_false (L Q : List S70) (n : Int) (x4 z : Int) (wt : List (List Int)) (i k : Nat) (hk : 0 < k) (hn : n = (L.length : Int)) : wal_Check.l0 k false x4 L n (i : Int) Q z wt = some 9 := by
  subst hn
  obtain ⟨k, rfl⟩ : ∃ m, k = m + 1 := ⟨k - 1, by omega⟩
  simp only [wal_Check.l0]
  by_cases h : (i : Int) < (L.length : Int)
  · rw [if_pos h, if_pos (by omega), if_pos h, if_neg (by simp)]
  · rw [if_neg h, if_neg (by simp)]
theorem check_all (S : List (Int × List Int)) (he : ∀ x ∈ S, Octs x.2 ∧ x.2.length ≤ 1048576) (hl : S.length ≤ 1048576) (z : Int) (wt : List (List Int)) : ∀ (r : List (Int × List Int)) (k i : Nat) (x4 : Int), S.drop i = r → i ≤ S.length → r.length + 1100000 < k → (0 < i → 0 ≤ x4 ∧ x4 ≤ 2199023255552) →
    wal_Check.l0 k true x4 (S.map sgP) ((S.map sgP).length : Int) (i : Int) (S.map sgP) z wt = some (cond (chainB (decide (i = 0)) x4 r z) 0 9) := by
  have hm : (S.map sgP).length = S.length := List.length_map _
  intro r
  induction r with
  | nil =>
    intro k i x4 hs hi hk hx
    obtain ⟨k, rfl⟩ : ∃ m, k = m + 1 := ⟨k - 1, by omega⟩
    have : S.length ≤ i := by have := congrArg List.length hs; rw [List.length_drop] at this; simp at this; omega
    simp only [wal_Check.l0, chainB]
    rw [if_neg (by omega), if_pos trivial]
    by_cases hz : x4 = z
    · rw [if_pos hz, decide_eq_true hz]; rfl
    · rw [if_neg hz, decide_eq_false hz]; rfl
  | cons x r ih =>
    intro k i x4 hs hi hk hx4
    obtain ⟨f, b⟩ := x
    rw [List.length_cons] at hk
    obtain ⟨k, rfl⟩ : ∃ m, k = m + 1 := ⟨k - 1, by omega⟩
    have hlen : S.length - i = r.length + 1 := by have := congrArg List.length hs; rw [List.length_drop, List.length_cons] at this; exact this
    have h1 : i < S.length := by omega
    rw [List.drop_eq_getElem_cons h1] at hs
    injection hs with hx hr
    have hb : Octs b ∧ b.length ≤ 1048576 := by
      have hb := he _ (List.getElem_mem h1)
      rw [hx] at hb
      exact hb
    have hcc := rcs_count b
    have hrec := records_any b hb.1 hb.2 k (by omega)
    have HWI : Aside0 (wrap64 ((i : Int) + 1) = ((i + 1 : Nat) : Int)) := ⟨by rw [wrap64_id (by omega) (by omega)]; omega⟩
    have hfalse : ∀ x5 : Int, wal_Check.l0 k false x5 (S.map sgP) ((S.map sgP).length : Int) ((i + 1 : Nat) : Int) (S.map sgP) z wt = some 9 := fun x5 => check_false _ _ _ _ _ _ _ _ (by omega) rfl
    have hgo : ∀ g : Bool, g = ((((lenR (rcs b) : Nat) : Int)) == ((b.length : Nat) : Int)) → (0 ≤ f ∧ f ≤ 1099511627776) → wal_Check.l0 k g (wrap64 (f + ((rcs b).length : Int))) (S.map sgP) ((S.map sgP).length : Int) ((i + 1 : Nat) : Int) (S.map sgP) z wt
        = some (cond ((decide (lenR (rcs b) = b.length) && chainB false (f + ((rcs b).length : Int)) r z)) 0 9) := by
      intro g hgd hf
      have hwf : wrap64 (f + ((rcs b).length : Int)) = f + ((rcs b).length : Int) := wrap64_id (by omega) (by omega)
      rw [hwf]
      clear hwf
      by_cases hg : lenR (rcs b) = b.length
      · have hg1 : g = true := by rw [hgd, hg]; simp
        rw [hg1, decide_eq_true hg, Bool.true_and]
        have := ih k (i + 1) (f + ((rcs b).length : Int)) hr (by omega) (by omega) (fun _ => by omega)
        rw [decide_eq_false (by omega)] at this
        exact this
      · have hg1 : g = false := by rw [hgd]; exact beq_eq_false_iff_ne.2 (by omega)
        rw [hg1, decide_eq_false hg, hfalse]; rfl
    simp only [wal_Check.l0, chainB]
    rw [if_pos (by omega), if_pos (by omega), if_pos (by omega), if_pos trivial, rdPm S i h1, hx]
    dsimp only
    rw [HWI.out, hrec, pIndex]
    by_cases hi0 : (i : Int) = 0
    · rw [if_pos hi0, Option.bind_some, Option.bind_some]
      dsimp only
      by_cases hf : 0 ≤ f ∧ f ≤ 1099511627776
      · rw [decide_eq_true hf, if_pos rfl, Bool.true_and, decide_eq_true (show decide (i = 0) = true ∨ f = x4 from Or.inl (decide_eq_true (by omega))), Bool.true_and]
        exact hgo _ rfl hf
      · rw [decide_eq_false hf, if_neg (by simp), hfalse]; rfl
    · rw [if_neg hi0, Option.bind_some, Option.bind_some]
      dsimp only
      by_cases hf : 0 ≤ f ∧ f ≤ 1099511627776
      · rw [decide_eq_true hf, if_pos rfl, Bool.true_and]
        have hd : decide (decide (i = 0) = true ∨ f = x4) = decide (f = x4) := decide_eq_decide.2 (by simp; omega)
        rw [hd]
        by_cases hfx : f = x4
        · subst hfx
          rw [if_pos rfl, decide_eq_true rfl, Bool.true_and]
          exact hgo _ rfl hf
        · rw [if_neg hfx, decide_eq_false hfx, hfalse]; rfl
      · rw [decide_eq_false hf, if_neg (by simp), hfalse]; rfl
theorem containsB (l : List (List Int)) : slices_ContainsFunc_byte_byte.f l 78 = some (l.any fun v => decide (4096 < v.length)) := rfl
theorem checkP (L : List (Int × List Int)) (he : ∀ x ∈ L, Octs x.2 ∧ x.2.length ≤ 1048576) (hl : L.length ≤ 1048576) (nx : Int) (wt : List (List Int)) (k : Nat) (hk : 4000000 < k) : wal_Check.f k (L.map sgP) nx wt = some (cond (checkB L nx wt) 0 9) := by
  have hm : (L.map sgP).length = L.length := List.length_map _
  obtain ⟨k, rfl⟩ : ∃ m, k = m + 3 := ⟨k - 3, by omega⟩
  have hbad : ∀ x : Int, wal_Check.j0 (k + 3) false (L.map sgP) x wt = some 9 := by
    intro x
    simp only [wal_Check.j0, wal_Check.j1]
    rw [if_neg (by simp)]
    exact check_false _ _ _ _ _ _ 0 (k + 1) (by omega) rfl
  unfold wal_Check.f checkB
  by_cases h1 : L.length ≤ 4096
  case neg => rw [if_neg (by omega), decide_eq_false h1, hbad]; rfl
  rw [if_pos (by omega), decide_eq_true h1, Bool.true_and, pIndex, Option.bind_some]
  by_cases h2 : 0 ≤ nx ∧ nx ≤ 1099511627776
  case neg => rw [decide_eq_false h2, if_neg (by simp), hbad]; rfl
  rw [decide_eq_true h2, if_pos rfl, Bool.true_and]
  have hd : decide ((wt.length : Int) ≤ 4096) = decide (wt.length ≤ 4096) := decide_eq_decide.2 (by omega)
  rw [hd]
  by_cases h3 : wt.length ≤ 4096
  case neg => rw [decide_eq_false h3, hbad]; rfl
  rw [decide_eq_true h3, Bool.true_and]
  simp only [wal_Check.j0]
  rw [if_pos trivial, containsB, Option.bind_some]
  simp only [wal_Check.j1]
  cases h4 : (wt.any fun v => decide (4096 < v.length)) with
  | true => exact check_false _ _ _ _ _ _ 0 (k + 1) (by omega) rfl
  | false =>
    rw [Bool.not_false, Bool.true_and]
    have := check_all L he hl nx wt L (k + 1) 0 nx rfl (by omega) (by omega) (fun h => absurd h (by omega))
    exact this
theorem refcheck_l1 (S : List (Int × List Int)) (he : ∀ x ∈ S, Octs x.2 ∧ x.2.length ≤ 1048576) (hl : S.length ≤ 1048576) (z : Int) (wt : List (List Int)) : ∀ (r : List (Int × List Int)) (k i : Nat) (x4 : Int), S.drop i = r → i ≤ S.length → 2 * r.length + 1100000 < k → (0 < i → 0 ≤ x4 ∧ x4 ≤ 2199023255552) →
    transeptref08_Check.l1 k x4 (i : Int) (S.map sgR) z wt = some (cond (chainB (decide (i = 0)) x4 r z) 0 9) := by
  have hm : (S.map sgR).length = S.length := List.length_map _
  intro r
  induction r with
  | nil =>
    intro k i x4 hs hi hk hx
    obtain ⟨k, rfl⟩ : ∃ m, k = m + 1 := ⟨k - 1, by omega⟩
    have : S.length ≤ i := by have := congrArg List.length hs; rw [List.length_drop] at this; simp at this; omega
    simp only [transeptref08_Check.l1, chainB]
    rw [if_neg (by omega)]
    by_cases hz : x4 = z
    · rw [if_pos hz, decide_eq_true hz]; rfl
    · rw [if_neg hz, decide_eq_false hz]; rfl
  | cons x r ih =>
    intro k i x4 hs hi hk hx4
    obtain ⟨f, b⟩ := x
    rw [List.length_cons] at hk
    obtain ⟨k, rfl⟩ : ∃ m, k = m + 2 := ⟨k - 2, by omega⟩
    have hlen : S.length - i = r.length + 1 := by have := congrArg List.length hs; rw [List.length_drop, List.length_cons] at this; exact this
    have h1 : i < S.length := by omega
    rw [List.drop_eq_getElem_cons h1] at hs
    injection hs with hx hr
    have hb : Octs b ∧ b.length ≤ 1048576 := by
      have hb := he _ (List.getElem_mem h1)
      rw [hx] at hb
      exact hb
    have hcc := rcs_count b
    have hrec := whole_any b hb.1 hb.2 k (by omega)
    have HWI : Aside0 (wrap64 ((i : Int) + 1) = ((i + 1 : Nat) : Int)) := ⟨by rw [wrap64_id (by omega) (by omega)]; omega⟩
    have hj : ∀ c : Bool, (0 ≤ f ∧ f ≤ 1099511627776) → transeptref08_Check.j3 (k + 1) (i : Int) c (S.map sgR) z wt f b = some (cond ((!c && (decide (lenR (rcs b) = b.length) && chainB false (f + ((rcs b).length : Int)) r z))) 0 9) := by
      intro c hf
      have hwf : Aside0 (wrap64 (f + ((rcs b).length : Int)) = f + ((rcs b).length : Int)) := ⟨wrap64_id (by omega) (by omega)⟩
      simp only [transeptref08_Check.j3]
      cases c with
      | true => rw [if_pos rfl]; rfl
      | false =>
        rw [if_neg (by simp), hrec, Option.bind_some]
        dsimp only
        rw [Bool.not_false, Bool.true_and]
        by_cases hg : lenR (rcs b) = b.length
        · rw [if_pos (by omega), decide_eq_true hg, Bool.true_and, hwf.out, HWI.out]
          have := ih k (i + 1) (f + ((rcs b).length : Int)) hr (by omega) (by omega) (fun _ => by omega)
          rw [decide_eq_false (by omega)] at this
          exact this
        · rw [if_neg (by omega), decide_eq_false hg]; rfl
    have hjt : transeptref08_Check.j3 (k + 1) (i : Int) true (S.map sgR) z wt f b = some 9 := by
      simp only [transeptref08_Check.j3]
      rfl
    simp only [transeptref08_Check.l1, chainB]
    rw [if_pos (by omega), if_pos (by omega), rdRm S i h1, hx]
    dsimp only
    rw [rIndex, Option.bind_some]
    by_cases hf : 0 ≤ f ∧ f ≤ 1099511627776
    · rw [decide_eq_true hf, if_pos rfl, Bool.true_and]
      by_cases hi0 : (i : Int) > 0
      · have hd : decide (decide (i = 0) = true ∨ f = x4) = decide (f = x4) := decide_eq_decide.2 (by simp; omega)
        rw [if_pos hi0, hj _ hf, hd]
        congr 2
        by_cases hfx : f = x4
        · rw [decide_eq_true hfx, hfx]; simp
        · rw [decide_eq_false hfx, show (f != x4) = true from bne_iff_ne.2 hfx]; simp
      · rw [if_neg hi0, hj _ hf, decide_eq_true (show decide (i = 0) = true ∨ f = x4 from Or.inl (decide_eq_true (by omega))), Bool.true_and, Bool.not_false, Bool.true_and]
    · rw [decide_eq_false hf, if_neg (by simp), hjt]; rfl
theorem refcheck_l0 (S : List (Int × List Int)) (he : ∀ x ∈ S, Octs x.2 ∧ x.2.length ≤ 1048576) (hl : S.length ≤ 1048576) (z : Int) (wt : List (List Int)) (hw : wt.length ≤ 1048576) : ∀ (r : List (List Int)) (k i : Nat), wt.drop i = r → i ≤ wt.length → r.length + 3300000 < k →
    transeptref08_Check.l0 k (i : Int) (S.map sgR) z wt = some (cond (((!r.any fun v => decide (4096 < v.length)) && chainB true z S z)) 0 9) := by
  intro r
  induction r with
  | nil =>
    intro k i hs hi hk
    obtain ⟨k, rfl⟩ : ∃ m, k = m + 1 := ⟨k - 1, by omega⟩
    have : wt.length ≤ i := by have := congrArg List.length hs; rw [List.length_drop] at this; simp at this; omega
    simp only [transeptref08_Check.l0]
    rw [if_neg (by omega)]
    have := refcheck_l1 S he hl z wt S k 0 z rfl (by omega) (by simp at hk; omega) (fun h => absurd h (by omega))
    exact this
  | cons v r ih =>
    intro k i hs hi hk
    rw [List.length_cons] at hk
    obtain ⟨k, rfl⟩ : ∃ m, k = m + 1 := ⟨k - 1, by omega⟩
    have h1 : i < wt.length := by have := congrArg List.length hs; rw [List.length_drop, List.length_cons] at this; omega
    rw [List.drop_eq_getElem_cons h1] at hs
    injection hs with hx hr
    have HWI : Aside0 (wrap64 ((i : Int) + 1) = ((i + 1 : Nat) : Int)) := ⟨by rw [wrap64_id (by omega) (by omega)]; omega⟩
    simp only [transeptref08_Check.l0]
    rw [if_pos (by omega), if_pos (by omega), rdL wt i h1, hx]
    by_cases hv : (v.length : Int) > 4096
    · rw [if_pos hv, List.any_cons, decide_eq_true (by omega)]; rfl
    · rw [if_neg hv, List.any_cons, decide_eq_false (by omega), Bool.false_or, HWI.out]
      exact ih k (i + 1) hr (by omega) (by omega)
theorem checkR (L : List (Int × List Int)) (he : ∀ x ∈ L, Octs x.2 ∧ x.2.length ≤ 1048576) (hl : L.length ≤ 1048576) (nx : Int) (wt : List (List Int)) (hw : wt.length ≤ 1048576) (k : Nat) (hk : 5000000 < k) : transeptref08_Check.f k (L.map sgR) nx wt = some (cond (checkB L nx wt) 0 9) := by
  have hm : (L.map sgR).length = L.length := List.length_map _
  obtain ⟨k, rfl⟩ : ∃ m, k = m + 1 := ⟨k - 1, by omega⟩
  have hbad : ∀ x : Int, transeptref08_Check.j0 (k + 1) true (L.map sgR) x wt = some 9 := by
    intro x
    simp only [transeptref08_Check.j0]
    rfl
  unfold transeptref08_Check.f checkB
  by_cases h1 : L.length ≤ 4096
  case neg => rw [if_pos (by omega), decide_eq_false h1, hbad]; rfl
  rw [if_neg (by omega), decide_eq_true h1, Bool.true_and, rIndex, Option.bind_some]
  by_cases h2 : 0 ≤ nx ∧ nx ≤ 1099511627776
  case neg => rw [decide_eq_false h2, if_neg (by simp), hbad]; rfl
  rw [decide_eq_true h2, if_pos rfl, Bool.true_and]
  by_cases h3 : wt.length ≤ 4096
  case neg => rw [decide_eq_true (show (wt.length : Int) > 4096 by omega), decide_eq_false h3, hbad]; rfl
  rw [decide_eq_false (show ¬ (wt.length : Int) > 4096 by omega), decide_eq_true h3, Bool.true_and]
  simp only [transeptref08_Check.j0]
  rw [if_neg (by simp)]
  have := refcheck_l0 L he hl nx wt hw wt k 0 rfl (by omega) (by omega)
  exact this
end Go.Proofs.Ytooabchnbmnchaa.Q
