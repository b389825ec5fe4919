-- (thinned for this claim by wip/tools/shake.py: what the claim doesn't use is left out)
import Derived.Test.YtooabchnbmnchaaQ9
import Derived.Test.YtooabchnbmnchaaQ54
import Derived.Test.YtooabchnbmnchaaQ14
import Derived.Test.YtooabchnbmnchaaQ39
import Derived.Test.YtooabchnbmnchaaQ55
import Derived.Test.YtooabchnbmnchaaQ27
import Derived.Test.YtooabchnbmnchaaQ47
import Derived.Test.YtooabchnbmnchaaKit
import Derived.Test.YtooabchnbmnchaaPlNum
import Derived.Test.YtooabchnbmnchaaPlCrc
import Derived.Test.YtooabchnbmnchaaPlLin
import Derived.Test.YtooabchnbmnchaaPlScan
import Derived.Test.YtooabchnbmnchaaPlRefSc
import Derived.Test.YtooabchnbmnchaaPlSame
import Derived.Test.YtooabchnbmnchaaPlSameL
import Derived.Test.YtooabchnbmnchaaPlWal
import Derived.Test.YtooabchnbmnchaaPlWalF
import Derived.Test.YtooabchnbmnchaaPlWalV
import Derived.Test.YtooabchnbmnchaaPlWalW
namespace Go.Proofs.Ytooabchnbmnchaa.Q
open Go.RowKit Go.Proofs.YtooabchnbmnchaaW.PrintWords Go.Proofs.YtooabchnbmnchaaW.PrintLast Go.Proofs.YtooabchnbmnchaaW.PrintMore
set_option linter.unusedVariables false
set_option linter.unusedSimpArgs false
theorem recG_fit (l : List (Int × List Int)) (hg : GoodS l) : ∀ (r : List (Int × List Int)) (first : Bool) (i : Nat) (z a : Int) (S : List (Int × List Int)) (all : List (List Int)), l.drop i = r → i ≤ l.length → Fit l S all i → 0 ≤ z ∧ z ≤ 1099511627776 → ChainOK a S z → (∀ d ∈ all, d.length ≤ 4096) →
    (∃ a, ChainOK a (recG first z S all r).1 (recG first z S all r).2.1) ∧ Fit l (recG first z S all r).1 (recG first z S all r).2.2.1 l.length ∧ (0 ≤ (recG first z S all r).2.1 ∧ (recG first z S all r).2.1 ≤ 1099511627776) ∧ (∀ d ∈ (recG first z S all r).2.2.1, d.length ≤ 4096) ∧ (0 ≤ (recG first z S all r).2.2.2 ∧ (recG first z S all r).2.2.2 ≤ 81) := by
  intro r
  have up : ∀ {S all i}, Fit l S all i → i ≤ l.length → Fit l S all l.length := fun h hi => ⟨by have := h.len; omega, h.each, by have := h.cnt; omega⟩
  induction r with
  | nil => intro first i z a S all hs hi hf hz hc hd; exact ⟨⟨a, hc⟩, up hf hi, hz, hd, by simp [recG]⟩
  | cons x r ih =>
    intro first i z a S all hs hi hf hz hc hd
    obtain ⟨f, b⟩ := x
    have hlen : l.length - i = r.length + 1 := by have := congrArg List.length hs; rw [List.length_drop, List.length_cons] at this; exact this
    have h1 : i < l.length := by omega
    rw [List.drop_eq_getElem_cons h1] at hs
    injection hs with hx hr
    have hb : Octs b ∧ b.length ≤ 1048576 := by
      have hb := hg.each _ (List.getElem_mem h1)
      rw [hx] at hb
      exact hb
    have hcc := rcs_count b
    have hn := rcs_len b
    have hfl := hf.len
    have hfc := hf.cnt
    have hall : (all ++ rcs b).length ≤ 131072 * (i + 1) := by rw [List.length_append]; omega
    have hd2 : ∀ d ∈ all ++ rcs b, d.length ≤ 4096 := fun d hd' => (List.mem_append.1 hd').elim (hd d) (rcs_data b d)
    simp only [recG]
    by_cases hfz : f = z
    case neg => rw [if_neg hfz]; exact ⟨⟨a, hc⟩, up hf hi, hz, hd, by simp⟩
    subst hfz
    rw [if_pos rfl]
    by_cases hov : f + ((rcs b).length : Int) > 1099511627776
    · rw [if_pos hov]; exact ⟨⟨0, rfl⟩, ⟨by simp, (fun x hx => by cases hx), by simp⟩, by simp, (fun d hd' => by cases hd'), by simp⟩
    rw [if_neg hov]
    obtain ⟨S2, hS2⟩ : ∃ S2, S2 = (if (first || decide (0 < lenR (rcs b))) = true then S ++ [(f, b.take (lenR (rcs b)))] else S) := ⟨_, rfl⟩
    rw [← hS2]
    have hfit : Fit l S2 (all ++ rcs b) (i + 1) ∧ ChainOK a S2 (f + ((rcs b).length : Int)) := by
      rw [hS2]
      by_cases hcc : (first || decide (0 < lenR (rcs b))) = true
      · rw [if_pos hcc]
        refine ⟨⟨by rw [List.length_append]; simp; omega, ?_, hall⟩, ?_⟩
        · intro x hx
          rcases List.mem_append.1 hx with hx | hx
          · exact hf.each x hx
          · rw [List.mem_singleton] at hx; subst hx; exact ⟨fun y hy => hb.1 y (List.mem_of_mem_take hy), by show (b.take (lenR (rcs b))).length ≤ 1048576; rw [List.length_take]; omega⟩
        · have := chain_snoc S a f (b.take (lenR (rcs b))) hc hz (by rw [rcs_cut, List.length_take]; omega)
          rw [rcs_cut] at this
          exact this
      · rw [if_neg hcc]
        have h0 : ¬ 0 < lenR (rcs b) := by
          intro h; apply hcc; rw [decide_eq_true h, Bool.or_true]
        have := lenR_ge (rcs b)
        have h0 : (rcs b).length = 0 := by omega
        exact ⟨⟨by omega, hf.each, hall⟩, by rw [h0]; simpa using hc⟩
    by_cases ht : lenR (rcs b) < b.length
    · rw [if_pos ht]
      refine ⟨⟨a, hfit.2⟩, up hfit.1 (by omega), by constructor <;> (show _ ≤ _; dsimp only; omega), hd2, ?_⟩
      dsimp only
      split <;> simp
    · rw [if_neg ht]
      exact ih false (i + 1) _ a S2 _ hr (by omega) hfit.1 (by omega) hfit.2 hd2
theorem recA_fit (l : List (Int × List Int)) (hg : GoodS l) : (∃ a, ChainOK a (recA l).1 (recA l).2.1) ∧ Fit l (recA l).1 (recA l).2.2.1 l.length ∧ (0 ≤ (recA l).2.1 ∧ (recA l).2.1 ≤ 1099511627776) ∧ (∀ d ∈ (recA l).2.2.1, d.length ≤ 4096) ∧ (0 ≤ (recA l).2.2.2 ∧ (recA l).2.2.2 ≤ 81) ∧ (recA l).1.length ≤ 4096 ∧ ((recA l).2.2.2 ≠ 81 → l.length ≤ 4096) := by
  have no : ∀ e : Int, (0 ≤ e ∧ e ≤ 81) → (e ≠ 81 → l.length ≤ 4096) → (∃ a, ChainOK a (([], (0 : Int), [], e) : List (Int × List Int) × Int × List (List Int) × Int).1 0) ∧ Fit l [] [] l.length ∧ (0 ≤ (0 : Int) ∧ (0 : Int) ≤ 1099511627776) ∧ (∀ d ∈ ([] : List (List Int)), d.length ≤ 4096) ∧ (0 ≤ e ∧ e ≤ 81) ∧ ([] : List (Int × List Int)).length ≤ 4096 ∧ (e ≠ 81 → l.length ≤ 4096) :=
    fun e he hl => ⟨⟨0, rfl⟩, ⟨by simp, (fun x hx => by cases hx), by simp⟩, by simp, (fun d hd => by cases hd), he, by simp, hl⟩
  cases l with
  | nil => exact no 0 (by simp) (by simp)
  | cons x r =>
    obtain ⟨f, b⟩ := x
    simp only [recA]
    by_cases h : 4096 < ((f, b) :: r).length ∨ ¬ (0 ≤ f ∧ f ≤ 1099511627776)
    · rw [if_pos h]; exact no 81 (by simp) (fun h => absurd rfl h)
    · rw [if_neg h]
      have hl : ((f, b) :: r).length ≤ 4096 := by
        apply Classical.not_not.1; intro hn; exact h (Or.inl (by omega))
      have hf : 0 ≤ f ∧ f ≤ 1099511627776 := by
        apply Classical.not_not.1; intro hn; exact h (Or.inr hn)
      have := recG_fit ((f, b) :: r) hg ((f, b) :: r) true 0 f f [] [] rfl (by omega) ⟨by simp, (fun x hx => by cases hx), by simp⟩ hf rfl (fun d hd => by cases hd)
      have h2 := this.2.1.len
      exact ⟨this.1, this.2.1, this.2.2.1, this.2.2.2.1, this.2.2.2.2, by omega, fun _ => hl⟩
theorem check_chain (S : List (Int × List Int)) (he : ∀ x ∈ S, Octs x.2 ∧ x.2.length ≤ 1048576) (hl : S.length ≤ 4096) (z : Int) : ∀ (r : List (Int × List Int)) (k i : Nat) (x4 a : Int), S.drop i = r → i ≤ S.length → r.length + 1100000 < k → ChainOK a r z → (0 < i ∨ r = [] → x4 = a) →
    wal_Check.l0 k true x4 (S.map sgP) ((S.map sgP).length : Int) (i : Int) (S.map sgP) z [] = some 0 := by
  have hm : (S.map sgP).length = S.length := List.length_map _
  intro r
  induction r with
  | nil =>
    intro k i x4 a hs hi hk hc hx
    obtain ⟨k, rfl⟩ : ∃ m, k = m + 1 := ⟨k - 1, by omega⟩
    have : S.length ≤ i := by have := congrArg List.length hs; rw [List.length_drop] at this; simp at this; omega
    simp only [wal_Check.l0]
    have hz : x4 = z := by rw [hx (Or.inr rfl)]; exact hc
    rw [if_neg (by omega), if_pos trivial, if_pos hz]
  | cons x r ih =>
    intro k i x4 a hs hi hk hc hx4
    obtain ⟨f, b⟩ := x
    rw [List.length_cons] at hk
    obtain ⟨k, rfl⟩ : ∃ m, k = m + 1 := ⟨k - 1, by omega⟩
    have hlen : S.length - i = r.length + 1 := by have := congrArg List.length hs; rw [List.length_drop, List.length_cons] at this; exact this
    have h1 : i < S.length := by omega
    rw [List.drop_eq_getElem_cons h1] at hs
    injection hs with hx hr
    have hb : Octs b ∧ b.length ≤ 1048576 := by
      have hb := he _ (List.getElem_mem h1)
      rw [hx] at hb
      exact hb
    obtain ⟨c1, c2, c3, c4⟩ := hc
    dsimp only at c1 c3 c4
    subst c1
    have hcc := rcs_count b
    have hrec := records_any b hb.1 hb.2 k (by omega)
    have hwi : wrap64 ((i : Int) + 1) = ((i + 1 : Nat) : Int) := by rw [wrap64_id (by omega) (by omega)]; omega
    have HWI := Aside0.mk hwi
    clear hwi
    have hwf : wrap64 (f + ((rcs b).length : Int)) = f + ((rcs b).length : Int) := wrap64_id (by omega) (by omega)
    have HWF := Aside0.mk hwf
    clear hwf
    have hgood : ((((lenR (rcs b) : Nat) : Int)) == ((b.length : Nat) : Int)) = true := by rw [c3]; simp
    have hix : wal_index.f f = some true := by rw [pIndex, decide_eq_true c2]
    have hi2 := ih k (i + 1) (f + ((rcs b).length : Int)) _ hr (by omega) (by omega) c4 (fun _ => rfl)
    simp only [wal_Check.l0]
    rw [if_pos (by omega), if_pos (by omega), if_pos (by omega), if_pos trivial, rdPm S i h1, hx]
    dsimp only
    by_cases hi0 : (i : Int) = 0
    · rw [if_pos hi0, hrec, Option.bind_some, hix, Option.bind_some, if_pos rfl]
      dsimp only
      rw [hgood, HWF.out, HWI.out]
      exact hi2
    · have hxx := hx4 (Or.inl (by omega))
      subst hxx
      rw [if_neg hi0, hrec, Option.bind_some, hix, Option.bind_some, if_pos rfl, if_pos rfl]
      dsimp only
      rw [hgood, HWF.out, HWI.out]
      exact hi2
theorem contains_nil : slices_ContainsFunc_byte_byte.f [] 78 = some false := rfl
theorem check_any (S : List (Int × List Int)) (he : ∀ x ∈ S, Octs x.2 ∧ x.2.length ≤ 1048576) (hl : S.length ≤ 4096) (z : Int) (hz : 0 ≤ z ∧ z ≤ 1099511627776) (a : Int) (hc : ChainOK a S z) (k : Nat) (hk : 2000000 < k) : wal_Check.f k (S.map sgP) z [] = some 0 := by
  obtain ⟨k, rfl⟩ : ∃ m, k = m + 2 := ⟨k - 2, by omega⟩
  unfold wal_Check.f
  rw [if_pos (by rw [List.length_map]; omega), pIndex, decide_eq_true hz, Option.bind_some, if_pos rfl, decide_eq_true (by simp)]
  simp only [wal_Check.j0]
  rw [if_pos trivial, contains_nil, Option.bind_some]
  simp only [wal_Check.j1, Bool.not_false]
  refine check_chain S he hl z S k 0 z a rfl (by omega) (by omega) hc ?_
  rintro (h | h)
  · exact absurd h (by omega)
  · subst h; exact hc.symm
theorem copyBytes_is (l : List Int) (h : l.length < 140737488355328) : transeptplain_CopyBytes.f l = some l := by
  unfold transeptplain_CopyBytes.f
  rw [if_pos (by simpa using h), List.nil_append]
theorem segs_loop (l : List (Int × List Int)) (hg : GoodS l) : ∀ (d k i : Nat), i + d = l.length → d < k → transeptlaw08_Segs.l0 k (l.map sgR) ((l.take i).map sgP) (i : Int) = some (l.map sgP) := by
  have hm : (l.map sgR).length = l.length := List.length_map _
  have hgl := hg.len
  intro d
  induction d with
  | zero =>
    intro k i hi hk
    obtain ⟨k, rfl⟩ : ∃ m, k = m + 1 := ⟨k - 1, by omega⟩
    simp only [transeptlaw08_Segs.l0]
    rw [if_neg (by omega), List.take_of_length_le (by omega)]
  | succ d ih =>
    intro k i hi hk
    obtain ⟨k, rfl⟩ : ∃ m, k = m + 1 := ⟨k - 1, by omega⟩
    have h1 : i < l.length := by omega
    have hb := hg.each _ (List.getElem_mem h1)
    simp only [transeptlaw08_Segs.l0]
    rw [if_pos (by omega), if_pos (by omega), rdRm l i h1]
    dsimp only
    rw [copyBytes_is _ (by omega), Option.bind_some, if_pos (by rw [List.length_map, List.length_take]; omega), wrap64_id (by omega) (by omega)]
    have := ih k (i + 1) (by omega) (by omega)
    rw [← List.take_append_getElem h1, List.map_append] at this
    exact this
theorem segs_any (l : List (Int × List Int)) (hg : GoodS l) (k : Nat) (hk : 1048576 < k) : transeptlaw08_Segs.f k (l.map sgR) = some (l.map sgP) := by
  have hgl := hg.len
  unfold transeptlaw08_Segs.f
  exact segs_loop l hg l.length k 0 (by omega) (by omega)
theorem same08_loop (S : List (Int × List Int)) (he : ∀ x ∈ S, x.2.length ≤ 1048576) (hl : S.length ≤ 1048576) (z : Int) : ∀ (d k i : Nat), i + d = S.length → d + 1100000 < k → transeptlaw08_same.l0 k (i : Int) (S.map sgP) z [] (S.map sgR) z [] = some true := by
  have hm : (S.map sgP).length = S.length := List.length_map _
  have hm2 : (S.map sgR).length = S.length := List.length_map _
  intro d
  induction d with
  | zero =>
    intro k i hi hk
    obtain ⟨k, rfl⟩ : ∃ m, k = m + 1 := ⟨k - 1, by omega⟩
    simp only [transeptlaw08_same.l0]
    rw [if_neg (by omega)]
  | succ d ih =>
    intro k i hi hk
    obtain ⟨k, rfl⟩ : ∃ m, k = m + 1 := ⟨k - 1, by omega⟩
    have h1 : i < S.length := by omega
    have hb := he _ (List.getElem_mem h1)
    simp only [transeptlaw08_same.l0]
    rw [if_pos (by omega), if_pos (by omega), if_pos (by omega), rdPm S i h1, rdRm S i h1]
    dsimp only
    rw [if_pos rfl, same_is _ _ (by omega) k (by omega), Option.bind_some, decide_eq_true rfl, if_pos rfl, wrap64_id (by omega) (by omega)]
    exact ih k (i + 1) (by omega) (by omega)
theorem same08_any (S : List (Int × List Int)) (he : ∀ x ∈ S, x.2.length ≤ 1048576) (hl : S.length ≤ 1048576) (z : Int) (k : Nat) (hk : 3000000 < k) : transeptlaw08_same.f k (S.map sgP) z [] (S.map sgR) z [] = some true := by
  obtain ⟨k, rfl⟩ : ∃ m, k = m + 1 := ⟨k - 1, by omega⟩
  unfold transeptlaw08_same.f
  rw [if_pos rfl, sameLists_is [] (fun x hx => by cases hx) (by simp) (k + 1) (by simp; omega), Option.bind_some, if_pos rfl]
  simp only [transeptlaw08_same.j0]
  rw [if_neg (by simp)]
  exact same08_loop S he hl z S.length k 0 (by omega) (by omega)
end Go.Proofs.Ytooabchnbmnchaa.Q
