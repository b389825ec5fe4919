-- (thinned for this claim by wip/tools/shake.py: what the claim doesn't use is left out)
import Derived.Test.YtooabchnbmnchaaQ17
import Derived.Test.YtooabchnbmnchaaQ26
import Derived.Test.YtooabchnbmnchaaQ22
import Derived.Test.YtooabchnbmnchaaQ49
import Derived.Test.YtooabchnbmnchaaKit
import Derived.Test.YtooabchnbmnchaaPlNum
import Derived.Test.YtooabchnbmnchaaPlCrc
import Derived.Test.YtooabchnbmnchaaPlScan
import Derived.Test.YtooabchnbmnchaaPlWal
import Derived.Test.YtooabchnbmnchaaPlWalF
import Derived.Test.YtooabchnbmnchaaPlWalL
namespace Go.Proofs.Ytooabchnbmnchaa.Q
open Go.RowKit Go.Proofs.YtooabchnbmnchaaW.PrintWords Go.Proofs.YtooabchnbmnchaaW.PrintLast Go.Proofs.YtooabchnbmnchaaW.PrintMore
set_option linter.unusedVariables false
set_option linter.unusedSimpArgs false
def LowG (lim : Int) (g : List (List Int)) : Prop := ∀ j, j < g.length → ((lenR (g.take j) : Nat) : Int) < lim
def Lim (lim : Int) (gs : List (List (List Int))) : Prop := (∀ g ∈ gs, LowG lim g) ∧ ∀ g ∈ gs.dropLast, lim ≤ ((lenR g : Nat) : Int)
theorem Lim_nil (lim : Int) : Lim lim [] := ⟨(fun g hg => by cases hg), (fun g hg => by cases hg)⟩
theorem Lim_snoc (lim : Int) (hs : List (List (List Int))) (g : List (List Int)) (b : List Int) (h : (∀ x ∈ hs, LowG lim x ∧ lim ≤ ((lenR x : Nat) : Int)) ∧ LowG lim g ∧ ((lenR g : Nat) : Int) < lim) : Lim lim (hs ++ [g ++ [b]]) := by
  refine ⟨fun x hx => ?_, fun x hx => ?_⟩
  · rcases List.mem_append.1 hx with hx | hx
    · exact (h.1 x hx).1
    · rw [List.mem_singleton] at hx
      subst hx
      intro j hj
      rw [List.length_append, List.length_singleton] at hj
      by_cases hjl : j < g.length
      · rw [List.take_append_of_le_length (by omega)]; exact h.2.1 j hjl
      · rw [show j = g.length by omega, List.take_append_of_le_length (Nat.le_refl _), List.take_of_length_le (Nat.le_refl _)]; exact h.2.2
  · rw [List.dropLast_concat] at hx
    exact (h.1 x hx).2
theorem openL_is (limit : Int) (hl1 : 1 ≤ limit) (a : Nat) (gs : List (List (List Int))) (hne : NE gs) (hm : Lim limit gs) : ∃ hs g, openSeg limit ((a + gs.flatten.length : Nat) : Int) (segsOf a gs) = segsOf a (hs ++ [g]) ∧ (hs ++ [g]).flatten = gs.flatten ∧ NE hs ∧ (hs ++ [g] = gs ∨ (hs = gs ∧ g = [])) ∧ (∀ x ∈ hs, LowG limit x ∧ limit ≤ ((lenR x : Nat) : Int)) ∧ LowG limit g ∧ ((lenR g : Nat) : Int) < limit := by
  have hnew : segsOf a gs ++ [⟨((a + gs.flatten.length : Nat) : Int), []⟩] = segsOf a (gs ++ [[]]) := by rw [segsOf_append]; rfl
  have hnil : LowG limit [] := fun j hj => absurd hj (by simp)
  have hnl : ((lenR ([] : List (List Int)) : Nat) : Int) < limit := by simp [lenR]; omega
  rcases List.eq_nil_or_concat gs with rfl | ⟨hs, g, rfl⟩
  · exact ⟨[], [], by unfold openSeg; rw [if_pos (by rw [segsOf_length]; rfl)]; exact hnew, by simp, hne, Or.inr ⟨rfl, rfl⟩, fun x hx => (by cases hx), hnil, hnl⟩
  · rw [List.concat_eq_append] at *
    have hl : (segsOf a (hs ++ [g])).length = hs.length + 1 := by rw [segsOf_length]; simp
    have hlast : (rd_T70 (segsOf a (hs ++ [g])) (((segsOf a (hs ++ [g])).length : Int) - 1)).f1 = catR g := by
      rw [hl, show ((hs.length + 1 : Nat) : Int) - 1 = ((hs.length : Nat) : Int) by omega, rdS _ _ (by omega), segsOf_get _ a hs.length (by simp)]
      simp
    have hms := hm.2
    rw [List.dropLast_concat] at hms
    unfold openSeg
    rw [if_neg (by omega), hlast, catR_len]
    by_cases hc : limit ≤ ((lenR g : Nat) : Int)
    · rw [if_pos hc]
      refine ⟨hs ++ [g], [], hnew, by simp, hne, Or.inr ⟨rfl, rfl⟩, fun x hx => ⟨hm.1 x hx, ?_⟩, hnil, hnl⟩
      rcases List.mem_append.1 hx with hx | hx
      · exact hms x hx
      · rw [List.mem_singleton] at hx; subst hx; exact hc
    · rw [if_neg hc]
      exact ⟨hs, g, rfl, rfl, fun x hx => hne x (by simp [hx]), Or.inl rfl, fun x hx => ⟨hm.1 x (by simp [hx]), hms x hx⟩, hm.1 g (by simp), by omega⟩
theorem flushL_loop (limit : Int) (hl1 : 1 ≤ limit) (a : Nat) (ha : a ≤ 1000000) : ∀ (bs : List (List Int)) (gs : List (List (List Int))), (∀ d ∈ bs, Rec d) → GoodG gs → NE gs → gs.flatten.length + bs.length ≤ 4096 → Lim limit gs →
    ∃ gs', wal_Flush.l0 bs limit (segsOf a gs) ((a + gs.flatten.length : Nat) : Int) = some (segsOf a gs', ((a + gs'.flatten.length : Nat) : Int), [], 0) ∧ gs'.flatten = gs.flatten ++ bs ∧ GoodG gs' ∧ NE gs' ∧ Lim limit gs' := by
  intro bs
  induction bs with
  | nil => intro gs _ hg hn _ hm; exact ⟨gs, rfl, by simp, hg, hn, hm⟩
  | cons b bs ih =>
    intro gs hb hg hn ht hm
    obtain ⟨hs, g, ho, hf, hnh, hor, hlm⟩ := openL_is limit hl1 a gs hn hm
    have hrb := hb b (by simp)
    have hlen : gs.length ≤ gs.flatten.length := NE_len gs hn
    rw [List.length_cons] at ht
    have hgood : GoodG (hs ++ [g ++ [b]]) := by
      intro x hx d hd
      rcases List.mem_append.1 hx with hx | hx
      · rcases hor with e | ⟨e, _⟩
        · exact hg x (by rw [← e]; exact List.mem_append.2 (Or.inl hx)) d hd
        · exact hg x (by rw [← e]; exact hx) d hd
      · rw [List.mem_singleton] at hx
        subst hx
        rcases List.mem_append.1 hd with hd | hd
        · rcases hor with e | ⟨_, e⟩
          · exact hg g (by rw [← e]; simp) d hd
          · rw [e] at hd; cases hd
        · rw [List.mem_singleton] at hd; subst hd; exact hrb
    have hne : NE (hs ++ [g ++ [b]]) := by
      intro x hx
      rcases List.mem_append.1 hx with hx | hx
      · exact hnh x hx
      · rw [List.mem_singleton] at hx; subst hx; simp
    have hfl : (hs ++ [g ++ [b]]).flatten = gs.flatten ++ [b] := by
      rw [← hf]; simp
    have hlen2 := NE_len _ hne
    have hfl2 : (hs ++ [g ++ [b]]).flatten.length = gs.flatten.length + 1 := by rw [hfl]; simp
    obtain ⟨gs', h1, h2, h3, h4, h5⟩ := ih (hs ++ [g ++ [b]]) (fun d hd => hb d (by simp [hd])) hgood hne (by omega) (Lim_snoc limit hs g b hlm)
    refine ⟨gs', ?_, by rw [h2, hfl]; simp, h3, h4, h5⟩
    have hld : (lastData (segsOf a (hs ++ [g]))).length ≤ 100000000 := by
      have e1 : segsOf a (hs ++ [g]) = segsOf a hs ++ [⟨((a + hs.flatten.length : Nat) : Int), catR g⟩] := by rw [segsOf_append]; rfl
      rw [e1]
      unfold lastData
      rw [last_app]
      have hl : g.length ≤ gs.flatten.length := by rw [← hf]; simp
      have hR : ∀ d ∈ g, Rec d := fun d hd => hgood (g ++ [b]) (by simp) d (by simp [hd])
      have := lenR_le g hR
      simp only [catR_len]
      omega
    have hb1 : -9223372036854775808 ≤ ((a + gs.flatten.length : Nat) : Int) + 1 := by omega
    have hb2 : ((a + gs.flatten.length : Nat) : Int) + 1 ≤ 9223372036854775807 := by omega
    simp only [wal_Flush.l0]
    rw [if_pos (by rw [segsOf_length]; omega), seal_is 1 (by omega) b hrb.2 hrb.1, Option.bind_some]
    simp only
    rw [ho, if_pos (by rw [sealOf_length]; have := hrb.1; omega), wrap64_id hb1 hb2, putLast_is, segsOf_length, if_neg (by omega), if_neg (by omega)]
    rw [show ((a + gs.flatten.length : Nat) : Int) + 1 = ((a + (hs ++ [g ++ [b]]).flatten.length : Nat) : Int) by rw [hfl2]; omega]
    exact h1
theorem flushL_is (limit : Int) (hl1 : 1 ≤ limit) (hl2 : limit ≤ 1048576) (a : Nat) (ha : a ≤ 1000000) (bs : List (List Int)) (gs : List (List (List Int))) (hb : ∀ d ∈ bs, Rec d) (hg : GoodG gs) (hn : NE gs) (ht : gs.flatten.length + bs.length ≤ 4096) (hm : Lim limit gs) (k : Nat) (hk : 30000000 < k) :
    ∃ gs', wal_Flush.f k (segsOf a gs) ((a + gs.flatten.length : Nat) : Int) bs limit = some (segsOf a gs', ((a + gs'.flatten.length : Nat) : Int), [], 0) ∧ gs'.flatten = gs.flatten ++ bs ∧ GoodG gs' ∧ NE gs' ∧ Lim limit gs' := by
  obtain ⟨gs', h1, h2⟩ := flushL_loop limit hl1 a ha bs gs hb hg hn ht hm
  refine ⟨gs', ?_, h2⟩
  have hlen := NE_len gs hn
  unfold wal_Flush.f
  rw [own_is a gs hg (by omega) ha (by omega) bs (fun d hd => (hb d hd).1) (by omega) k hk, Option.bind_some]
  simp only
  rw [if_pos trivial, if_neg (by omega), if_neg (by omega)]
  exact h1
theorem laidL_loop (bt : List (List (List Int))) (hB : ∀ b ∈ bt, b.length ≤ 1000000000000000 ∧ ∀ d ∈ b, Octs d) (lim : Int) (h1 : 1 ≤ lim) (h2 : lim ≤ 1048576) : ∀ (d k i : Nat) (gs : List (List (List Int))), i + d = 30 → 2 * d + 30000002 < k → GoodG gs → NE gs → gs.flatten.length ≤ 4000 → Lim lim gs →
    ∃ gs', transeptlaw08_laid.l0 k bt lim gs.flatten (i : Int) (segsOf 0 gs) ((0 + gs.flatten.length : Nat) : Int) [] = some (segsOf 0 gs', ((0 + gs'.flatten.length : Nat) : Int), [], gs'.flatten, true) ∧ GoodG gs' ∧ NE gs' ∧ gs'.flatten.length ≤ 4000 ∧ Lim lim gs' := by
  intro d
  induction d with
  | zero =>
    intro k i gs hi hk hg hn ht hm
    obtain ⟨k, rfl⟩ : ∃ m, k = m + 2 := ⟨k - 2, by omega⟩
    refine ⟨gs, ?_, hg, hn, ht, hm⟩
    simp only [transeptlaw08_laid.l0]
    by_cases hc : (i : Int) < (bt.length : Int)
    · rw [if_pos hc, decide_eq_false (by omega)]
      simp only [transeptlaw08_laid.j1]
      rfl
    · rw [if_neg hc]
      simp only [transeptlaw08_laid.j1]
      rfl
  | succ d ih =>
    intro k i gs hi hk hg hn ht hm
    obtain ⟨k, rfl⟩ : ∃ m, k = m + 2 := ⟨k - 2, by omega⟩
    simp only [transeptlaw08_laid.l0]
    by_cases hc : (i : Int) < (bt.length : Int)
    · rw [if_pos hc, decide_eq_true (by omega)]
      simp only [transeptlaw08_laid.j1]
      have hi2 : i < bt.length := by omega
      have hrd : rd_L3 bt (i : Int) = bt[i] := by
        unfold rd_L3
        rw [Int.toNat_natCast, List.getD_eq_getElem?_getD, List.getElem?_eq_getElem hi2]; rfl
      obtain ⟨hbl, hbo⟩ := hB _ (List.getElem_mem hi2)
      have hw : wrap64 ((gs.flatten.length : Int) + ((bt[i]).length : Int)) = (gs.flatten.length : Int) + ((bt[i]).length : Int) := wrap64_id (by omega) (by omega)
      have hw2 : wrap64 ((i : Int) + 1) = ((i + 1 : Nat) : Int) := wrap64_id (by omega) (by omega)
      rw [if_pos trivial, if_pos (by omega), if_pos hc, hrd, hw, hw2]
      clear hw hw2
      by_cases h4 : (gs.flatten.length : Int) + ((bt[i]).length : Int) > 4000
      · rw [if_pos h4]; exact ⟨gs, rfl, hg, hn, ht, hm⟩
      · rw [if_neg h4]
        by_cases hlong : ((bt[i]).any fun v => decide (4096 < v.length)) = true
        · rw [append_long 0 (by omega) _ gs hlong hg hn (by omega) k (by omega), Option.bind_some]
          have h5 : transeptlaw08_num.f 5 = some 5 := rfl
          simp only
          rw [h5, Option.bind_some, if_neg (by omega)]
          exact ih k (i + 1) gs (by omega) (by omega) hg hn ht hm
        · have hrec : ∀ d ∈ bt[i], Rec d := by
            intro d hd
            refine ⟨?_, hbo d hd⟩
            by_cases hl : d.length ≤ 4096
            · exact hl
            · exact absurd (List.any_eq_true.2 ⟨d, hd, decide_eq_true (by omega)⟩) hlong
          obtain ⟨gs', e1, e2, e3, e4, e5⟩ := flushL_is lim h1 h2 0 (by omega) (bt[i]) gs hrec hg hn (by omega) hm k (by omega)
          have h0 : transeptlaw08_num.f 0 = some 0 := rfl
          rw [append_is 0 (by omega) _ gs hrec hg hn (by omega) k (by omega), Option.bind_some]
          simp only
          rw [h0, Option.bind_some, if_pos rfl, e1, Option.bind_some]
          simp only
          rw [h0, Option.bind_some, if_pos rfl, if_pos (by omega), ← e2]
          have hlen : gs'.flatten.length = gs.flatten.length + (bt[i]).length := by rw [e2, List.length_append]
          exact ih k (i + 1) gs' (by omega) (by omega) e3 e4 (by omega) e5
    · refine ⟨gs, ?_, hg, hn, ht, hm⟩
      rw [if_neg hc]
      simp only [transeptlaw08_laid.j1]
      rfl
theorem laidL_is (bt : List (List (List Int))) (hB : ∀ b ∈ bt, b.length ≤ 1000000000000000 ∧ ∀ d ∈ b, Octs d) (lim : Int) (h1 : 1 ≤ lim) (h2 : lim ≤ 1048576) (k : Nat) (hk : 30000100 < k) :
    ∃ gs, transeptlaw08_laid.f k bt lim = some (segsOf 0 gs, ((0 + gs.flatten.length : Nat) : Int), [], gs.flatten, true) ∧ GoodG gs ∧ NE gs ∧ gs.flatten.length ≤ 4000 ∧ Lim lim gs := by
  unfold transeptlaw08_laid.f
  exact laidL_loop bt hB lim h1 h2 30 k 0 [] (by omega) (by omega) (fun g hg => by cases hg) (fun g hg => by cases hg) (by simp) (Lim_nil lim)
end Go.Proofs.Ytooabchnbmnchaa.Q
