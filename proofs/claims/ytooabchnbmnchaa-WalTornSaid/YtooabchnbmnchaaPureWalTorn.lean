/- What is proved: the plain half of WalTorn: wherever the last segment is cut off, the records that lie ahead of the cut are recovered, and none else. Conditions: none beyond the kinds' bounds and what one argument's rows hold. -/
import Derived.Test.YtooabchnbmnchaaQ58
import Derived.Test.YtooabchnbmnchaaKit
import Derived.Test.YtooabchnbmnchaaPlNum
import Derived.Test.YtooabchnbmnchaaPlCrc
import Derived.Test.YtooabchnbmnchaaPlScan
import Derived.Test.YtooabchnbmnchaaPlSame
import Derived.Test.YtooabchnbmnchaaPlSameL
import Derived.Test.YtooabchnbmnchaaPlWal
import Derived.Test.YtooabchnbmnchaaPlWalF
import Derived.Test.YtooabchnbmnchaaPlWalL
import Derived.Test.YtooabchnbmnchaaPlWalR
import Derived.Test.YtooabchnbmnchaaPlWalU
import Derived.Test.YtooabchnbmnchaaPlAlive8
namespace Go.Proofs.Ytooabchnbmnchaa.Pure
open Go.RowKit Go.Proofs.Ytooabchnbmnchaa.Q Go.Proofs.YtooabchnbmnchaaW.PrintWords Go.Proofs.YtooabchnbmnchaaW.PrintLast
theorem lenR_take_le (g : List (List Int)) (i j : Nat) (h : i ≤ j) : lenR (g.take i) ≤ lenR (g.take j) := by
  obtain ⟨d, rfl⟩ : ∃ d, j = i + d := ⟨j - i, by omega⟩
  rw [List.take_add, lenR_append]; omega
theorem torn_loop (F g : List (List Int)) (c m : Nat) (hg : ∀ d ∈ g, Rec d) (hF : ∀ d ∈ F, Rec d) (hm : m ≤ g.length) (hlen : F.length + g.length ≤ 4096) (h1 : lenR (g.take m) ≤ c) (h2 : m < g.length → c < lenR (g.take (m + 1))) : ∀ (d k j : Nat), j + d = m → d + 2000000 < k →
    transeptlaw08_WalTorn.l0 k (c : Int) (F ++ g) (F ++ g.take m) 0 ((F.length + j : Nat) : Int) ((lenR (g.take j) : Nat) : Int) = some true := by
  have h0 : transeptlaw08_num.f 0 = some 0 := rfl
  have hll : (F ++ g).length = F.length + g.length := List.length_append
  have hend : ∀ k, 1900000 < k → transeptplain_SameLists.f k (F ++ g.take m) ((F ++ g).take (((F.length + m : Nat) : Int)).toNat) = some true := by
    intro k hk
    rw [Int.toNat_natCast, List.take_append, List.take_of_length_le (l := F) (by omega), show F.length + m - F.length = m by omega]
    refine sameLists_is _ (fun x hx => ?_) (by rw [List.length_append, List.length_take]; omega) k (by rw [List.length_append, List.length_take]; omega)
    rcases List.mem_append.1 hx with hx | hx
    · have := (hF x hx).1; omega
    · have := (hg x (List.mem_of_mem_take hx)).1; omega
  have hstop : ∀ k, 1900000 < k → ((transeptlaw08_num.f 0).bind fun t611 => (if t611 = 0 then (if ((F.length + m : Nat) : Int) ≤ ((F ++ g).length : Int) then ((transeptplain_SameLists.f k (F ++ g.take m) ((F ++ g).take (((F.length + m : Nat) : Int)).toNat)).bind fun t617 => (some t617)) else (none)) else (none))) = some true := by
    intro k hk
    rw [h0, Option.bind_some, if_pos rfl, if_pos (by omega), hend k hk, Option.bind_some]
  have hwr : ∀ j, j < g.length → wrap64 ((wrap64 (((lenR (g.take j) : Nat) : Int) + ((rd_L1 (F ++ g) ((F.length + j : Nat) : Int)).length : Int))) + 8) = ((lenR (g.take (j + 1)) : Nat) : Int) := by
    intro j hj
    have hb := lenR_le (g.take j) (fun x hx => hg x (List.mem_of_mem_take hx))
    rw [List.length_take] at hb
    have hgj := (hg _ (List.getElem_mem hj)).1
    rw [rdL _ _ (by omega), List.getElem_append_right (by omega)]
    have he : (g[F.length + j - F.length]'(by omega)) = g[j] := by congr 1; omega
    rw [he, wrap64_id (x := ((lenR (g.take j) : Nat) : Int) + ((g[j]).length : Int)) (by omega) (by omega), wrap64_id (by omega) (by omega), ← List.take_append_getElem hj, lenR_append]
    simp only [lenR, List.map_cons, List.map_nil, List.sum_cons, List.sum_nil]
    omega
  have hwn : ∀ j, j < g.length → wrap64 (((F.length + j : Nat) : Int) + 1) = ((F.length + (j + 1) : Nat) : Int) := by
    intro j hj
    rw [wrap64_id (by omega) (by omega)]; omega
  intro d
  induction d with
  | zero =>
    intro k j hj hk
    obtain rfl : j = m := by omega
    obtain ⟨k, rfl⟩ : ∃ m, k = m + 1 := ⟨k - 1, by omega⟩
    simp only [transeptlaw08_WalTorn.l0]
    by_cases hz : j < g.length
    · have := h2 hz
      rw [if_pos (by omega), if_pos (by omega), hwr j hz, if_neg (by omega)]
      exact hstop k (by omega)
    · rw [if_neg (by omega), h0, Option.bind_some, if_pos rfl, if_pos (by omega), if_pos (by omega), hend k (by omega), Option.bind_some]
  | succ d ih =>
    intro k j hj hk
    obtain ⟨k, rfl⟩ : ∃ m, k = m + 1 := ⟨k - 1, by omega⟩
    have hz : j < g.length := by omega
    have hle := lenR_take_le g (j + 1) m (by omega)
    simp only [transeptlaw08_WalTorn.l0]
    rw [if_pos (by omega), if_pos (by omega), hwr j hz, if_pos (by omega), hwn j hz]
    exact ih k (j + 1) (by omega) (by omega)
theorem cut_in (a n : Int) (h0 : 0 ≤ n) (h1 : n ≤ 100000000) (ha : -9223372036854775808 ≤ a) (hb : a ≤ 9223372036854775807) :
    ∃ c : Nat, Int.tmod (wrap64 (wrap64 (Int.tmod a (wrap64 (n + 1)) + n) + 1)) (wrap64 (n + 1)) = (c : Int) ∧ (c : Int) ≤ n := by
  rw [wrap64_id (x := n + 1) (by omega) (by omega)]
  have hlt : Int.tmod a (n + 1) < n + 1 := Int.tmod_lt_of_pos a (by omega)
  have hgt : -(n + 1) < Int.tmod a (n + 1) := by
    have := Int.lt_tmod_of_pos a (show 0 < n + 1 by omega)
    omega
  rw [wrap64_id (x := Int.tmod a (n + 1) + n) (by omega) (by omega), wrap64_id (by omega) (by omega)]
  have hnn : 0 ≤ Int.tmod a (n + 1) + n + 1 := by omega
  have h2 : Int.tmod (Int.tmod a (n + 1) + n + 1) (n + 1) < n + 1 := Int.tmod_lt_of_pos _ (by omega)
  have h3 : 0 ≤ Int.tmod (Int.tmod a (n + 1) + n + 1) (n + 1) := Int.tmod_nonneg _ hnn
  exact ⟨(Int.tmod (Int.tmod a (n + 1) + n + 1) (n + 1)).toNat, by omega, by omega⟩
theorem WalTorn (l0 : List (List (List Int))) (a1 a2 : Int) (wf0 : l0.length ≤ maxLen ∧ ∀ x ∈ l0, (x.length ≤ maxLen ∧ ∀ y ∈ x, (y.length ≤ maxLen ∧ ∀ z ∈ y, (Lit.int .u8 z).wf = true)))
    (wf1 : (Lit.int .i64 a1).wf = true) (wf2 : (Lit.int .i64 a2).wf = true)
    (z0 : l0.length * 24 ≤ 140737488351232 ∧ ∀ x ∈ l0, (x.length * 24 ≤ 140737488351232 ∧ ∀ y ∈ x, (y.length * 1 ≤ 140737488351232 ∧ ∀ z ∈ y, True))) :
    ∃ k, transeptlaw08_WalTorn.f k l0 a1 a2 = some true := by
  have hB : ∀ b ∈ l0, b.length ≤ 1000000000000000 ∧ ∀ d ∈ b, Octs d := by
    intro b hb
    have := (z0.2 b hb).1
    exact ⟨by omega, fun d hd => octs_wf ((wf0.2 b hb).2 d hd).2⟩
  have ha := wf_i64 wf2
  refine ⟨40000000 + 1, ?_⟩
  generalize hK : 40000000 = K
  have hlim := lim_ok a1
  obtain ⟨gs, e1, hg, hn, ht⟩ := laid_is l0 hB _ hlim.1 (by omega) (K + 1) (by omega)
  have h0 : transeptlaw08_num.f 0 = some 0 := rfl
  have hsl := segsOf_length gs 0
  unfold transeptlaw08_WalTorn.f
  rw [alive08_is (K + 1) (by omega), Option.bind_some, if_pos rfl, e1, Option.bind_some]
  dsimp only
  rw [if_pos rfl]
  simp only [transeptlaw08_WalTorn.j0]
  rcases List.eq_nil_or_concat gs with rfl | ⟨hs, g, rfl⟩
  · rw [if_pos (by rfl)]
  · rw [List.concat_eq_append] at *
    have hL : (hs ++ [g]).length = hs.length + 1 := by simp
    rw [if_neg (by rw [hsl, hL]; simp; omega)]
    have hfl : (hs ++ [g]).flatten = hs.flatten ++ g := by simp
    have hlen2 : hs.length + 1 ≤ hs.flatten.length + g.length := by
      have := NE_len _ hn
      rw [hL, hfl, List.length_append] at this
      exact this
    rw [hfl, List.length_append] at ht
    have hw : wrap64 ((((segsOf 0 (hs ++ [g])).length : Nat) : Int) - 1) = ((hs.length : Nat) : Int) := by
      rw [hsl, hL, wrap64_id (by omega) (by omega)]; omega
    have hget : rd_T70 (segsOf 0 (hs ++ [g])) ((hs.length : Nat) : Int) = ⟨((0 + hs.flatten.length : Nat) : Int), catR g⟩ := by
      rw [rdS _ _ (by omega), segsOf_get _ 0 hs.length (by omega)]
      simp
    have hgg : ∀ d ∈ g, Rec d := hg g (by simp)
    have hgh : ∀ d ∈ hs.flatten, Rec d := by
      intro d hd
      obtain ⟨x, hx, hx2⟩ := List.mem_flatten.1 hd
      exact hg x (by simp [hx]) d hx2
    have hlr := lenR_le g hgg
    have hcl := catR_len g
    obtain ⟨c, hc, hcn⟩ := cut_in a2 (((catR g).length : Nat) : Int) (by omega) (by omega) ha.1 ha.2
    obtain ⟨m, m1, m2, m3, m4⟩ := torn_is g c hgg
    rw [hw, hget]
    dsimp only
    rw [hc]
    have hset : (segsOf 0 (hs ++ [g])).set (((hs.length : Nat) : Int)).toNat ⟨((0 + hs.flatten.length : Nat) : Int), (catR g).take ((c : Int)).toNat⟩ = segsOf 0 hs ++ [⟨((0 + hs.flatten.length : Nat) : Int), (catR g).take c⟩] := by
      rw [segsOf_append, Int.toNat_natCast, Int.toNat_natCast]
      have := segsOf_length hs 0
      rw [List.set_append_right _ _ (by omega), this]
      simp [segsOf]
    have hbl : ((catR g).take c).length = c := by rw [List.length_take]; omega
    obtain ⟨S, x, er⟩ := recover_torn hs g hg (fun y hy => hn y (by simp [hy])) (by rw [hfl, List.length_append]; omega) (by omega) ((catR g).take c) (fun y hy => catR_octs g hgg y (List.mem_of_mem_take hy)) m (lenR (g.take m)) m1 m2 (by omega) (by omega) K (by omega)
    rw [if_pos (by omega), if_pos (by rw [hsl, hL]; omega), if_neg (by rw [wrap64_id (by omega) (by omega)]; omega), if_pos (by omega), if_pos (by omega), hset, er, Option.bind_some, hfl]
    dsimp only
    have := torn_loop hs.flatten g c m hgg hgh m1 (by omega) m3 m4 m K 0 (by omega) (by omega)
    simpa [lenR] using this
end Go.Proofs.Ytooabchnbmnchaa.Pure
