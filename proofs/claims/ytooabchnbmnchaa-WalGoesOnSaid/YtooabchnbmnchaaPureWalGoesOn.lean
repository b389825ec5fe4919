-- (thinned for this claim by wip/tools/shake.py: what the claim doesn't use is left out)
/- What is proved: the plain half of WalGoesOn: a log that was recovered goes on as if nothing had happened. Conditions: none beyond the kinds' bounds and what the arguments' rows hold. -/
import Derived.Test.YtooabchnbmnchaaQ59
import Derived.Test.YtooabchnbmnchaaKit
import Derived.Test.YtooabchnbmnchaaPlNum
import Derived.Test.YtooabchnbmnchaaPlCrc
import Derived.Test.YtooabchnbmnchaaPlScan
import Derived.Test.YtooabchnbmnchaaPlSame
import Derived.Test.YtooabchnbmnchaaPlSameL
import Derived.Test.YtooabchnbmnchaaPlWal
import Derived.Test.YtooabchnbmnchaaPlWalF
import Derived.Test.YtooabchnbmnchaaPlWalL
import Derived.Test.YtooabchnbmnchaaPlWalR
import Derived.Test.YtooabchnbmnchaaPlWalT
import Derived.Test.YtooabchnbmnchaaPlAlive8
namespace Go.Proofs.Ytooabchnbmnchaa.Q
open Go.RowKit Go.Proofs.YtooabchnbmnchaaW.PrintWords Go.Proofs.YtooabchnbmnchaaW.PrintLast Go.Proofs.YtooabchnbmnchaaW.PrintMore
theorem transeptlaw08_WalGoesOn.callsC (k : Nat) (A0 : Option Addr) (c0 : Nat) (l0 : List (List (List Int))) (A1 : Option Addr) (c1 : Nat) (l1 : List (List (List Int))) (a2 : Int) (r : Bool) (w : World) (hr0 : Kd.C (Kd.slice 26 (Kd.slice 5 (Kd.int .u8))) w A0 l0.length l0) (hc0 : l0.length ≤ c0) (hr1 : Kd.C (Kd.slice 26 (Kd.slice 5 (Kd.int .u8))) w A1 l1.length l1) (hc1 : l1.length ≤ c1) (h : transeptlaw08_WalGoesOn.f k l0 l1 a2 = some r) :
    Calls Try.prog 14 #[.slice A0 l0.length c0, .slice A1 l1.length c1, .int .i64 a2] w fun e w' => e = .returned (.bool r) ∧ Below w.heap.size w w' :=
  transeptlaw08_WalGoesOn.calls k (fun k_ => k_ < w.heap.size) A0 c0 l0 (fun k_ => k_ < w.heap.size) A1 c1 l1 a2 r w
    (Kd.V_mk hc0 (Kd.C_F (Kd.heap_slice 26 (Kd.heap_slice 5 (Kd.heap_int .u8))) hr0)) (Kd.V_mk hc1 (Kd.C_F (Kd.heap_slice 26 (Kd.heap_slice 5 (Kd.heap_int .u8))) hr1)) h
end Go.Proofs.Ytooabchnbmnchaa.Q
namespace Go.Proofs.Ytooabchnbmnchaa.Pure
open Go.RowKit Go.Proofs.Ytooabchnbmnchaa.Q Go.Proofs.YtooabchnbmnchaaW.PrintWords Go.Proofs.YtooabchnbmnchaaW.PrintLast
theorem goes_end (gs : List (List (List Int))) (hg : GoodG gs) (hn : NE gs) (ht : gs.flatten.length ≤ 4000) (k : Nat) (hk : 30000000 < k) :
    ((wal_Records.f k (segsOf 0 gs) ((0 + gs.flatten.length : Nat) : Int) []).bind fun bt659 => ((transeptlaw08_num.f bt659.2.2).bind fun t664 => (if t664 = 0 then (if bt659.2.1 = 0 then ((transeptplain_SameLists.f k bt659.1 gs.flatten).bind fun t665 => (some t665)) else (none)) else (none)))) = some true := by
  have hlen := NE_len gs hn
  have h0 : transeptlaw08_num.f 0 = some 0 := rfl
  have e3 := Records_is 0 gs hg (by omega) (by omega) (by omega) k (by omega)
  have hsame := sameLists_is gs.flatten (fun x hx => by
    obtain ⟨g, hg1, hg2⟩ := List.mem_flatten.1 hx
    have := (hg g hg1 x hg2).1
    omega) (by omega) k (by omega)
  rw [e3, Option.bind_some]
  dsimp only
  rw [h0, Option.bind_some, if_pos rfl, if_pos (show ((0 : Nat) : Int) = 0 from rfl), hsame, Option.bind_some]
theorem goes_loop (bt : List (List (List Int))) (hb20 : bt.length ≤ 20) (hB : ∀ b ∈ bt, b.length ≤ 1000000000000000 ∧ ∀ d ∈ b, Octs d) (lim : Int) (h1 : 1 ≤ lim) (h2 : lim ≤ 1048576) : ∀ (d k i : Nat) (gs : List (List (List Int))), i + d = bt.length → d + 30000002 < k → GoodG gs → NE gs → gs.flatten.length ≤ 4000 →
    transeptlaw08_WalGoesOn.l0 k bt lim gs.flatten (i : Int) (segsOf 0 gs) ((0 + gs.flatten.length : Nat) : Int) [] = some true := by
  intro d
  induction d with
  | zero =>
    intro k i gs hi hk hg hn ht
    obtain ⟨k, rfl⟩ : ∃ m, k = m + 1 := ⟨k - 1, by omega⟩
    simp only [transeptlaw08_WalGoesOn.l0]
    rw [if_neg (by omega)]
    exact goes_end gs hg hn ht k (by omega)
  | succ d ih =>
    intro k i gs hi hk hg hn ht
    obtain ⟨k, rfl⟩ : ∃ m, k = m + 1 := ⟨k - 1, by omega⟩
    have hi2 : i < bt.length := by omega
    have hrd : rd_L3 bt (i : Int) = bt[i] := by
      unfold rd_L3
      rw [Int.toNat_natCast, List.getD_eq_getElem?_getD, List.getElem?_eq_getElem hi2]; rfl
    obtain ⟨hbl, hbo⟩ := hB _ (List.getElem_mem hi2)
    have hw : wrap64 ((gs.flatten.length : Int) + ((bt[i]).length : Int)) = (gs.flatten.length : Int) + ((bt[i]).length : Int) := wrap64_id (by omega) (by omega)
    have hw2 : wrap64 ((i : Int) + 1) = ((i + 1 : Nat) : Int) := wrap64_id (by omega) (by omega)
    simp only [transeptlaw08_WalGoesOn.l0]
    rw [if_pos (by omega), if_pos (by omega), hrd, hw, hw2]
    clear hw hw2
    by_cases h4 : (gs.flatten.length : Int) + ((bt[i]).length : Int) > 4000
    · rw [if_pos h4]; exact goes_end gs hg hn ht k (by omega)
    · rw [if_neg h4]
      by_cases hlong : ((bt[i]).any fun v => decide (4096 < v.length)) = true
      · rw [append_long 0 (by omega) _ gs hlong hg hn (by omega) k (by omega), Option.bind_some]
        have h5 : transeptlaw08_num.f 5 = some 5 := rfl
        simp only
        rw [h5, Option.bind_some, if_neg (by omega)]
        exact ih k (i + 1) gs (by omega) (by omega) hg hn ht
      · have hrec : ∀ d ∈ bt[i], Rec d := by
          intro d hd
          refine ⟨?_, hbo d hd⟩
          by_cases hl : d.length ≤ 4096
          · exact hl
          · exact absurd (List.any_eq_true.2 ⟨d, hd, decide_eq_true (by omega)⟩) hlong
        obtain ⟨gs', e1, e2, e3, e4⟩ := flush_is lim h1 h2 0 (by omega) (bt[i]) gs hrec hg hn (by omega) k (by omega)
        have h0 : transeptlaw08_num.f 0 = some 0 := rfl
        rw [append_is 0 (by omega) _ gs hrec hg hn (by omega) k (by omega), Option.bind_some]
        simp only
        rw [h0, Option.bind_some, if_pos rfl, e1, Option.bind_some]
        simp only
        rw [h0, Option.bind_some, if_pos rfl, if_pos (by omega), ← e2]
        have hlen : gs'.flatten.length = gs.flatten.length + (bt[i]).length := by rw [e2, List.length_append]
        exact ih k (i + 1) gs' (by omega) (by omega) e3 e4 (by omega)
theorem WalGoesOn (l0 l1 : List (List (List Int))) (a2 : Int) (wf0 : l0.length ≤ maxLen ∧ ∀ x ∈ l0, (x.length ≤ maxLen ∧ ∀ y ∈ x, (y.length ≤ maxLen ∧ ∀ z ∈ y, (Lit.int .u8 z).wf = true)))
    (wf1 : l1.length ≤ maxLen ∧ ∀ x ∈ l1, (x.length ≤ maxLen ∧ ∀ y ∈ x, (y.length ≤ maxLen ∧ ∀ z ∈ y, (Lit.int .u8 z).wf = true)))
    (wf2 : (Lit.int .i64 a2).wf = true)
    (z0 : l0.length * 24 ≤ 140737488351232 ∧ ∀ x ∈ l0, (x.length * 24 ≤ 140737488351232 ∧ ∀ y ∈ x, (y.length * 1 ≤ 140737488351232 ∧ ∀ z ∈ y, True)))
    (z1 : l1.length * 24 ≤ 140737488351232 ∧ ∀ x ∈ l1, (x.length * 24 ≤ 140737488351232 ∧ ∀ y ∈ x, (y.length * 1 ≤ 140737488351232 ∧ ∀ z ∈ y, True))) :
    ∃ k, transeptlaw08_WalGoesOn.f k l0 l1 a2 = some true := by
  have hB : ∀ b ∈ l0, b.length ≤ 1000000000000000 ∧ ∀ d ∈ b, Octs d := by
    intro b hb
    have := (z0.2 b hb).1
    exact ⟨by omega, fun d hd => octs_wf ((wf0.2 b hb).2 d hd).2⟩
  have hB1 : ∀ b ∈ l1, b.length ≤ 1000000000000000 ∧ ∀ d ∈ b, Octs d := by
    intro b hb
    have := (z1.2 b hb).1
    exact ⟨by omega, fun d hd => octs_wf ((wf1.2 b hb).2 d hd).2⟩
  refine ⟨40000001, ?_⟩
  generalize hK : 40000000 = K
  rw [show 40000001 = K + 1 by omega]
  have hlim := lim_ok a2
  obtain ⟨gs, e1, hg, hn, ht⟩ := laid_is l0 hB _ hlim.1 (by omega) (K + 1) (by omega)
  have e2 := recover_is gs hg hn (by omega) K (by omega)
  have h0 : transeptlaw08_num.f 0 = some 0 := rfl
  unfold transeptlaw08_WalGoesOn.f
  rw [alive08_is (K + 1) (by omega), Option.bind_some, if_pos rfl, e1, Option.bind_some]
  dsimp only
  rw [if_pos rfl]
  simp only [transeptlaw08_WalGoesOn.j0]
  by_cases h20 : (l1.length : Int) > 20
  · rw [if_pos (decide_eq_true h20)]
  · rw [if_neg (by simpa using h20), e2, Option.bind_some]
    dsimp only
    rw [h0, Option.bind_some, if_pos rfl]
    exact goes_loop l1 (by omega) hB1 _ hlim.1 (by omega) l1.length K 0 gs (by omega) (by omega) hg hn ht
end Go.Proofs.Ytooabchnbmnchaa.Pure
