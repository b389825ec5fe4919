-- (thinned for this claim by wip/tools/shake.py: what the claim doesn't use is left out)
/- What is proved: WalOwn: the log that follows shares nothing with the one handed in. Conditions: the arguments' measure is at most 1048576. -/
import Derived.Test.YtooabchnbmnchaaQ1
import Derived.Test.YtooabchnbmnchaaQ16
import Derived.Test.YtooabchnbmnchaaQ38
import Derived.Test.YtooabchnbmnchaaQ43
import Derived.Test.YtooabchnbmnchaaQ26
import Derived.Test.YtooabchnbmnchaaKit
import Derived.Test.YtooabchnbmnchaaSq
import Derived.Test.YtooabchnbmnchaaPlNum
import Derived.Test.YtooabchnbmnchaaPlCrc
import Derived.Test.YtooabchnbmnchaaPlLin
import Derived.Test.YtooabchnbmnchaaPlScan
import Derived.Test.YtooabchnbmnchaaPlRefSc
import Derived.Test.YtooabchnbmnchaaPlSame
import Derived.Test.YtooabchnbmnchaaPlSameL
import Derived.Test.YtooabchnbmnchaaPlWal
import Derived.Test.YtooabchnbmnchaaPlWalF
import Derived.Test.YtooabchnbmnchaaPlWalV
import Derived.Test.YtooabchnbmnchaaPlWalW
import Derived.Test.YtooabchnbmnchaaPlWalX
import Derived.Test.YtooabchnbmnchaaPlWalY
import Derived.Test.YtooabchnbmnchaaPlAlive8
import Derived.Test.YtooabchnbmnchaaPlOf2
import Derived.Test.YtooabchnbmnchaaWalkOwn
namespace Go.Proofs.Ytooabchnbmnchaa.Q
open Go.RowKit Go.Proofs.YtooabchnbmnchaaW.PrintWords Go.Proofs.YtooabchnbmnchaaW.PrintLast
theorem cloneAll_any (l : List (List Int)) (hl : l.length ≤ 1048576) (hs : ∀ d ∈ l, d.length ≤ 1048576) : ∀ (d k i : Nat), i + d = l.length → d < k → wal_cloneAll.l0 k (l.take i) l (l.length : Int) (i : Int) = some l := by
  intro d
  induction d with
  | zero =>
    intro k i hi hk
    obtain ⟨k, rfl⟩ : ∃ m, k = m + 1 := ⟨k - 1, by omega⟩
    simp only [wal_cloneAll.l0]
    rw [if_neg (by omega), List.take_of_length_le (by omega)]
  | succ d ih =>
    intro k i hi hk
    obtain ⟨k, rfl⟩ : ∃ m, k = m + 1 := ⟨k - 1, by omega⟩
    have h1 : i < l.length := by omega
    have hb := hs _ (List.getElem_mem h1)
    simp only [wal_cloneAll.l0]
    rw [if_pos (by omega), if_pos (by omega), if_pos (by omega), rdL l i h1]
    unfold bytes_Clone.f
    rw [if_pos (by omega), Option.bind_some, if_pos (by rw [List.length_take]; omega), wrap64_id (by omega) (by omega), List.take_append_getElem h1]
    exact ih k (i + 1) (by omega) (by omega)
theorem clone_any (l : List (List Int)) (hl : l.length ≤ 1048576) (hs : ∀ d ∈ l, d.length ≤ 1048576) (k : Nat) (hk : 1048576 < k) : wal_cloneAll.f k l = some l := by
  unfold wal_cloneAll.f
  have := cloneAll_any l hl hs l.length k 0 (by omega) (by omega)
  simpa using this
theorem copyLists_loop (l : List (List Int)) (hl : l.length ≤ 1048576) (hs : ∀ d ∈ l, d.length ≤ 1048576) : ∀ (d k i : Nat), i + d = l.length → d < k → transeptplain_CopyLists.l0 k l (l.take i) (i : Int) = some l := by
  intro d
  induction d with
  | zero =>
    intro k i hi hk
    obtain ⟨k, rfl⟩ : ∃ m, k = m + 1 := ⟨k - 1, by omega⟩
    simp only [transeptplain_CopyLists.l0]
    rw [if_neg (by omega), List.take_of_length_le (by omega)]
  | succ d ih =>
    intro k i hi hk
    obtain ⟨k, rfl⟩ : ∃ m, k = m + 1 := ⟨k - 1, by omega⟩
    have h1 : i < l.length := by omega
    have hb := hs _ (List.getElem_mem h1)
    simp only [transeptplain_CopyLists.l0]
    rw [if_pos (by omega), if_pos (by omega), rdL l i h1, copyBytes_is _ (by omega), Option.bind_some, if_pos (by rw [List.length_take]; omega), wrap64_id (by omega) (by omega), List.take_append_getElem h1]
    exact ih k (i + 1) (by omega) (by omega)
theorem copyLists_any (l : List (List Int)) (hl : l.length ≤ 1048576) (hs : ∀ d ∈ l, d.length ≤ 1048576) (k : Nat) (hk : 1048576 < k) : transeptplain_CopyLists.f k l = some l := by
  unfold transeptplain_CopyLists.f
  have := copyLists_loop l hl hs l.length k 0 (by omega) (by omega)
  simpa using this
theorem own_any_loop (L : List (Int × List Int)) (hg : GoodS L) (nx : Int) (wt : List (List Int)) : ∀ (d k i : Nat), i + d = L.length → d < k → wal_own.l0 k (L.map sgP) ((L.map sgP).length : Int) (i : Int) ((L.take i).map sgP) nx wt = some (L.map sgP, nx, wt, 0) := by
  have hm : (L.map sgP).length = L.length := List.length_map _
  have hgl := hg.len
  intro d
  induction d with
  | zero =>
    intro k i hi hk
    obtain ⟨k, rfl⟩ : ∃ m, k = m + 1 := ⟨k - 1, by omega⟩
    simp only [wal_own.l0]
    rw [if_neg (by omega), List.take_of_length_le (by omega)]
  | succ d ih =>
    intro k i hi hk
    obtain ⟨k, rfl⟩ : ∃ m, k = m + 1 := ⟨k - 1, by omega⟩
    have h1 : i < L.length := by omega
    have hb := (hg.each _ (List.getElem_mem h1)).2
    simp only [wal_own.l0]
    rw [if_pos (by omega), if_pos (by omega), if_pos (by omega), rdPm L i h1]
    dsimp only
    unfold bytes_Clone.f
    rw [if_pos (by omega), Option.bind_some, if_pos (by rw [List.length_map, List.length_take]; omega), wrap64_id (by omega) (by omega)]
    have := ih k (i + 1) (by omega) (by omega)
    rw [← List.take_append_getElem h1, List.map_append] at this
    exact this
def appE (L : List (Int × List Int)) (nx : Int) (wt rs : List (List Int)) : Int :=
  if checkB L nx wt = true then (if (rs.any fun v => decide (4096 < v.length)) = true then 5 else if wt.length + rs.length > 4096 then 3 else 0) else 9
theorem appendP (L : List (Int × List Int)) (hg : GoodS L) (nx : Int) (wt rs : List (List Int)) (hw : wt.length ≤ 1048576) (hws : ∀ d ∈ wt, d.length ≤ 1048576) (hr : rs.length ≤ 1048576) (hrs : ∀ d ∈ rs, d.length ≤ 1048576) (k : Nat) (hk : 5000000 < k) :
    ∃ a1 a2 a3, wal_Append.f k (L.map sgP) nx wt rs = some (a1, a2, a3, appE L nx wt rs) ∧ (appE L nx wt rs ≠ 0 → a1 = []) ∧ (appE L nx wt rs = 0 → a1 = L.map sgP ∧ a2 = nx ∧ a3 = wt ++ rs) := by
  have hgl := hg.len
  unfold wal_Append.f wal_own.f appE
  rw [checkP L hg.each hgl nx wt k (by omega), Option.bind_some]
  by_cases hc : checkB L nx wt = true
  · rw [if_pos hc]
    have h0 : (cond (checkB L nx wt) (0 : Int) 9) = 0 := by rw [hc]; rfl
    rw [if_pos h0, clone_any wt hw hws k (by omega), Option.bind_some]
    have ho := own_any_loop L hg nx wt L.length k 0 (by omega) (by omega)
    simp only [List.take_zero, List.map_nil] at ho
    rw [show ((0 : Nat) : Int) = 0 from rfl] at ho
    rw [ho, Option.bind_some]
    dsimp only
    rw [if_pos rfl, contains68, Option.bind_some]
    by_cases h5 : (rs.any fun v => decide (4096 < v.length)) = true
    · rw [if_pos h5, if_pos h5]; exact ⟨_, _, _, rfl, fun _ => rfl, fun h => absurd h (by decide)⟩
    rw [if_neg h5, if_neg h5, wrap64_id (by omega) (by omega)]
    by_cases h3 : wt.length + rs.length > 4096
    · rw [if_pos (by omega), if_pos h3]; exact ⟨_, _, _, rfl, fun _ => rfl, fun h => absurd h (by decide)⟩
    rw [if_neg (by omega), if_neg h3, clone_any rs hr hrs k (by omega), Option.bind_some, if_pos (by omega)]
    exact ⟨_, _, _, rfl, fun h => absurd rfl h, fun _ => ⟨rfl, rfl, rfl⟩⟩
  · rw [if_neg hc]
    have h0 : (cond (checkB L nx wt) (0 : Int) 9) = 9 := by rw [Bool.eq_false_iff.2 hc]; rfl
    rw [h0, if_neg (by decide), Option.bind_some]
    dsimp only
    rw [if_neg (by decide)]
    exact ⟨_, _, _, rfl, fun _ => rfl, fun h => absurd h (by decide)⟩
theorem refOwn_l1 (S Q : List S87) (z nx : Int) (wt : List (List Int)) (hl : wt.length ≤ 1048576) (hs : ∀ d ∈ wt, d.length ≤ 1048576) : ∀ (d k i : Nat), i + d = wt.length → d < k → transeptref08_Own.l1 k (i : Int) S z wt Q nx (wt.take i) = some (Q, nx, wt) := by
  intro d
  induction d with
  | zero =>
    intro k i hi hk
    obtain ⟨k, rfl⟩ : ∃ m, k = m + 1 := ⟨k - 1, by omega⟩
    simp only [transeptref08_Own.l1]
    rw [if_neg (by omega), List.take_of_length_le (by omega)]
  | succ d ih =>
    intro k i hi hk
    obtain ⟨k, rfl⟩ : ∃ m, k = m + 1 := ⟨k - 1, by omega⟩
    have h1 : i < wt.length := by omega
    have hb := hs _ (List.getElem_mem h1)
    simp only [transeptref08_Own.l1]
    rw [if_pos (by omega), if_pos (by omega), rdL wt i h1, copied_is _ (by omega), Option.bind_some, if_pos (by rw [List.length_take]; omega), wrap64_id (by omega) (by omega), List.take_append_getElem h1]
    exact ih k (i + 1) (by omega) (by omega)
theorem refOwn_l0 (L : List (Int × List Int)) (hg : GoodS L) (z nx : Int) (wt : List (List Int)) (hl : wt.length ≤ 1048576) (hs : ∀ d ∈ wt, d.length ≤ 1048576) : ∀ (d k i : Nat), i + d = L.length → d + 1048577 < k → transeptref08_Own.l0 k (i : Int) (L.map sgR) z wt ((L.take i).map sgR) nx = some (L.map sgR, nx, wt) := by
  have hm : (L.map sgR).length = L.length := List.length_map _
  have hgl := hg.len
  intro d
  induction d with
  | zero =>
    intro k i hi hk
    obtain ⟨k, rfl⟩ : ∃ m, k = m + 1 := ⟨k - 1, by omega⟩
    simp only [transeptref08_Own.l0]
    rw [if_neg (by omega), List.take_of_length_le (by omega)]
    have := refOwn_l1 (L.map sgR) (L.map sgR) z nx wt hl hs wt.length k 0 (by omega) (by omega)
    simpa using this
  | succ d ih =>
    intro k i hi hk
    obtain ⟨k, rfl⟩ : ∃ m, k = m + 1 := ⟨k - 1, by omega⟩
    have h1 : i < L.length := by omega
    have hb := (hg.each _ (List.getElem_mem h1)).2
    simp only [transeptref08_Own.l0]
    rw [if_pos (by omega), if_pos (by omega), rdRm L i h1]
    dsimp only
    rw [copied_is _ (by omega), Option.bind_some, if_pos (by rw [List.length_map, List.length_take]; omega), wrap64_id (by omega) (by omega)]
    have := ih k (i + 1) (by omega) (by omega)
    rw [← List.take_append_getElem h1, List.map_append] at this
    exact this
theorem refAppend_l1 (Q : List S87) (nx : Int) (wt rs : List (List Int)) (hw : wt.length ≤ 1048576) (hl : rs.length ≤ 1048576) (hs : ∀ d ∈ rs, d.length ≤ 1048576) : ∀ (d k i : Nat), i + d = rs.length → d < k → transeptref08_Append.l1 k rs (i : Int) Q nx (wt ++ rs.take i) = some (Q, nx, wt ++ rs, 0) := by
  intro d
  induction d with
  | zero =>
    intro k i hi hk
    obtain ⟨k, rfl⟩ : ∃ m, k = m + 1 := ⟨k - 1, by omega⟩
    simp only [transeptref08_Append.l1]
    rw [if_neg (by omega), List.take_of_length_le (l := rs) (by omega)]
  | succ d ih =>
    intro k i hi hk
    obtain ⟨k, rfl⟩ : ∃ m, k = m + 1 := ⟨k - 1, by omega⟩
    have h1 : i < rs.length := by omega
    have hb := hs _ (List.getElem_mem h1)
    simp only [transeptref08_Append.l1]
    rw [if_pos (by omega), if_pos (by omega), rdL rs i h1, copied_is _ (by omega), Option.bind_some, if_pos (by rw [List.length_append, List.length_take]; omega), wrap64_id (by omega) (by omega), List.append_assoc, List.take_append_getElem h1]
    exact ih k (i + 1) (by omega) (by omega)
theorem refAppend_l0 (L : List (Int × List Int)) (hg : GoodS L) (nx : Int) (wt rs : List (List Int)) (hw : wt.length ≤ 1048576) (hws : ∀ d ∈ wt, d.length ≤ 1048576) (hl : rs.length ≤ 1048576) (hs : ∀ d ∈ rs, d.length ≤ 4096) (hn : wt.length + rs.length ≤ 4096) : ∀ (d k i : Nat), i + d = rs.length → d + 3200000 < k → transeptref08_Append.l0 k rs (i : Int) (L.map sgR) nx wt = some (L.map sgR, nx, wt ++ rs, 0) := by
  intro d
  induction d with
  | zero =>
    intro k i hi hk
    obtain ⟨k, rfl⟩ : ∃ m, k = m + 1 := ⟨k - 1, by omega⟩
    have ho := refOwn_l0 L hg nx nx wt hw hws L.length k 0 (by omega) (by have := hg.len; omega)
    simp only [List.take_zero, List.map_nil] at ho
    rw [show ((0 : Nat) : Int) = 0 from rfl] at ho
    simp only [transeptref08_Append.l0]
    rw [if_neg (by omega), wrap64_id (by omega) (by omega), if_neg (by omega)]
    unfold transeptref08_Own.f
    rw [ho, Option.bind_some]
    have := refAppend_l1 (L.map sgR) nx wt rs hw hl (fun d hd => by have := hs d hd; omega) rs.length k 0 (by omega) (by omega)
    simpa using this
  | succ d ih =>
    intro k i hi hk
    obtain ⟨k, rfl⟩ : ∃ m, k = m + 1 := ⟨k - 1, by omega⟩
    have h1 : i < rs.length := by omega
    have hb := hs _ (List.getElem_mem h1)
    simp only [transeptref08_Append.l0]
    rw [if_pos (by omega), if_pos (by omega), rdL rs i h1, if_neg (by omega), wrap64_id (by omega) (by omega)]
    exact ih k (i + 1) (by omega) (by omega)
theorem appendR (L : List (Int × List Int)) (hg : GoodS L) (nx : Int) (wt rs : List (List Int)) (hw : wt.length ≤ 1048576) (hws : ∀ d ∈ wt, d.length ≤ 1048576) (hr : rs.length ≤ 1048576) (k : Nat) (hk : 6000000 < k) (h0 : appE L nx wt rs = 0) :
    transeptref08_Append.f k (L.map sgR) nx wt rs = some (L.map sgR, nx, wt ++ rs, 0) := by
  unfold appE at h0
  by_cases hc : checkB L nx wt = true
  case neg => rw [if_neg hc] at h0; exact absurd h0 (by decide)
  rw [if_pos hc] at h0
  by_cases h5 : (rs.any fun v => decide (4096 < v.length)) = true
  · rw [if_pos h5] at h0; exact absurd h0 (by decide)
  rw [if_neg h5] at h0
  by_cases h3 : wt.length + rs.length > 4096
  · rw [if_pos h3] at h0; exact absurd h0 (by decide)
  have hs : ∀ d ∈ rs, d.length ≤ 4096 := by
    intro d hd
    apply Classical.not_not.1
    intro hn
    exact h5 (List.any_eq_true.2 ⟨d, hd, decide_eq_true (by omega)⟩)
  unfold transeptref08_Append.f
  have hcz : (cond (checkB L nx wt) (0 : Int) 9) = 0 := by rw [hc]; rfl
  rw [checkR L hg.each hg.len nx wt hw k (by omega), Option.bind_some, if_pos hcz]
  exact refAppend_l0 L hg nx wt rs hw hws hr hs (by omega) rs.length k 0 (by omega) (by omega)
theorem sameW_loop (S : List (Int × List Int)) (he : ∀ x ∈ S, x.2.length ≤ 1048576) (hl : S.length ≤ 1048576) (z : Int) (wt : List (List Int)) : ∀ (d k i : Nat), i + d = S.length → d + 1100000 < k → transeptlaw08_same.l0 k (i : Int) (S.map sgP) z wt (S.map sgR) z wt = some true := by
  have hm : (S.map sgP).length = S.length := List.length_map _
  have hm2 : (S.map sgR).length = S.length := List.length_map _
  intro d
  induction d with
  | zero =>
    intro k i hi hk
    obtain ⟨k, rfl⟩ : ∃ m, k = m + 1 := ⟨k - 1, by omega⟩
    simp only [transeptlaw08_same.l0]
    rw [if_neg (by omega)]
  | succ d ih =>
    intro k i hi hk
    obtain ⟨k, rfl⟩ : ∃ m, k = m + 1 := ⟨k - 1, by omega⟩
    have h1 : i < S.length := by omega
    have hb := he _ (List.getElem_mem h1)
    simp only [transeptlaw08_same.l0]
    rw [if_pos (by omega), if_pos (by omega), if_pos (by omega), rdPm S i h1, rdRm S i h1]
    dsimp only
    rw [if_pos rfl, same_is _ _ (by omega) k (by omega), Option.bind_some, decide_eq_true rfl, if_pos rfl, wrap64_id (by omega) (by omega)]
    exact ih k (i + 1) (by omega) (by omega)
theorem sameW_any (S : List (Int × List Int)) (he : ∀ x ∈ S, x.2.length ≤ 1048576) (hl : S.length ≤ 1048576) (z : Int) (wt : List (List Int)) (hw : wt.length ≤ 1048576) (hws : ∀ d ∈ wt, d.length ≤ 1048576) (k : Nat) (hk : 4000000 < k) : transeptlaw08_same.f k (S.map sgP) z wt (S.map sgR) z wt = some true := by
  obtain ⟨k, rfl⟩ : ∃ m, k = m + 1 := ⟨k - 1, by omega⟩
  unfold transeptlaw08_same.f
  rw [if_pos rfl, sameLists_is wt hws hw (k + 1) (by omega), Option.bind_some, if_pos rfl]
  simp only [transeptlaw08_same.j0]
  rw [if_neg (by simp)]
  exact sameW_loop S he hl z wt S.length k 0 (by omega) (by omega)
theorem spoil_any : ∀ (d k i : Nat) (x : List Int), x.length ≤ 1048576 → i + d = x.length → d < k → ∃ r, transeptplain_Spoil.l0 k x (i : Int) = some r ∧ r.length = x.length := by
  intro d
  induction d with
  | zero =>
    intro k i x hx hi hk
    obtain ⟨k, rfl⟩ : ∃ m, k = m + 1 := ⟨k - 1, by omega⟩
    simp only [transeptplain_Spoil.l0]
    rw [if_neg (by omega)]
    exact ⟨x, rfl, rfl⟩
  | succ d ih =>
    intro k i x hx hi hk
    obtain ⟨k, rfl⟩ : ∃ m, k = m + 1 := ⟨k - 1, by omega⟩
    simp only [transeptplain_Spoil.l0]
    rw [if_pos (by omega), if_pos (by omega), wrap64_id (by omega) (by omega)]
    obtain ⟨r, h1, h2⟩ := ih k (i + 1) (x.set ((i : Int)).toNat (Go.bits .xor .u8 (rd x (i : Int)) 85)) (by rw [List.length_set]; exact hx) (by rw [List.length_set]; omega) (by omega)
    exact ⟨r, h1, by rw [h2, List.length_set]⟩
end Go.Proofs.Ytooabchnbmnchaa.Q
namespace Go.Proofs.Ytooabchnbmnchaa.Pure
open Go.RowKit Go.Proofs.Ytooabchnbmnchaa.Q Go.Proofs.YtooabchnbmnchaaW.PrintWords Go.Proofs.YtooabchnbmnchaaW.PrintLast
theorem sum_one (b : List Int) : (b.map fun _ => 1).sum = b.length := by
  induction b with
  | nil => rfl
  | cons x b ih => simp [ih]; omega
theorem segs_each : ∀ (l : List S87), 3 * l.length ≤ (l.map (fun x => (1 + (1 + (1 + (x.f1.map (fun y => 1)).sum))))).sum ∧ ∀ x ∈ l, x.f1.length ≤ (l.map (fun x => (1 + (1 + (1 + (x.f1.map (fun y => 1)).sum))))).sum := by
  intro l
  induction l with
  | nil => exact ⟨by simp, fun x hx => by cases hx⟩
  | cons y l ih =>
    rw [List.map_cons, List.sum_cons, List.length_cons, sum_one]
    refine ⟨by omega, fun x hx => ?_⟩
    rcases List.mem_cons.1 hx with rfl | hx
    · omega
    · have := ih.2 x hx; omega
theorem lists_each : ∀ (l : List (List Int)), l.length ≤ (l.map (fun x => (1 + (x.map (fun y => 1)).sum))).sum ∧ ∀ x ∈ l, x.length ≤ (l.map (fun x => (1 + (x.map (fun y => 1)).sum))).sum := by
  intro l
  induction l with
  | nil => exact ⟨by simp, fun x hx => by cases hx⟩
  | cons y l ih =>
    rw [List.map_cons, List.sum_cons, List.length_cons, sum_one]
    refine ⟨by omega, fun x hx => ?_⟩
    rcases List.mem_cons.1 hx with rfl | hx
    · omega
    · have := ih.2 x hx; omega
theorem WalOwn (w : World) (A0_0 : Option Addr) (c0_0 : Nat) (l0_0 : List S87) (a0_1 : Int) (A0_2 : Option Addr) (c0_2 : Nat) (l0_2 : List (List Int)) (A1 : Option Addr) (c1 : Nat) (l1 : List (List Int))
    (hr0_0 : Kd.C k87 w A0_0 l0_0.length l0_0) (hc0_0 : l0_0.length ≤ c0_0) (hr0_2 : Kd.C (Kd.slice 5 (Kd.int .u8)) w A0_2 l0_2.length l0_2) (hc0_2 : l0_2.length ≤ c0_2) (hr1 : Kd.C (Kd.slice 5 (Kd.int .u8)) w A1 l1.length l1) (hc1 : l1.length ≤ c1)
    (wf0 : (l0_0.length ≤ maxLen ∧ ∀ x ∈ l0_0, ((Lit.int .i64 x.f0).wf = true ∧ (x.f1.length ≤ maxLen ∧ ∀ y ∈ x.f1, (Lit.int .u8 y).wf = true))) ∧ (Lit.int .i64 a0_1).wf = true ∧ (l0_2.length ≤ maxLen ∧ ∀ x ∈ l0_2, (x.length ≤ maxLen ∧ ∀ y ∈ x, (Lit.int .u8 y).wf = true)))
    (_wf1 : l1.length ≤ maxLen ∧ ∀ x ∈ l1, (x.length ≤ maxLen ∧ ∀ y ∈ x, (Lit.int .u8 y).wf = true))
    (hmu : (1 + ((1 + (l0_0.map (fun x => (1 + (1 + (1 + (x.f1.map (fun y => 1)).sum))))).sum) + (1 + (1 + (l0_2.map (fun x => (1 + (x.map (fun y => 1)).sum))).sum)))) + (1 + (l1.map (fun x => (1 + (x.map (fun y => 1)).sum))).sum) ≤ 1048576) :
    Calls Try.prog 8 #[.agg #[.slice A0_0 l0_0.length c0_0, .int .i64 a0_1, .slice A0_2 l0_2.length c0_2], .slice A1 l1.length c1] w fun e w' => e = .returned (.bool true) ∧ Below w.heap.size w w' := by
  have e0 := segs_each l0_0
  have e2 := lists_each l0_2
  have e1 := lists_each l1
  obtain ⟨L, rfl⟩ : ∃ L : List (Int × List Int), l0_0 = L.map sgR := ⟨l0_0.map fun x => (x.f0, x.f1), by rw [List.map_map]; exact (List.map_id' _).symm⟩
  have hg : GoodS L := by
    refine ⟨by have := e0.1; rw [List.length_map] at this; omega, fun x hx => ?_⟩
    have h1 : sgR x ∈ L.map sgR := List.mem_map_of_mem hx
    have := e0.2 _ h1
    exact ⟨octs_wf (wf0.1.2 _ h1).2.2, by have h2 : x.2.length ≤ _ := this; omega⟩
  have hw : l0_2.length ≤ 1048576 := by omega
  have hws : ∀ d ∈ l0_2, d.length ≤ 1048576 := fun d hd => by have := e2.2 d hd; omega
  have hr : l1.length ≤ 1048576 := by omega
  have hrs : ∀ d ∈ l1, d.length ≤ 1048576 := fun d hd => by have := e1.2 d hd; omega
  generalize hK : (40000000 : Nat) = K
  obtain ⟨a1, a2, a3, ha, hne, hz⟩ := appendP L hg a0_1 l0_2 l1 hw hws hr hrs K (by omega)
  have hof : transeptlaw08_Of.f K (L.map sgR) a0_1 l0_2 = some (L.map sgP, a0_1, l0_2) := by
    unfold transeptlaw08_Of.f
    rw [segs_any L hg K (by omega), Option.bind_some, copyLists_any l0_2 hw hws K (by omega), Option.bind_some]
  refine transeptlaw08_WalOwn.walk K A0_0 c0_0 (L.map sgR) a0_1 A0_2 c0_2 l0_2 A1 c1 l1 w hr0_0 hc0_0 hr0_2 hc0_2 hr1 hc1 (L.map sgP) a0_1 l0_2 l1 a1 a2 a3 _ (alive08_is K (by omega)) hof (copyLists_any l1 hr hrs K (by omega)) ha hne (L.map sgR) a0_1 (l0_2 ++ l1) 0 (fun h0 => ?_) (fun x hx => ?_) (fun x hx => ?_) hws hrs (by rw [List.length_map]; exact hg.len) hw hr
  · obtain ⟨r1, r2, r3⟩ := hz h0
    have hn : l0_2.length + l1.length ≤ 1048576 := by omega
    refine ⟨appendR L hg a0_1 l0_2 l1 hw hws hr K (by omega) h0, ?_⟩
    rw [r1, r2, r3]
    exact sameW_any L (fun x hx => (hg.each x hx).2) hg.len a0_1 (l0_2 ++ l1) (by rw [List.length_append]; exact hn) (fun d hd => (List.mem_append.1 hd).elim (hws d) (hrs d)) K (by omega)
  · exact spoil_any x.length K 0 x hx (by omega) (by omega)
  · obtain ⟨y, hy, rfl⟩ := List.mem_map.1 hx
    exact (hg.each y hy).2
end Go.Proofs.Ytooabchnbmnchaa.Pure
