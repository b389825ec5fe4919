-- (thinned for this claim by wip/tools/shake.py: what the claim doesn't use is left out)
import Derived.Test.YtooabchnbmnchaaQ54
import Derived.Test.YtooabchnbmnchaaQ9
import Derived.Test.YtooabchnbmnchaaKit
import Derived.Test.YtooabchnbmnchaaPlNum
import Derived.Test.YtooabchnbmnchaaPlCrc
import Derived.Test.YtooabchnbmnchaaPlScan
import Derived.Test.YtooabchnbmnchaaPlWal
import Derived.Test.YtooabchnbmnchaaPlWalF
import Derived.Test.YtooabchnbmnchaaPlWalR
namespace Go.Proofs.Ytooabchnbmnchaa.Q
open Go.RowKit Go.Proofs.YtooabchnbmnchaaW.PrintWords Go.Proofs.YtooabchnbmnchaaW.PrintLast Go.Proofs.YtooabchnbmnchaaW.PrintMore
set_option linter.unusedVariables false
set_option linter.unusedSimpArgs false
theorem torn_is : ∀ (g : List (List Int)) (c : Nat), (∀ d ∈ g, Rec d) → ∃ m, m ≤ g.length ∧ sc ((catR g).take c) = (recsR (g.take m), lenR (g.take m)) ∧ lenR (g.take m) ≤ c ∧ (m < g.length → c < lenR (g.take (m + 1))) := by
  intro g
  induction g with
  | nil => intro c _; exact ⟨0, Nat.le_refl _, by simpa [catR, catOf, recsR, lenR] using sc_nil, by simp [lenR], fun h => absurd h (by simp)⟩
  | cons d g ih =>
    intro c hr
    have hd := hr d (by simp)
    have h : catR (d :: g) = sealOf 1 d ++ catR g := by simp [catR, catOf, recsR]
    rw [h]
    by_cases hc : c < d.length + 8
    · refine ⟨0, by simp, ?_, by simp [lenR], fun _ => by simpa [lenR] using hc⟩
      rw [sc_bad _ (openOf_torn (1, d) hd.1 (catR g) c hc)]
      simp [recsR, lenR]
    · obtain ⟨m, h1, h2, h3, h4⟩ := ih (c - (d.length + 8)) (fun x hx => hr x (by simp [hx]))
      refine ⟨m + 1, by simpa using h1, ?_, ?_, ?_⟩
      · rw [List.take_append, List.take_of_length_le (by rw [sealOf_length]; omega), sealOf_length]
        have := sc_seal (1, d) hd.1 ((catR g).take (c - (d.length + 8)))
        rw [this, h2]
        simp [recsR, lenR]
      · simp only [List.take_succ_cons, lenR, List.map_cons, List.sum_cons] at *; omega
      · intro hm
        have := h4 (by simpa using hm)
        simp only [List.take_succ_cons, lenR, List.map_cons, List.sum_cons] at *; omega
theorem records_sc (g : List (List Int)) (hg : g.length ≤ 1000000) (hr : ∀ d ∈ g, Rec d) (b : List Int) (n : Nat) (hb : Octs b) (hs : sc b = (recsR g, n)) (hl : b.length ≤ 4398046511103) (k : Nat) (hk : b.length + g.length + 100 < k) : wal_records.f k b = some (g, ((lenR g : Nat) : Int)) := by
  unfold wal_records.f
  rw [scan_is b hb hl k (by omega), Option.bind_some, hs]
  have := records_loop g hg hr g.length k 0 (by omega) (by omega)
  simpa [lenR] using this
theorem recover_torn (hs : List (List (List Int))) (g : List (List Int)) (hg : GoodG (hs ++ [g])) (hn : NE hs) (ht : (hs ++ [g]).flatten.length ≤ 4096) (hlen : hs.length + 1 ≤ 4096) (b : List Int) (hb : Octs b) (m n : Nat) (hm : m ≤ g.length) (hsc : sc b = (recsR (g.take m), n)) (hbl : b.length ≤ 4104 * 4096) (hbn : lenR (g.take m) ≤ b.length) (k : Nat) (hk : 30000000 < k) :
    ∃ S x, wal_Recover.f k (segsOf 0 hs ++ [⟨((0 + hs.flatten.length : Nat) : Int), b⟩]) = some (S, x, [], hs.flatten ++ g.take m, 0) := by
  have hl := segsOf_length hs 0
  have hgs : GoodG hs := fun x hx => hg x (by simp [hx])
  have hgg : ∀ d ∈ g, Rec d := hg g (by simp)
  have hfl : hs.flatten.length + g.length ≤ 4096 := by
    rw [List.flatten_append, List.length_append] at ht; simpa using ht
  have htk : (g.take m).length ≤ g.length := by rw [List.length_take]; omega
  have hrec : ∀ k, 30000000 - 20000 < k → wal_records.f k b = some (g.take m, ((lenR (g.take m) : Nat) : Int)) := fun k hk =>
    records_sc (g.take m) (by omega) (fun d hd => hgg d (List.mem_of_mem_take hd)) b n hb hsc (by omega) k (by omega)
  generalize hL : segsOf 0 hs ++ [(⟨((0 + hs.flatten.length : Nat) : Int), b⟩ : S70)] = L
  have hLl : L.length = hs.length + 1 := by rw [← hL, List.length_append, hl]; rfl
  have hLg : rd_T70 L ((hs.length : Nat) : Int) = ⟨((0 + hs.flatten.length : Nat) : Int), b⟩ := by
    rw [rdS _ _ (by omega)]
    subst hL
    rw [List.getElem_append_right (by omega)]
    simp [hl]
  have hL0 : (rd_T70 L 0).f0 = 0 := by
    by_cases hz : hs = []
    · subst hz
      have := hLg
      exact congrArg (fun x => x.f0) this
    · have hpos : 0 < hs.length := List.length_pos_iff.2 hz
      have := rdS L 0 (by omega)
      subst hL
      rw [List.getElem_append_left (by omega), segsOf_get hs 0 0 hpos] at this
      rw [show ((0 : Nat) : Int) = 0 from rfl] at this
      rw [this]; simp
  have hi : wal_index.f 0 = some true := index_ok 0 (by omega)
  have hw1 : wrap64 (((0 + hs.flatten.length : Nat) : Int) + ((g.take m).length : Int)) = ((0 + hs.flatten.length + (g.take m).length : Nat) : Int) := by
    rw [wrap64_id (by omega) (by omega)]; omega
  have hw2 : wrap64 ((hs.length : Int) + 1) = ((hs.length + 1 : Nat) : Int) := wrap64_id (by omega) (by omega)
  have HW1 := Aside0.mk hw1
  have HW2 := Aside0.mk hw2
  clear hw1 hw2
  obtain ⟨k, rfl⟩ : ∃ m, k = m + 2 + 1 + 3 * hs.length + 1 := ⟨k - 3 * hs.length - 4, by omega⟩
  unfold wal_Recover.f
  rw [if_neg (by omega), if_neg (by omega), if_pos (by omega), hL0, hi, Option.bind_some]
  simp only [wal_Recover.j0]
  rw [if_neg (by simp), if_pos (by omega), hL0]
  have h := rec_loop 0 hs [⟨((0 + hs.flatten.length : Nat) : Int), b⟩] hgs hn (by omega) (by omega) (by simp) hs.length (k + 2 + 1) 0 (by omega) (by omega)
  rw [hL] at h
  simp only [List.take_zero, List.flatten_nil, segsOf, List.length_nil] at h
  change wal_Recover.l0 (k + 2 + 1 + 3 * hs.length) L [] 0 L (L.length : Int) 0 [] 0 = _ at h
  rw [h]
  have hj3 : ∀ S, ∃ S' x, wal_Recover.j3 (k + 1) L (hs.flatten ++ g.take m) 0 (hs.length : Int) ((lenR (g.take m) : Nat) : Int) L (L.length : Int) (hs.length : Int) S ((0 + hs.flatten.length + (g.take m).length : Nat) : Int) ((0 + hs.flatten.length : Nat) : Int) b = some (S', x, [], hs.flatten ++ g.take m, 0) := by
    intro S
    simp only [wal_Recover.j3]
    rw [HW2.out]
    by_cases hz : ((lenR (g.take m) : Nat) : Int) < (b.length : Int)
    · rw [if_pos hz, if_neg (by omega)]; exact ⟨_, _, rfl⟩
    · rw [if_neg hz]
      obtain ⟨k, rfl⟩ : ∃ m, k = m + 1 := ⟨k - 1, by omega⟩
      simp only [wal_Recover.l0]
      rw [if_neg (by omega)]; exact ⟨_, _, rfl⟩
  have hj2 : ∀ c, ∃ S' x, wal_Recover.j2 (k + 2) L (hs.flatten ++ g.take m) 0 (hs.length : Int) ((lenR (g.take m) : Nat) : Int) L (L.length : Int) (hs.length : Int) c (segsOf 0 hs) ((0 + hs.flatten.length + (g.take m).length : Nat) : Int) ((0 + hs.flatten.length : Nat) : Int) b = some (S', x, [], hs.flatten ++ g.take m, 0) := by
    intro c
    simp only [wal_Recover.j2]
    cases c with
    | false => rw [if_neg (by simp)]; exact hj3 _
    | true =>
      rw [if_pos rfl, if_pos (by omega), if_pos (by omega)]
      unfold bytes_Clone.f
      rw [if_pos (by rw [List.length_take]; omega), Option.bind_some, if_pos (by rw [hl]; omega)]
      exact hj3 _
  simp only [wal_Recover.l0]
  rw [if_pos (by omega), if_pos (by omega), if_pos (by omega), hLg]
  dsimp only
  rw [if_pos rfl, hrec (k + 2) (by omega), Option.bind_some]
  dsimp only
  rw [HW1.out, if_neg (by omega), if_pos (by omega), Option.bind_some]
  by_cases hz : ((hs.length : Nat) : Int) = 0
  · rw [if_pos hz]; exact hj2 _
  · rw [if_neg hz]; exact hj2 _
end Go.Proofs.Ytooabchnbmnchaa.Q
