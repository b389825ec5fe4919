-- (thinned for this claim by wip/tools/shake.py: what the claim doesn't use is left out)
import Derived.Test.YtooabchnbmnchaaQ17
import Derived.Test.YtooabchnbmnchaaQ26
import Derived.Test.YtooabchnbmnchaaQ22
import Derived.Test.YtooabchnbmnchaaKit
import Derived.Test.YtooabchnbmnchaaPlNum
import Derived.Test.YtooabchnbmnchaaPlCrc
import Derived.Test.YtooabchnbmnchaaPlScan
import Derived.Test.YtooabchnbmnchaaPlWal
namespace Go.Proofs.Ytooabchnbmnchaa.Q
open Go.RowKit Go.Proofs.YtooabchnbmnchaaW.PrintWords Go.Proofs.YtooabchnbmnchaaW.PrintLast Go.Proofs.YtooabchnbmnchaaW.PrintMore
set_option linter.unusedVariables false
set_option linter.unusedSimpArgs false
def NE (gs : List (List (List Int))) : Prop := ∀ g ∈ gs, g ≠ []
theorem NE_len (gs : List (List (List Int))) (h : NE gs) : gs.length ≤ gs.flatten.length := by
  induction gs with
  | nil => simp
  | cons g gs ih =>
    have h1 := ih (fun x hx => h x (by simp [hx]))
    have h2 := List.length_pos_iff.2 (h g (by simp))
    rw [List.flatten_cons, List.length_append, List.length_cons]
    omega
theorem last_app {α : Type} (X : List α) (s z : α) : (X ++ [s]).getD ((X ++ [s]).length - 1) z = s := by simp
theorem set_app {α : Type} (X : List α) (s t : α) : (X ++ [s]).set ((X ++ [s]).length - 1) t = X ++ [t] := by simp
theorem putLast_is (a : Nat) (hs : List (List (List Int))) (g : List (List Int)) (d : List Int) :
    putLast (segsOf a (hs ++ [g])) (lastData (segsOf a (hs ++ [g])) ++ sealOf 1 d) = segsOf a (hs ++ [g ++ [d]]) := by
  have e1 : segsOf a (hs ++ [g]) = segsOf a hs ++ [⟨((a + hs.flatten.length : Nat) : Int), catR g⟩] := by rw [segsOf_append]; rfl
  have e2 : segsOf a (hs ++ [g ++ [d]]) = segsOf a hs ++ [⟨((a + hs.flatten.length : Nat) : Int), catR (g ++ [d])⟩] := by rw [segsOf_append]; rfl
  rw [e1, e2]
  unfold putLast lastData
  rw [last_app, set_app, catR_append, catR_one]
theorem openG_is (limit : Int) (a : Nat) (gs : List (List (List Int))) (hne : NE gs) : ∃ hs g, openSeg limit ((a + gs.flatten.length : Nat) : Int) (segsOf a gs) = segsOf a (hs ++ [g]) ∧ (hs ++ [g]).flatten = gs.flatten ∧ NE hs ∧ (hs ++ [g] = gs ∨ (hs = gs ∧ g = [])) := by
  have hnew : segsOf a gs ++ [⟨((a + gs.flatten.length : Nat) : Int), []⟩] = segsOf a (gs ++ [[]]) := by rw [segsOf_append]; rfl
  have hcase : openSeg limit ((a + gs.flatten.length : Nat) : Int) (segsOf a gs) = segsOf a (gs ++ [[]]) ∨ (gs ≠ [] ∧ openSeg limit ((a + gs.flatten.length : Nat) : Int) (segsOf a gs) = segsOf a gs) := by
    unfold openSeg
    split
    · left; exact hnew
    · rename_i hz
      split
      · left; exact hnew
      · right; refine ⟨fun e => hz ?_, rfl⟩; rw [e]; rfl
  rcases hcase with h | ⟨h0, h⟩
  · exact ⟨gs, [], h, by simp, hne, Or.inr ⟨rfl, rfl⟩⟩
  · refine ⟨gs.dropLast, gs.getLast h0, ?_, ?_, fun x hx => hne x ((List.dropLast_sublist gs).subset hx), Or.inl (List.dropLast_concat_getLast h0)⟩
    · rw [h, List.dropLast_concat_getLast h0]
    · rw [List.dropLast_concat_getLast h0]
theorem flush_loop (limit : Int) (a : Nat) (ha : a ≤ 1000000) : ∀ (bs : List (List Int)) (gs : List (List (List Int))), (∀ d ∈ bs, Rec d) → GoodG gs → NE gs → gs.flatten.length + bs.length ≤ 4096 →
    ∃ gs', wal_Flush.l0 bs limit (segsOf a gs) ((a + gs.flatten.length : Nat) : Int) = some (segsOf a gs', ((a + gs'.flatten.length : Nat) : Int), [], 0) ∧ gs'.flatten = gs.flatten ++ bs ∧ GoodG gs' ∧ NE gs' := by
  intro bs
  induction bs with
  | nil => intro gs _ hg hn _; exact ⟨gs, rfl, by simp, hg, hn⟩
  | cons b bs ih =>
    intro gs hb hg hn ht
    obtain ⟨hs, g, ho, hf, hnh, hor⟩ := openG_is limit a gs hn
    have hrb := hb b (by simp)
    have hlen : gs.length ≤ gs.flatten.length := NE_len gs hn
    rw [List.length_cons] at ht
    have hgood : GoodG (hs ++ [g ++ [b]]) := by
      intro x hx d hd
      rcases List.mem_append.1 hx with hx | hx
      · rcases hor with e | ⟨e, _⟩
        · exact hg x (by rw [← e]; exact List.mem_append.2 (Or.inl hx)) d hd
        · exact hg x (by rw [← e]; exact hx) d hd
      · rw [List.mem_singleton] at hx
        subst hx
        rcases List.mem_append.1 hd with hd | hd
        · rcases hor with e | ⟨_, e⟩
          · exact hg g (by rw [← e]; simp) d hd
          · rw [e] at hd; cases hd
        · rw [List.mem_singleton] at hd; subst hd; exact hrb
    have hne : NE (hs ++ [g ++ [b]]) := by
      intro x hx
      rcases List.mem_append.1 hx with hx | hx
      · exact hnh x hx
      · rw [List.mem_singleton] at hx; subst hx; simp
    have hfl : (hs ++ [g ++ [b]]).flatten = gs.flatten ++ [b] := by
      rw [← hf]; simp
    have hlen2 := NE_len _ hne
    have hfl2 : (hs ++ [g ++ [b]]).flatten.length = gs.flatten.length + 1 := by rw [hfl]; simp
    obtain ⟨gs', h1, h2, h3, h4⟩ := ih (hs ++ [g ++ [b]]) (fun d hd => hb d (by simp [hd])) hgood hne (by omega)
    refine ⟨gs', ?_, by rw [h2, hfl]; simp, h3, h4⟩
    have hld : (lastData (segsOf a (hs ++ [g]))).length ≤ 100000000 := by
      have e1 : segsOf a (hs ++ [g]) = segsOf a hs ++ [⟨((a + hs.flatten.length : Nat) : Int), catR g⟩] := by rw [segsOf_append]; rfl
      rw [e1]
      unfold lastData
      rw [last_app]
      have hl : g.length ≤ gs.flatten.length := by rw [← hf]; simp
      have hR : ∀ d ∈ g, Rec d := fun d hd => hgood (g ++ [b]) (by simp) d (by simp [hd])
      have := lenR_le g hR
      simp only [catR_len]
      omega
    have hb1 : -9223372036854775808 ≤ ((a + gs.flatten.length : Nat) : Int) + 1 := by omega
    have hb2 : ((a + gs.flatten.length : Nat) : Int) + 1 ≤ 9223372036854775807 := by omega
    simp only [wal_Flush.l0]
    rw [if_pos (by rw [segsOf_length]; omega), seal_is 1 (by omega) b hrb.2 hrb.1, Option.bind_some]
    simp only
    rw [ho, if_pos (by rw [sealOf_length]; have := hrb.1; omega), wrap64_id hb1 hb2, putLast_is, segsOf_length, if_neg (by omega), if_neg (by omega)]
    rw [show ((a + gs.flatten.length : Nat) : Int) + 1 = ((a + (hs ++ [g ++ [b]]).flatten.length : Nat) : Int) by rw [hfl2]; omega]
    exact h1
theorem flush_is (limit : Int) (hl1 : 1 ≤ limit) (hl2 : limit ≤ 1048576) (a : Nat) (ha : a ≤ 1000000) (bs : List (List Int)) (gs : List (List (List Int))) (hb : ∀ d ∈ bs, Rec d) (hg : GoodG gs) (hn : NE gs) (ht : gs.flatten.length + bs.length ≤ 4096) (k : Nat) (hk : 30000000 < k) :
    ∃ gs', wal_Flush.f k (segsOf a gs) ((a + gs.flatten.length : Nat) : Int) bs limit = some (segsOf a gs', ((a + gs'.flatten.length : Nat) : Int), [], 0) ∧ gs'.flatten = gs.flatten ++ bs ∧ GoodG gs' ∧ NE gs' := by
  obtain ⟨gs', h1, h2⟩ := flush_loop limit a ha bs gs hb hg hn ht
  refine ⟨gs', ?_, h2⟩
  have hlen := NE_len gs hn
  unfold wal_Flush.f
  rw [own_is a gs hg (by omega) ha (by omega) bs (fun d hd => (hb d hd).1) (by omega) k hk, Option.bind_some]
  simp only
  rw [if_pos trivial, if_neg (by omega), if_neg (by omega)]
  exact h1
theorem append_is (a : Nat) (ha : a ≤ 1000000) (bs : List (List Int)) (gs : List (List (List Int))) (hb : ∀ d ∈ bs, Rec d) (hg : GoodG gs) (hn : NE gs) (ht : gs.flatten.length + bs.length ≤ 4096) (k : Nat) (hk : 30000000 < k) :
    wal_Append.f k (segsOf a gs) ((a + gs.flatten.length : Nat) : Int) [] bs = some (segsOf a gs, ((a + gs.flatten.length : Nat) : Int), bs, 0) := by
  have hlen := NE_len gs hn
  have hz : (([] : List (List Int)).length : Int) = 0 := rfl
  have hb1 : -9223372036854775808 ≤ (([] : List (List Int)).length : Int) + (bs.length : Int) := by omega
  have hb2 : (([] : List (List Int)).length : Int) + (bs.length : Int) ≤ 9223372036854775807 := by omega
  unfold wal_Append.f
  rw [own_is a gs hg (by omega) ha (by omega) [] (fun d hd => by cases hd) (by simp) k hk, Option.bind_some]
  simp only
  rw [if_pos trivial, contains68, Option.bind_some, any_long bs (fun d hd => (hb d hd).1), if_neg (by simp), wrap64_id hb1 hb2, if_neg (by omega), cloneAll_is bs (by omega) (fun d hd => by have := (hb d hd).1; omega) k (by omega), Option.bind_some, if_pos (by simp; omega)]
  rfl
theorem append_long (a : Nat) (ha : a ≤ 1000000) (bs : List (List Int)) (gs : List (List (List Int))) (hb : (bs.any fun v => decide (4096 < v.length)) = true) (hg : GoodG gs) (hn : NE gs) (ht : gs.flatten.length ≤ 4096) (k : Nat) (hk : 30000000 < k) :
    wal_Append.f k (segsOf a gs) ((a + gs.flatten.length : Nat) : Int) [] bs = some ([], 0, [], 5) := by
  have hlen := NE_len gs hn
  unfold wal_Append.f
  rw [own_is a gs hg (by omega) ha (by omega) [] (fun d hd => by cases hd) (by simp) k hk, Option.bind_some]
  simp only
  rw [if_pos trivial, contains68, Option.bind_some, hb, if_pos rfl]
end Go.Proofs.Ytooabchnbmnchaa.Q
