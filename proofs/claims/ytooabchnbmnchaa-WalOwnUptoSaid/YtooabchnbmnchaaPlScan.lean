-- (thinned for this claim by wip/tools/shake.py: what the claim doesn't use is left out)
import Derived.Test.YtooabchnbmnchaaQ1
import Derived.Test.YtooabchnbmnchaaQ16
import Derived.Test.YtooabchnbmnchaaKit
import Derived.Test.YtooabchnbmnchaaPlNum
import Derived.Test.YtooabchnbmnchaaPlCrc
namespace Go.Proofs.Ytooabchnbmnchaa.Q
open Go.RowKit Go.Proofs.YtooabchnbmnchaaW.PrintWords Go.Proofs.YtooabchnbmnchaaW.PrintLast Go.Proofs.YtooabchnbmnchaaW.PrintMore
set_option linter.unusedVariables false
set_option linter.unusedSimpArgs false
theorem openOf_ok (b : List Int) (h : (openOf b).2.2.2 = 0) : ∃ n : Nat, n ≤ 4096 ∧ n + 8 ≤ b.length ∧ openOf b = (b.getD 1 0, (b.take (n + 4)).drop 4, ((n + 8 : Nat) : Int), 0) ∧
    (bv ((b.take 4).drop 2)).toNat = n ∧ ¬ 4096 < bv ((b.take 4).drop 2) ∧ b.getD 0 0 = 167 ∧ bv ((b.take (n + 8)).drop (n + 4)) = ((crcSum (b.take (n + 4)) : Nat) : Int) := by
  unfold openOf at h ⊢
  by_cases c1 : b.length < 8
  · rw [if_pos c1] at h; exact absurd h (by decide)
  rw [if_neg c1] at h ⊢
  by_cases c2 : b.getD 0 0 ≠ 167
  · rw [if_pos c2] at h; exact absurd h (by decide)
  rw [if_neg c2] at h ⊢
  by_cases c3 : 4096 < bv ((b.take 4).drop 2)
  · rw [if_pos c3] at h; exact absurd h (by decide)
  rw [if_neg c3] at h ⊢
  by_cases c4 : b.length < (bv ((b.take 4).drop 2)).toNat + 8
  · rw [if_pos c4] at h; exact absurd h (by decide)
  rw [if_neg c4] at h ⊢
  by_cases c5 : bv ((b.take ((bv ((b.take 4).drop 2)).toNat + 8)).drop ((bv ((b.take 4).drop 2)).toNat + 4)) ≠ ((crcSum (b.take ((bv ((b.take 4).drop 2)).toNat + 4)) : Nat) : Int)
  · rw [if_pos c5] at h; exact absurd h (by decide)
  rw [if_neg c5]
  exact ⟨(bv ((b.take 4).drop 2)).toNat, by omega, by omega, rfl, rfl, c3, Classical.not_not.1 c2, Classical.not_not.1 c5⟩
theorem openOf_bad (b : List Int) (h : (openOf b).2.2.2 ≠ 0) : ∃ e, e ≠ 0 ∧ openOf b = (0, [], 0, e) := by
  unfold openOf at h ⊢
  by_cases c1 : b.length < 8
  · rw [if_pos c1]; exact ⟨8, by decide, rfl⟩
  rw [if_neg c1] at h ⊢
  by_cases c2 : b.getD 0 0 ≠ 167
  · rw [if_pos c2]; exact ⟨22, by decide, rfl⟩
  rw [if_neg c2] at h ⊢
  by_cases c3 : 4096 < bv ((b.take 4).drop 2)
  · rw [if_pos c3]; exact ⟨5, by decide, rfl⟩
  rw [if_neg c3] at h ⊢
  by_cases c4 : b.length < (bv ((b.take 4).drop 2)).toNat + 8
  · rw [if_pos c4]; exact ⟨8, by decide, rfl⟩
  rw [if_neg c4] at h ⊢
  by_cases c5 : bv ((b.take ((bv ((b.take 4).drop 2)).toNat + 8)).drop ((bv ((b.take 4).drop 2)).toNat + 4)) ≠ ((crcSum (b.take ((bv ((b.take 4).drop 2)).toNat + 4)) : Nat) : Int)
  · rw [if_pos c5]; exact ⟨21, by decide, rfl⟩
  rw [if_neg c5] at h
  exact absurd rfl h
def scanOf : Nat → List Int → List (Int × List Int) × Nat
  | 0, _ => ([], 0)
  | d + 1, b => if (openOf b).2.2.2 = 0 then (((openOf b).1, (openOf b).2.1) :: (scanOf d (b.drop (openOf b).2.2.1.toNat)).1, (openOf b).2.2.1.toNat + (scanOf d (b.drop (openOf b).2.2.1.toNat)).2) else ([], 0)
theorem openOf_size (b : List Int) (h : (openOf b).2.2.2 = 0) : 8 ≤ (openOf b).2.2.1.toNat ∧ (openOf b).2.2.1.toNat ≤ b.length ∧ (openOf b).2.2.1 = ((openOf b).2.2.1.toNat : Int) := by
  obtain ⟨n, h1, h2, h3, _⟩ := openOf_ok b h
  rw [h3]
  show 8 ≤ (((n + 8 : Nat) : Int)).toNat ∧ (((n + 8 : Nat) : Int)).toNat ≤ b.length ∧ ((n + 8 : Nat) : Int) = ((((n + 8 : Nat) : Int)).toNat : Int)
  rw [Int.toNat_natCast]
  exact ⟨by omega, h2, rfl⟩
theorem scanOf_fuel : ∀ (d e : Nat) (b : List Int), b.length < d → b.length < e → scanOf d b = scanOf e b := by
  intro d
  induction d with
  | zero => intro e b h; omega
  | succ d ih =>
    intro e b h1 h2
    obtain ⟨e, rfl⟩ : ∃ m, e = m + 1 := ⟨e - 1, by omega⟩
    simp only [scanOf]
    by_cases ho : (openOf b).2.2.2 = 0
    · have hs := openOf_size b ho
      rw [if_pos ho, if_pos ho, ih e (b.drop (openOf b).2.2.1.toNat) (by rw [List.length_drop]; omega) (by rw [List.length_drop]; omega)]
    · rw [if_neg ho, if_neg ho]
def sc (b : List Int) : List (Int × List Int) × Nat := scanOf (b.length + 1) b
theorem sc_ok (b : List Int) (h : (openOf b).2.2.2 = 0) : sc b = (((openOf b).1, (openOf b).2.1) :: (sc (b.drop (openOf b).2.2.1.toNat)).1, (openOf b).2.2.1.toNat + (sc (b.drop (openOf b).2.2.1.toNat)).2) := by
  have hs := openOf_size b h
  unfold sc
  rw [scanOf_fuel ((b.drop (openOf b).2.2.1.toNat).length + 1) b.length (b.drop (openOf b).2.2.1.toNat) (by omega) (by rw [List.length_drop]; omega)]
  show scanOf (b.length + 1) b = _
  simp only [scanOf]
  rw [if_pos h]
theorem sc_bad (b : List Int) (h : (openOf b).2.2.2 ≠ 0) : sc b = ([], 0) := by
  unfold sc
  simp only [scanOf]
  rw [if_neg h]
theorem openOf_nil : (openOf []).2.2.2 ≠ 0 := by decide
theorem sc_nil : sc [] = ([], 0) := sc_bad [] openOf_nil
theorem sc_le : ∀ (n : Nat) (b : List Int), b.length ≤ n → (sc b).2 ≤ b.length ∧ 8 * (sc b).1.length ≤ (sc b).2 := by
  intro n
  induction n with
  | zero =>
    intro b hb
    have : b = [] := List.length_eq_zero_iff.1 (by omega)
    subst this
    rw [sc_nil]; simp
  | succ n ih =>
    intro b hb
    by_cases ho : (openOf b).2.2.2 = 0
    · have hs := openOf_size b ho
      have := ih (b.drop (openOf b).2.2.1.toNat) (by rw [List.length_drop]; omega)
      rw [List.length_drop] at this
      rw [sc_ok b ho]
      simp only [List.length_cons]
      omega
    · rw [sc_bad b ho]; simp
theorem scan_loop (l : List Int) (hl : Octs l) (hn : l.length ≤ 4398046511103) : ∀ (d k p : Nat) (acc : List (Int × List Int)), l.length - p ≤ d → d + 7 < k → p ≤ l.length → acc.length + (l.length - p) ≤ 4398046511103 →
    frames_Scan.l0 k l (p : Int) acc = some (acc ++ (sc (l.drop p)).1, ((p + (sc (l.drop p)).2 : Nat) : Int)) := by
  intro d
  induction d with
  | zero =>
    intro k p acc h1 h2 h3 h4
    obtain ⟨k, rfl⟩ : ∃ m, k = m + 1 := ⟨k - 1, by omega⟩
    have hp : l.drop p = [] := List.drop_of_length_le (by omega)
    simp only [frames_Scan.l0]
    rw [if_pos ⟨by omega, by omega, by omega⟩, Int.toNat_natCast, hp, open_is [] Octs.nil (by simp) k (by omega), Option.bind_some, sc_nil]
    rw [if_neg openOf_nil, if_pos (by decide)]
    simp
  | succ d ih =>
    intro k p acc h1 h2 h3 h4
    obtain ⟨k, rfl⟩ : ∃ m, k = m + 1 := ⟨k - 1, by omega⟩
    simp only [frames_Scan.l0]
    rw [if_pos ⟨by omega, by omega, by omega⟩, Int.toNat_natCast, open_is (l.drop p) (hl.drop p) (by rw [List.length_drop]; omega) k (by omega), Option.bind_some]
    by_cases ho : (openOf (l.drop p)).2.2.2 = 0
    · have hs := openOf_size (l.drop p) ho
      rw [List.length_drop] at hs
      rw [if_pos ho, sc_ok (l.drop p) ho]
      obtain ⟨q, hq⟩ : ∃ q, q = (openOf (l.drop p)).2.2.1.toNat := ⟨_, rfl⟩
      rw [← hq] at hs ⊢
      rw [hs.2.2, wrap64_id (by omega) (by omega), show (p : Int) + (q : Int) = ((p + q : Nat) : Int) by omega]
      rw [ih k (p + q) _ (by omega) (by omega) (by omega) (by rw [List.length_append]; simp; omega), List.drop_drop]
      rw [List.append_assoc, Nat.add_assoc]
      rfl
    · obtain ⟨e, he, hb⟩ := openOf_bad _ ho
      rw [if_neg ho, hb, if_pos rfl, sc_bad _ ho]
      simp
def frOf (x : Int × List Int) : S117 := ⟨x.1, x.2⟩
theorem scan_is (l : List Int) (hl : Octs l) (hn : l.length ≤ 4398046511103) (k : Nat) (hk : l.length + 7 < k) : frames_Scan.f k l = some ((sc l).1.map frOf, ((sc l).2 : Int)) := by
  unfold frames_Scan.f
  have := scan_loop l hl hn l.length k 0 [] (by omega) hk (by omega) (by simpa using hn)
  rw [show ((0 : Nat) : Int) = 0 from rfl] at this
  rw [this]
  simp [frOf]
def catOf (fs : List (Int × List Int)) : List Int := fs.flatMap fun f => sealOf f.1 f.2
theorem catOf_cons (f : Int × List Int) (fs : List (Int × List Int)) : catOf (f :: fs) = sealOf f.1 f.2 ++ catOf fs := by simp [catOf]
theorem sc_seal (f : Int × List Int) (h : f.2.length ≤ 4096) (r : List Int) : sc (sealOf f.1 f.2 ++ r) = (f :: (sc r).1, (f.2.length + 8) + (sc r).2) := by
  have ho := openOf_seal f.1 f.2 r h
  rw [sc_ok _ (by rw [ho]), ho]
  simp only [Int.toNat_natCast]
  rw [List.drop_append_of_le_length (by rw [sealOf_length]; omega), List.drop_of_length_le (by rw [sealOf_length]; omega), List.nil_append]
theorem sc_cat : ∀ (fs : List (Int × List Int)), (∀ f ∈ fs, f.2.length ≤ 4096) → sc (catOf fs) = (fs, (catOf fs).length) := by
  intro fs
  induction fs with
  | nil => intro _; exact sc_nil
  | cons f fs ih =>
    intro h
    rw [catOf_cons, sc_seal f (h f (by simp)), ih (fun g hg => h g (by simp [hg]))]
    rw [List.length_append, sealOf_length]
theorem sc_data : ∀ (n : Nat) (b : List Int), b.length ≤ n → ∀ f ∈ (sc b).1, f.2.length ≤ 4096 := by
  intro n
  induction n with
  | zero =>
    intro b hb f hf
    have : b = [] := List.length_eq_zero_iff.1 (by omega)
    subst this
    rw [sc_nil] at hf
    cases hf
  | succ n ih =>
    intro b hb f hf
    by_cases ho : (openOf b).2.2.2 = 0
    · have hs := openOf_size b ho
      rw [sc_ok b ho] at hf
      rcases List.mem_cons.1 hf with rfl | hf
      · obtain ⟨n, h1, h2, h3, _⟩ := openOf_ok b ho
        rw [h3]
        show ((b.take (n + 4)).drop 4).length ≤ 4096
        rw [List.length_drop, List.length_take]
        omega
      · exact ih (b.drop (openOf b).2.2.1.toNat) (by rw [List.length_drop]; omega) f hf
    · rw [sc_bad b ho] at hf
      cases hf
end Go.Proofs.Ytooabchnbmnchaa.Q
