-- (thinned for this claim by wip/tools/shake.py: what the claim doesn't use is left out)
import Derived.Test.YtooabchnbmnchaaQ32
import Derived.Test.YtooabchnbmnchaaQ39
import Derived.Test.YtooabchnbmnchaaKit
import Derived.Test.YtooabchnbmnchaaPlNode
import Derived.Test.YtooabchnbmnchaaPlSum
import Derived.Test.YtooabchnbmnchaaPlNodeX
import Derived.Test.YtooabchnbmnchaaPlBL
import Derived.Test.YtooabchnbmnchaaPlFind
namespace Go.Proofs.Ytooabchnbmnchaa.Q
open Go.RowKit Go.Proofs.YtooabchnbmnchaaW.PrintWords Go.Proofs.YtooabchnbmnchaaW.PrintLast Go.Proofs.YtooabchnbmnchaaW.PrintMore
set_option linter.unusedVariables false
set_option linter.unusedSimpArgs false
theorem cut_is (ks : List ByteArray) (hu : Up ks) (x : ByteArray) : ∃ p, p ≤ ks.length ∧ (∀ j, (h : j < ks.length) → j < p → Op.bytesLess ks[j].toList x.toList = true) ∧ (∀ j, (h : j < ks.length) → p ≤ j → Op.bytesLess ks[j].toList x.toList = false) := by
  have key : ∀ n, n ≤ ks.length → (∀ j, (h : j < ks.length) → j < n → Op.bytesLess ks[j].toList x.toList = true) ∨ ∃ p, p < n ∧ (∀ j, (h : j < ks.length) → j < p → Op.bytesLess ks[j].toList x.toList = true) ∧ ∃ h : p < ks.length, Op.bytesLess ks[p].toList x.toList = false := by
    intro n
    induction n with
    | zero => intro _; left; intro j _ h; omega
    | succ n ih =>
      intro hn
      rcases ih (by omega) with h | ⟨p, h1, h2, h3⟩
      · cases hc : Op.bytesLess (ks[n]'(by omega)).toList x.toList with
        | true =>
          left; intro j hj hlt
          by_cases e : j = n
          · subst e; exact hc
          · exact h j hj (by omega)
        | false => right; exact ⟨n, by omega, h, by omega, hc⟩
      · right; exact ⟨p, by omega, h2, h3⟩
  rcases key ks.length (Nat.le_refl _) with h | ⟨p, h1, h2, h3, h4⟩
  · exact ⟨ks.length, Nat.le_refl _, h, fun j hj hle => by omega⟩
  · refine ⟨p, by omega, h2, fun j hj hle => ?_⟩
    by_cases e : j = p
    · subst e; exact h4
    · cases hq : Op.bytesLess ks[j].toList x.toList with
      | false => rfl
      | true => have := bl_trans _ _ _ (up_lt hu (j - p - 1) p j (by omega) hj) hq; rw [h4] at this; cases this
theorem rfind_loop (leaf : Bool) (ks vs : List ByteArray) (ds : List Int) (x : ByteArray) (hn : ks.length ≤ 8796093022207) (p : Nat) (hp : p ≤ ks.length) (E : Bool)
    (hless : ∀ i, i < ks.length → (Op.bytesLess (ks.getD i ByteArray.empty).toList x.toList = true ↔ i < p)) (heq : ∀ i, i < ks.length → ((ks.getD i ByteArray.empty).toList = x.toList ↔ (i = p ∧ E = true))) (hE : E = true → p < ks.length) :
    ∀ (d k i a : Nat) (b : Bool), i + d = ks.length → d < k → a ≤ 2 * i → b = (E && decide (p < i)) →
      transeptref09_Find.l0 k x (a : Int) b (i : Int) leaf ks vs ds = some (((a + (p - i) + (if leaf = false ∧ E = true ∧ i ≤ p then 1 else 0) : Nat) : Int), E, 0) := by
  intro d
  induction d with
  | zero =>
    intro k i a b hi hk ha hb
    obtain ⟨k, rfl⟩ : ∃ m, k = m + 1 := ⟨k - 1, by omega⟩
    simp only [transeptref09_Find.l0]
    rw [if_neg (by omega)]
    cases E with
    | true =>
      have := hE rfl
      rw [hb, if_neg (by intro h; omega), show p - i = 0 by omega]
      simp; omega
    | false =>
      rw [hb, if_neg (by simp), show p - i = 0 by omega]
      simp
  | succ d ih =>
    intro k i a b hi hk ha hb
    obtain ⟨k, rfl⟩ : ∃ m, k = m + 1 := ⟨k - 1, by omega⟩
    have h1 : i < ks.length := by omega
    have l1 := hless i h1
    have e1 := heq i h1
    simp only [transeptref09_Find.l0]
    rw [if_pos (by omega), if_pos (by omega), rdD ks i h1, wrap64_id (x := (i : Int) + 1) (by omega) (by omega), wrap64_id (x := (a : Int) + 1) (by omega) (by omega), show (i : Int) + 1 = ((i + 1 : Nat) : Int) by omega, show (a : Int) + 1 = ((a + 1 : Nat) : Int) by omega]
    by_cases c1 : i < p
    · rw [if_pos (l1.2 c1)]
      have hb0 : b = false := by rw [hb]; simp; intro _; omega
      have hq : ((ks.getD i ByteArray.empty).toList == x.toList) = false := by
        rw [beq_eq_false_iff_ne]; intro h; have := (e1.1 h).1; omega
      rw [hb0, if_neg (by decide), hq, ih k (i + 1) (a + 1) false (by omega) (by omega) (by omega) (by symm; simp; intro _; omega)]
      congr 3
      by_cases hl : leaf = false ∧ E = true
      · rw [if_pos ⟨hl.1, hl.2, by omega⟩, if_pos ⟨hl.1, hl.2, by omega⟩]; omega
      · rw [if_neg (fun h => hl ⟨h.1, h.2.1⟩), if_neg (fun h => hl ⟨h.1, h.2.1⟩)]; omega
    · rw [if_neg (fun h => c1 (l1.1 h))]
      by_cases c2 : i = p
      · subst c2
        have hb0 : b = false := by rw [hb]; simp
        have hq : ((ks.getD i ByteArray.empty).toList == x.toList) = E := by
          cases hE' : E with
          | true => rw [beq_iff_eq]; exact e1.2 ⟨rfl, hE'⟩
          | false => rw [beq_eq_false_iff_ne]; intro h; have := (e1.1 h).2; rw [hE'] at this; cases this
        have hnx : E = (E && decide (i < i + 1)) := by simp
        rw [hb0]
        cases leaf with
        | true =>
          rw [if_pos rfl, if_neg (by decide), hq, ih k (i + 1) a E (by omega) (by omega) (by omega) hnx]
          simp
        | false =>
          rw [if_neg (by decide)]
          by_cases c3 : (ks.getD i ByteArray.empty).toList = x.toList
          · have hE' := (e1.1 c3).2
            rw [if_pos c3, if_neg (by decide), hq, ih k (i + 1) (a + 1) E (by omega) (by omega) (by omega) hnx]
            rw [if_neg (by intro h; omega), if_pos ⟨rfl, hE', Nat.le_refl _⟩]
            congr 3; omega
          · have hE' : E = false := by
              cases hE'' : E with
              | false => rfl
              | true => exact absurd (e1.2 ⟨rfl, hE''⟩) c3
            rw [if_neg c3, if_neg (by decide), hq, ih k (i + 1) a E (by omega) (by omega) (by omega) hnx]
            rw [if_neg (by intro h; omega), if_neg (by intro h; rw [hE'] at h; exact absurd h.2.1 (by decide))]
            congr 3; omega
      · have hc3 : ¬ (ks.getD i ByteArray.empty).toList = x.toList := fun h => c2 (e1.1 h).1
        have hq : ((ks.getD i ByteArray.empty).toList == x.toList) = false := by rw [beq_eq_false_iff_ne]; exact hc3
        have hbE : b = E := by rw [hb, show decide (p < i) = true by simp; omega, Bool.and_true]
        have hih := ih k (i + 1) a b (by omega) (by omega) (by omega) (by rw [hbE, show decide (p < i + 1) = true by simp; omega, Bool.and_true])
        have hfin : (a + (p - (i + 1)) + (if leaf = false ∧ E = true ∧ i + 1 ≤ p then 1 else 0) : Nat) = (a + (p - i) + (if leaf = false ∧ E = true ∧ i ≤ p then 1 else 0) : Nat) := by
          rw [if_neg (by intro h; omega), if_neg (by intro h; omega)]; omega
        rw [hfin] at hih
        cases hbb : b with
        | true =>
          rw [hbb] at hih
          cases leaf with
          | true => rw [if_pos rfl, if_pos rfl]; exact hih
          | false => rw [if_neg (by decide), if_neg hc3, if_pos rfl]; exact hih
        | false =>
          rw [hbb] at hih
          cases leaf with
          | true => rw [if_pos rfl, if_neg (by decide), hq]; exact hih
          | false => rw [if_neg (by decide), if_neg hc3, if_neg (by decide), hq]; exact hih
theorem find_both (leaf : Bool) (ks vs : List ByteArray) (ds : List Int) (x : ByteArray) (hn : ks.length ≤ 8796093022207) (hv : vs.length ≤ 8796093022207) (hd : ds.length ≤ 17592186044415) (k : Nat) (hk : 2 * ks.length + vs.length + ds.length + 5 < k) :
    ∃ r, node_Find.f k leaf ks vs ds x = some r ∧ transeptref09_Find.f k leaf ks vs ds x = some r := by
  by_cases h0 : chk leaf ks vs ds = 0
  case neg =>
    refine ⟨(0, false, chk leaf ks vs ds), ?_, ?_⟩
    · unfold node_Find.f; rw [pcheck_is leaf ks vs ds hn (by omega) k (by omega), Option.bind_some, if_neg h0]
    · unfold transeptref09_Find.f; rw [rcheck_is leaf ks vs ds hn hv (by omega) k (by omega), Option.bind_some, if_neg h0]
  have hok := chk_ok hn (by omega) h0
  obtain ⟨p, hp, hlo, hhi⟩ := cut_is ks hok.up x
  obtain ⟨f, hs1, hs2⟩ := search_loop ks x (by omega) p hp hlo hhi ks.length k 0 ks.length (by omega) (by omega) (by omega) hp (Nat.le_refl _)
  have hs : slices_BinarySearch_string_string.f k ks x = some ((p : Int), f) := by
    unfold slices_BinarySearch_string_string.f
    rw [show (0 : Int) = ((0 : Nat) : Int) from rfl, hs1]
  refine ⟨_, find_is hok hn k (by omega) x p hp f hs, ?_⟩
  unfold transeptref09_Find.f
  rw [rcheck_is leaf ks vs ds hn hv (by omega) k (by omega), Option.bind_some, if_pos h0]
  have := rfind_loop leaf ks vs ds x hn p hp f (fun i hi => ?_) (fun i hi => ?_) (fun h => (hs2.1 h).1) ks.length k 0 0 false (by omega) (by omega) (by omega) (by simp)
  · rw [show (0 : Int) = ((0 : Nat) : Int) from rfl, this]
    congr 2
    cases f <;> cases leaf <;> simp
  · rw [getD_nat ks i hi]
    constructor
    · intro h
      by_cases c : i < p
      · exact c
      · rw [hhi i hi (by omega)] at h; cases h
    · exact hlo i hi
  · rw [getD_nat ks i hi]
    constructor
    · intro h
      have hnl : ¬ i < p := fun c => by have := hlo i hi c; rw [h, bl_irrefl] at this; cases this
      by_cases c : i = p
      · subst c; exact ⟨rfl, hs2.2 ⟨hi, h⟩⟩
      · have hpl : p < ks.length := by omega
        have := up_lt hok.up (i - p - 1) p i (by omega) hi
        rw [h, hhi p hpl (Nat.le_refl _)] at this
        cases this
    · rintro ⟨rfl, hf⟩
      exact (hs2.1 hf).2
end Go.Proofs.Ytooabchnbmnchaa.Q
