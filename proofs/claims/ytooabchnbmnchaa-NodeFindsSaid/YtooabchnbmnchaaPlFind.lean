-- (thinned for this claim by wip/tools/shake.py: what the claim doesn't use is left out)
import Derived.Test.YtooabchnbmnchaaQ1
import Derived.Test.YtooabchnbmnchaaQ32
import Derived.Test.YtooabchnbmnchaaKit
import Derived.Test.YtooabchnbmnchaaPlNode
import Derived.Test.YtooabchnbmnchaaPlBL
namespace Go.Proofs.Ytooabchnbmnchaa.Q
open Go.RowKit Go.Proofs.YtooabchnbmnchaaW.PrintWords Go.Proofs.YtooabchnbmnchaaW.PrintLast Go.Proofs.YtooabchnbmnchaaW.PrintMore
set_option linter.unusedVariables false
set_option linter.unusedSimpArgs false
theorem less_is (a b : ByteArray) : cmp_Less_string.f a b = some (Op.bytesLess a.toList b.toList) := by
  unfold cmp_Less_string.f cmp_isNaN_string.f
  rw [Option.bind_some, if_neg (by simp)]
theorem u64_small (n : Int) (h0 : 0 ≤ n) (h1 : n < 18446744073709551616) : IntKind.u64.wrap n = n := by
  simp only [IntKind.wrap, IntKind.bits, IntKind.signed]
  simp
  omega
theorem search_loop (l : List ByteArray) (x : ByteArray) (hn : l.length ≤ 9000000000000) (p : Nat) (hp : p ≤ l.length) (hlo : ∀ j, (h : j < l.length) → j < p → Op.bytesLess l[j].toList x.toList = true) (hhi : ∀ j, (h : j < l.length) → p ≤ j → Op.bytesLess l[j].toList x.toList = false) :
    ∀ (d k lo hi : Nat), hi - lo ≤ d → d < k → lo ≤ p → p ≤ hi → hi ≤ l.length → ∃ f, slices_BinarySearch_string_string.l0 k l x (l.length : Int) (lo : Int) (hi : Int) = some ((p : Int), f) ∧ (f = true ↔ ∃ h : p < l.length, l[p].toList = x.toList) := by
  intro d
  induction d with
  | zero =>
    intro k lo hi hd hk h1 h2 h3
    obtain ⟨k, rfl⟩ : ∃ m, k = m + 1 := ⟨k - 1, by omega⟩
    obtain rfl : lo = p := by omega
    simp only [slices_BinarySearch_string_string.l0]
    rw [if_neg (by omega)]
    by_cases hl : lo < l.length
    · rw [if_pos (by omega), if_pos (by omega), if_pos (by omega), rdOf_nat l lo hl]
      by_cases he : l[lo].toList = x.toList
      · exact ⟨true, by rw [if_pos he], ⟨fun _ => ⟨hl, he⟩, fun _ => rfl⟩⟩
      · refine ⟨false, ?_, ⟨fun h => absurd h (by decide), fun hh => by obtain ⟨_, h⟩ := hh; exact absurd h he⟩⟩
        rw [if_neg he]
        unfold slices_isNaN_string.f
        rw [Option.bind_some, if_neg (by simp)]
    · exact ⟨false, by rw [if_neg (by omega)], ⟨fun h => absurd h (by decide), fun hh => by obtain ⟨h, _⟩ := hh; exact absurd h hl⟩⟩
  | succ d ih =>
    intro k lo hi hd hk h1 h2 h3
    by_cases hlh : lo < hi
    case neg => exact ih k lo hi (by omega) (by omega) h1 h2 h3
    obtain ⟨k, rfl⟩ : ∃ m, k = m + 1 := ⟨k - 1, by omega⟩
    have hmid : wrap64 ((IntKind.u64.wrap (wrap64 ((lo : Int) + (hi : Int)))) / 2) = (((lo + hi) / 2 : Nat) : Int) := by
      rw [wrap64_id (x := (lo : Int) + (hi : Int)) (by omega) (by omega), u64_small _ (by omega) (by omega), wrap64_id (by omega) (by omega)]
      omega
    simp only [slices_BinarySearch_string_string.l0]
    rw [if_pos (by omega), hmid]
    have hm : (lo + hi) / 2 < l.length := by omega
    rw [if_pos (by omega), if_pos (by omega), rdOf_nat l _ hm, less_is, Option.bind_some]
    by_cases hc : (lo + hi) / 2 < p
    · rw [hlo _ hm hc, if_pos rfl, wrap64_id (x := (((lo + hi) / 2 : Nat) : Int) + 1) (by omega) (by omega), show (((lo + hi) / 2 : Nat) : Int) + 1 = (((lo + hi) / 2 + 1 : Nat) : Int) by omega]
      exact ih k _ hi (by omega) (by omega) (by omega) h2 h3
    · rw [hhi _ hm (by omega), if_neg (by decide)]
      exact ih k lo _ (by omega) (by omega) h1 (by omega) (by omega)
theorem up_lt {ks : List ByteArray} (h : Up ks) : ∀ (d j i : Nat), (he : j + d + 1 = i) → (hi : i < ks.length) → Op.bytesLess (ks[j]'(by omega)).toList ks[i].toList = true := by
  intro d
  induction d with
  | zero => intro j i e hi; subst e; exact h j hi
  | succ d ih =>
    intro j i e hi
    obtain ⟨i, rfl⟩ : ∃ m, i = m + 1 := ⟨i - 1, by omega⟩
    exact bl_trans _ _ _ (ih j i (by omega) (by omega)) (h i hi)
theorem find_is {leaf : Bool} {ks vs : List ByteArray} {ds : List Int} (h : NodeOk leaf ks vs ds) (hn : ks.length ≤ 8796093022207) (k : Nat) (hk : ks.length < k) (x : ByteArray) (p : Nat) (hp : p ≤ ks.length) (f : Bool) (hs : slices_BinarySearch_string_string.f k ks x = some ((p : Int), f)) :
    node_Find.f k leaf ks vs ds x = some ((if f = true then (if leaf = true then (p : Int) else (p : Int) + 1) else (p : Int)), f, 0) := by
  unfold node_Find.f
  rw [check_ok leaf ks vs ds (by omega) k hk h, Option.bind_some, if_pos rfl, hs, Option.bind_some]
  simp only
  rw [wrap64_id (by omega) (by omega)]
  cases f <;> cases leaf <;> simp
end Go.Proofs.Ytooabchnbmnchaa.Q
