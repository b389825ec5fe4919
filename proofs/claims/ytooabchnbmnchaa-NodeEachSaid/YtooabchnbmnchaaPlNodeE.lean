-- (thinned for this claim by wip/tools/shake.py: what the claim doesn't use is left out)
import Derived.Test.YtooabchnbmnchaaQ1
import Derived.Test.YtooabchnbmnchaaQ7
import Derived.Test.YtooabchnbmnchaaQ30
import Derived.Test.YtooabchnbmnchaaQ29
import Derived.Test.YtooabchnbmnchaaQ27
import Derived.Test.YtooabchnbmnchaaQ26
import Derived.Test.YtooabchnbmnchaaQ28
import Derived.Test.YtooabchnbmnchaaKit
import Derived.Test.YtooabchnbmnchaaPlNode
import Derived.Test.YtooabchnbmnchaaPlNodeB
namespace Go.Proofs.Ytooabchnbmnchaa.Q
open Go.RowKit Go.Proofs.YtooabchnbmnchaaW.PrintWords Go.Proofs.YtooabchnbmnchaaW.PrintLast Go.Proofs.YtooabchnbmnchaaW.PrintMore
set_option linter.unusedVariables false
set_option linter.unusedSimpArgs false
theorem leafB_len : ∀ (a b : List ByteArray), a.length = b.length → (leafB (a.zip b)).length = sumK a + a.length + sumV b := by
  intro a
  induction a with
  | nil => intro b h; cases b with
    | nil => rfl
    | cons y b => simp at h
  | cons x a ih => intro b h; cases b with
    | nil => simp at h
    | cons y b =>
      have := ih b (by simpa using h)
      simp only [leafB, sumK, sumV, List.zip_cons_cons, List.flatMap_cons, List.length_append, short_len, List.map_cons, List.sum_cons, List.length_cons] at *
      omega
theorem innB_len : ∀ (a : List ByteArray) (b : List Int), a.length = b.length → (innB (a.zip b)).length = sumK a + 4 * b.length := by
  intro a
  induction a with
  | nil => intro b h; cases b with
    | nil => rfl
    | cons y b => simp at h
  | cons x a ih => intro b h; cases b with
    | nil => simp at h
    | cons y b =>
      have := ih b (by simpa using h)
      simp only [innB, sumK, List.zip_cons_cons, List.flatMap_cons, List.length_append, short_len, kid_len, List.map_cons, List.sum_cons, List.length_cons] at *
      omega
theorem encB_len {leaf : Bool} {ks vs : List ByteArray} {ds : List Int} (h : NodeOk leaf ks vs ds) (hn : ks.length ≤ 8796093022207) : ((encB leaf ks vs ds).length : Int) = node_Size.v leaf ks vs ds := by
  have hk : ∀ x ∈ ks, x.size ≤ 32 := fun x hx => (h.keys x hx).2
  have hsh := h.shape
  unfold ShapeOk at hsh
  unfold encB
  cases leaf with
  | true =>
    rw [if_pos rfl] at hsh
    rw [if_pos rfl, size_leaf ks vs ds hk h.vals hsh.1 (by omega)]
    have := leafB_len ks vs hsh.1.symm
    simp only [List.length_cons, this]
    omega
  | false =>
    rw [if_neg (by decide)] at hsh
    rw [if_neg (by decide), size_inner ks vs ds hk (by omega) (by omega)]
    obtain ⟨d, ds', rfl⟩ : ∃ d ds', ds = d :: ds' := by
      cases ds with
      | nil => simp at hsh
      | cons d ds' => exact ⟨d, ds', rfl⟩
    have hl2 : ks.length = ds'.length := by have := hsh.2.2; simp at this; omega
    have := innB_len ks ds' hl2
    simp only [List.length_cons, List.length_append, kid_len, List.tail_cons, this]
    omega
theorem bl_nil (x : List UInt8) : Op.bytesLess x [] = false := by cases x <;> rfl
theorem bl_irrefl (x : List UInt8) : Op.bytesLess x x = false := by
  induction x with
  | nil => rfl
  | cons a x ih => rw [bytesLess_cons, ih]; simp
theorem bl_trans : ∀ x y z : List UInt8, Op.bytesLess x y = true → Op.bytesLess y z = true → Op.bytesLess x z = true := by
  intro x
  induction x with
  | nil =>
    intro y z h1 h2
    cases z with
    | nil => rw [bl_nil] at h2; cases h2
    | cons c z => rfl
  | cons a x ih =>
    intro y z h1 h2
    cases y with
    | nil => rw [bl_nil] at h1; cases h1
    | cons b y =>
      cases z with
      | nil => rw [bl_nil] at h2; cases h2
      | cons c z =>
        rw [bytesLess_cons] at h1 h2 ⊢
        simp only [Bool.or_eq_true, decide_eq_true_eq, Bool.and_eq_true, beq_iff_eq] at h1 h2 ⊢
        rcases h1 with h1 | ⟨rfl, h1⟩
        · rcases h2 with h2 | ⟨rfl, h2⟩
          · left; exact UInt8.lt_trans h1 h2
          · left; exact h1
        · rcases h2 with h2 | ⟨rfl, h2⟩
          · left; exact h2
          · right; exact ⟨rfl, ih _ _ h1 h2⟩
theorem bl_snoc (x : List UInt8) (c : UInt8) : Op.bytesLess x (x ++ [c]) = true := by
  induction x with
  | nil => rfl
  | cons a x ih => rw [List.cons_append, bytesLess_cons, ih]; simp
theorem bl_next : ∀ x y : List UInt8, Op.bytesLess x y = true → Op.bytesLess y (x ++ [0]) = false := by
  intro x
  induction x with
  | nil =>
    intro y h
    cases y with
    | nil => rw [bl_nil] at h; cases h
    | cons b y =>
      show Op.bytesLess (b :: y) [0] = false
      rw [bytesLess_cons, bl_nil]
      simp
  | cons a x ih =>
    intro y h
    cases y with
    | nil => rw [bl_nil] at h; cases h
    | cons b y =>
      rw [List.cons_append, bytesLess_cons]
      rw [bytesLess_cons] at h
      simp only [Bool.or_eq_true, decide_eq_true_eq, Bool.and_eq_true, beq_iff_eq] at h
      rcases h with h | ⟨rfl, h⟩
      · have h1 : ¬ b < a := UInt8.lt_asymm h
        have h2 : b ≠ a := fun e => by subst e; exact UInt8.lt_irrefl _ h
        simp [h1, h2]
      · rw [ih y h]; simp [UInt8.lt_irrefl]
theorem less_is (a b : ByteArray) : cmp_Less_string.f a b = some (Op.bytesLess a.toList b.toList) := by
  unfold cmp_Less_string.f cmp_isNaN_string.f
  rw [Option.bind_some, if_neg (by simp)]
theorem u64_small (n : Int) (h0 : 0 ≤ n) (h1 : n < 18446744073709551616) : IntKind.u64.wrap n = n := by
  simp only [IntKind.wrap, IntKind.bits, IntKind.signed]
  simp
  omega
theorem search_loop (l : List ByteArray) (x : ByteArray) (hn : l.length ≤ 9000000000000) (p : Nat) (hp : p ≤ l.length) (hlo : ∀ j, (h : j < l.length) → j < p → Op.bytesLess l[j].toList x.toList = true) (hhi : ∀ j, (h : j < l.length) → p ≤ j → Op.bytesLess l[j].toList x.toList = false) :
    ∀ (d k lo hi : Nat), hi - lo ≤ d → d < k → lo ≤ p → p ≤ hi → hi ≤ l.length → ∃ f, slices_BinarySearch_string_string.l0 k l x (l.length : Int) (lo : Int) (hi : Int) = some ((p : Int), f) ∧ (f = true ↔ ∃ h : p < l.length, l[p].toList = x.toList) := by
  intro d
  induction d with
  | zero =>
    intro k lo hi hd hk h1 h2 h3
    obtain ⟨k, rfl⟩ : ∃ m, k = m + 1 := ⟨k - 1, by omega⟩
    obtain rfl : lo = p := by omega
    simp only [slices_BinarySearch_string_string.l0]
    rw [if_neg (by omega)]
    by_cases hl : lo < l.length
    · rw [if_pos (by omega), if_pos (by omega), if_pos (by omega), rdOf_nat l lo hl]
      by_cases he : l[lo].toList = x.toList
      · exact ⟨true, by rw [if_pos he], ⟨fun _ => ⟨hl, he⟩, fun _ => rfl⟩⟩
      · refine ⟨false, ?_, ⟨fun h => absurd h (by decide), fun hh => by obtain ⟨_, h⟩ := hh; exact absurd h he⟩⟩
        rw [if_neg he]
        unfold slices_isNaN_string.f
        rw [Option.bind_some, if_neg (by simp)]
    · exact ⟨false, by rw [if_neg (by omega)], ⟨fun h => absurd h (by decide), fun hh => by obtain ⟨h, _⟩ := hh; exact absurd h hl⟩⟩
  | succ d ih =>
    intro k lo hi hd hk h1 h2 h3
    by_cases hlh : lo < hi
    case neg => exact ih k lo hi (by omega) (by omega) h1 h2 h3
    obtain ⟨k, rfl⟩ : ∃ m, k = m + 1 := ⟨k - 1, by omega⟩
    have hmid : wrap64 ((IntKind.u64.wrap (wrap64 ((lo : Int) + (hi : Int)))) / 2) = (((lo + hi) / 2 : Nat) : Int) := by
      rw [wrap64_id (x := (lo : Int) + (hi : Int)) (by omega) (by omega), u64_small _ (by omega) (by omega), wrap64_id (by omega) (by omega)]
      omega
    simp only [slices_BinarySearch_string_string.l0]
    rw [if_pos (by omega), hmid]
    have hm : (lo + hi) / 2 < l.length := by omega
    rw [if_pos (by omega), if_pos (by omega), rdOf_nat l _ hm, less_is, Option.bind_some]
    by_cases hc : (lo + hi) / 2 < p
    · rw [hlo _ hm hc, if_pos rfl, wrap64_id (x := (((lo + hi) / 2 : Nat) : Int) + 1) (by omega) (by omega), show (((lo + hi) / 2 : Nat) : Int) + 1 = (((lo + hi) / 2 + 1 : Nat) : Int) by omega]
      exact ih k _ hi (by omega) (by omega) (by omega) h2 h3
    · rw [hhi _ hm (by omega), if_neg (by decide)]
      exact ih k lo _ (by omega) (by omega) h1 (by omega) (by omega)
theorem up_lt {ks : List ByteArray} (h : Up ks) : ∀ (d j i : Nat), (he : j + d + 1 = i) → (hi : i < ks.length) → Op.bytesLess (ks[j]'(by omega)).toList ks[i].toList = true := by
  intro d
  induction d with
  | zero => intro j i e hi; subst e; exact h j hi
  | succ d ih =>
    intro j i e hi
    obtain ⟨i, rfl⟩ : ∃ m, i = m + 1 := ⟨i - 1, by omega⟩
    exact bl_trans _ _ _ (ih j i (by omega) (by omega)) (h i hi)
theorem search_there (ks : List ByteArray) (hu : Up ks) (hn : ks.length ≤ 9000000000000) (i : Nat) (hi : i < ks.length) (k : Nat) (hk : ks.length < k) : slices_BinarySearch_string_string.f k ks ks[i] = some ((i : Int), true) := by
  obtain ⟨f, h1, h2⟩ := search_loop ks ks[i] hn i (by omega) (fun j h hj => up_lt hu (i - j - 1) j i (by omega) hi) (fun j h hj => by
    by_cases e : j = i
    · subst e; exact bl_irrefl _
    · have := up_lt hu (j - i - 1) i j (by omega) h
      cases hq : Op.bytesLess ks[j].toList ks[i].toList with
      | false => rfl
      | true => have := bl_trans _ _ _ this hq; rw [bl_irrefl] at this; cases this) ks.length k 0 ks.length (by omega) hk (by omega) (by omega) (Nat.le_refl _)
  unfold slices_BinarySearch_string_string.f
  rw [show (0 : Int) = ((0 : Nat) : Int) from rfl, h1, h2.2 ⟨hi, rfl⟩]
theorem search_behind (ks : List ByteArray) (hu : Up ks) (hn : ks.length ≤ 9000000000000) (i : Nat) (hi : i < ks.length) (x : ByteArray) (hx : x.toList = ks[i].toList ++ [0]) (k : Nat) (hk : ks.length < k) : ∃ f, slices_BinarySearch_string_string.f k ks x = some (((i + 1 : Nat) : Int), f) ∧ (f = true ↔ ∃ h : i + 1 < ks.length, ks[i + 1].toList = x.toList) := by
  obtain ⟨f, h1, h2⟩ := search_loop ks x hn (i + 1) (by omega) (fun j h hj => by
    rw [hx]
    by_cases e : j = i
    · subst e; exact bl_snoc _ _
    · exact bl_trans _ _ _ (up_lt hu (i - j - 1) j i (by omega) hi) (bl_snoc _ _)) (fun j h hj => by
    rw [hx]
    exact bl_next _ _ (up_lt hu (j - i - 1) i j (by omega) h)) ks.length k 0 ks.length (by omega) hk (by omega) (by omega) (Nat.le_refl _)
  unfold slices_BinarySearch_string_string.f
  rw [show (0 : Int) = ((0 : Nat) : Int) from rfl, h1]
  exact ⟨f, rfl, h2⟩
theorem find_is {leaf : Bool} {ks vs : List ByteArray} {ds : List Int} (h : NodeOk leaf ks vs ds) (hn : ks.length ≤ 8796093022207) (k : Nat) (hk : ks.length < k) (x : ByteArray) (p : Nat) (hp : p ≤ ks.length) (f : Bool) (hs : slices_BinarySearch_string_string.f k ks x = some ((p : Int), f)) :
    node_Find.f k leaf ks vs ds x = some ((if f = true then (if leaf = true then (p : Int) else (p : Int) + 1) else (p : Int)), f, 0) := by
  unfold node_Find.f
  rw [check_ok leaf ks vs ds (by omega) k hk h, Option.bind_some, if_pos rfl, hs, Option.bind_some]
  simp only
  rw [wrap64_id (by omega) (by omega)]
  cases f <;> cases leaf <;> simp
end Go.Proofs.Ytooabchnbmnchaa.Q
