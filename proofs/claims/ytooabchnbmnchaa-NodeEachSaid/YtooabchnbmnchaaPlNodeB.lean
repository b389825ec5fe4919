-- (thinned for this claim by wip/tools/shake.py: what the claim doesn't use is left out)
import Derived.Test.YtooabchnbmnchaaQ17
import Derived.Test.YtooabchnbmnchaaQ10
import Derived.Test.YtooabchnbmnchaaQ7
import Derived.Test.YtooabchnbmnchaaQ13
import Derived.Test.YtooabchnbmnchaaQ20
import Derived.Test.YtooabchnbmnchaaQ11
import Derived.Test.YtooabchnbmnchaaQ12
import Derived.Test.YtooabchnbmnchaaQ1
import Derived.Test.YtooabchnbmnchaaQ22
import Derived.Test.YtooabchnbmnchaaQ21
import Derived.Test.YtooabchnbmnchaaKit
import Derived.Test.YtooabchnbmnchaaPlNode
import Derived.Test.YtooabchnbmnchaaPlSame
import Derived.Lib.SlicesS
namespace Go.Proofs.Ytooabchnbmnchaa.Q
open Go.RowKit Go.Proofs.YtooabchnbmnchaaW.PrintWords Go.Proofs.YtooabchnbmnchaaW.PrintLast Go.Proofs.YtooabchnbmnchaaW.PrintMore
set_option linter.unusedVariables false
set_option linter.unusedSimpArgs false
theorem u64_id (n : Int) (h0 : 0 ≤ n) (h1 : n < 18446744073709551616) : IntKind.u64.wrap n = n := by
  simp only [IntKind.wrap, IntKind.bits, IntKind.signed]
  simp
  omega
def bv (l : List Int) : Int := l.foldl (fun n x => n * 256 + x) 0
theorem bv_snoc (l : List Int) (x : Int) : bv (l ++ [x]) = bv l * 256 + x := by simp [bv, List.foldl_append]
theorem bv_bound (l : List Int) (h : Octs l) : 0 ≤ bv l ∧ bv l < 256 ^ l.length := by
  obtain ⟨r, rfl⟩ : ∃ r, l = r.reverse := ⟨l.reverse, by simp⟩
  induction r with
  | nil => simp [bv]
  | cons x r ih =>
    have h1 := ih (fun y hy => h y (by simp at hy ⊢; exact .inl hy))
    have hx := h x (by simp)
    rw [List.reverse_cons, bv_snoc]
    simp only [List.length_append, List.length_reverse, List.length_cons, List.length_nil, Nat.zero_add] at h1 ⊢
    rw [Int.pow_succ]
    omega
theorem or_byte (a b : Int) (ha0 : 0 ≤ a) (ha : a * 256 < 18446744073709551616) (hb0 : 0 ≤ b) (hb : b < 256) : Go.bits .or .u64 (IntKind.u64.wrap (a * 256)) (IntKind.u64.wrap b) = a * 256 + b := by
  rw [u64_id _ (by omega) ha, u64_id _ hb0 (by omega)]
  exact bits_join .u64 64 (by decide) (fun n h0 h1 => u64_id n h0 (by simpa using h1)) 8 (a * 256) b (by omega) (by simp) (by simpa using ha) hb0 (by simpa using hb) (by simp; omega)
theorem pow256_le {i : Nat} (h : i ≤ 7) : (256 : Int) ^ i * 256 ≤ 18446744073709551616 := by
  have : i = 0 ∨ i = 1 ∨ i = 2 ∨ i = 3 ∨ i = 4 ∨ i = 5 ∨ i = 6 ∨ i = 7 := by omega
  rcases this with h | h | h | h | h | h | h | h <;> subst h <;> decide
theorem get_loop (l : List Int) (hl : Octs l) (hn : l.length ≤ 8) : ∀ (d k i : Nat), i + d = l.length → d < k →
    octets_Get.l0 k (bv (l.take i)) l (l.length : Int) (i : Int) = some (bv l, 0) := by
  intro d
  induction d with
  | zero =>
    intro k i hi hk
    obtain ⟨k, rfl⟩ : ∃ m, k = m + 1 := ⟨k - 1, by omega⟩
    simp only [octets_Get.l0]
    rw [if_neg (by omega), List.take_of_length_le (by omega)]
  | succ d ih =>
    intro k i hi hk
    obtain ⟨k, rfl⟩ : ∃ m, k = m + 1 := ⟨k - 1, by omega⟩
    have h1 : i < l.length := by omega
    have hx := hl l[i] (List.getElem_mem h1)
    have hb := bv_bound (l.take i) (hl.take i)
    have hlen : (l.take i).length = i := by simp; omega
    rw [hlen] at hb
    have hp := pow256_le (i := i) (by omega)
    simp only [octets_Get.l0]
    rw [if_pos (by omega), if_pos (by omega), if_pos (by omega), rd_nat l i h1, or_byte _ _ hb.1 (by omega) hx.1 hx.2]
    rw [wrap64_id (by omega) (by omega)]
    have := ih k (i + 1) (by omega) (by omega)
    rw [List.take_succ_eq_append_getElem h1, bv_snoc] at this
    exact this
theorem get_is (l : List Int) (hl : Octs l) (h1 : 1 ≤ l.length) (h8 : l.length ≤ 8) (k : Nat) (hk : l.length + 1 < k) : octets_Get.f k l = some (bv l, 0) := by
  unfold octets_Get.f
  rw [if_neg (by omega)]
  obtain ⟨k, rfl⟩ : ∃ m, k = m + 1 := ⟨k - 1, by omega⟩
  simp only [octets_Get.j0]
  rw [if_neg (by simp; omega)]
  exact get_loop l hl h8 l.length k 0 (by omega) (by omega)
theorem shift_val (size k : Nat) (hs : size ≤ 8) (hk : k < size) : (shOf (8 * ((size : Int) - 1 - k))).1.toNat = 8 * (size - 1 - k) := by
  rw [shOf_val _ (by omega)]
  omega
theorem be_octs (n : Int) (l : List Sh) : Octs (beOf n l) := by
  intro x hx
  obtain ⟨s, _, rfl⟩ := List.mem_map.mp hx
  omega
theorem bv_be (n : Int) (h0 : 0 ≤ n) (size : Nat) (hs : size ≤ 8) (hn : n < 2 ^ (8 * size)) : ∀ k, k ≤ size → bv (beOf n (shiftsUp size k)) = n / 2 ^ (8 * (size - k)) := by
  intro k
  induction k with
  | zero =>
    intro _
    have : n / 2 ^ (8 * (size - 0)) = 0 := Int.ediv_eq_zero_of_lt h0 (by simpa using hn)
    rw [this]; rfl
  | succ k ih =>
    intro hk
    rw [shiftsUp_succ, beOf_snoc, bv_snoc, ih (by omega), shift_val size k hs (by omega)]
    have e : 8 * (size - k) = 8 * (size - 1 - k) + 8 := by omega
    have e2 : 8 * (size - (k + 1)) = 8 * (size - 1 - k) := by omega
    rw [e, e2, Int.pow_add, ← Int.ediv_ediv_of_nonneg (Int.le_of_lt (Int.pow_pos (by decide)))]
    have : (2 : Int) ^ 8 = 256 := by decide
    rw [this]
    omega
theorem shiftsOf_length (size : Nat) : (shiftsOf size).length = size := shiftsUp_length size size
theorem put_ok (n : Int) (h0 : 0 ≤ n) (h1 : n < 18446744073709551616) (size : Nat) (hs1 : 1 ≤ size) (hs8 : size ≤ 8) (hn : n < 2 ^ (8 * size)) :
    octets_Put.f n (size : Int) = some (beOf n (shiftsOf size), 0) := by
  unfold octets_Put.f
  rw [if_pos ⟨h0, h1⟩, if_neg (by simp only [Int.toNat_natCast]; omega)]
  simp only [Int.toNat_natCast]
theorem back_put (n : Int) (h0 : 0 ≤ n) (size : Nat) (hs8 : size ≤ 8) (hn : n < 2 ^ (8 * size)) : bv (beOf n (shiftsOf size)) = n := by
  rw [show shiftsOf size = shiftsUp size size from rfl, bv_be n h0 size hs8 hn size (Nat.le_refl _), Nat.sub_self]
  simp
theorem strOf_bytes (s : ByteArray) : strOfNums (bytesOf s) = s := by
  apply ByteArray.ext
  unfold bytesOf strOfNums
  apply Array.ext'
  simp only [List.map_map]
  rw [show ((fun n : Int => UInt8.ofNat n.toNat) ∘ fun b : UInt8 => (b.toNat : Int)) = id from funext fun b => by simp]
  simp
theorem bytes_octs (s : ByteArray) : Octs (bytesOf s) := by
  intro x hx
  unfold bytesOf at hx
  obtain ⟨b, _, rfl⟩ := List.mem_map.1 hx
  have := b.toNat_lt
  omega
def shortB (s : ByteArray) : List Int := (s.size : Int) :: bytesOf s
def kidB (d : Int) : List Int := beOf d (shiftsOf 4)
theorem short_len (s : ByteArray) : (shortB s).length = 1 + s.size := by simp [shortB, bytesOf_length]; omega
theorem kid_len (d : Int) : (kidB d).length = 4 := by rw [kidB, beOf_length, shiftsOf_length]
theorem short_is (l : List Int) (s : ByteArray) (hl : l.length ≤ 1000000) (hs : s.size ≤ 255) : node_short.f l s = some (l ++ shortB s) := by
  unfold node_short.f shortB
  rw [if_pos (by omega), Option.bind_some, if_pos (by simp; omega), show (s.size : Int) % 256 = (s.size : Int) by omega]
  simp
theorem kid_is (l : List Int) (d : Int) (hl : l.length ≤ 1000000) (h0 : 1 ≤ d) (h1 : d ≤ 65536) : node_kid.f l d = some (l ++ kidB d) := by
  unfold node_kid.f kidB
  rw [u64_id d (by omega) (by omega), show octets_Put.f d 4 = some (beOf d (shiftsOf 4), 0) from put_ok d (by omega) (by omega) 4 (by omega) (by omega) (by simp; omega), Option.bind_some]
  rw [if_pos (by simp only [beOf_length, shiftsOf_length]; omega)]
theorem oct_cons (x : Int) (l : List Int) : oct (x :: l) = x := by simp [oct, tkv, rd]
theorem tkr_cons (x : Int) (l : List Int) : tkr (x :: l) 1 = l := by simp [tkr]
theorem tkb_cons (x : Int) (l : List Int) (b : Bool) : tkb (x :: l) b 1 = b := by simp [tkb]
theorem txtS_short (s : ByteArray) (r : List Int) : txtS (shortB s ++ r) = s := by
  unfold txtS shortB
  rw [List.cons_append, tkr_cons, oct_cons]
  unfold tkv
  rw [if_neg (by simp [bytesOf_length]), Int.toNat_natCast, List.take_append_of_le_length (by rw [bytesOf_length]; omega), List.take_of_length_le (by rw [bytesOf_length]; omega), strOf_bytes]
theorem txtR_short (s : ByteArray) (r : List Int) : txtR (shortB s ++ r) = r := by
  unfold txtR shortB
  rw [List.cons_append, tkr_cons, oct_cons]
  unfold tkr
  rw [if_neg (by simp [bytesOf_length]), Int.toNat_natCast, ← bytesOf_length s, List.drop_left']
  rfl
theorem txtB_short (s : ByteArray) (r : List Int) (b : Bool) : txtB (shortB s ++ r) b = b := by
  unfold txtB shortB
  rw [List.cons_append, tkr_cons, oct_cons, tkb_cons]
  unfold tkb
  rw [if_neg (by simp [bytesOf_length])]
theorem tkv_kid (d : Int) (r : List Int) : tkv (kidB d ++ r) 4 = kidB d := by
  unfold tkv
  rw [if_neg (by simp [kid_len]), List.take_append_of_le_length (by rw [kid_len]; omega), List.take_of_length_le (by rw [kid_len]; omega)]
theorem tkr_kid (d : Int) (r : List Int) : tkr (kidB d ++ r) 4 = r := by
  unfold tkr
  rw [if_neg (by simp [kid_len]), show (4 : Nat) = (kidB d).length from (kid_len d).symm, List.drop_left']
  rfl
theorem tkb_kid (d : Int) (r : List Int) (b : Bool) : tkb (kidB d ++ r) b 4 = b := by
  unfold tkb
  rw [if_neg (by simp [kid_len])]
theorem kidV_kid (k : Nat) (hk : 5 < k) (d : Int) (r : List Int) (h0 : 1 ≤ d) (h1 : d ≤ 65536) : kidV k (kidB d ++ r) = some d := by
  unfold kidV
  rw [tkv_kid, get_is (kidB d) (be_octs _ _) (by rw [kid_len]; omega) (by rw [kid_len]; omega) k (by rw [kid_len]; omega), Option.bind_some]
  rw [show bv (kidB d) = d from back_put d (by omega) 4 (by omega) (by simp; omega), wrap64_id (by omega) (by omega)]
def leafB (l : List (ByteArray × ByteArray)) : List Int := l.flatMap fun p => shortB p.1 ++ shortB p.2
def innB (l : List (ByteArray × Int)) : List Int := l.flatMap fun p => shortB p.1 ++ kidB p.2
theorem run_leaf (k : Nat) (r : List Int) : ∀ (l : List (ByteArray × ByteArray)) (ks vs : List ByteArray) (ss : List Int),
    decRun k true l.length (leafB l ++ r) false ks vs ss = some (r, false, ks ++ l.map (·.1), vs ++ l.map (·.2), ss) := by
  intro l
  induction l with
  | nil => intro ks vs ss; simp [decRun, leafB]
  | cons p l ih =>
    intro ks vs ss
    have e : leafB (p :: l) ++ r = shortB p.1 ++ (shortB p.2 ++ (leafB l ++ r)) := by simp [leafB]
    rw [List.length_cons]
    unfold decRun
    rw [if_neg (by simp), if_pos rfl, e, txtS_short, txtR_short, txtB_short, txtS_short, txtR_short, txtB_short, ih]
    simp
theorem run_inn (k : Nat) (hk : 5 < k) (r : List Int) : ∀ (l : List (ByteArray × Int)), (∀ p ∈ l, 1 ≤ p.2 ∧ p.2 ≤ 65536) → ∀ (ks vs : List ByteArray) (ss : List Int),
    decRun k false l.length (innB l ++ r) false ks vs ss = some (r, false, ks ++ l.map (·.1), vs, ss ++ l.map (·.2)) := by
  intro l
  induction l with
  | nil => intro _ ks vs ss; simp [decRun, innB]
  | cons p l ih =>
    intro hp ks vs ss
    have e : innB (p :: l) ++ r = shortB p.1 ++ (kidB p.2 ++ (innB l ++ r)) := by simp [innB]
    have h2 := hp p (by simp)
    rw [List.length_cons]
    unfold decRun
    rw [if_neg (by simp), if_neg (by simp), e, txtS_short, txtR_short, txtB_short, kidV_kid k hk _ _ h2.1 h2.2, Option.bind_some, tkr_kid, tkb_kid, ih (fun q hq => hp q (by simp [hq]))]
    simp
theorem enc_leaf (ks vs : List ByteArray) (ds : List Int) (hk1 : ∀ x ∈ ks, x.size ≤ 32) (hv : ∀ x ∈ vs, x.size ≤ 64) (hlen : vs.length = ks.length) (hn : ks.length ≤ 1000) : ∀ (d k i : Nat) (b : List Int), i + d = ks.length → d < k → b.length + 98 * d ≤ 900000 →
    node_Encode.l0 k b ks (ks.length : Int) (i : Int) true ks vs ds = some (b ++ leafB ((ks.zip vs).drop i), 0) := by
  intro d
  induction d with
  | zero =>
    intro k i b hi hk hb
    obtain ⟨k, rfl⟩ : ∃ m, k = m + 1 := ⟨k - 1, by omega⟩
    simp only [node_Encode.l0]
    rw [if_neg (by omega), List.drop_eq_nil_of_le (by simp; omega)]
    simp [leafB]
  | succ d ih =>
    intro k i b hi hk hb
    obtain ⟨k, rfl⟩ : ∃ m, k = m + 1 := ⟨k - 1, by omega⟩
    have h1 : i < ks.length := by omega
    have h2 : i < vs.length := by omega
    have s1 := hk1 _ (List.getElem_mem h1)
    have s2 := hv _ (List.getElem_mem h2)
    simp only [node_Encode.l0]
    rw [if_pos (by omega), if_pos (by omega), if_pos (by omega), rdOf_nat ks i h1, short_is _ _ (by omega) (by omega), Option.bind_some, if_pos trivial, if_pos (by omega), rdOf_nat vs i h2, short_is _ _ (by simp [short_len]; omega) (by omega), Option.bind_some, wrap64_id (by omega) (by omega)]
    rw [show (i : Int) + 1 = ((i + 1 : Nat) : Int) by omega, ih k (i + 1) _ (by omega) (by omega) (by simp [short_len]; omega)]
    have hz : i < (ks.zip vs).length := by simp; omega
    rw [List.drop_eq_getElem_cons hz]
    simp [leafB]
theorem enc_inn (ks vs : List ByteArray) (ds : List Int) (hk1 : ∀ x ∈ ks, x.size ≤ 32) (hd : ∀ x ∈ ds, 1 ≤ x ∧ x ≤ 65536) (hlen : ds.length = ks.length + 1) (hn : ks.length ≤ 1000) : ∀ (d k i : Nat) (b : List Int), i + d = ks.length → d < k → b.length + 98 * d ≤ 900000 →
    node_Encode.l0 k b ks (ks.length : Int) (i : Int) false ks vs ds = some (b ++ innB ((ks.zip ds.tail).drop i), 0) := by
  intro d
  induction d with
  | zero =>
    intro k i b hi hk hb
    obtain ⟨k, rfl⟩ : ∃ m, k = m + 1 := ⟨k - 1, by omega⟩
    simp only [node_Encode.l0]
    rw [if_neg (by omega), List.drop_eq_nil_of_le (by simp; omega)]
    simp [innB]
  | succ d ih =>
    intro k i b hi hk hb
    obtain ⟨k, rfl⟩ : ∃ m, k = m + 1 := ⟨k - 1, by omega⟩
    have h1 : i < ks.length := by omega
    have h2 : i + 1 < ds.length := by omega
    have s1 := hk1 _ (List.getElem_mem h1)
    have s2 := hd _ (List.getElem_mem h2)
    simp only [node_Encode.l0]
    rw [if_pos (by omega), if_pos (by omega), if_pos (by omega), rdOf_nat ks i h1, short_is _ _ (by omega) (by omega), Option.bind_some, if_neg (by simp), wrap64_id (by omega) (by omega), if_pos (by omega), if_pos (by omega)]
    rw [show (i : Int) + 1 = ((i + 1 : Nat) : Int) by omega, rd_nat ds (i + 1) h2, kid_is _ _ (by simp [short_len]; omega) s2.1 s2.2, Option.bind_some, ih k (i + 1) _ (by omega) (by omega) (by simp [short_len, kid_len]; omega)]
    have hz : i < (ks.zip ds.tail).length := by simp; omega
    rw [List.drop_eq_getElem_cons hz]
    simp [innB]
def sumK (l : List ByteArray) : Nat := (l.map fun k => 1 + k.size).sum
def sumV (l : List ByteArray) : Nat := (l.map fun k => k.size).sum
theorem sumK_le (l : List ByteArray) (h : ∀ x ∈ l, x.size ≤ 32) : sumK l ≤ 33 * l.length := by
  induction l with
  | nil => simp [sumK]
  | cons x l ih =>
    have := ih (fun y hy => h y (by simp [hy]))
    have := h x (by simp)
    simp only [sumK, List.map_cons, List.sum_cons, List.length_cons] at *
    omega
theorem szk_cons (x : ByteArray) (l : List ByteArray) (a : Int) : szk (x :: l) a = szk l (wrap64 (a + wrap64 (1 + (x.size : Int)))) := rfl
theorem szv_cons (x : ByteArray) (l : List ByteArray) (a : Int) : szv (x :: l) a = szv l (wrap64 (a + (x.size : Int))) := rfl
theorem szk_is : ∀ (l : List ByteArray) (a : Nat), (∀ x ∈ l, x.size ≤ 32) → a + 33 * l.length ≤ 1000000000000000 → szk l (a : Int) = ((a + sumK l : Nat) : Int) := by
  intro l
  induction l with
  | nil => intro a _ _; simp [szk, sumK]
  | cons x l ih =>
    intro a h hb
    have hx := h x (by simp)
    rw [List.length_cons] at hb
    rw [szk_cons, wrap64_id (x := 1 + (x.size : Int)) (by omega) (by omega), wrap64_id (by omega) (by omega), show (a : Int) + (1 + (x.size : Int)) = ((a + (1 + x.size) : Nat) : Int) by omega, ih _ (fun y hy => h y (by simp [hy])) (by omega)]
    simp only [sumK, List.map_cons, List.sum_cons]
    omega
theorem szv_is : ∀ (l : List ByteArray) (a : Nat), (∀ x ∈ l, x.size ≤ 64) → a + 64 * l.length ≤ 1000000000000000 → szv l (a : Int) = ((a + sumV l : Nat) : Int) := by
  intro l
  induction l with
  | nil => intro a _ _; simp [szv, sumV]
  | cons x l ih =>
    intro a h hb
    have hx := h x (by simp)
    rw [List.length_cons] at hb
    rw [szv_cons, wrap64_id (by omega) (by omega), show (a : Int) + (x.size : Int) = ((a + x.size : Nat) : Int) by omega, ih _ (fun y hy => h y (by simp [hy])) (by omega)]
    simp only [sumV, List.map_cons, List.sum_cons]
    omega
theorem size_leaf (ks vs : List ByteArray) (ds : List Int) (hk : ∀ x ∈ ks, x.size ≤ 32) (hv : ∀ x ∈ vs, x.size ≤ 64) (hl : vs.length = ks.length) (hn : ks.length ≤ 9000000000000) : node_Size.v true ks vs ds = ((2 + sumK ks + ks.length + sumV vs : Nat) : Int) := by
  unfold node_Size.v
  have h1 := sumK_le ks hk
  have := szk_is ks 2 hk (by omega)
  rw [show ((2 : Nat) : Int) = 2 from rfl] at this
  rw [if_pos rfl, this, wrap64_id (by omega) (by omega), show ((2 + sumK ks : Nat) : Int) + (ks.length : Int) = ((2 + sumK ks + ks.length : Nat) : Int) by omega, List.take_of_length_le (by omega), szv_is vs _ hv (by omega)]
theorem size_inner (ks vs : List ByteArray) (ds : List Int) (hk : ∀ x ∈ ks, x.size ≤ 32) (hn : ks.length ≤ 9000000000000) (hd : ds.length ≤ 18000000000000) : node_Size.v false ks vs ds = ((2 + sumK ks + 4 * ds.length : Nat) : Int) := by
  unfold node_Size.v
  have h1 := sumK_le ks hk
  have := szk_is ks 2 hk (by omega)
  rw [show ((2 : Nat) : Int) = 2 from rfl] at this
  rw [if_neg (by decide), this, wrap64_id (x := 4 * (ds.length : Int)) (by omega) (by omega), wrap64_id (by omega) (by omega)]
  omega
theorem sumK_ge (l : List ByteArray) : l.length ≤ sumK l := by
  induction l with
  | nil => simp
  | cons x l ih => simp only [sumK, List.map_cons, List.sum_cons, List.length_cons] at *; omega
theorem few {leaf : Bool} {ks vs : List ByteArray} {ds : List Int} (h : NodeOk leaf ks vs ds) (hn : ks.length ≤ 8796093022207) : ks.length ≤ 242 := by
  have hk : ∀ x ∈ ks, x.size ≤ 32 := fun x hx => (h.keys x hx).2
  have hr := h.room
  have hsh := h.shape
  have hg := sumK_ge ks
  unfold ShapeOk at hsh
  cases leaf with
  | true =>
    rw [if_pos rfl] at hsh
    rw [size_leaf ks vs ds hk h.vals hsh.1 (by omega)] at hr
    omega
  | false =>
    rw [if_neg (by decide)] at hsh
    rw [size_inner ks vs ds hk (by omega) (by omega)] at hr
    omega
def encB (leaf : Bool) (ks vs : List ByteArray) (ds : List Int) : List Int :=
  if leaf = true then 1 :: (ks.length : Int) :: leafB (ks.zip vs) else 0 :: (ks.length : Int) :: (kidB (rd ds 0) ++ innB (ks.zip ds.tail))
theorem encode_is {leaf : Bool} {ks vs : List ByteArray} {ds : List Int} (h : NodeOk leaf ks vs ds) (hn : ks.length ≤ 8796093022207) (k : Nat) (hk : 300 < k) : node_Encode.f k leaf ks vs ds = some (encB leaf ks vs ds, 0) := by
  have hf := few h hn
  have hks : ∀ x ∈ ks, x.size ≤ 32 := fun x hx => (h.keys x hx).2
  have hsh := h.shape
  unfold ShapeOk at hsh
  unfold node_Encode.f encB
  rw [check_ok leaf ks vs ds (by omega) k (by omega) h, Option.bind_some, if_pos rfl, Option.bind_some]
  obtain ⟨k, rfl⟩ : ∃ m, k = m + 1 := ⟨k - 1, by omega⟩
  rw [show (ks.length : Int) % 256 = (ks.length : Int) by omega]
  cases leaf with
  | true =>
    rw [if_pos rfl] at hsh
    rw [if_pos rfl, if_pos rfl]
    simp only [node_Encode.j0]
    have := enc_leaf ks vs ds hks h.vals hsh.1 (by omega) ks.length k 0 [1, (ks.length : Int)] (by omega) (by omega) (by simp; omega)
    rw [show ((0 : Nat) : Int) = 0 from rfl] at this
    rw [this]
    simp
  | false =>
    rw [if_neg (by decide)] at hsh
    have hd0 := h.kids _ (List.getElem_mem (show 0 < ds.length by omega))
    simp only [Bool.false_eq_true, if_false]
    rw [if_pos (by simp), if_pos (by omega), show ([1, (ks.length : Int)].set (0 : Int).toNat 0) = [0, (ks.length : Int)] from rfl]
    have hr : rd ds 0 = ds[0]'(by omega) := rd_nat ds 0 (by omega)
    rw [hr, kid_is _ _ (by simp) hd0.1 hd0.2, Option.bind_some]
    simp only [node_Encode.j0]
    have := enc_inn ks vs ds hks h.kids hsh.2.2 (by omega) ks.length k 0 ([0, (ks.length : Int)] ++ kidB (ds[0]'(by omega))) (by omega) (by omega) (by simp [kid_len]; omega)
    rw [show ((0 : Nat) : Int) = 0 from rfl] at this
    rw [this]
    simp
theorem short_octs (s : ByteArray) (h : s.size ≤ 255) : Octs (shortB s) := by
  intro x hx
  rcases List.mem_cons.1 hx with rfl | hx
  · omega
  · exact bytes_octs s x hx
theorem leafB_octs (l : List (ByteArray × ByteArray)) (h : ∀ p ∈ l, p.1.size ≤ 255 ∧ p.2.size ≤ 255) : Octs (leafB l) := by
  intro x hx
  obtain ⟨p, hp, hx⟩ := List.mem_flatMap.1 hx
  rcases List.mem_append.1 hx with hx | hx
  · exact short_octs _ (h p hp).1 x hx
  · exact short_octs _ (h p hp).2 x hx
theorem innB_octs (l : List (ByteArray × Int)) (h : ∀ p ∈ l, p.1.size ≤ 255) : Octs (innB l) := by
  intro x hx
  obtain ⟨p, hp, hx⟩ := List.mem_flatMap.1 hx
  rcases List.mem_append.1 hx with hx | hx
  · exact short_octs _ (h p hp) x hx
  · exact be_octs _ _ x hx
theorem map_fst_zip {α β : Type} : ∀ (a : List α) (b : List β), a.length = b.length → (a.zip b).map (·.1) = a ∧ (a.zip b).map (·.2) = b := by
  intro a
  induction a with
  | nil => intro b h; cases b with
    | nil => exact ⟨rfl, rfl⟩
    | cons y b => simp at h
  | cons x a ih => intro b h; cases b with
    | nil => simp at h
    | cons y b =>
      have := ih b (by simpa using h)
      simp [this.1, this.2]
theorem decode_enc {leaf : Bool} {ks vs : List ByteArray} {ds : List Int} (h : NodeOk leaf ks vs ds) (hn : ks.length ≤ 8796093022207) (k : Nat) (hk : 300 < k) : node_Decode.f k (encB leaf ks vs ds) = some (leaf, ks, vs, ds, 0) := by
  have hf := few h hn
  have hks : ∀ x ∈ ks, x.size ≤ 32 := fun x hx => (h.keys x hx).2
  have hsh := h.shape
  unfold ShapeOk at hsh
  have hck := check_ok leaf ks vs ds (by omega) k (by omega) h
  unfold encB
  cases leaf with
  | true =>
    rw [if_pos rfl] at hsh
    rw [if_pos rfl]
    have hz := map_fst_zip ks vs hsh.1.symm
    have hzl : (ks.zip vs).length = ks.length := by simp; omega
    have ho : Octs (1 :: (ks.length : Int) :: leafB (ks.zip vs)) := by
      intro x hx
      rcases List.mem_cons.1 hx with rfl | hx
      · omega
      rcases List.mem_cons.1 hx with rfl | hx
      · omega
      refine leafB_octs _ (fun p hp => ?_) x hx
      obtain ⟨h1, h2⟩ := List.of_mem_zip hp
      have := hks _ h1
      have := h.vals _ h2
      omega
    have hd0 : ds = [] := List.length_eq_zero_iff.1 hsh.2
    unfold node_Decode.f decHead
    unfold Octs at ho
    rw [if_pos ho, oct_cons, if_neg (by decide), if_pos rfl, tkr_cons, tkr_cons, tkb_cons, tkb_cons, oct_cons, Option.bind_some, Int.toNat_natCast]
    have hr := run_leaf k [] (ks.zip vs) [] [] []
    rw [hzl, List.append_nil, hz.1, hz.2] at hr
    simp only [decide_true]
    rw [hr, Option.bind_some]
    unfold decEnd
    simp only [List.nil_append]
    rw [if_neg (by simp), if_neg (by simp), ← hd0, hck, Option.bind_some, if_pos rfl]
  | false =>
    rw [if_neg (by decide)] at hsh
    rw [if_neg (by decide)]
    obtain ⟨d, ds', rfl⟩ : ∃ d ds', ds = d :: ds' := by
      cases ds with
      | nil => simp at hsh
      | cons d ds' => exact ⟨d, ds', rfl⟩
    have hv0 : vs = [] := List.length_eq_zero_iff.1 hsh.1
    have hl2 : ks.length = ds'.length := by have := hsh.2.2; simp at this; omega
    have hz := map_fst_zip ks ds' hl2
    have hzl : (ks.zip ds').length = ks.length := by simp; omega
    have hd := h.kids d (by simp)
    have hrd : rd (d :: ds') 0 = d := rfl
    rw [hrd, List.tail_cons]
    have ho : Octs (0 :: (ks.length : Int) :: (kidB d ++ innB (ks.zip ds'))) := by
      intro x hx
      rcases List.mem_cons.1 hx with rfl | hx
      · omega
      rcases List.mem_cons.1 hx with rfl | hx
      · omega
      rcases List.mem_append.1 hx with hx | hx
      · exact be_octs _ _ x hx
      refine innB_octs _ (fun p hp => ?_) x hx
      have := hks _ (List.of_mem_zip hp).1
      omega
    unfold node_Decode.f decHead
    unfold Octs at ho
    rw [if_pos ho, oct_cons, if_neg (by decide), if_neg (by decide), tkr_cons, tkr_cons, tkb_cons, tkb_cons, oct_cons, kidV_kid k (by omega) d _ hd.1 hd.2, Option.bind_some, tkr_kid, tkb_kid, Option.bind_some, Int.toNat_natCast]
    have hr := run_inn k (by omega) [] (ks.zip ds') (fun p hp => h.kids _ (by simp [(List.of_mem_zip hp).2])) [] [] [d]
    rw [hzl, List.append_nil, hz.1, hz.2] at hr
    rw [show decide ((0 : Int) = 1) = false from by decide]
    simp only
    rw [hr, Option.bind_some]
    unfold decEnd
    simp only [List.nil_append]
    rw [if_neg (by simp), if_neg (by simp), ← hv0, show [d] ++ ds' = d :: ds' from rfl, hck, Option.bind_some, if_pos rfl]
theorem empty_beq (s : ByteArray) : (s.toList == ([] : List UInt8)) = decide (s.size = 0) := by
  have he : ([] : List UInt8) = (⟨#[]⟩ : ByteArray).toList := ByteArray.toList_empty.symm
  rw [he]
  by_cases h : s.size = 0
  · have hs : s = ⟨#[]⟩ := by
      apply ByteArray.ext
      exact Array.eq_empty_of_size_eq_zero h
    rw [hs]
    simp
    rfl
  · have := (Go.Lib.bytes_beq_false_iff s ⟨#[]⟩).mpr (fun e => h (by rw [e]; rfl))
    rw [this]
    simp [h]
theorem toList_ne (s : ByteArray) (h : s.size ≠ 0) : s.toList ≠ [] := by
  intro e
  have := empty_beq s
  rw [e] at this
  simp [h] at this
def kA : ByteArray := ⟨#[97]⟩
def vX : ByteArray := ⟨#[120]⟩
theorem node_ax : NodeOk true [kA] [vX] [] := by
  refine ⟨fun x hx => ?_, fun i hi => by simp at hi, by unfold ShapeOk; simp, fun v hv => ?_, fun d hd => (by cases hd), by decide +kernel⟩
  · obtain rfl : x = kA := by simpa using hx
    exact ⟨toList_ne _ (by decide), by decide⟩
  · obtain rfl : v = vX := by simpa using hv
    decide
theorem encB_ax : encB true [kA] [vX] [] = [1, 1, 1, 97, 1, 120] := by decide +kernel
theorem encode_ax (k : Nat) (hk : 300 < k) : node_Encode.f k true [kA] [vX] [] = some ([1, 1, 1, 97, 1, 120], 0) := by
  rw [encode_is node_ax (by simp) k hk, encB_ax]
theorem decode_ax (k : Nat) (hk : 300 < k) : node_Decode.f k [1, 1, 1, 97, 1, 120] = some (true, [kA], [vX], [], 0) := by
  rw [← encB_ax]; exact decode_enc node_ax (by simp) k hk
theorem alive09 (k : Nat) (hk : 300 < k) : transeptlaw09_alive.f k = some true := by
  unfold transeptlaw09_alive.f
  rw [show (⟨#[97]⟩ : ByteArray) = kA from rfl, show (⟨#[120]⟩ : ByteArray) = vX from rfl, encode_ax k (by omega), Option.bind_some]
  simp only
  rw [decode_ax k (by omega), Option.bind_some]
  unfold transeptlaw09_num.f
  rw [Option.bind_some, Option.bind_some, if_pos (by decide +kernel), same_is _ _ (by decide) k (by simp; omega), Option.bind_some]
  simp
end Go.Proofs.Ytooabchnbmnchaa.Q
