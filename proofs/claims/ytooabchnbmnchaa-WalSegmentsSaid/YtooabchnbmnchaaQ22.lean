-- Laid by this session's own program (wip/tools) out of the translation; Lean checks it. Thinned, shortened and merged for this claim.
import Derived.Test.YtooabchnbmnchaaQ0
import Derived.Test.YtooabchnbmnchaaSq
import Derived.Test.YtooabchnbmnchaaQ17
import Derived.Test.YtooabchnbmnchaaQ1
namespace Go.Proofs.Ytooabchnbmnchaa.Q
open Go.RowKit Go.Proofs.YtooabchnbmnchaaW.PrintWords Go.Proofs.YtooabchnbmnchaaW.PrintLast Go.Proofs.YtooabchnbmnchaaW.PrintMore
attribute [local go_sem] max2_int min2_int max_two min_two max_three min_three max_four min_four binOp_string_leq binOp_string_geq binOp_string_gtr   -- for this text's walks alone
set_option linter.unusedVariables false
set_option linter.unusedSimpArgs false
def BitLen (n L : Int) : Prop := 0 ≤ L ∧ ∀ m : Nat, (L > (m : Int) ↔ n ≥ 2 ^ m)
theorem BitLen.shift {n L : Int} (s : Nat) (hn : n ≥ 2 ^ s) (h : BitLen (n / 2 ^ s) L) : BitLen n (L + s) := by
 refine ⟨by have := h.1; omega, fun m => ?_⟩
 have hp : (0 : Int) < 2 ^ s := Int.pow_pos (by decide)
 rcases Nat.lt_or_ge m s with hm | hm
 ·have : (2 : Int) ^ m ≤ 2 ^ s := by
   have := Nat.pow_le_pow_right (show 0 < 2 by decide) (Nat.le_of_lt hm)
   exact_mod_cast this
  have := h.1
  constructor <;> intro _ <;> omega
 ·obtain ⟨d, rfl⟩ : ∃ d, m = d + s := ⟨m - s, by omega⟩
  have h2 := h.2 d
  rw [Int.pow_add]
  have hd : (n / 2 ^ s ≥ 2 ^ d) ↔ (n ≥ 2 ^ d * 2 ^ s) := by
   show (2 ^ d ≤ n / 2 ^ s) ↔ _
   exact Int.le_ediv_iff_mul_le hp
  rw [← hd, ← h2]
  push_cast
  omega
theorem pow2_256 (m : Nat) (hm : 8 ≤ m) : (256 : Int) ≤ 2 ^ m := by
 have h1 : (256 : Nat) ≤ 2 ^ m := Nat.le_trans (by decide : 256 ≤ 2 ^ 8) (Nat.pow_le_pow_right (by decide) hm)
 have h2 : ((256 : Nat) : Int) ≤ ((2 ^ m : Nat) : Int) := Int.ofNat_le.mpr h1
 rw [Int.natCast_pow] at h2
 exact h2
set_option maxRecDepth 100000 in
theorem bitLen_byte : ∀ x : Fin 256, ∀ m : Fin 8, ((bits_Len64.f 1 (x.val : Int)).getD 0 > (m.val : Int) ↔ (x.val : Int) ≥ 2 ^ m.val) ∧ 0 ≤ (bits_Len64.f 1 (x.val : Int)).getD 0 ∧ (bits_Len64.f 1 (x.val : Int)).getD 0 ≤ 8 ∧ (bits_Len64.f 1 (x.val : Int)).isSome = true := by decide +kernel
def len8 (x : Int) : Int := (bits_Len64.f 1 x).getD 0
theorem len8_is (x : Int) (h0 : 0 ≤ x) (h1 : x < 256) : bits_Len64.f 1 x = some (len8 x) ∧ BitLen x (len8 x) ∧ len8 x ≤ 8 := by
 obtain ⟨n, rfl⟩ := Int.eq_ofNat_of_zero_le h0
 have hb := bitLen_byte ⟨n, by omega⟩
 simp only at hb
 have h8 := hb 0
 refine ⟨?_, ⟨h8.2.1, fun m => ?_⟩, h8.2.2.1⟩
 ·have := h8.2.2.2
  unfold len8
  cases hq : bits_Len64.f 1 (n : Int) with
  | none => rw [hq] at this; cases this
  | some v => rfl
 ·rcases Nat.lt_or_ge m 8 with hm | hm
  ·exact (hb ⟨m, hm⟩).1
  ·have := pow2_256 m hm
   have := h8.2.2.1
   unfold len8
   constructor <;> intro _ <;> omega
set_option maxRecDepth 100000 in
theorem j0_byte (x c : Int) (h0 : 0 ≤ x) (h1 : x < 256) (hc : 0 ≤ c) (hc1 : c ≤ 64) : bits_Len64.j0 1 x c = some (c + len8 x) := by
 have h := (len8_is x h0 h1).2.1.1
 have h8 := (len8_is x h0 h1).2.2
 unfold len8 bits_Len64.f at h h8 ⊢
 rw [if_neg (by omega)] at h h8 ⊢
 simp only [bits_Len64.j0] at h h8 ⊢
 rw [if_neg (by omega), if_neg (by omega), if_pos (by omega), if_pos (by omega)] at h h8 ⊢
 rw [if_neg (by omega), if_neg (by omega), if_pos (by omega), if_pos (by omega)]
 simp only [Option.getD_some, Option.some.injEq] at h h8 ⊢
 unfold wrap64 at h h8 ⊢
 omega
set_option maxRecDepth 100000 in
theorem j0_two (x c : Int) (h0 : 256 ≤ x) (h1 : x < 65536) (hc : 0 ≤ c) (hc1 : c ≤ 56) : bits_Len64.j0 1 x c = some (c + 8 + len8 (x / 256)) := by
 have h := (len8_is (x / 256) (by omega) (by omega)).2.1.1
 have h8 := (len8_is (x / 256) (by omega) (by omega)).2.2
 have hb := j0_byte (x / 256) (c + 8) (by omega) (by omega) (by omega) (by omega)
 rw [← hb]
 simp only [bits_Len64.j0]
 rw [if_neg (by omega), if_pos (by omega), if_pos (by omega), if_pos (by omega), if_neg (by omega), if_neg (by omega), if_pos (by omega), if_pos (by omega)]
 rw [wrap64_id (x := c + 8) (by omega) (by omega)]
set_option maxRecDepth 100000 in
theorem j0_four (x c : Int) (h0 : 65536 ≤ x) (h1 : x < 4294967296) (hc : 0 ≤ c) (hc1 : c ≤ 32) : bits_Len64.j0 1 x c = bits_Len64.j0 1 (x / 65536) (c + 16) := by
 simp only [bits_Len64.j0]
 rw [if_pos (by omega), if_neg (show ¬ x / 65536 ≥ 65536 by omega)]
 rw [wrap64_id (x := c + 16) (by omega) (by omega)]
theorem j0_is (x c : Int) (h0 : 0 ≤ x) (h1 : x < 4294967296) (hc : 0 ≤ c) (hc1 : c ≤ 32) : ∃ L, bits_Len64.j0 1 x c = some (c + L) ∧ BitLen x L ∧ L ≤ 32 := by
 have two : ∀ (x c : Int), 0 ≤ x → x < 65536 → 0 ≤ c → c ≤ 48 → ∃ L, bits_Len64.j0 1 x c = some (c + L) ∧ BitLen x L ∧ L ≤ 16 := by
  intro x c h0 h1 hc hc1
  by_cases h : x < 256
  ·have := len8_is x h0 h
   exact ⟨len8 x, j0_byte x c h0 h hc (by omega), this.2.1, by have := this.2.2; omega⟩
  ·have h2 := len8_is (x / 256) (by omega) (by omega)
   refine ⟨len8 (x / 256) + (8 : Nat), ?_, BitLen.shift 8 (by show (x : Int) ≥ 256; omega) h2.2.1, by have := h2.2.2; omega⟩
   rw [j0_two x c (by omega) (by omega) hc (by omega)]
   congr 1
   omega
 by_cases h : x < 65536
 ·obtain ⟨L, h2, h3, h4⟩ := two x c h0 h hc (by omega)
  exact ⟨L, h2, h3, by omega⟩
 ·obtain ⟨L, h2, h3, h4⟩ := two (x / 65536) (c + 16) (by omega) (by omega) (by omega) (by omega)
  refine ⟨L + (16 : Nat), ?_, BitLen.shift 16 (by show (x : Int) ≥ 65536; omega) h3, by omega⟩
  rw [j0_four x c (by omega) h1 hc hc1, h2]
  congr 1
  omega
theorem len64_is (x : Int) (h0 : 0 ≤ x) (h1 : x < 18446744073709551616) : ∃ L, bits_Len64.f 1 x = some L ∧ BitLen x L ∧ L ≤ 64 := by
 unfold bits_Len64.f
 by_cases h : x < 4294967296
 ·obtain ⟨L, h2, h3, h4⟩ := j0_is x 0 h0 h (by omega) (by omega)
  exact ⟨L, by rw [if_neg (by omega), h2]; congr 1; omega, h3, by omega⟩
 ·obtain ⟨L, h2, h3, h4⟩ := j0_is (x / 4294967296) 32 (by omega) (by omega) (by omega) (by omega)
  refine ⟨L + (32 : Nat), ?_, BitLen.shift 32 (by show (x : Int) ≥ 4294967296; omega) h3, by omega⟩
  rw [if_pos (by omega), h2]
  congr 1
  omega
section
open Go.Shelf
attribute [local go_sem] Oper.semAt_some
def Keep2 (lo b : Nat) (W W' : World) : Prop := Below lo W W' ∧ W'.heap[b]? = W.heap[b]?
theorem Keep2.trans {lo b : Nat} {A B C : World} (h : Keep2 lo b A B) (k : Keep2 lo b B C) : Keep2 lo b A C := ⟨h.1.trans k.1, k.2.trans h.2⟩
theorem Keep2.other {lo b : Nat} {w : World} (hlo : lo ≤ w.heap.size) (hb : b < w.heap.size) (W : World) (l : Nat) (o o' : Obj) (hl : w.heap.size ≤ l) (ho : W.heap[l]? = some o) (hc : o.isCells = false) (hw : o.isWalk = false) : Keep2 lo b W (W.putObj l o') :=
 ⟨belowK_b (w := w) hlo W l o o' hl ho hc hw, World.putObj_heap_other (by omega)⟩
abbrev Sh := { x : Int // 0 ≤ x ∧ x < 64 }
def shOf (x : Int) : Sh := if h : 0 ≤ x ∧ x < 64 then ⟨x, h⟩ else ⟨0, by omega⟩
theorem shOf_val (x : Int) (h : 0 ≤ x ∧ x < 64) : (shOf x).1 = x := by unfold shOf; rw [dif_pos h]
def shiftsUp (size k : Nat) : List Sh := (List.range k).map fun (i : Nat) => shOf (8 * ((size : Int) - 1 - i))
def shiftsOf (size : Nat) : List Sh := shiftsUp size size
theorem shiftsUp_succ (size k : Nat) : shiftsUp size (k + 1) = shiftsUp size k ++ [shOf (8 * ((size : Int) - 1 - k))] := by simp [shiftsUp, List.range_succ]
theorem shiftsUp_length (size k : Nat) : (shiftsUp size k).length = k := by simp [shiftsUp]
set_option maxRecDepth 100000 in
set_option maxHeartbeats 1000000 in
theorem octets_shifts1_in (n : Nat) (hn : 1 ≤ n) (l Bn lo : Nat) (size : Nat) (hs : size ≤ 8) (J Jx : List Sh → World → Prop)
  (hY : ∀ pre x W, J pre W → pre.length < size → YieldAt Fence.wide (n - 1) Try.prog l #[.int .i64 x.1] W fun e W' =>
   (e = .returned (.bool true) ∧ J (pre ++ [x]) W' ∧ Keep2 lo Bn W W') ∨ (e = .returned (.bool false) ∧ Jx (pre ++ [x]) W'))
  (W : World) (hBn : W.cell? ⟨Bn, 0, none⟩ = some (.int .i64 (size : Int))) (h0 : J [] W) :
  CallsIn Fence.wide n Try.prog 101 #[.func (.yield l) #[] #[], .pointer (some ⟨Bn, 0, none⟩)] W fun e W' => (∃ v, e = .returned v) ∧
   ((∃ ys, ys = shiftsOf size ∧ J ys W') ∨ (∃ pre, True ∧ Jx pre W')) := by
 refine callsIn_of_wp Try.func101 rfl trivial ?_ rfl
 simp only [Try.ntmps101, List.size_toArray, List.length_cons, List.length_nil, Nat.reduceAdd, Nat.reduceSub, Array.replicate_succ, Array.replicate_zero, List.push_toArray, List.append_toArray, List.nil_append, List.cons_append]
 gi_wp2
 gi_loopw [5] (fun i wr => ∃ k : Nat, k ≤ size ∧ i = .int .i64 (k : Int) ∧ J (shiftsUp size k) wr ∧ Keep2 lo Bn W wr) (fun i _ => size - (intOf i).toNat)
 case atStart => exact ⟨0, Nat.zero_le _, rfl, h0, Below.refl _ _, rfl⟩
 case round =>
  obtain ⟨k, hk, rfl, hJs, hnx⟩ := hrel
  have hcx : wr.cell? ⟨Bn, 0, none⟩ = some (.int .i64 (size : Int)) := (World.cell?_of_block (a := ⟨Bn, 0, none⟩) hnx.2).trans hBn
  have HNX := Aside0.mk hnx
  clear hnx
  by_cases hlt : k < size
  ·obtain ⟨fn, tmps, assign, body, hy, hR⟩ := hY _ (shOf (8 * ((size : Int) - 1 - k))) wr hJs (by rw [shiftsUp_length]; exact hlt)
   rw [shOf_val _ (by omega)] at hy
   gi_wp2
   refine hR.mono ?_
   rintro e W3 (⟨rfl, hJ3, hk3⟩ | ⟨rfl, hJx3⟩)
   ·have HK3 := Aside0.mk hk3
    clear hk3
    gi_wp2
    go_roundw
    case rel => exact ⟨k + 1, by omega, by push_cast; rfl, by rw [shiftsUp_succ]; exact hJ3, HNX.out.trans HK3.out⟩
    case measure => simp [intOf]; omega
   ·gi_wp2
    refine bodyPost_ret (results_none rfl _ _ _) rfl ?_
    exact ⟨⟨_, rfl⟩, .inr ⟨_, trivial, hJx3⟩⟩
  ·obtain rfl : k = size := by omega
   gi_wp2
   go_end0
   exact ⟨⟨_, rfl⟩, .inl ⟨_, rfl, hJs⟩⟩
set_option maxHeartbeats 1000000 in
theorem octets_shifts_in (n : Nat) (size : Int) (w : World) :
  CallsIn Fence.wide n Try.prog 95 #[.int .i64 size] w fun e w' => e = .returned (.func (.func 101) #[] #[.pointer (some ⟨w.heap.size, 0, none⟩)]) ∧ w' = w.alloc (.cells #[.int .i64 size] 3) := by
 refine callsIn_of_wp Try.func95 rfl trivial ?_ rfl
 simp only [Try.ntmps95, List.size_toArray, List.length_cons, List.length_nil, Nat.reduceAdd, Nat.reduceSub, Array.replicate_succ, Array.replicate_zero, List.push_toArray, List.append_toArray, List.nil_append, List.cons_append]
 gi_wp2
 go_ret
 exact ⟨rfl, rfl⟩
def beOf (n : Int) (l : List Sh) : List Int := l.map fun s => (n / 2 ^ s.1.toNat) % 256
theorem beOf_snoc (n : Int) (l : List Sh) (s : Sh) : beOf n (l ++ [s]) = beOf n l ++ [(n / 2 ^ s.1.toNat) % 256] := by simp [beOf]
theorem beOf_length (n : Int) (l : List Sh) : (beOf n l).length = l.length := by simp [beOf]
def octets_Put.f (a0 a1 : Int) : Option (List Int × Int) :=
 if 0 ≤ a0 ∧ a0 < 18446744073709551616 then (if a1 < 1 ∨ a1 > 8 ∨ a0 ≥ 2 ^ (8 * a1.toNat) then some ([], 4) else some (beOf a0 (shiftsOf a1.toNat), 0)) else none
theorem put_close {a0 : Int} {size : Nat} {w W w1 : World} {B : Nat} {pre : List Sh} {x : Sh} {v v' : Value} {tmp : Obj} (hn0 : Boxed W w.heap.size 119 (.int .u64 a0)) (hs0 : Boxed W (w.heap.size + 1 + 1) 3 (.int .i64 (size : Int))) (hB : Below w.heap.size w W)
  (hrow : W.ownsRow (w.heap.size + 3) 5 1 v pre.length (nums .u8 (beOf a0 pre)))
  (HF : Boxed (w1.setCell ⟨w.heap.size + 1, 0, none⟩ v') (w.heap.size + 1) 26 v' ∧ (w1.setCell ⟨w.heap.size + 1, 0, none⟩ v').ownsRow (w.heap.size + 3) 5 1 v' (pre.length + 1) (nums .u8 (beOf a0 pre) ++ [.int .u8 (IntKind.u8.wrap (a0 / 2 ^ x.1.toNat))]) ∧ KeepsOthers W (w1.setCell ⟨w.heap.size + 1, 0, none⟩ v') ∧ Below w.heap.size W (w1.setCell ⟨w.heap.size + 1, 0, none⟩ v') ∧ (W.alloc tmp).grownBy w1 v.ownBlock) :
  KeepsFrom B W (w1.setCell ⟨w.heap.size + 1, 0, none⟩ v') ∧ Keep2 w.heap.size (w.heap.size + 1 + 1) W (w1.setCell ⟨w.heap.size + 1, 0, none⟩ v') ∧
   ((∃ v, Boxed (w1.setCell ⟨w.heap.size + 1, 0, none⟩ v') (w.heap.size + 1) 26 v ∧ (w1.setCell ⟨w.heap.size + 1, 0, none⟩ v').ownsRow (w.heap.size + 3) 5 1 v (pre ++ [x]).length (nums .u8 (beOf a0 (pre ++ [x]))) ∧ True) ∧ Boxed (w1.setCell ⟨w.heap.size + 1, 0, none⟩ v') w.heap.size 119 (.int .u64 a0) ∧ Boxed (w1.setCell ⟨w.heap.size + 1, 0, none⟩ v') (w.heap.size + 1 + 1) 3 (.int .i64 (size : Int)) ∧ Below w.heap.size w (w1.setCell ⟨w.heap.size + 1, 0, none⟩ v')) := by
 obtain ⟨hv2, hr3, hk2, hb2, hgrow⟩ := HF
 have hN := ((hn0.alloc tmp).kept hgrow (hn0.not_row (by decide) hrow)).kept (grownBy_setCell' w1 (w.heap.size + 1) v') (by simp)
 have hS := ((hs0.alloc tmp).kept hgrow (hs0.not_row (by decide) hrow)).kept (grownBy_setCell' w1 (w.heap.size + 1) v') (by simp)
 have hwr : IntKind.u8.wrap (a0 / 2 ^ x.1.toNat) = (a0 / 2 ^ x.1.toNat) % 256 := by simp [IntKind.wrap, IntKind.bits, IntKind.signed]
 refine ⟨hk2.from _, ⟨hb2, (show _ = _ from hS).trans (show _ = _ from hs0).symm⟩, ⟨v', hv2, ?_, trivial⟩, hN, hS, hB.trans hb2⟩
 rw [beOf_snoc, nums_append, List.length_append, List.length_singleton]
 rw [hwr] at hr3
 exact hr3
set_option maxRecDepth 100000 in
set_option maxHeartbeats 4000000 in
theorem octets_Put.calls (a0 a1 : Int) (r1 : List Int) (r2 : Int) (w : World) (h : octets_Put.f a0 a1 = some (r1, r2)) : Calls Try.prog 81 #[.int .u64 a0, .int .i64 a1] w fun e w' => ∃ v0_ : Value, e = .returned (.tuple #[v0_, .int .i64 r2]) ∧ Kd.R (Kd.int .u8) 5 w' w.heap.size (fun _ => True) v0_ r1 ∧ Below w.heap.size w w' := by
 unfold octets_Put.f at h
 by_cases hn : 0 ≤ a0 ∧ a0 < 18446744073709551616
 case neg => rw [if_neg hn] at h; cases h
 rw [if_pos hn] at h
 obtain ⟨L, hL1, hL2, hL3⟩ := len64_is a0 hn.1 hn.2
 have HL1 := Aside0.mk hL1
 clear hL1
 by_cases hbad : a1 < 1 ∨ a1 > 8 ∨ a0 ≥ 2 ^ (8 * a1.toNat)
 ·rw [if_pos hbad] at h
  cases h
  by_cases h1 : a1 < 1
  ·clear hbad
   go_enter Try.func81, Try.ntmps81
   go_wp2
   go_ret2
   exact ⟨_, rfl, Kd.R_nil _ _ _ _ _, below_alloc (Below.refl _ _) _⟩
  ·by_cases h8 : a1 > 8
   ·clear hbad
    go_enter Try.func81, Try.ntmps81
    go_wp2
    go_ret2
    exact ⟨_, rfl, Kd.R_nil _ _ _ _ _, below_alloc (Below.refl _ _) _⟩
   ·have hb : a0 ≥ 2 ^ (8 * a1.toNat) := by rcases hbad with h | h | h <;> first | exact absurd h (by omega) | exact h
    have hL : L > 8 * a1 := by have := (hL2.2 (8 * a1.toNat)).mpr hb; push_cast at this; omega
    have hLd : decide (8 * a1 < L) = true := by simp; omega
    clear hbad hb hL2
    go_enter Try.func81, Try.ntmps81
    go_wp2_with (go_at_call 94; refine (bits_Len64.calls 1 a0 L _ HL1.out).mono ?_; rintro e w' ⟨rfl, ⟨nd, rfl⟩⟩)
    go_ret2
    exact ⟨_, rfl, Kd.R_nil _ _ _ _ _, pw_below_drewN (below_alloc (Below.refl _ _) _) _⟩
 ·rw [if_neg hbad] at h
  cases h
  obtain ⟨size, rfl⟩ : ∃ s : Nat, a1 = (s : Int) := ⟨a1.toNat, by omega⟩
  have hs1 : 1 ≤ size := by omega
  have hs8 : size ≤ 8 := by omega
  have hLle : L ≤ 8 * (size : Int) := by
   have := hL2.2 (8 * size)
   have h2 : ¬ (L > ((8 * size : Nat) : Int)) := fun hc => hbad (.inr (.inr (by simpa using this.mp hc)))
   push_cast at h2
   omega
  have hLd : decide (8 * (size : Int) < L) = false := by simp; omega
  clear hbad hL2
  have hi1 : decide ((size : Int) < 1) = false := by simp; omega
  have hi8 : decide (8 < (size : Int)) = false := by simp; omega
  simp only [Int.toNat_natCast]
  refine (callsIn_wide (n := 6)).1 ?_
  refine callsIn_of_wp_marks Try.func81 rfl trivial ?_ rfl
  simp only [Try.ntmps81, List.size_toArray, List.length_cons, List.length_nil, Nat.reduceAdd, Nat.reduceSub, Array.replicate_succ, Array.replicate_zero, List.push_toArray, List.append_toArray, List.nil_append, List.cons_append]
  gi_wp2_with (first
   | (refine ⟨trivial, ?_⟩; gi_at_call 94; refine (callsIn_wide.2 (bits_Len64.calls 1 a0 L _ HL1.out)).mono ?_; rintro e w' ⟨rfl, ⟨nd, rfl⟩⟩)
   | (refine ⟨trivial, ?_⟩; gi_at_call 95; refine (octets_shifts_in 5 _ _).mono ?_; rintro e w' ⟨rfl, rfl⟩))
  have bN := (Boxed.new w 119 (.int .u64 a0))
  have bB := (Boxed.new ((w.alloc (.cells #[.int .u64 a0] 119)).drewN nd) 26 (.slice none 0 0))
  have bS := (Boxed.new ((((w.alloc (.cells #[.int .u64 a0] 119)).drewN nd).alloc (.cells #[.slice none 0 0] 26))) 3 (.int .i64 (size : Int)))
  obtain ⟨W3, hW3⟩ : ∃ W3, W3 = ((((w.alloc (.cells #[.int .u64 a0] 119)).drewN nd).alloc (.cells #[.slice none 0 0] 26)).alloc (.cells #[.int .i64 (size : Int)] 3)) := ⟨_, rfl⟩
  have hB3 : Below w.heap.size w W3 := by rw [hW3]; exact below_alloc (below_alloc (pw_below_drewN (below_alloc (Below.refl _ _) _) _) _) _
  have hz3 : W3.heap.size = w.heap.size + 3 := by rw [hW3]; simp
  rw [show ((w.alloc (.cells #[.int .u64 a0] 119)).drewN nd).heap.size = w.heap.size + 1 from World.size_alloc _ _] at bB
  rw [World.size_alloc, show ((w.alloc (.cells #[.int .u64 a0] 119)).drewN nd).heap.size = w.heap.size + 1 from World.size_alloc _ _] at bS
  rw [← hW3] at bS ⊢
  have bN3 : Boxed W3 w.heap.size 119 (.int .u64 a0) := by rw [hW3]; exact (Boxed.alloc (Boxed.alloc (show Boxed ((w.alloc (.cells #[.int .u64 a0] 119)).drewN nd) w.heap.size 119 (.int .u64 a0) from bN) _) _)
  have bB3 : Boxed W3 (w.heap.size + 1) 26 (.slice none 0 0) := by rw [hW3]; exact Boxed.alloc bB _
  clear hW3 bN bB
  have hinfo : (Try.prog.info? 5).map (fun i => (i.zero, i.size, i.bytes)) = some (some (.int .u8 0), 1, 1) := by kernel_rfl
  obtain ⟨i0, hi, hz0, hz1, hz2⟩ := info_parts hinfo
  have HLT := Aside0.mk hn
  clear hinfo hn HL1 hL3 hLle hLd hi1 hi8
  refine wpIn_rangeFunc_ownG (α := Sh) rfl (by decide) (gf := 101) (lb := #[.pointer (some ⟨w.heap.size + 1 + 1, 0, none⟩)]) rfl trivial (enters_of Try.func101 (by kernel_rfl) rfl)
   (encs := fun x => #[.int .i64 x.1]) (Kp := Keep2 w.heap.size (w.heap.size + 1 + 1)) (S := fun ys => ys = shiftsOf size) (Sp := fun _ => True) (N := size) (w0 := W3)
   (fun l J Jx W hW _ _ hY h0 => octets_shifts1_in _ (by decide) l (w.heap.size + 1 + 1) w.heap.size size hs8 J Jx hY W ((hW.cell (p := ⟨w.heap.size + 1 + 1, 0, none⟩) (by show w.heap.size + 1 + 1 < _; omega)).trans bS.cell) h0)
   Keep2.trans (Keep2.other (by omega) (by omega)) (Below.refl _ _) (fun _ => rfl)
   (fun pre W => (∃ v, Boxed W (w.heap.size + 1) 26 v ∧ W.ownsRow (w.heap.size + 3) 5 1 v pre.length (nums .u8 (beOf a0 pre)) ∧ True) ∧ Boxed W w.heap.size 119 (.int .u64 a0) ∧ Boxed W (w.heap.size + 1 + 1) 3 (.int .i64 (size : Int)) ∧ Below w.heap.size w W)
   (fun _ _ _ => False)
   (OwnFrom.and (Own.from (holdsRow_own (w.heap.size + 3) (w.heap.size + 1) 26 5 1 (fun pre => pre.length) (fun pre => nums .u8 (beOf a0 pre)) (fun _ _ => True)) _) (OwnFrom.and (Own.from (boxed_own _ _ (fun _ => .int .u64 a0)) _) (OwnFrom.and (Own.from (boxed_own _ _ (fun _ => .int .i64 (size : Int))) _) (ownFrom_below (Nat.le_refl _) (by omega)))))
   (fun _ _ _ _ _ hs _ _ => hs)
   ⟨⟨_, bB3, World.ownsRow_nil _ _ _ _, trivial⟩, bN3, bS, hB3⟩
   (fun x => { tmps := #[.int .u64 a0, .int .i64 (size : Int), .pointer (some ⟨w.heap.size, 0, none⟩), undef, .slice none 0 0, .int .i64 0, .pointer (some ⟨w.heap.size + 1, 0, none⟩), .int .i64 x.1, .int .i64 (size : Int), .bool false, .bool false, .int .i64 (size : Int), .bool false, .bool false, .bool false, .int .u64 a0, .int .i64 L, .int .i64 (size : Int), .int .i64 (8 * (size : Int)), .bool false, .bool false, .int .i64 (size : Int), .func (.func 101) #[] #[.pointer (some ⟨w.heap.size + 1 + 1, 0, none⟩)], .int .i64 x.1, undef, undef, undef, undef, undef, undef, undef, undef], defers := [] }) ?assign ?body ?done ?stop
  case assign =>
   intro l x W K hK
   gi_wp2
   exact hK
  case stop =>
   rintro D c pre W _ _ h _
   exact h.elim
  case done =>
   rintro D ys W hD rfl ⟨⟨v, hv, hrow, _⟩, hn0, hs0, hB⟩ hK
   have hc := hv.cell
   gi_wp2
   refine ⟨by simp, .inl ⟨_, _, rfl, run_takeDeferred hK, ?_⟩⟩
   exact ⟨_, results_tmp2 rfl _ _ _, v, rfl, Kd.R_of_own (by rw [beOf_length]; exact ownsRow_putObj (own_weaken hrow (by omega)) _ hK rfl) (fun _ _ => trivial), hB.trans (belowK_b (w := w) (Nat.le_refl _) W D _ _ (by omega) hK rfl rfl)⟩
  case body =>
   rintro l pre x W ⟨⟨v, hv, hrow, _⟩, hn0, hs0, hB⟩ hlt
   have hc := hv.cell
   have hcn := hn0.cell
   obtain ⟨x, hx0, hx1⟩ := x
   gi_wp2
   have hsz := hB.size
   have hW3 : w.heap.size + 1 + 1 < W.heap.size := hs0.lt
   have hrow1 : W.drew.ownsRow (w.heap.size + 3) 5 1 v pre.length (nums .u8 (beOf a0 pre)) := hrow
   have HRW := Aside0.mk hrow
   have hcA := (Boxed.alloc hv (.cells #[.int .u8 (IntKind.u8.wrap (a0 / 2 ^ x.toNat))] 5)).cell
   clear hrow
   refine wpIn_region_any (by kernel_rfl) ?_
   refine wpAnyIn_ready (rs := [0, 1, 2]) (by kernel_rfl) (by simp) ?_
   refine AllReadyIn.cons rfl (fun K hK => ?_) ?_
   ·go_simp
    refine hK _ _ ?_
    clear hK K
    refine wpAnyIn_ready (rs := [1, 2]) (by kernel_rfl) (by simp) ?_
    refine AllReadyIn.cons rfl (fun K hK => ?_) ?_
    ·go_simp
     refine hK _ _ ?_
     clear hK K
     refine wpAnyIn_ready (rs := [2]) (by kernel_rfl) (by simp) ?_
     refine AllReadyIn.cons rfl (fun K hK => ?_) ?_
     ·go_simp
      refine hK _ _ ?_
      clear hK K
      refine wpAnyIn_ready (rs := [3]) (by kernel_rfl) (by simp) ?_
      refine AllReadyIn.cons rfl (fun K hK => ?_) ?_
      ·go_simp
       refine hK _ _ ?_
       clear hK K
       refine wpAnyIn_ready (rs := [4]) (by kernel_rfl) (by simp) ?_
       refine AllReadyIn.cons rfl (fun K hK => ?_) ?_
       ·go_simp
        refine hK _ _ ?_
        clear hK K
        refine wpAnyIn_ready (rs := [5]) (by kernel_rfl) (by simp) ?_
        refine AllReadyIn.cons rfl (fun K hK => ?_) ?_
        ·go_simp
         refine hK _ _ ?_
         clear hK K
         refine wpAnyIn_ready (rs := [6]) (by kernel_rfl) (by simp) ?_
         refine AllReadyIn.cons rfl (fun K hK => ?_) ?_
         ·refine stepIn_append_own (w := W.drew.alloc (.cells #[.int .u8 (IntKind.u8.wrap (a0 / 2 ^ x.toNat))] 5)) rfl (.tmp 24) (.tmp 29) 26 rfl (w.heap.size + 3) 5 i0 (.int .u8 0) 1 1 Try.underlying26 hi hz0 hz1 hz2 rfl (by decide) v pre.length (nums .u8 (beOf a0 pre)) rfl (hrow1.alloc _) ⟨W.heap.size, 0, none⟩ 1 1 [.int .u8 (IntKind.u8.wrap (a0 / 2 ^ x.toNat))] rfl rfl (cell_one_new _ _ _) (by simp [Value.oneCell']) (by simp only [maxLen]; omega) (by omega) (by simp; omega) ?_
          intro v' w1 hown' hgrow0 _
          have hgrow : (W.alloc (.cells #[.int .u8 (IntKind.u8.wrap (a0 / 2 ^ x.toNat))] 5)).grownBy w1 v.ownBlock := ⟨hgrow0.os, hgrow0.tape, hgrow0.output, hgrow0.size, hgrow0.block⟩
          clear hgrow0
          refine hK _ _ ?_
          clear hK K
          obtain ⟨g', cap', rfl⟩ := ownsRow_succ hown'
          obtain ⟨hv1, hv2, hr2, hk2, hb2⟩ := hv.appended (W := W) (n₀ := w.heap.size) (by decide) (own_weaken HRW.out (by omega)) (by omega) (by omega) (own_weaken hown' (by omega)) hgrow
          have hr3 := hown'.kept (grownBy_setCell' w1 (w.heap.size + 1) (.slice (some ⟨g', 0, none⟩) (pre.length + 1) cap')) (.inr (hv1.not_row (by decide) hown').symm)
          have HF := Aside0.mk (And.intro hv2 (And.intro hr3 (And.intro hk2 (And.intro hb2 hgrow))))
          clear hr2 hv2 hr3 hk2 hb2 hgrow hown'
          have hc1 := hv1.cell
          have hf1 := hv1.frozen
          refine wpAnyIn_ready (rs := [7]) (by kernel_rfl) (by simp) ?_
          refine AllReadyIn.cons rfl (fun K hK => ?_) ?_
          ·go_simp
           refine hK _ _ ?_
           clear hK K
           refine wpAnyIn_done (by kernel_rfl) ?_ _
           exact put_close (x := ⟨x, hx0, hx1⟩) hn0 hs0 hB HRW.out HF.out
          exact AllReadyIn.nil
         exact AllReadyIn.nil
        exact AllReadyIn.nil
       exact AllReadyIn.nil
      exact AllReadyIn.nil
     exact AllReadyIn.nil
    refine AllReadyIn.cons rfl (fun K hK => ?_) ?_
    ·go_simp
     refine hK _ _ ?_
     clear hK K
     refine wpAnyIn_ready (rs := [1]) (by kernel_rfl) (by simp) ?_
     refine AllReadyIn.cons rfl (fun K hK => ?_) ?_
     ·go_simp
      refine hK _ _ ?_
      clear hK K
      refine wpAnyIn_ready (rs := [3]) (by kernel_rfl) (by simp) ?_
      refine AllReadyIn.cons rfl (fun K hK => ?_) ?_
      ·go_simp
       refine hK _ _ ?_
       clear hK K
       refine wpAnyIn_ready (rs := [4]) (by kernel_rfl) (by simp) ?_
       refine AllReadyIn.cons rfl (fun K hK => ?_) ?_
       ·go_simp
        refine hK _ _ ?_
        clear hK K
        refine wpAnyIn_ready (rs := [5]) (by kernel_rfl) (by simp) ?_
        refine AllReadyIn.cons rfl (fun K hK => ?_) ?_
        ·go_simp
         refine hK _ _ ?_
         clear hK K
         refine wpAnyIn_ready (rs := [6]) (by kernel_rfl) (by simp) ?_
         refine AllReadyIn.cons rfl (fun K hK => ?_) ?_
         ·refine stepIn_append_own (w := W.drew.alloc (.cells #[.int .u8 (IntKind.u8.wrap (a0 / 2 ^ x.toNat))] 5)) rfl (.tmp 24) (.tmp 29) 26 rfl (w.heap.size + 3) 5 i0 (.int .u8 0) 1 1 Try.underlying26 hi hz0 hz1 hz2 rfl (by decide) v pre.length (nums .u8 (beOf a0 pre)) rfl (hrow1.alloc _) ⟨W.heap.size, 0, none⟩ 1 1 [.int .u8 (IntKind.u8.wrap (a0 / 2 ^ x.toNat))] rfl rfl (cell_one_new _ _ _) (by simp [Value.oneCell']) (by simp only [maxLen]; omega) (by omega) (by simp; omega) ?_
          intro v' w1 hown' hgrow0 _
          have hgrow : (W.alloc (.cells #[.int .u8 (IntKind.u8.wrap (a0 / 2 ^ x.toNat))] 5)).grownBy w1 v.ownBlock := ⟨hgrow0.os, hgrow0.tape, hgrow0.output, hgrow0.size, hgrow0.block⟩
          clear hgrow0
          refine hK _ _ ?_
          clear hK K
          obtain ⟨g', cap', rfl⟩ := ownsRow_succ hown'
          obtain ⟨hv1, hv2, hr2, hk2, hb2⟩ := hv.appended (W := W) (n₀ := w.heap.size) (by decide) (own_weaken HRW.out (by omega)) (by omega) (by omega) (own_weaken hown' (by omega)) hgrow
          have hr3 := hown'.kept (grownBy_setCell' w1 (w.heap.size + 1) (.slice (some ⟨g', 0, none⟩) (pre.length + 1) cap')) (.inr (hv1.not_row (by decide) hown').symm)
          have HF := Aside0.mk (And.intro hv2 (And.intro hr3 (And.intro hk2 (And.intro hb2 hgrow))))
          clear hr2 hv2 hr3 hk2 hb2 hgrow hown'
          have hc1 := hv1.cell
          have hf1 := hv1.frozen
          refine wpAnyIn_ready (rs := [7]) (by kernel_rfl) (by simp) ?_
          refine AllReadyIn.cons rfl (fun K hK => ?_) ?_
          ·go_simp
           refine hK _ _ ?_
           clear hK K
           refine wpAnyIn_done (by kernel_rfl) ?_ _
           exact put_close (x := ⟨x, hx0, hx1⟩) hn0 hs0 hB HRW.out HF.out
          exact AllReadyIn.nil
         exact AllReadyIn.nil
        exact AllReadyIn.nil
       exact AllReadyIn.nil
      exact AllReadyIn.nil
     exact AllReadyIn.nil
    exact AllReadyIn.nil
   refine AllReadyIn.cons rfl (fun K hK => ?_) ?_
   ·go_simp
    refine hK _ _ ?_
    clear hK K
    refine wpAnyIn_ready (rs := [0, 2]) (by kernel_rfl) (by simp) ?_
    refine AllReadyIn.cons rfl (fun K hK => ?_) ?_
    ·go_simp
     refine hK _ _ ?_
     clear hK K
     refine wpAnyIn_ready (rs := [2]) (by kernel_rfl) (by simp) ?_
     refine AllReadyIn.cons rfl (fun K hK => ?_) ?_
     ·go_simp
      refine hK _ _ ?_
      clear hK K
      refine wpAnyIn_ready (rs := [3]) (by kernel_rfl) (by simp) ?_
      refine AllReadyIn.cons rfl (fun K hK => ?_) ?_
      ·go_simp
       refine hK _ _ ?_
       clear hK K
       refine wpAnyIn_ready (rs := [4]) (by kernel_rfl) (by simp) ?_
       refine AllReadyIn.cons rfl (fun K hK => ?_) ?_
       ·go_simp
        refine hK _ _ ?_
        clear hK K
        refine wpAnyIn_ready (rs := [5]) (by kernel_rfl) (by simp) ?_
        refine AllReadyIn.cons rfl (fun K hK => ?_) ?_
        ·go_simp
         refine hK _ _ ?_
         clear hK K
         refine wpAnyIn_ready (rs := [6]) (by kernel_rfl) (by simp) ?_
         refine AllReadyIn.cons rfl (fun K hK => ?_) ?_
         ·refine stepIn_append_own (w := W.drew.alloc (.cells #[.int .u8 (IntKind.u8.wrap (a0 / 2 ^ x.toNat))] 5)) rfl (.tmp 24) (.tmp 29) 26 rfl (w.heap.size + 3) 5 i0 (.int .u8 0) 1 1 Try.underlying26 hi hz0 hz1 hz2 rfl (by decide) v pre.length (nums .u8 (beOf a0 pre)) rfl (hrow1.alloc _) ⟨W.heap.size, 0, none⟩ 1 1 [.int .u8 (IntKind.u8.wrap (a0 / 2 ^ x.toNat))] rfl rfl (cell_one_new _ _ _) (by simp [Value.oneCell']) (by simp only [maxLen]; omega) (by omega) (by simp; omega) ?_
          intro v' w1 hown' hgrow0 _
          have hgrow : (W.alloc (.cells #[.int .u8 (IntKind.u8.wrap (a0 / 2 ^ x.toNat))] 5)).grownBy w1 v.ownBlock := ⟨hgrow0.os, hgrow0.tape, hgrow0.output, hgrow0.size, hgrow0.block⟩
          clear hgrow0
          refine hK _ _ ?_
          clear hK K
          obtain ⟨g', cap', rfl⟩ := ownsRow_succ hown'
          obtain ⟨hv1, hv2, hr2, hk2, hb2⟩ := hv.appended (W := W) (n₀ := w.heap.size) (by decide) (own_weaken HRW.out (by omega)) (by omega) (by omega) (own_weaken hown' (by omega)) hgrow
          have hr3 := hown'.kept (grownBy_setCell' w1 (w.heap.size + 1) (.slice (some ⟨g', 0, none⟩) (pre.length + 1) cap')) (.inr (hv1.not_row (by decide) hown').symm)
          have HF := Aside0.mk (And.intro hv2 (And.intro hr3 (And.intro hk2 (And.intro hb2 hgrow))))
          clear hr2 hv2 hr3 hk2 hb2 hgrow hown'
          have hc1 := hv1.cell
          have hf1 := hv1.frozen
          refine wpAnyIn_ready (rs := [7]) (by kernel_rfl) (by simp) ?_
          refine AllReadyIn.cons rfl (fun K hK => ?_) ?_
          ·go_simp
           refine hK _ _ ?_
           clear hK K
           refine wpAnyIn_done (by kernel_rfl) ?_ _
           exact put_close (x := ⟨x, hx0, hx1⟩) hn0 hs0 hB HRW.out HF.out
          exact AllReadyIn.nil
         exact AllReadyIn.nil
        exact AllReadyIn.nil
       exact AllReadyIn.nil
      exact AllReadyIn.nil
     exact AllReadyIn.nil
    refine AllReadyIn.cons rfl (fun K hK => ?_) ?_
    ·go_simp
     refine hK _ _ ?_
     clear hK K
     refine wpAnyIn_ready (rs := [0, 3]) (by kernel_rfl) (by simp) ?_
     refine AllReadyIn.cons rfl (fun K hK => ?_) ?_
     ·go_simp
      refine hK _ _ ?_
      clear hK K
      refine wpAnyIn_ready (rs := [3]) (by kernel_rfl) (by simp) ?_
      refine AllReadyIn.cons rfl (fun K hK => ?_) ?_
      ·go_simp
       refine hK _ _ ?_
       clear hK K
       refine wpAnyIn_ready (rs := [4]) (by kernel_rfl) (by simp) ?_
       refine AllReadyIn.cons rfl (fun K hK => ?_) ?_
       ·go_simp
        refine hK _ _ ?_
        clear hK K
        refine wpAnyIn_ready (rs := [5]) (by kernel_rfl) (by simp) ?_
        refine AllReadyIn.cons rfl (fun K hK => ?_) ?_
        ·go_simp
         refine hK _ _ ?_
         clear hK K
         refine wpAnyIn_ready (rs := [6]) (by kernel_rfl) (by simp) ?_
         refine AllReadyIn.cons rfl (fun K hK => ?_) ?_
         ·refine stepIn_append_own (w := W.drew.alloc (.cells #[.int .u8 (IntKind.u8.wrap (a0 / 2 ^ x.toNat))] 5)) rfl (.tmp 24) (.tmp 29) 26 rfl (w.heap.size + 3) 5 i0 (.int .u8 0) 1 1 Try.underlying26 hi hz0 hz1 hz2 rfl (by decide) v pre.length (nums .u8 (beOf a0 pre)) rfl (hrow1.alloc _) ⟨W.heap.size, 0, none⟩ 1 1 [.int .u8 (IntKind.u8.wrap (a0 / 2 ^ x.toNat))] rfl rfl (cell_one_new _ _ _) (by simp [Value.oneCell']) (by simp only [maxLen]; omega) (by omega) (by simp; omega) ?_
          intro v' w1 hown' hgrow0 _
          have hgrow : (W.alloc (.cells #[.int .u8 (IntKind.u8.wrap (a0 / 2 ^ x.toNat))] 5)).grownBy w1 v.ownBlock := ⟨hgrow0.os, hgrow0.tape, hgrow0.output, hgrow0.size, hgrow0.block⟩
          clear hgrow0
          refine hK _ _ ?_
          clear hK K
          obtain ⟨g', cap', rfl⟩ := ownsRow_succ hown'
          obtain ⟨hv1, hv2, hr2, hk2, hb2⟩ := hv.appended (W := W) (n₀ := w.heap.size) (by decide) (own_weaken HRW.out (by omega)) (by omega) (by omega) (own_weaken hown' (by omega)) hgrow
          have hr3 := hown'.kept (grownBy_setCell' w1 (w.heap.size + 1) (.slice (some ⟨g', 0, none⟩) (pre.length + 1) cap')) (.inr (hv1.not_row (by decide) hown').symm)
          have HF := Aside0.mk (And.intro hv2 (And.intro hr3 (And.intro hk2 (And.intro hb2 hgrow))))
          clear hr2 hv2 hr3 hk2 hb2 hgrow hown'
          have hc1 := hv1.cell
          have hf1 := hv1.frozen
          refine wpAnyIn_ready (rs := [7]) (by kernel_rfl) (by simp) ?_
          refine AllReadyIn.cons rfl (fun K hK => ?_) ?_
          ·go_simp
           refine hK _ _ ?_
           clear hK K
           refine wpAnyIn_done (by kernel_rfl) ?_ _
           exact put_close (x := ⟨x, hx0, hx1⟩) hn0 hs0 hB HRW.out HF.out
          exact AllReadyIn.nil
         exact AllReadyIn.nil
        exact AllReadyIn.nil
       exact AllReadyIn.nil
      exact AllReadyIn.nil
     refine AllReadyIn.cons rfl (fun K hK => ?_) ?_
     ·go_simp
      refine hK _ _ ?_
      clear hK K
      refine wpAnyIn_ready (rs := [0, 4]) (by kernel_rfl) (by simp) ?_
      refine AllReadyIn.cons rfl (fun K hK => ?_) ?_
      ·go_simp
       refine hK _ _ ?_
       clear hK K
       refine wpAnyIn_ready (rs := [4]) (by kernel_rfl) (by simp) ?_
       refine AllReadyIn.cons rfl (fun K hK => ?_) ?_
       ·go_simp
        refine hK _ _ ?_
        clear hK K
        refine wpAnyIn_ready (rs := [5]) (by kernel_rfl) (by simp) ?_
        refine AllReadyIn.cons rfl (fun K hK => ?_) ?_
        ·go_simp
         refine hK _ _ ?_
         clear hK K
         refine wpAnyIn_ready (rs := [6]) (by kernel_rfl) (by simp) ?_
         refine AllReadyIn.cons rfl (fun K hK => ?_) ?_
         ·refine stepIn_append_own (w := W.drew.alloc (.cells #[.int .u8 (IntKind.u8.wrap (a0 / 2 ^ x.toNat))] 5)) rfl (.tmp 24) (.tmp 29) 26 rfl (w.heap.size + 3) 5 i0 (.int .u8 0) 1 1 Try.underlying26 hi hz0 hz1 hz2 rfl (by decide) v pre.length (nums .u8 (beOf a0 pre)) rfl (hrow1.alloc _) ⟨W.heap.size, 0, none⟩ 1 1 [.int .u8 (IntKind.u8.wrap (a0 / 2 ^ x.toNat))] rfl rfl (cell_one_new _ _ _) (by simp [Value.oneCell']) (by simp only [maxLen]; omega) (by omega) (by simp; omega) ?_
          intro v' w1 hown' hgrow0 _
          have hgrow : (W.alloc (.cells #[.int .u8 (IntKind.u8.wrap (a0 / 2 ^ x.toNat))] 5)).grownBy w1 v.ownBlock := ⟨hgrow0.os, hgrow0.tape, hgrow0.output, hgrow0.size, hgrow0.block⟩
          clear hgrow0
          refine hK _ _ ?_
          clear hK K
          obtain ⟨g', cap', rfl⟩ := ownsRow_succ hown'
          obtain ⟨hv1, hv2, hr2, hk2, hb2⟩ := hv.appended (W := W) (n₀ := w.heap.size) (by decide) (own_weaken HRW.out (by omega)) (by omega) (by omega) (own_weaken hown' (by omega)) hgrow
          have hr3 := hown'.kept (grownBy_setCell' w1 (w.heap.size + 1) (.slice (some ⟨g', 0, none⟩) (pre.length + 1) cap')) (.inr (hv1.not_row (by decide) hown').symm)
          have HF := Aside0.mk (And.intro hv2 (And.intro hr3 (And.intro hk2 (And.intro hb2 hgrow))))
          clear hr2 hv2 hr3 hk2 hb2 hgrow hown'
          have hc1 := hv1.cell
          have hf1 := hv1.frozen
          refine wpAnyIn_ready (rs := [7]) (by kernel_rfl) (by simp) ?_
          refine AllReadyIn.cons rfl (fun K hK => ?_) ?_
          ·go_simp
           refine hK _ _ ?_
           clear hK K
           refine wpAnyIn_done (by kernel_rfl) ?_ _
           exact put_close (x := ⟨x, hx0, hx1⟩) hn0 hs0 hB HRW.out HF.out
          exact AllReadyIn.nil
         exact AllReadyIn.nil
        exact AllReadyIn.nil
       exact AllReadyIn.nil
      refine AllReadyIn.cons rfl (fun K hK => ?_) ?_
      ·go_simp
       refine hK _ _ ?_
       clear hK K
       refine wpAnyIn_ready (rs := [0, 5]) (by kernel_rfl) (by simp) ?_
       refine AllReadyIn.cons rfl (fun K hK => ?_) ?_
       ·go_simp
        refine hK _ _ ?_
        clear hK K
        refine wpAnyIn_ready (rs := [5]) (by kernel_rfl) (by simp) ?_
        refine AllReadyIn.cons rfl (fun K hK => ?_) ?_
        ·go_simp
         refine hK _ _ ?_
         clear hK K
         refine wpAnyIn_ready (rs := [6]) (by kernel_rfl) (by simp) ?_
         refine AllReadyIn.cons rfl (fun K hK => ?_) ?_
         ·refine stepIn_append_own (w := W.drew.alloc (.cells #[.int .u8 (IntKind.u8.wrap (a0 / 2 ^ x.toNat))] 5)) rfl (.tmp 24) (.tmp 29) 26 rfl (w.heap.size + 3) 5 i0 (.int .u8 0) 1 1 Try.underlying26 hi hz0 hz1 hz2 rfl (by decide) v pre.length (nums .u8 (beOf a0 pre)) rfl (hrow1.alloc _) ⟨W.heap.size, 0, none⟩ 1 1 [.int .u8 (IntKind.u8.wrap (a0 / 2 ^ x.toNat))] rfl rfl (cell_one_new _ _ _) (by simp [Value.oneCell']) (by simp only [maxLen]; omega) (by omega) (by simp; omega) ?_
          intro v' w1 hown' hgrow0 _
          have hgrow : (W.alloc (.cells #[.int .u8 (IntKind.u8.wrap (a0 / 2 ^ x.toNat))] 5)).grownBy w1 v.ownBlock := ⟨hgrow0.os, hgrow0.tape, hgrow0.output, hgrow0.size, hgrow0.block⟩
          clear hgrow0
          refine hK _ _ ?_
          clear hK K
          obtain ⟨g', cap', rfl⟩ := ownsRow_succ hown'
          obtain ⟨hv1, hv2, hr2, hk2, hb2⟩ := hv.appended (W := W) (n₀ := w.heap.size) (by decide) (own_weaken HRW.out (by omega)) (by omega) (by omega) (own_weaken hown' (by omega)) hgrow
          have hr3 := hown'.kept (grownBy_setCell' w1 (w.heap.size + 1) (.slice (some ⟨g', 0, none⟩) (pre.length + 1) cap')) (.inr (hv1.not_row (by decide) hown').symm)
          have HF := Aside0.mk (And.intro hv2 (And.intro hr3 (And.intro hk2 (And.intro hb2 hgrow))))
          clear hr2 hv2 hr3 hk2 hb2 hgrow hown'
          have hc1 := hv1.cell
          have hf1 := hv1.frozen
          refine wpAnyIn_ready (rs := [7]) (by kernel_rfl) (by simp) ?_
          refine AllReadyIn.cons rfl (fun K hK => ?_) ?_
          ·go_simp
           refine hK _ _ ?_
           clear hK K
           refine wpAnyIn_done (by kernel_rfl) ?_ _
           exact put_close (x := ⟨x, hx0, hx1⟩) hn0 hs0 hB HRW.out HF.out
          exact AllReadyIn.nil
         exact AllReadyIn.nil
        exact AllReadyIn.nil
       refine AllReadyIn.cons rfl (fun K hK => ?_) ?_
       ·go_simp
        refine hK _ _ ?_
        clear hK K
        refine wpAnyIn_ready (rs := [0]) (by kernel_rfl) (by simp) ?_
        refine AllReadyIn.cons rfl (fun K hK => ?_) ?_
        ·go_simp
         refine hK _ _ ?_
         clear hK K
         refine wpAnyIn_ready (rs := [6]) (by kernel_rfl) (by simp) ?_
         refine AllReadyIn.cons rfl (fun K hK => ?_) ?_
         ·refine stepIn_append_own (w := W.drew.alloc (.cells #[.int .u8 (IntKind.u8.wrap (a0 / 2 ^ x.toNat))] 5)) rfl (.tmp 24) (.tmp 29) 26 rfl (w.heap.size + 3) 5 i0 (.int .u8 0) 1 1 Try.underlying26 hi hz0 hz1 hz2 rfl (by decide) v pre.length (nums .u8 (beOf a0 pre)) rfl (hrow1.alloc _) ⟨W.heap.size, 0, none⟩ 1 1 [.int .u8 (IntKind.u8.wrap (a0 / 2 ^ x.toNat))] rfl rfl (cell_one_new _ _ _) (by simp [Value.oneCell']) (by simp only [maxLen]; omega) (by omega) (by simp; omega) ?_
          intro v' w1 hown' hgrow0 _
          have hgrow : (W.alloc (.cells #[.int .u8 (IntKind.u8.wrap (a0 / 2 ^ x.toNat))] 5)).grownBy w1 v.ownBlock := ⟨hgrow0.os, hgrow0.tape, hgrow0.output, hgrow0.size, hgrow0.block⟩
          clear hgrow0
          refine hK _ _ ?_
          clear hK K
          obtain ⟨g', cap', rfl⟩ := ownsRow_succ hown'
          obtain ⟨hv1, hv2, hr2, hk2, hb2⟩ := hv.appended (W := W) (n₀ := w.heap.size) (by decide) (own_weaken HRW.out (by omega)) (by omega) (by omega) (own_weaken hown' (by omega)) hgrow
          have hr3 := hown'.kept (grownBy_setCell' w1 (w.heap.size + 1) (.slice (some ⟨g', 0, none⟩) (pre.length + 1) cap')) (.inr (hv1.not_row (by decide) hown').symm)
          have HF := Aside0.mk (And.intro hv2 (And.intro hr3 (And.intro hk2 (And.intro hb2 hgrow))))
          clear hr2 hv2 hr3 hk2 hb2 hgrow hown'
          have hc1 := hv1.cell
          have hf1 := hv1.frozen
          refine wpAnyIn_ready (rs := [7]) (by kernel_rfl) (by simp) ?_
          refine AllReadyIn.cons rfl (fun K hK => ?_) ?_
          ·go_simp
           refine hK _ _ ?_
           clear hK K
           refine wpAnyIn_done (by kernel_rfl) ?_ _
           exact put_close (x := ⟨x, hx0, hx1⟩) hn0 hs0 hB HRW.out HF.out
          exact AllReadyIn.nil
         exact AllReadyIn.nil
        exact AllReadyIn.nil
       exact AllReadyIn.nil
      exact AllReadyIn.nil
     exact AllReadyIn.nil
    exact AllReadyIn.nil
   refine AllReadyIn.cons rfl (fun K hK => ?_) ?_
   ·go_simp
    refine hK _ _ ?_
    clear hK K
    refine wpAnyIn_ready (rs := [0, 1]) (by kernel_rfl) (by simp) ?_
    refine AllReadyIn.cons rfl (fun K hK => ?_) ?_
    ·go_simp
     refine hK _ _ ?_
     clear hK K
     refine wpAnyIn_ready (rs := [1]) (by kernel_rfl) (by simp) ?_
     refine AllReadyIn.cons rfl (fun K hK => ?_) ?_
     ·go_simp
      refine hK _ _ ?_
      clear hK K
      refine wpAnyIn_ready (rs := [3]) (by kernel_rfl) (by simp) ?_
      refine AllReadyIn.cons rfl (fun K hK => ?_) ?_
      ·go_simp
       refine hK _ _ ?_
       clear hK K
       refine wpAnyIn_ready (rs := [4]) (by kernel_rfl) (by simp) ?_
       refine AllReadyIn.cons rfl (fun K hK => ?_) ?_
       ·go_simp
        refine hK _ _ ?_
        clear hK K
        refine wpAnyIn_ready (rs := [5]) (by kernel_rfl) (by simp) ?_
        refine AllReadyIn.cons rfl (fun K hK => ?_) ?_
        ·go_simp
         refine hK _ _ ?_
         clear hK K
         refine wpAnyIn_ready (rs := [6]) (by kernel_rfl) (by simp) ?_
         refine AllReadyIn.cons rfl (fun K hK => ?_) ?_
         ·refine stepIn_append_own (w := W.drew.alloc (.cells #[.int .u8 (IntKind.u8.wrap (a0 / 2 ^ x.toNat))] 5)) rfl (.tmp 24) (.tmp 29) 26 rfl (w.heap.size + 3) 5 i0 (.int .u8 0) 1 1 Try.underlying26 hi hz0 hz1 hz2 rfl (by decide) v pre.length (nums .u8 (beOf a0 pre)) rfl (hrow1.alloc _) ⟨W.heap.size, 0, none⟩ 1 1 [.int .u8 (IntKind.u8.wrap (a0 / 2 ^ x.toNat))] rfl rfl (cell_one_new _ _ _) (by simp [Value.oneCell']) (by simp only [maxLen]; omega) (by omega) (by simp; omega) ?_
          intro v' w1 hown' hgrow0 _
          have hgrow : (W.alloc (.cells #[.int .u8 (IntKind.u8.wrap (a0 / 2 ^ x.toNat))] 5)).grownBy w1 v.ownBlock := ⟨hgrow0.os, hgrow0.tape, hgrow0.output, hgrow0.size, hgrow0.block⟩
          clear hgrow0
          refine hK _ _ ?_
          clear hK K
          obtain ⟨g', cap', rfl⟩ := ownsRow_succ hown'
          obtain ⟨hv1, hv2, hr2, hk2, hb2⟩ := hv.appended (W := W) (n₀ := w.heap.size) (by decide) (own_weaken HRW.out (by omega)) (by omega) (by omega) (own_weaken hown' (by omega)) hgrow
          have hr3 := hown'.kept (grownBy_setCell' w1 (w.heap.size + 1) (.slice (some ⟨g', 0, none⟩) (pre.length + 1) cap')) (.inr (hv1.not_row (by decide) hown').symm)
          have HF := Aside0.mk (And.intro hv2 (And.intro hr3 (And.intro hk2 (And.intro hb2 hgrow))))
          clear hr2 hv2 hr3 hk2 hb2 hgrow hown'
          have hc1 := hv1.cell
          have hf1 := hv1.frozen
          refine wpAnyIn_ready (rs := [7]) (by kernel_rfl) (by simp) ?_
          refine AllReadyIn.cons rfl (fun K hK => ?_) ?_
          ·go_simp
           refine hK _ _ ?_
           clear hK K
           refine wpAnyIn_done (by kernel_rfl) ?_ _
           exact put_close (x := ⟨x, hx0, hx1⟩) hn0 hs0 hB HRW.out HF.out
          exact AllReadyIn.nil
         exact AllReadyIn.nil
        exact AllReadyIn.nil
       exact AllReadyIn.nil
      exact AllReadyIn.nil
     exact AllReadyIn.nil
    refine AllReadyIn.cons rfl (fun K hK => ?_) ?_
    ·go_simp
     refine hK _ _ ?_
     clear hK K
     refine wpAnyIn_ready (rs := [0, 3]) (by kernel_rfl) (by simp) ?_
     refine AllReadyIn.cons rfl (fun K hK => ?_) ?_
     ·go_simp
      refine hK _ _ ?_
      clear hK K
      refine wpAnyIn_ready (rs := [3]) (by kernel_rfl) (by simp) ?_
      refine AllReadyIn.cons rfl (fun K hK => ?_) ?_
      ·go_simp
       refine hK _ _ ?_
       clear hK K
       refine wpAnyIn_ready (rs := [4]) (by kernel_rfl) (by simp) ?_
       refine AllReadyIn.cons rfl (fun K hK => ?_) ?_
       ·go_simp
        refine hK _ _ ?_
        clear hK K
        refine wpAnyIn_ready (rs := [5]) (by kernel_rfl) (by simp) ?_
        refine AllReadyIn.cons rfl (fun K hK => ?_) ?_
        ·go_simp
         refine hK _ _ ?_
         clear hK K
         refine wpAnyIn_ready (rs := [6]) (by kernel_rfl) (by simp) ?_
         refine AllReadyIn.cons rfl (fun K hK => ?_) ?_
         ·refine stepIn_append_own (w := W.drew.alloc (.cells #[.int .u8 (IntKind.u8.wrap (a0 / 2 ^ x.toNat))] 5)) rfl (.tmp 24) (.tmp 29) 26 rfl (w.heap.size + 3) 5 i0 (.int .u8 0) 1 1 Try.underlying26 hi hz0 hz1 hz2 rfl (by decide) v pre.length (nums .u8 (beOf a0 pre)) rfl (hrow1.alloc _) ⟨W.heap.size, 0, none⟩ 1 1 [.int .u8 (IntKind.u8.wrap (a0 / 2 ^ x.toNat))] rfl rfl (cell_one_new _ _ _) (by simp [Value.oneCell']) (by simp only [maxLen]; omega) (by omega) (by simp; omega) ?_
          intro v' w1 hown' hgrow0 _
          have hgrow : (W.alloc (.cells #[.int .u8 (IntKind.u8.wrap (a0 / 2 ^ x.toNat))] 5)).grownBy w1 v.ownBlock := ⟨hgrow0.os, hgrow0.tape, hgrow0.output, hgrow0.size, hgrow0.block⟩
          clear hgrow0
          refine hK _ _ ?_
          clear hK K
          obtain ⟨g', cap', rfl⟩ := ownsRow_succ hown'
          obtain ⟨hv1, hv2, hr2, hk2, hb2⟩ := hv.appended (W := W) (n₀ := w.heap.size) (by decide) (own_weaken HRW.out (by omega)) (by omega) (by omega) (own_weaken hown' (by omega)) hgrow
          have hr3 := hown'.kept (grownBy_setCell' w1 (w.heap.size + 1) (.slice (some ⟨g', 0, none⟩) (pre.length + 1) cap')) (.inr (hv1.not_row (by decide) hown').symm)
          have HF := Aside0.mk (And.intro hv2 (And.intro hr3 (And.intro hk2 (And.intro hb2 hgrow))))
          clear hr2 hv2 hr3 hk2 hb2 hgrow hown'
          have hc1 := hv1.cell
          have hf1 := hv1.frozen
          refine wpAnyIn_ready (rs := [7]) (by kernel_rfl) (by simp) ?_
          refine AllReadyIn.cons rfl (fun K hK => ?_) ?_
          ·go_simp
           refine hK _ _ ?_
           clear hK K
           refine wpAnyIn_done (by kernel_rfl) ?_ _
           exact put_close (x := ⟨x, hx0, hx1⟩) hn0 hs0 hB HRW.out HF.out
          exact AllReadyIn.nil
         exact AllReadyIn.nil
        exact AllReadyIn.nil
       exact AllReadyIn.nil
      exact AllReadyIn.nil
     refine AllReadyIn.cons rfl (fun K hK => ?_) ?_
     ·go_simp
      refine hK _ _ ?_
      clear hK K
      refine wpAnyIn_ready (rs := [0, 4]) (by kernel_rfl) (by simp) ?_
      refine AllReadyIn.cons rfl (fun K hK => ?_) ?_
      ·go_simp
       refine hK _ _ ?_
       clear hK K
       refine wpAnyIn_ready (rs := [4]) (by kernel_rfl) (by simp) ?_
       refine AllReadyIn.cons rfl (fun K hK => ?_) ?_
       ·go_simp
        refine hK _ _ ?_
        clear hK K
        refine wpAnyIn_ready (rs := [5]) (by kernel_rfl) (by simp) ?_
        refine AllReadyIn.cons rfl (fun K hK => ?_) ?_
        ·go_simp
         refine hK _ _ ?_
         clear hK K
         refine wpAnyIn_ready (rs := [6]) (by kernel_rfl) (by simp) ?_
         refine AllReadyIn.cons rfl (fun K hK => ?_) ?_
         ·refine stepIn_append_own (w := W.drew.alloc (.cells #[.int .u8 (IntKind.u8.wrap (a0 / 2 ^ x.toNat))] 5)) rfl (.tmp 24) (.tmp 29) 26 rfl (w.heap.size + 3) 5 i0 (.int .u8 0) 1 1 Try.underlying26 hi hz0 hz1 hz2 rfl (by decide) v pre.length (nums .u8 (beOf a0 pre)) rfl (hrow1.alloc _) ⟨W.heap.size, 0, none⟩ 1 1 [.int .u8 (IntKind.u8.wrap (a0 / 2 ^ x.toNat))] rfl rfl (cell_one_new _ _ _) (by simp [Value.oneCell']) (by simp only [maxLen]; omega) (by omega) (by simp; omega) ?_
          intro v' w1 hown' hgrow0 _
          have hgrow : (W.alloc (.cells #[.int .u8 (IntKind.u8.wrap (a0 / 2 ^ x.toNat))] 5)).grownBy w1 v.ownBlock := ⟨hgrow0.os, hgrow0.tape, hgrow0.output, hgrow0.size, hgrow0.block⟩
          clear hgrow0
          refine hK _ _ ?_
          clear hK K
          obtain ⟨g', cap', rfl⟩ := ownsRow_succ hown'
          obtain ⟨hv1, hv2, hr2, hk2, hb2⟩ := hv.appended (W := W) (n₀ := w.heap.size) (by decide) (own_weaken HRW.out (by omega)) (by omega) (by omega) (own_weaken hown' (by omega)) hgrow
          have hr3 := hown'.kept (grownBy_setCell' w1 (w.heap.size + 1) (.slice (some ⟨g', 0, none⟩) (pre.length + 1) cap')) (.inr (hv1.not_row (by decide) hown').symm)
          have HF := Aside0.mk (And.intro hv2 (And.intro hr3 (And.intro hk2 (And.intro hb2 hgrow))))
          clear hr2 hv2 hr3 hk2 hb2 hgrow hown'
          have hc1 := hv1.cell
          have hf1 := hv1.frozen
          refine wpAnyIn_ready (rs := [7]) (by kernel_rfl) (by simp) ?_
          refine AllReadyIn.cons rfl (fun K hK => ?_) ?_
          ·go_simp
           refine hK _ _ ?_
           clear hK K
           refine wpAnyIn_done (by kernel_rfl) ?_ _
           exact put_close (x := ⟨x, hx0, hx1⟩) hn0 hs0 hB HRW.out HF.out
          exact AllReadyIn.nil
         exact AllReadyIn.nil
        exact AllReadyIn.nil
       exact AllReadyIn.nil
      refine AllReadyIn.cons rfl (fun K hK => ?_) ?_
      ·go_simp
       refine hK _ _ ?_
       clear hK K
       refine wpAnyIn_ready (rs := [0, 5]) (by kernel_rfl) (by simp) ?_
       refine AllReadyIn.cons rfl (fun K hK => ?_) ?_
       ·go_simp
        refine hK _ _ ?_
        clear hK K
        refine wpAnyIn_ready (rs := [5]) (by kernel_rfl) (by simp) ?_
        refine AllReadyIn.cons rfl (fun K hK => ?_) ?_
        ·go_simp
         refine hK _ _ ?_
         clear hK K
         refine wpAnyIn_ready (rs := [6]) (by kernel_rfl) (by simp) ?_
         refine AllReadyIn.cons rfl (fun K hK => ?_) ?_
         ·refine stepIn_append_own (w := W.drew.alloc (.cells #[.int .u8 (IntKind.u8.wrap (a0 / 2 ^ x.toNat))] 5)) rfl (.tmp 24) (.tmp 29) 26 rfl (w.heap.size + 3) 5 i0 (.int .u8 0) 1 1 Try.underlying26 hi hz0 hz1 hz2 rfl (by decide) v pre.length (nums .u8 (beOf a0 pre)) rfl (hrow1.alloc _) ⟨W.heap.size, 0, none⟩ 1 1 [.int .u8 (IntKind.u8.wrap (a0 / 2 ^ x.toNat))] rfl rfl (cell_one_new _ _ _) (by simp [Value.oneCell']) (by simp only [maxLen]; omega) (by omega) (by simp; omega) ?_
          intro v' w1 hown' hgrow0 _
          have hgrow : (W.alloc (.cells #[.int .u8 (IntKind.u8.wrap (a0 / 2 ^ x.toNat))] 5)).grownBy w1 v.ownBlock := ⟨hgrow0.os, hgrow0.tape, hgrow0.output, hgrow0.size, hgrow0.block⟩
          clear hgrow0
          refine hK _ _ ?_
          clear hK K
          obtain ⟨g', cap', rfl⟩ := ownsRow_succ hown'
          obtain ⟨hv1, hv2, hr2, hk2, hb2⟩ := hv.appended (W := W) (n₀ := w.heap.size) (by decide) (own_weaken HRW.out (by omega)) (by omega) (by omega) (own_weaken hown' (by omega)) hgrow
          have hr3 := hown'.kept (grownBy_setCell' w1 (w.heap.size + 1) (.slice (some ⟨g', 0, none⟩) (pre.length + 1) cap')) (.inr (hv1.not_row (by decide) hown').symm)
          have HF := Aside0.mk (And.intro hv2 (And.intro hr3 (And.intro hk2 (And.intro hb2 hgrow))))
          clear hr2 hv2 hr3 hk2 hb2 hgrow hown'
          have hc1 := hv1.cell
          have hf1 := hv1.frozen
          refine wpAnyIn_ready (rs := [7]) (by kernel_rfl) (by simp) ?_
          refine AllReadyIn.cons rfl (fun K hK => ?_) ?_
          ·go_simp
           refine hK _ _ ?_
           clear hK K
           refine wpAnyIn_done (by kernel_rfl) ?_ _
           exact put_close (x := ⟨x, hx0, hx1⟩) hn0 hs0 hB HRW.out HF.out
          exact AllReadyIn.nil
         exact AllReadyIn.nil
        exact AllReadyIn.nil
       refine AllReadyIn.cons rfl (fun K hK => ?_) ?_
       ·go_simp
        refine hK _ _ ?_
        clear hK K
        refine wpAnyIn_ready (rs := [0]) (by kernel_rfl) (by simp) ?_
        refine AllReadyIn.cons rfl (fun K hK => ?_) ?_
        ·go_simp
         refine hK _ _ ?_
         clear hK K
         refine wpAnyIn_ready (rs := [6]) (by kernel_rfl) (by simp) ?_
         refine AllReadyIn.cons rfl (fun K hK => ?_) ?_
         ·refine stepIn_append_own (w := W.drew.alloc (.cells #[.int .u8 (IntKind.u8.wrap (a0 / 2 ^ x.toNat))] 5)) rfl (.tmp 24) (.tmp 29) 26 rfl (w.heap.size + 3) 5 i0 (.int .u8 0) 1 1 Try.underlying26 hi hz0 hz1 hz2 rfl (by decide) v pre.length (nums .u8 (beOf a0 pre)) rfl (hrow1.alloc _) ⟨W.heap.size, 0, none⟩ 1 1 [.int .u8 (IntKind.u8.wrap (a0 / 2 ^ x.toNat))] rfl rfl (cell_one_new _ _ _) (by simp [Value.oneCell']) (by simp only [maxLen]; omega) (by omega) (by simp; omega) ?_
          intro v' w1 hown' hgrow0 _
          have hgrow : (W.alloc (.cells #[.int .u8 (IntKind.u8.wrap (a0 / 2 ^ x.toNat))] 5)).grownBy w1 v.ownBlock := ⟨hgrow0.os, hgrow0.tape, hgrow0.output, hgrow0.size, hgrow0.block⟩
          clear hgrow0
          refine hK _ _ ?_
          clear hK K
          obtain ⟨g', cap', rfl⟩ := ownsRow_succ hown'
          obtain ⟨hv1, hv2, hr2, hk2, hb2⟩ := hv.appended (W := W) (n₀ := w.heap.size) (by decide) (own_weaken HRW.out (by omega)) (by omega) (by omega) (own_weaken hown' (by omega)) hgrow
          have hr3 := hown'.kept (grownBy_setCell' w1 (w.heap.size + 1) (.slice (some ⟨g', 0, none⟩) (pre.length + 1) cap')) (.inr (hv1.not_row (by decide) hown').symm)
          have HF := Aside0.mk (And.intro hv2 (And.intro hr3 (And.intro hk2 (And.intro hb2 hgrow))))
          clear hr2 hv2 hr3 hk2 hb2 hgrow hown'
          have hc1 := hv1.cell
          have hf1 := hv1.frozen
          refine wpAnyIn_ready (rs := [7]) (by kernel_rfl) (by simp) ?_
          refine AllReadyIn.cons rfl (fun K hK => ?_) ?_
          ·go_simp
           refine hK _ _ ?_
           clear hK K
           refine wpAnyIn_done (by kernel_rfl) ?_ _
           exact put_close (x := ⟨x, hx0, hx1⟩) hn0 hs0 hB HRW.out HF.out
          exact AllReadyIn.nil
         exact AllReadyIn.nil
        exact AllReadyIn.nil
       exact AllReadyIn.nil
      exact AllReadyIn.nil
     exact AllReadyIn.nil
    exact AllReadyIn.nil
   exact AllReadyIn.nil
end
end Go.Proofs.Ytooabchnbmnchaa.Q
namespace Go.Proofs.Ytooabchnbmnchaa.Q
open Go.RowKit Go.Proofs.YtooabchnbmnchaaW.PrintWords Go.Proofs.YtooabchnbmnchaaW.PrintLast Go.Proofs.YtooabchnbmnchaaW.PrintMore
attribute [local go_sem] max2_int min2_int max_two min_two max_three min_three max_four min_four binOp_string_leq binOp_string_geq binOp_string_gtr   -- for this text's walks alone
set_option linter.unusedVariables false
set_option linter.unusedSimpArgs false
set_option maxHeartbeats 800000 in
set_option maxRecDepth 100000 in
theorem slices_Grow_byte_nil (n : Nat) (hn : n ≤ 140737488355328) (w : World) : Calls Try.prog 99 #[.slice none 0 0, .int .i64 (n : Int)] w fun e w' => ∃ v, e = .returned v ∧ Kd.R (Kd.int .u8) 5 w' w.heap.size (fun _ => True) v [] ∧ Below w.heap.size w w' := by
 have hinfo : (Try.prog.info? 5).map (fun i => (i.zero, i.size, i.bytes)) = some (some (.int .u8 0), 1, 1) := by kernel_rfl
 have HI := Aside0.mk hinfo
 have HB := Aside0.mk (Below.refl w.heap.size w)
 clear hinfo
 have h0 : decide ((n : Int) < 0) = false := by simp
 by_cases hp : 0 < n
 ·have h1 : decide (0 < (n : Int)) = true := by simp; omega
  have hby : Try.t5.bytes = 1 := by kernel_rfl
  have hnx : Builtin.nextslicecap n 0 = n := by unfold Builtin.nextslicecap; rw [if_pos (by omega)]
  have g1 : ¬ (281474976710656 < Builtin.nextslicecap n 0 * Try.t5.bytes) := by rw [hnx, hby]; omega
  have g2 : ¬ (281474976710656 < (n : Int) * (Try.t5.bytes : Int)) := by rw [hby]; omega
  have hge := grownCap_ge w n 0 5
  have hcm := grownCap_le_maxLen w n 0 5 (by unfold maxLen; omega)
  have G := Aside0.mk (And.intro g1 (And.intro g2 (And.intro hge hcm)))
  clear hby hnx g1 g2 hge hcm
  go_enter Try.func99, Try.ntmps99
  go_wp2
  all_goals first
   | (exact absurd (by assumption) G.out.1)
   | (exact absurd (by assumption) G.out.2.1)
   | (exact absurd (by assumption) (Int.not_lt.mpr G.out.2.1))
   | skip
  go_ret
  refine ⟨_, rfl, Kd.R_drew (Kd.R_of_own (World.ownsRow_made w _ _ (Nat.le_refl _) G.out.2.2.2 ?_) (fun _ _ => trivial)) , ?_⟩
  ·rw [Array.size_append, size_zeroCells, size_zeroCells]
   have : n ≤ (Question.appendCap n 0 5).cut (w.tape w.drawn (Question.appendCap n 0 5)) := G.out.2.2.1
   simp only [List.size_toArray, List.length_cons, List.length_nil]
   omega
  ·exact below_drew (below_alloc HB.out _)
 ·have : n = 0 := by omega
  subst this
  go_enter Try.func99, Try.ntmps99
  go_wp2
  go_ret
  exact ⟨_, rfl, Kd.R_nil _ _ _ _ _, Below.refl _ _⟩
theorem concat_at {w : World} {A : Option Addr} {n : Nat} {xs : List (List Int)} (h : Kd.C (Kd.slice 5 (Kd.int .u8)) w A n xs) (i : Nat) (h0 : i < n) (h1 : i < xs.length) : ∃ ad A0 c0, A = some ad ∧ w.cell? (ad.add i) = some (.slice A0 xs[i].length c0) ∧ xs[i].length ≤ c0 ∧ (Kd.int .u8).C w A0 xs[i].length xs[i] := by
 obtain ⟨ad, c, e, _, hK, hc0⟩ := Kd.C_get h ([] : List Int) (i : Int) (by omega) (by omega)
 have hx : xs.getD ((i : Int)).toNat [] = xs[i] := by rw [Int.toNat_natCast, List.getD_eq_getElem?_getD, List.getElem?_eq_getElem h1]; rfl
 rw [hx] at hK
 have hc : ∀ j u, c[j]? = some u → w.cell? (ad.add (((i : Int)).toNat * 1 + j)) = some u := hc0
 obtain ⟨A0, c0, rfl, l0, g0⟩ := hK
 exact ⟨ad, A0, c0, e, by have hq := hc 0 _ rfl; rwa [Nat.mul_one, Nat.add_zero, Int.toNat_natCast] at hq, l0, g0⟩
theorem slices_Concat_take (l : List (List Int)) (k : Nat) (h : k < l.length) : (l.take (k + 1)).flatten = (l.take k).flatten ++ l[k] := by
 rw [List.take_succ_eq_append_getElem h, List.flatten_append]
 simp
theorem slices_Concat_le (l : List (List Int)) (k : Nat) : (l.take k).flatten.length ≤ l.flatten.length := by
 conv => rhs; rw [← List.take_append_drop k l, List.flatten_append, List.length_append]
 omega
def slices_Concat_byte_byte.f (l0 : List (List Int)) : Option (List Int) := if l0.flatten.length ≤ 140737488355328 then some l0.flatten else none
set_option maxHeartbeats 1600000 in
set_option maxRecDepth 100000 in
theorem slices_Concat_byte_byte.calls (A0 : Option Addr) (c0 : Nat) (l0 : List (List Int)) (r : List Int) (w : World) (hr0 : Kd.C (Kd.slice 5 (Kd.int .u8)) w A0 l0.length l0) (hc0 : l0.length ≤ c0) (h : slices_Concat_byte_byte.f l0 = some r) : Calls Try.prog 92 #[.slice A0 l0.length c0] w fun e w' => ∃ v0_ : Value, e = .returned (v0_) ∧ Kd.R (Kd.int .u8) 5 w' w.heap.size (fun _ => True) v0_ r ∧ Below w.heap.size w w' := by
 unfold slices_Concat_byte_byte.f at h
 by_cases hl : l0.flatten.length ≤ 140737488355328
 case neg => rw [if_neg hl] at h; cases h
 rw [if_pos hl] at h
 cases h
 have HR0 := Aside0.mk hr0
 have HC0 := Aside0.mk hc0
 have hmax := Kd.C_max hr0
 clear hr0 hc0
 have hinfo : (Try.prog.info? 5).map (fun i => (i.zero, i.size, i.bytes)) = some (some (.int .u8 0), 1, 1) := by kernel_rfl
 have HI := Aside0.mk hinfo
 clear hinfo
 go_enter Try.func92, Try.ntmps92
 go_wp2
 go_loop [3, 11] (fun v3 v11 => ∃ k : Nat, v11 = .int .i64 (k : Int) ∧ k ≤ l0.length ∧ v3 = .int .i64 ((l0.take k).flatten.length : Nat)) (fun _ v11 => l0.length - (intOf v11).toNat)
 case atStart => exact ⟨0, rfl, by omega, rfl⟩
 case round =>
  obtain ⟨k, rfl, hk, rfl⟩ := hrel
  by_cases hkn : k < l0.length
  ·obtain ⟨ad, A, c, hae, hcell, hlc, hin⟩ := concat_at HR0.out k hkn hkn
   cases hae
   clear hin hlc
   have hnext := congrArg List.length (slices_Concat_take l0 k hkn)
   rw [List.length_append] at hnext
   have hle := slices_Concat_le l0 (k + 1)
   obtain ⟨m, hm⟩ : ∃ m, m = l0[k].length := ⟨_, rfl⟩
   obtain ⟨p, hp⟩ : ∃ p, p = (l0.take k).flatten.length := ⟨_, rfl⟩
   rw [← hm] at hcell hnext
   rw [← hp] at hnext ⊢
   have HN := Aside0.mk hnext
   have hw : wrap64 ((p : Int) + (m : Int)) = (p : Int) + (m : Int) := wrap64_id (by omega) (by omega)
   have h0 : decide ((p : Int) + (m : Int) < 0) = false := by simp; omega
   clear hnext hle hp hm
   go_wp2
   exact ⟨⟨k + 1, by push_cast; rfl, by omega, by rw [hw, HN.out]; rfl⟩, by simp [intOf]; omega⟩
  ·have : k = l0.length := by omega
   subst this
   rw [List.take_length]
   obtain ⟨n, hn⟩ : ∃ n, n = l0.flatten.length := ⟨_, rfl⟩
   rw [← hn] at hl ⊢
   have HNN := Aside0.mk hn
   clear hn
   go_wp2_with (go_at_call 99; refine (slices_Grow_byte_nil _ hl w).mono ?_; rintro e w1 ⟨v, rfl, ho, hb⟩; obtain ⟨A1, c1, rfl⟩ := Kd.R_slice ho; have HO := Aside0.mk ho; have HB := Aside0.mk hb; clear ho hb)
   go_loopw [6, 27] (fun v6 v27 wr => ∃ k : Nat, v27 = .int .i64 (k : Int) ∧ k ≤ l0.length ∧ Aside0 (Kd.R (Kd.int .u8) 5 wr w.heap.size (fun _ => True) v6 (l0.take k).flatten) ∧ Aside0 (Below w.heap.size w wr)) (fun _ v27 _ => l0.length - (intOf v27).toNat)
   case atStart => exact ⟨0, rfl, by omega, HO, HB⟩
   case round =>
    obtain ⟨k, rfl, hk, HO2, HB2⟩ := hrel
    clear HO HB
    obtain ⟨A2, c2, rfl⟩ := Kd.R_slice HO2.out
    by_cases hkn : k < l0.length
    ·obtain ⟨ad, A, c, hae, hcell, hlc, hin⟩ := concat_at (Kd.C_below HR0.out HB2.out) k hkn hkn
     cases hae
     have HIN := Aside0.mk hin
     clear hin hlc
     have HN := Aside0.mk (slices_Concat_take l0 k hkn)
     have HLE := Aside0.mk (slices_Concat_le l0 (k + 1))
     obtain ⟨x, hx⟩ : ∃ x, x = l0[k] := ⟨_, rfl⟩
     obtain ⟨p, hp⟩ : ∃ p, p = (l0.take k).flatten := ⟨_, rfl⟩
     rw [← hx] at hcell HIN HN
     rw [← hp] at HN HO2 ⊢
     have HBD := Aside0.mk (show p.length + x.length ≤ 140737488355328 by have h1 := HLE.out; have h2 := HNN.out; rw [HN.out, List.length_append] at h1; omega)
     clear hx hp HLE
     go_wp2_with (first | ((with_reducible refine gate_builtin (b := .append) (xs := #[.tmp 31, .tmp 32]) rfl ?_); at_builtin; refine Kd.R_append_rows (Kd.int .u8) (w0 := w) w.heap.size rfl (.tmp 31) (.tmp 32) 26 5 (.int .u8 0) 1 rfl Try.underlying26 HI.out rfl (by decide) (by omega) _ p x _ _ _ (fun _ => True) (fun _ => False) rfl rfl HO2.out HIN.out (fun _ _ h => h) (fun _ h => h.elim) (fun _ _ => trivial) HB2.out (below_size HB2.out) ?aL ?_; (case aL => have := HBD.out; omega); intro v157 w3 ho hb hg hat; have HOb := Aside0.mk hb; have HO3 := Aside0.mk ho; clear ho hb hg hat))
     go_roundw
     case rel => exact ⟨k + 1, by push_cast; rfl, by omega, ⟨by rw [HN.out]; exact HO3.out⟩, HOb⟩
     case measure => simp [intOf]; omega
    ·have : k = l0.length := by omega
     subst this
     go_wp2
     go_ret
     refine ⟨_, rfl, ?_, HB2.out⟩
     have := HO2.out
     rw [List.take_length] at this ⊢
     exact this
end Go.Proofs.Ytooabchnbmnchaa.Q
namespace Go.Proofs.Ytooabchnbmnchaa.Q
open Go.RowKit Go.Proofs.YtooabchnbmnchaaW.PrintWords Go.Proofs.YtooabchnbmnchaaW.PrintLast Go.Proofs.YtooabchnbmnchaaW.PrintMore
attribute [local go_sem] max2_int min2_int max_two min_two max_three min_three max_four min_four binOp_string_leq binOp_string_geq binOp_string_gtr   -- for this text's walks alone
set_option linter.unusedVariables false
set_option linter.unusedSimpArgs false
def frames_Seal.f (a0_0 : Int) (l0_1 : List Int) : Option (List Int × Int) := if (l0_1.length : Int) > 4096 then (some (([] : List Int), 5)) else ((octets_Put.f (IntKind.u64.wrap ((l0_1.length : Int))) 2).bind fun bt167 => ((slices_Concat_byte_byte.f (([(([167, a0_0] : List Int)), bt167.1, l0_1] : List (List Int)))).bind fun t177 => ((crc_Sum.f t177).bind fun t180 => ((octets_Put.f (IntKind.u64.wrap (t180)) 4).bind fun bt181 => (if t177.length + bt181.1.length < 140737488355328 then (some ((t177 ++ bt181.1), 0)) else (none))))))
set_option maxHeartbeats 8000000 in
set_option maxRecDepth 100000 in
theorem frames_Seal.calls (a0_0 : Int) (P0_1_ : Nat → Prop) (A0_1 : Option Addr) (c0_1 : Nat) (l0_1 : List Int) (r1 : List Int) (r2 : Int) (w : World) (hs0_1 : Kd.V (Kd.int .u8) 5 w w.heap.size (fun k_ => P0_1_ k_) (.slice A0_1 l0_1.length c0_1) l0_1) (h : frames_Seal.f a0_0 l0_1 = some (r1, r2)) :
  Calls Try.prog 80 #[.agg #[.int .u8 a0_0, .slice A0_1 l0_1.length c0_1]] w fun e w' => ∃ v0_ : Value, e = .returned (.tuple #[v0_, .int .i64 r2]) ∧ Kd.R (Kd.int .u8) 5 w' w.heap.size (fun k_ => (w.heap.size ≤ k_)) v0_ r1 ∧ Below w.heap.size w w' := by
 have hu117 := Try.underlying117
 have HO0_1 := Aside0.mk (show Kd.V (Kd.int .u8) 5 w w.heap.size (fun k_ => (P0_1_ k_ ∨ w.heap.size ≤ k_)) (.slice A0_1 l0_1.length c0_1) l0_1 from Kd.V_mono hs0_1 (fun k_ hk => .inl hk))
 have HB := Aside0.mk (Below.refl w.heap.size w)
 have H : (if (l0_1.length : Int) > 4096 then (some (([] : List Int), 5)) else ((octets_Put.f (IntKind.u64.wrap ((l0_1.length : Int))) 2).bind fun bt167 => ((slices_Concat_byte_byte.f (([(([167, a0_0] : List Int)), bt167.1, l0_1] : List (List Int)))).bind fun t177 => ((crc_Sum.f t177).bind fun t180 => ((octets_Put.f (IntKind.u64.wrap (t180)) 4).bind fun bt181 => (if t177.length + bt181.1.length < 140737488355328 then (some ((t177 ++ bt181.1), 0)) else (none))))))) = some (r1, r2) := h
 clear h
 by_cases c2 : (l0_1.length : Int) > 4096
 ·rw [if_pos c2] at H
  have c2b0 : decide (4096 < (l0_1.length : Int)) = true := decide_eq_true c2
  have c2b1 : decide (4096 < l0_1.length) = true := decide_eq_true (by omega)
  clear c2
  simp only [Option.some.injEq, Prod.mk.injEq] at H
  obtain ⟨rfl, rfl⟩ := H
  go_enter Try.func80, Try.ntmps80
  go_wp2_with (first | ((with_reducible refine gate_dst (N := 1) rfl ?_); refine bx_ 1 #[.int .u8 a0_0, .slice A0_1 l0_1.length c0_1] 117 ?_; intro gb166 hg w3 hbox hb; replace HO0_1 := Aside0.mk (Kd.V_below (Kd.V_elderB (vA_ HO0_1) gb166 (Nat.le_of_eq hg.symm)) hb); have BK166 := Aside0.mk (hbox); have GW166 := bG_ HB hg; have GE166 := bG_ HB hg; replace HB := bS_ HB hb; clear hb hbox hg; obtain ⟨hcz4_0, hcz4_1, hfz4_0, hfz4_1⟩ := cz2_ BK166))
  go_ret2
  exact ⟨_, fin_, nil_, bl_ HB⟩
 ·rw [if_neg c2] at H
  have c2b0 : decide (4096 < (l0_1.length : Int)) = false := decide_eq_false c2
  have c2b1 : decide (4096 < l0_1.length) = false := decide_eq_false (by omega)
  clear c2
  replace H := Option.bind_eq_some_iff.mp H
  obtain ⟨⟨t167, t168⟩, A50, H⟩ := H
  try dsimp only at H
  have A5 := Aside0.mk A50
  clear A50
  obtain ⟨y171, hy171⟩ : ∃ y_ : List Int, y_ = (([167, a0_0] : List Int)) := ⟨_, rfl⟩
  replace H : ((slices_Concat_byte_byte.f (([y171, t167, l0_1] : List (List Int)))).bind fun t177 => ((crc_Sum.f t177).bind fun t180 => ((octets_Put.f (IntKind.u64.wrap (t180)) 4).bind fun bt181 => (if t177.length + bt181.1.length < 140737488355328 then (some ((t177 ++ bt181.1), 0)) else (none))))) = some (r1, r2) := by first | (rw [hy171]; with_reducible exact H) | (have H2_ := (Option.bind_some _ _).symm.trans H; rw [hy171]; with_reducible exact H2_) | (have H2_ := (Option.bind_some _ _).symm.trans H; with_reducible exact H2_) | with_reducible exact H | (rw [hy171]; exact H) | exact H
  have Ny171 := Aside0.mk hy171
  clear hy171
  obtain ⟨y174, hy174⟩ : ∃ y_ : List (List Int), y_ = (([y171, t167, l0_1] : List (List Int))) := ⟨_, rfl⟩
  replace H : ((slices_Concat_byte_byte.f y174).bind fun t177 => ((crc_Sum.f t177).bind fun t180 => ((octets_Put.f (IntKind.u64.wrap (t180)) 4).bind fun bt181 => (if t177.length + bt181.1.length < 140737488355328 then (some ((t177 ++ bt181.1), 0)) else (none))))) = some (r1, r2) := by first | (rw [hy174]; with_reducible exact H) | (have H2_ := (Option.bind_some _ _).symm.trans H; rw [hy174]; with_reducible exact H2_) | (have H2_ := (Option.bind_some _ _).symm.trans H; with_reducible exact H2_) | with_reducible exact H | (rw [hy174]; exact H) | exact H
  have Ny174 := Aside0.mk hy174
  clear hy174
  replace H := Option.bind_eq_some_iff.mp H
  obtain ⟨t177, A60, H⟩ := H
  try dsimp only at H
  have A6 := Aside0.mk A60
  clear A60
  replace H := Option.bind_eq_some_iff.mp H
  obtain ⟨t180, A70, H⟩ := H
  try dsimp only at H
  have A7 := Aside0.mk A70
  clear A70
  replace H := Option.bind_eq_some_iff.mp H
  obtain ⟨⟨t181, t182⟩, A80, H⟩ := H
  try dsimp only at H
  have A8 := Aside0.mk A80
  clear A80
  by_cases c9 : t177.length + t181.length < 140737488355328
  ·rw [if_pos c9] at H
   have LMc9 := Aside0.mk c9
   clear c9
   obtain ⟨y185, hy185⟩ : ∃ y_ : List Int, y_ = (t177 ++ t181) := ⟨_, rfl⟩
   replace H : (some (y185, 0)) = some (r1, r2) := by first | (rw [hy185]; with_reducible exact H) | (have H2_ := (Option.bind_some _ _).symm.trans H; rw [hy185]; with_reducible exact H2_) | (have H2_ := (Option.bind_some _ _).symm.trans H; with_reducible exact H2_) | with_reducible exact H | (rw [hy185]; exact H) | exact H
   have Ny185 := Aside0.mk hy185
   clear hy185
   simp only [Option.some.injEq, Prod.mk.injEq] at H
   obtain ⟨rfl, rfl⟩ := H
   go_enter Try.func80, Try.ntmps80
   go_wp2_with (first | ((with_reducible refine gate_dst (N := 1) rfl ?_); refine bx_ 1 #[.int .u8 a0_0, .slice A0_1 l0_1.length c0_1] 117 ?_; intro gb166 hg w10 hbox hb; replace HO0_1 := Aside0.mk (Kd.V_below (Kd.V_elderB (vA_ HO0_1) gb166 (Nat.le_of_eq hg.symm)) hb); have BK166 := Aside0.mk (hbox); have GW166 := bG_ HB hg; have GE166 := bG_ HB hg; replace HB := bS_ HB hb; clear hb hbox hg; obtain ⟨hcz11_0, hcz11_1, hfz11_0, hfz11_1⟩ := cz2_ BK166) | ((with_reducible refine gate_callee (f := 81) rfl ?_); refine gL_ (some 18) Try.func81 #[.int .u64 (IntKind.u64.wrap ((l0_1.length : Int))), .int .i64 2] ?_; (with_reducible refine (octets_Put.calls (IntKind.u64.wrap ((l0_1.length : Int))) 2 t167 t168 _ A5.out).mono ?_); rintro e w12 ⟨v169, rfl, ho0, hb⟩; refine ⟨_, rfl, ?_⟩; replace HO0_1 := Aside0.mk (Kd.V_elder' (vA_ HO0_1) (Kd.R_base ho0) hb); have HO170 := Aside0.mk (Kd.R_lower (Kd.R_newM (M := fun k_ => (w.heap.size ≤ k_)) ho0 (bs_ HB) (fun k_ h_ => h_)) (bs_ HB)); replace BK166 := bK_ BK166 hb; replace HB := bS_ HB hb; (try clear hb ho0); obtain ⟨hcz13_0, hcz13_1, hfz13_0, hfz13_1⟩ := cz2_ BK166) | ((with_reducible refine gate_dst (N := 23) rfl ?_); refine Kd.R_lit (Kd.int .u8) _ 5 ?hg (N := 23) ?hd (xs := ([167, a0_0] : List Int)) (inner := [.int .u8 167, .int .u8 a0_0]) (ok := fun _ => True) (okp := fun _ => True) ?hr ?hp (fun _ hk => hk) trivial (Below.refl _ _) (Nat.le_refl _) (by simp) ?_; (case hd => rfl); (case hg => rfl); (case hr => first | (go_simp; done) | (go_simp; rfl)); (case hp => exact (Reps.one (show Kd.M (Kd.int .u8) _ _ _ 167 [.int .u8 167] from rfl) (Reps.one (show Kd.M (Kd.int .u8) _ _ _ a0_0 [.int .u8 a0_0] from rfl) (Reps.none _ _)))); intro v172 w14 ho15 hb hg_ hnew_; clear hg_ hnew_; (first | rw [← Ny171.out] at ho15 | (simp only [Int.reduceToNat] at ho15; rw [← Ny171.out] at ho15)); replace HO0_1 := Aside0.mk (Kd.V_elder' (vA_ HO0_1) (Kd.R_base ho15) hb); have HO173 := Aside0.mk (Kd.R_lower (Kd.R_new' (Kd.R_newM (M := fun k_ => (w.heap.size ≤ k_)) ho15 (bs_ HB) (fun k_ h_ => h_)) (Kd.R_lt (rA_ HO170))) (bs_ HB)); replace HO170 := Aside0.mk (Kd.R_elder' (rA_ HO170) (Kd.R_base ho15) hb); replace BK166 := bK_ BK166 hb; replace HB := bS_ HB hb; clear hb ho15; obtain ⟨Ao16, co16, eo16⟩ := Kd.R_slice HO173.out; subst eo16; obtain ⟨hcz17_0, hcz17_1, hfz17_0, hfz17_1⟩ := cz2_ BK166; obtain ⟨Ao18, co18, eo18⟩ := Kd.R_slice HO170.out; subst eo18) | ((with_reducible refine gate_dst (N := 27) rfl ?_); refine Kd.N_lit (Kd.slice 5 (Kd.int .u8)) _ 26 ?hg (N' := 27) ?hd (xs := ([y171, t167, l0_1] : List (List Int))) (inner := [.slice Ao16 y171.length co16, .slice Ao18 t167.length co18, .slice A0_1 l0_1.length c0_1]) (ok := (fun k_ => (P0_1_ k_ ∨ w.heap.size ≤ k_) ∧ k_ ≠ gb166)) (okp := (fun k_ => (P0_1_ k_ ∨ w.heap.size ≤ k_) ∧ k_ ≠ gb166)) ?hr ?hp (fun _ hk => hk) ((show ∀ k_, w14.heap.size ≤ k_ → (fun k_ => (P0_1_ k_ ∨ w.heap.size ≤ k_) ∧ k_ ≠ gb166) k_ from fun k_ hk => ⟨(.inr (Nat.le_trans (bs_ HB) hk)), Kd.freshB (bA_ BK166) k_ hk⟩) _ (Nat.le_refl _)) (Below.refl _ _) (Nat.le_refl _) (by simp) ?_; (case hd => rfl); (case hg => rfl); (case hr => first | (go_simp; done) | (go_simp; rfl)); (case hp => exact (Reps.one (show Kd.FK (Kd.slice 5 (Kd.int .u8)) _ _ y171 [.slice Ao16 y171.length co16] from (Kd.FK_slice_mk (Kd.R_reads' (Kd.R_mono (ok' := (fun k_ => (P0_1_ k_ ∨ w.heap.size ≤ k_) ∧ k_ ≠ gb166)) (Kd.R_types (HO173.out) BK166.out (by decide)) (fun k_ hk => ⟨(.inr (hk.1.1.1)), hk.2⟩))).2.1 (Kd.R_F (Kd.R_mono (ok' := (fun k_ => (P0_1_ k_ ∨ w.heap.size ≤ k_) ∧ k_ ≠ gb166)) (Kd.R_types (HO173.out) BK166.out (by decide)) (fun k_ hk => ⟨(.inr (hk.1.1.1)), hk.2⟩))))) (Reps.one (show Kd.FK (Kd.slice 5 (Kd.int .u8)) _ _ t167 [.slice Ao18 t167.length co18] from (Kd.FK_slice_mk (Kd.R_reads' (Kd.R_mono (ok' := (fun k_ => (P0_1_ k_ ∨ w.heap.size ≤ k_) ∧ k_ ≠ gb166)) (Kd.R_types (HO170.out) BK166.out (by decide)) (fun k_ hk => ⟨(.inr (hk.1.1.1)), hk.2⟩))).2.1 (Kd.R_F (Kd.R_mono (ok' := (fun k_ => (P0_1_ k_ ∨ w.heap.size ≤ k_) ∧ k_ ≠ gb166)) (Kd.R_types (HO170.out) BK166.out (by decide)) (fun k_ hk => ⟨(.inr (hk.1.1.1)), hk.2⟩))))) (Reps.one (show Kd.FK (Kd.slice 5 (Kd.int .u8)) _ _ l0_1 [.slice A0_1 l0_1.length c0_1] from (Kd.FK_slice_mk (Kd.V_reads' (Kd.V_mono (ok' := (fun k_ => (P0_1_ k_ ∨ w.heap.size ≤ k_) ∧ k_ ≠ gb166)) (HO0_1.out) (fun k_ hk => ⟨hk.1.1.1, hk.1.1.2⟩))).2.1 (Kd.V_F (Kd.V_mono (ok' := (fun k_ => (P0_1_ k_ ∨ w.heap.size ≤ k_) ∧ k_ ≠ gb166)) (HO0_1.out) (fun k_ hk => ⟨hk.1.1.1, hk.1.1.2⟩))))) (Reps.none _ _))))); intro v175 w19 ho20 hb hg_ hnew_; clear hg_ hnew_; (first | rw [← Ny174.out] at ho20 | (simp only [Int.reduceToNat] at ho20; rw [← Ny174.out] at ho20)); replace HO0_1 := Aside0.mk (Kd.V_elder' (vA_ HO0_1) (Kd.N_base ho20) hb); have HO176 := Aside0.mk (Kd.N_lower ho20 (bs_ HB)); replace BK166 := bK_ BK166 hb; replace HB := bS_ HB hb; clear HO170 HO173; clear hb ho20; obtain ⟨Ao21, co21, eo21⟩ := Kd.N_slice HO176.out; subst eo21) | ((with_reducible refine gate_callee (f := 92) rfl ?_); refine gL_ (some 28) Try.func92 #[.slice Ao21 y174.length co21] ?_; (with_reducible refine (slices_Concat_byte_byte.calls _ _ y174 t177 _ ?_ ?_ A6.out).mono ?_); exact cO_ (Kd.N_reads' HO176.out).2.2; exact (Kd.N_reads' HO176.out).2.1; rintro e w22 ⟨v178, rfl, ho0, hb⟩; refine ⟨_, rfl, ?_⟩; replace HO0_1 := Aside0.mk (Kd.V_elder' (vA_ HO0_1) (Kd.R_base ho0) hb); replace HO176 := Aside0.mk (Kd.N_elder' (nA_ HO176) (Kd.R_base ho0) hb); have HO179 := Aside0.mk (Kd.R_lower (Kd.R_newM (M := fun k_ => (w.heap.size ≤ k_)) ho0 (bs_ HB) (fun k_ h_ => h_)) (bs_ HB)); replace BK166 := bK_ BK166 hb; replace HB := bS_ HB hb; (try clear hb ho0); obtain ⟨Ao23, co23, eo23⟩ := Kd.R_slice HO179.out; subst eo23) | ((with_reducible refine gate_callee (f := 93) rfl ?_); refine gL_ (some 31) Try.func93 #[.slice Ao23 t177.length co23] ?_; (with_reducible refine (crc_Sum.calls _ _ t177 t180 _ ?_ ?_ A7.out).mono ?_); exact cO_ (Kd.R_reads' HO179.out).2.2; exact (Kd.R_reads' HO179.out).2.1; rintro e w24 ⟨rfl, hb⟩; refine ⟨_, rfl, ?_⟩; replace HO0_1 := vB_ HO0_1 hb; replace HO176 := nB_ HO176 hb; replace HO179 := rB_ HO179 hb; replace BK166 := bK_ BK166 hb; replace HB := bS_ HB hb; (try clear hb)) | ((with_reducible refine gate_callee (f := 81) rfl ?_); refine gL_ (some 33) Try.func81 #[.int .u64 (IntKind.u64.wrap (t180)), .int .i64 4] ?_; (with_reducible refine (octets_Put.calls (IntKind.u64.wrap (t180)) 4 t181 t182 _ A8.out).mono ?_); rintro e w25 ⟨v183, rfl, ho0, hb⟩; refine ⟨_, rfl, ?_⟩; replace HO0_1 := Aside0.mk (Kd.V_elder' (vA_ HO0_1) (Kd.R_base ho0) hb); replace HO176 := Aside0.mk (Kd.N_elder' (nA_ HO176) (Kd.R_base ho0) hb); have HO184 := Aside0.mk (Kd.R_lower (Kd.R_new' (Kd.R_newM (M := fun k_ => (w.heap.size ≤ k_)) ho0 (bs_ HB) (fun k_ h_ => h_)) (Kd.R_lt (rA_ HO179))) (bs_ HB)); replace HO179 := Aside0.mk (Kd.R_elder' (rA_ HO179) (Kd.R_base ho0) hb); replace BK166 := bK_ BK166 hb; replace HB := bS_ HB hb; (try clear hb ho0); obtain ⟨Ao27, co27, eo27⟩ := Kd.R_slice HO184.out; subst eo27) | ((with_reducible refine gate_builtin (b := .append) (xs := #[.tmp 36, .tmp 37]) rfl ?_); at_builtin; refine Kd.R_append_rows (Kd.int .u8) (w0 := w) w.heap.size rfl (.tmp 36) (.tmp 37) 26 5 (.int .u8 0) 1 rfl Try.underlying26 info5 rfl (by decide) (by omega) (.slice Ao23 t177.length co23) t177 t181 _ _ _ (fun k_ => (w.heap.size ≤ k_) ∧ some k_ ≠ (.slice Ao27 t181.length co27 : Value).ownBlock) (fun _ => False) rfl rfl ?aO ?aR (fun _ _ h => h) (fun _ h => h.elim) ?aF ?aB ?aS ?aL ?_; (case aR => exact cO_ (Kd.R_reads' HO184.out).2.2); (case aB => exact (bl_ HB)); (case aF => exact (fun k_ hk => ⟨(Nat.le_trans (bs_ HB) hk), Kd.fresh' (Kd.R_lt (rA_ HO184)) k_ hk⟩)); (case aO => exact (by (with_reducible repeat (first | apply Kd.R_alloc | apply Kd.R_drewN | apply Kd.R_drew)); exact Kd.R_mono HO179.out (fun _ hk => ⟨hk.1.1, hk.2⟩))); (case aS => exact (bs_ HB)); (case aL => have := LMc9.out; omega); intro v186 w26 ho hb hg hat; rw [← Ny185.out] at ho; replace HO0_1 := Aside0.mk (Kd.V_afterv (ok := (fun k_ => (P0_1_ k_ ∨ w.heap.size ≤ k_) ∧ some k_ ≠ (.slice Ao21 y174.length co21 : Value).ownBlock ∧ some k_ ≠ (.slice Ao27 t181.length co27 : Value).ownBlock ∧ k_ ≠ gb166)) (by (with_reducible repeat (first | apply Kd.V_alloc | apply Kd.V_drewN | apply Kd.V_drew)); exact Kd.V_mono HO0_1.out (fun _ hk => ⟨⟨hk.1.1.1.1.1.1, ⟨hk.1.1.2, ⟨hk.2, hk.1.1.1.1.1.2⟩⟩⟩, hk.1.2⟩)) hg hat); replace BK166 := Aside0.mk (blk_grown (bA_ BK166) hg (Kd.R_ne HO179.out BK166.out (by decide))); replace HO176 := Aside0.mk (Kd.N_afterv (ok := (fun k_ => (P0_1_ k_ ∨ w.heap.size ≤ k_) ∧ some k_ ≠ (.slice Ao27 t181.length co27 : Value).ownBlock ∧ k_ ≠ gb166)) (by (with_reducible repeat (first | apply Kd.N_alloc | apply Kd.N_drewN | apply Kd.N_drew)); exact Kd.N_mono HO176.out (fun _ hk => ⟨⟨hk.1.1.1, ⟨hk.2, hk.1.1.2⟩⟩, hk.1.2⟩)) hg hat); replace HO184 := Aside0.mk (Kd.R_after (ok := (fun k_ => (w.heap.size ≤ k_))) (by (with_reducible repeat (first | apply Kd.R_alloc | apply Kd.R_drewN | apply Kd.R_drew)); exact Kd.R_mono HO184.out (fun _ hk => ⟨hk.1.1, hk.2⟩)) hg hat); replace HB := Aside0.mk (hb); have HO187 := Aside0.mk (ho); clear HO179; clear ho hb hg hat))
   go_ret2
   exact ⟨_, fin_, by (with_reducible repeat (first | apply Kd.R_alloc | apply Kd.R_drewN | apply Kd.R_drew)); exact Kd.R_mono HO187.out (fun _ hk => hk.1), bl_ HB⟩
  ·rw [if_neg c9] at H
   exact absurd H (by simp)
end Go.Proofs.Ytooabchnbmnchaa.Q
