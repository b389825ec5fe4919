-- Laid by this session's own program (wip/tools) out of the translation; Lean checks it. Thinned, shortened and merged for this claim.
import Derived.Test.YtooabchnbmnchaaQ0
import Derived.Test.YtooabchnbmnchaaSq
import Derived.Test.YtooabchnbmnchaaQ1
namespace Go.Proofs.Ytooabchnbmnchaa.Q
open Go.RowKit Go.Proofs.YtooabchnbmnchaaW.PrintWords Go.Proofs.YtooabchnbmnchaaW.PrintLast Go.Proofs.YtooabchnbmnchaaW.PrintMore
attribute [local go_sem] max2_int min2_int max_two min_two max_three min_three max_four min_four binOp_string_leq binOp_string_geq binOp_string_gtr   -- for this text's walks alone
set_option linter.unusedVariables false
set_option linter.unusedSimpArgs false
def BitLen (n L : Int) : Prop := 0 ≤ L ∧ ∀ m : Nat, (L > (m : Int) ↔ n ≥ 2 ^ m)
theorem BitLen.shift {n L : Int} (s : Nat) (hn : n ≥ 2 ^ s) (h : BitLen (n / 2 ^ s) L) : BitLen n (L + s) := by
 refine ⟨by have := h.1; omega, fun m => ?_⟩
 have hp : (0 : Int) < 2 ^ s := Int.pow_pos (by decide)
 rcases Nat.lt_or_ge m s with hm | hm
 ·have : (2 : Int) ^ m ≤ 2 ^ s := by
   have := Nat.pow_le_pow_right (show 0 < 2 by decide) (Nat.le_of_lt hm)
   exact_mod_cast this
  have := h.1
  constructor <;> intro _ <;> omega
 ·obtain ⟨d, rfl⟩ : ∃ d, m = d + s := ⟨m - s, by omega⟩
  have h2 := h.2 d
  rw [Int.pow_add]
  have hd : (n / 2 ^ s ≥ 2 ^ d) ↔ (n ≥ 2 ^ d * 2 ^ s) := by
   show (2 ^ d ≤ n / 2 ^ s) ↔ _
   exact Int.le_ediv_iff_mul_le hp
  rw [← hd, ← h2]
  push_cast
  omega
theorem pow2_256 (m : Nat) (hm : 8 ≤ m) : (256 : Int) ≤ 2 ^ m := by
 have h1 : (256 : Nat) ≤ 2 ^ m := Nat.le_trans (by decide : 256 ≤ 2 ^ 8) (Nat.pow_le_pow_right (by decide) hm)
 have h2 : ((256 : Nat) : Int) ≤ ((2 ^ m : Nat) : Int) := Int.ofNat_le.mpr h1
 rw [Int.natCast_pow] at h2
 exact h2
set_option maxRecDepth 100000 in
theorem bitLen_byte : ∀ x : Fin 256, ∀ m : Fin 8, ((bits_Len64.f 1 (x.val : Int)).getD 0 > (m.val : Int) ↔ (x.val : Int) ≥ 2 ^ m.val) ∧ 0 ≤ (bits_Len64.f 1 (x.val : Int)).getD 0 ∧ (bits_Len64.f 1 (x.val : Int)).getD 0 ≤ 8 ∧ (bits_Len64.f 1 (x.val : Int)).isSome = true := by decide +kernel
def len8 (x : Int) : Int := (bits_Len64.f 1 x).getD 0
theorem len8_is (x : Int) (h0 : 0 ≤ x) (h1 : x < 256) : bits_Len64.f 1 x = some (len8 x) ∧ BitLen x (len8 x) ∧ len8 x ≤ 8 := by
 obtain ⟨n, rfl⟩ := Int.eq_ofNat_of_zero_le h0
 have hb := bitLen_byte ⟨n, by omega⟩
 simp only at hb
 have h8 := hb 0
 refine ⟨?_, ⟨h8.2.1, fun m => ?_⟩, h8.2.2.1⟩
 ·have := h8.2.2.2
  unfold len8
  cases hq : bits_Len64.f 1 (n : Int) with
  | none => rw [hq] at this; cases this
  | some v => rfl
 ·rcases Nat.lt_or_ge m 8 with hm | hm
  ·exact (hb ⟨m, hm⟩).1
  ·have := pow2_256 m hm
   have := h8.2.2.1
   unfold len8
   constructor <;> intro _ <;> omega
set_option maxRecDepth 100000 in
theorem j0_byte (x c : Int) (h0 : 0 ≤ x) (h1 : x < 256) (hc : 0 ≤ c) (hc1 : c ≤ 64) : bits_Len64.j0 1 x c = some (c + len8 x) := by
 have h := (len8_is x h0 h1).2.1.1
 have h8 := (len8_is x h0 h1).2.2
 unfold len8 bits_Len64.f at h h8 ⊢
 rw [if_neg (by omega)] at h h8 ⊢
 simp only [bits_Len64.j0] at h h8 ⊢
 rw [if_neg (by omega), if_neg (by omega), if_pos (by omega), if_pos (by omega)] at h h8 ⊢
 rw [if_neg (by omega), if_neg (by omega), if_pos (by omega), if_pos (by omega)]
 simp only [Option.getD_some, Option.some.injEq] at h h8 ⊢
 unfold wrap64 at h h8 ⊢
 omega
set_option maxRecDepth 100000 in
theorem j0_two (x c : Int) (h0 : 256 ≤ x) (h1 : x < 65536) (hc : 0 ≤ c) (hc1 : c ≤ 56) : bits_Len64.j0 1 x c = some (c + 8 + len8 (x / 256)) := by
 have h := (len8_is (x / 256) (by omega) (by omega)).2.1.1
 have h8 := (len8_is (x / 256) (by omega) (by omega)).2.2
 have hb := j0_byte (x / 256) (c + 8) (by omega) (by omega) (by omega) (by omega)
 rw [← hb]
 simp only [bits_Len64.j0]
 rw [if_neg (by omega), if_pos (by omega), if_pos (by omega), if_pos (by omega), if_neg (by omega), if_neg (by omega), if_pos (by omega), if_pos (by omega)]
 rw [wrap64_id (x := c + 8) (by omega) (by omega)]
set_option maxRecDepth 100000 in
theorem j0_four (x c : Int) (h0 : 65536 ≤ x) (h1 : x < 4294967296) (hc : 0 ≤ c) (hc1 : c ≤ 32) : bits_Len64.j0 1 x c = bits_Len64.j0 1 (x / 65536) (c + 16) := by
 simp only [bits_Len64.j0]
 rw [if_pos (by omega), if_neg (show ¬ x / 65536 ≥ 65536 by omega)]
 rw [wrap64_id (x := c + 16) (by omega) (by omega)]
theorem j0_is (x c : Int) (h0 : 0 ≤ x) (h1 : x < 4294967296) (hc : 0 ≤ c) (hc1 : c ≤ 32) : ∃ L, bits_Len64.j0 1 x c = some (c + L) ∧ BitLen x L ∧ L ≤ 32 := by
 have two : ∀ (x c : Int), 0 ≤ x → x < 65536 → 0 ≤ c → c ≤ 48 → ∃ L, bits_Len64.j0 1 x c = some (c + L) ∧ BitLen x L ∧ L ≤ 16 := by
  intro x c h0 h1 hc hc1
  by_cases h : x < 256
  ·have := len8_is x h0 h
   exact ⟨len8 x, j0_byte x c h0 h hc (by omega), this.2.1, by have := this.2.2; omega⟩
  ·have h2 := len8_is (x / 256) (by omega) (by omega)
   refine ⟨len8 (x / 256) + (8 : Nat), ?_, BitLen.shift 8 (by show (x : Int) ≥ 256; omega) h2.2.1, by have := h2.2.2; omega⟩
   rw [j0_two x c (by omega) (by omega) hc (by omega)]
   congr 1
   omega
 by_cases h : x < 65536
 ·obtain ⟨L, h2, h3, h4⟩ := two x c h0 h hc (by omega)
  exact ⟨L, h2, h3, by omega⟩
 ·obtain ⟨L, h2, h3, h4⟩ := two (x / 65536) (c + 16) (by omega) (by omega) (by omega) (by omega)
  refine ⟨L + (16 : Nat), ?_, BitLen.shift 16 (by show (x : Int) ≥ 65536; omega) h3, by omega⟩
  rw [j0_four x c (by omega) h1 hc hc1, h2]
  congr 1
  omega
theorem len64_is (x : Int) (h0 : 0 ≤ x) (h1 : x < 18446744073709551616) : ∃ L, bits_Len64.f 1 x = some L ∧ BitLen x L ∧ L ≤ 64 := by
 unfold bits_Len64.f
 by_cases h : x < 4294967296
 ·obtain ⟨L, h2, h3, h4⟩ := j0_is x 0 h0 h (by omega) (by omega)
  exact ⟨L, by rw [if_neg (by omega), h2]; congr 1; omega, h3, by omega⟩
 ·obtain ⟨L, h2, h3, h4⟩ := j0_is (x / 4294967296) 32 (by omega) (by omega) (by omega) (by omega)
  refine ⟨L + (32 : Nat), ?_, BitLen.shift 32 (by show (x : Int) ≥ 4294967296; omega) h3, by omega⟩
  rw [if_pos (by omega), h2]
  congr 1
  omega
section
open Go.Shelf
attribute [local go_sem] Oper.semAt_some
def Keep2 (lo b : Nat) (W W' : World) : Prop := Below lo W W' ∧ W'.heap[b]? = W.heap[b]?
theorem Keep2.trans {lo b : Nat} {A B C : World} (h : Keep2 lo b A B) (k : Keep2 lo b B C) : Keep2 lo b A C := ⟨h.1.trans k.1, k.2.trans h.2⟩
theorem Keep2.other {lo b : Nat} {w : World} (hlo : lo ≤ w.heap.size) (hb : b < w.heap.size) (W : World) (l : Nat) (o o' : Obj) (hl : w.heap.size ≤ l) (ho : W.heap[l]? = some o) (hc : o.isCells = false) (hw : o.isWalk = false) : Keep2 lo b W (W.putObj l o') :=
 ⟨belowK_b (w := w) hlo W l o o' hl ho hc hw, World.putObj_heap_other (by omega)⟩
abbrev Sh := { x : Int // 0 ≤ x ∧ x < 64 }
def shOf (x : Int) : Sh := if h : 0 ≤ x ∧ x < 64 then ⟨x, h⟩ else ⟨0, by omega⟩
theorem shOf_val (x : Int) (h : 0 ≤ x ∧ x < 64) : (shOf x).1 = x := by unfold shOf; rw [dif_pos h]
def shiftsUp (size k : Nat) : List Sh := (List.range k).map fun (i : Nat) => shOf (8 * ((size : Int) - 1 - i))
def shiftsOf (size : Nat) : List Sh := shiftsUp size size
theorem shiftsUp_succ (size k : Nat) : shiftsUp size (k + 1) = shiftsUp size k ++ [shOf (8 * ((size : Int) - 1 - k))] := by simp [shiftsUp, List.range_succ]
theorem shiftsUp_length (size k : Nat) : (shiftsUp size k).length = k := by simp [shiftsUp]
set_option maxRecDepth 100000 in
set_option maxHeartbeats 1000000 in
theorem octets_shifts1_in (n : Nat) (hn : 1 ≤ n) (l Bn lo : Nat) (size : Nat) (hs : size ≤ 8) (J Jx : List Sh → World → Prop)
  (hY : ∀ pre x W, J pre W → pre.length < size → YieldAt Fence.wide (n - 1) Try.prog l #[.int .i64 x.1] W fun e W' =>
   (e = .returned (.bool true) ∧ J (pre ++ [x]) W' ∧ Keep2 lo Bn W W') ∨ (e = .returned (.bool false) ∧ Jx (pre ++ [x]) W'))
  (W : World) (hBn : W.cell? ⟨Bn, 0, none⟩ = some (.int .i64 (size : Int))) (h0 : J [] W) :
  CallsIn Fence.wide n Try.prog 101 #[.func (.yield l) #[] #[], .pointer (some ⟨Bn, 0, none⟩)] W fun e W' => (∃ v, e = .returned v) ∧
   ((∃ ys, ys = shiftsOf size ∧ J ys W') ∨ (∃ pre, True ∧ Jx pre W')) := by
 refine callsIn_of_wp Try.func101 rfl trivial ?_ rfl
 simp only [Try.ntmps101, List.size_toArray, List.length_cons, List.length_nil, Nat.reduceAdd, Nat.reduceSub, Array.replicate_succ, Array.replicate_zero, List.push_toArray, List.append_toArray, List.nil_append, List.cons_append]
 gi_wp2
 gi_loopw [5] (fun i wr => ∃ k : Nat, k ≤ size ∧ i = .int .i64 (k : Int) ∧ J (shiftsUp size k) wr ∧ Keep2 lo Bn W wr) (fun i _ => size - (intOf i).toNat)
 case atStart => exact ⟨0, Nat.zero_le _, rfl, h0, Below.refl _ _, rfl⟩
 case round =>
  obtain ⟨k, hk, rfl, hJs, hnx⟩ := hrel
  have hcx : wr.cell? ⟨Bn, 0, none⟩ = some (.int .i64 (size : Int)) := (World.cell?_of_block (a := ⟨Bn, 0, none⟩) hnx.2).trans hBn
  have HNX := Aside0.mk hnx
  clear hnx
  by_cases hlt : k < size
  ·obtain ⟨fn, tmps, assign, body, hy, hR⟩ := hY _ (shOf (8 * ((size : Int) - 1 - k))) wr hJs (by rw [shiftsUp_length]; exact hlt)
   rw [shOf_val _ (by omega)] at hy
   gi_wp2
   refine hR.mono ?_
   rintro e W3 (⟨rfl, hJ3, hk3⟩ | ⟨rfl, hJx3⟩)
   ·have HK3 := Aside0.mk hk3
    clear hk3
    gi_wp2
    go_roundw
    case rel => exact ⟨k + 1, by omega, by push_cast; rfl, by rw [shiftsUp_succ]; exact hJ3, HNX.out.trans HK3.out⟩
    case measure => simp [intOf]; omega
   ·gi_wp2
    refine bodyPost_ret (results_none rfl _ _ _) rfl ?_
    exact ⟨⟨_, rfl⟩, .inr ⟨_, trivial, hJx3⟩⟩
  ·obtain rfl : k = size := by omega
   gi_wp2
   go_end0
   exact ⟨⟨_, rfl⟩, .inl ⟨_, rfl, hJs⟩⟩
set_option maxHeartbeats 1000000 in
theorem octets_shifts_in (n : Nat) (size : Int) (w : World) :
  CallsIn Fence.wide n Try.prog 95 #[.int .i64 size] w fun e w' => e = .returned (.func (.func 101) #[] #[.pointer (some ⟨w.heap.size, 0, none⟩)]) ∧ w' = w.alloc (.cells #[.int .i64 size] 3) := by
 refine callsIn_of_wp Try.func95 rfl trivial ?_ rfl
 simp only [Try.ntmps95, List.size_toArray, List.length_cons, List.length_nil, Nat.reduceAdd, Nat.reduceSub, Array.replicate_succ, Array.replicate_zero, List.push_toArray, List.append_toArray, List.nil_append, List.cons_append]
 gi_wp2
 go_ret
 exact ⟨rfl, rfl⟩
def beOf (n : Int) (l : List Sh) : List Int := l.map fun s => (n / 2 ^ s.1.toNat) % 256
theorem beOf_snoc (n : Int) (l : List Sh) (s : Sh) : beOf n (l ++ [s]) = beOf n l ++ [(n / 2 ^ s.1.toNat) % 256] := by simp [beOf]
theorem beOf_length (n : Int) (l : List Sh) : (beOf n l).length = l.length := by simp [beOf]
def octets_Put.f (a0 a1 : Int) : Option (List Int × Int) :=
 if 0 ≤ a0 ∧ a0 < 18446744073709551616 then (if a1 < 1 ∨ a1 > 8 ∨ a0 ≥ 2 ^ (8 * a1.toNat) then some ([], 4) else some (beOf a0 (shiftsOf a1.toNat), 0)) else none
theorem put_close {a0 : Int} {size : Nat} {w W w1 : World} {B : Nat} {pre : List Sh} {x : Sh} {v v' : Value} {tmp : Obj} (hn0 : Boxed W w.heap.size 119 (.int .u64 a0)) (hs0 : Boxed W (w.heap.size + 1 + 1) 3 (.int .i64 (size : Int))) (hB : Below w.heap.size w W)
  (hrow : W.ownsRow (w.heap.size + 3) 5 1 v pre.length (nums .u8 (beOf a0 pre)))
  (HF : Boxed (w1.setCell ⟨w.heap.size + 1, 0, none⟩ v') (w.heap.size + 1) 26 v' ∧ (w1.setCell ⟨w.heap.size + 1, 0, none⟩ v').ownsRow (w.heap.size + 3) 5 1 v' (pre.length + 1) (nums .u8 (beOf a0 pre) ++ [.int .u8 (IntKind.u8.wrap (a0 / 2 ^ x.1.toNat))]) ∧ KeepsOthers W (w1.setCell ⟨w.heap.size + 1, 0, none⟩ v') ∧ Below w.heap.size W (w1.setCell ⟨w.heap.size + 1, 0, none⟩ v') ∧ (W.alloc tmp).grownBy w1 v.ownBlock) :
  KeepsFrom B W (w1.setCell ⟨w.heap.size + 1, 0, none⟩ v') ∧ Keep2 w.heap.size (w.heap.size + 1 + 1) W (w1.setCell ⟨w.heap.size + 1, 0, none⟩ v') ∧
   ((∃ v, Boxed (w1.setCell ⟨w.heap.size + 1, 0, none⟩ v') (w.heap.size + 1) 26 v ∧ (w1.setCell ⟨w.heap.size + 1, 0, none⟩ v').ownsRow (w.heap.size + 3) 5 1 v (pre ++ [x]).length (nums .u8 (beOf a0 (pre ++ [x]))) ∧ True) ∧ Boxed (w1.setCell ⟨w.heap.size + 1, 0, none⟩ v') w.heap.size 119 (.int .u64 a0) ∧ Boxed (w1.setCell ⟨w.heap.size + 1, 0, none⟩ v') (w.heap.size + 1 + 1) 3 (.int .i64 (size : Int)) ∧ Below w.heap.size w (w1.setCell ⟨w.heap.size + 1, 0, none⟩ v')) := by
 obtain ⟨hv2, hr3, hk2, hb2, hgrow⟩ := HF
 have hN := ((hn0.alloc tmp).kept hgrow (hn0.not_row (by decide) hrow)).kept (grownBy_setCell' w1 (w.heap.size + 1) v') (by simp)
 have hS := ((hs0.alloc tmp).kept hgrow (hs0.not_row (by decide) hrow)).kept (grownBy_setCell' w1 (w.heap.size + 1) v') (by simp)
 have hwr : IntKind.u8.wrap (a0 / 2 ^ x.1.toNat) = (a0 / 2 ^ x.1.toNat) % 256 := by simp [IntKind.wrap, IntKind.bits, IntKind.signed]
 refine ⟨hk2.from _, ⟨hb2, (show _ = _ from hS).trans (show _ = _ from hs0).symm⟩, ⟨v', hv2, ?_, trivial⟩, hN, hS, hB.trans hb2⟩
 rw [beOf_snoc, nums_append, List.length_append, List.length_singleton]
 rw [hwr] at hr3
 exact hr3
set_option maxRecDepth 100000 in
set_option maxHeartbeats 4000000 in
theorem octets_Put.calls (a0 a1 : Int) (r1 : List Int) (r2 : Int) (w : World) (h : octets_Put.f a0 a1 = some (r1, r2)) : Calls Try.prog 81 #[.int .u64 a0, .int .i64 a1] w fun e w' => ∃ v0_ : Value, e = .returned (.tuple #[v0_, .int .i64 r2]) ∧ Kd.R (Kd.int .u8) 5 w' w.heap.size (fun _ => True) v0_ r1 ∧ Below w.heap.size w w' := by
 unfold octets_Put.f at h
 by_cases hn : 0 ≤ a0 ∧ a0 < 18446744073709551616
 case neg => rw [if_neg hn] at h; cases h
 rw [if_pos hn] at h
 obtain ⟨L, hL1, hL2, hL3⟩ := len64_is a0 hn.1 hn.2
 have HL1 := Aside0.mk hL1
 clear hL1
 by_cases hbad : a1 < 1 ∨ a1 > 8 ∨ a0 ≥ 2 ^ (8 * a1.toNat)
 ·rw [if_pos hbad] at h
  cases h
  by_cases h1 : a1 < 1
  ·clear hbad
   go_enter Try.func81, Try.ntmps81
   go_wp2
   go_ret2
   exact ⟨_, rfl, Kd.R_nil _ _ _ _ _, below_alloc (Below.refl _ _) _⟩
  ·by_cases h8 : a1 > 8
   ·clear hbad
    go_enter Try.func81, Try.ntmps81
    go_wp2
    go_ret2
    exact ⟨_, rfl, Kd.R_nil _ _ _ _ _, below_alloc (Below.refl _ _) _⟩
   ·have hb : a0 ≥ 2 ^ (8 * a1.toNat) := by rcases hbad with h | h | h <;> first | exact absurd h (by omega) | exact h
    have hL : L > 8 * a1 := by have := (hL2.2 (8 * a1.toNat)).mpr hb; push_cast at this; omega
    have hLd : decide (8 * a1 < L) = true := by simp; omega
    clear hbad hb hL2
    go_enter Try.func81, Try.ntmps81
    go_wp2_with (go_at_call 94; refine (bits_Len64.calls 1 a0 L _ HL1.out).mono ?_; rintro e w' ⟨rfl, ⟨nd, rfl⟩⟩)
    go_ret2
    exact ⟨_, rfl, Kd.R_nil _ _ _ _ _, pw_below_drewN (below_alloc (Below.refl _ _) _) _⟩
 ·rw [if_neg hbad] at h
  cases h
  obtain ⟨size, rfl⟩ : ∃ s : Nat, a1 = (s : Int) := ⟨a1.toNat, by omega⟩
  have hs1 : 1 ≤ size := by omega
  have hs8 : size ≤ 8 := by omega
  have hLle : L ≤ 8 * (size : Int) := by
   have := hL2.2 (8 * size)
   have h2 : ¬ (L > ((8 * size : Nat) : Int)) := fun hc => hbad (.inr (.inr (by simpa using this.mp hc)))
   push_cast at h2
   omega
  have hLd : decide (8 * (size : Int) < L) = false := by simp; omega
  clear hbad hL2
  have hi1 : decide ((size : Int) < 1) = false := by simp; omega
  have hi8 : decide (8 < (size : Int)) = false := by simp; omega
  simp only [Int.toNat_natCast]
  refine (callsIn_wide (n := 6)).1 ?_
  refine callsIn_of_wp_marks Try.func81 rfl trivial ?_ rfl
  simp only [Try.ntmps81, List.size_toArray, List.length_cons, List.length_nil, Nat.reduceAdd, Nat.reduceSub, Array.replicate_succ, Array.replicate_zero, List.push_toArray, List.append_toArray, List.nil_append, List.cons_append]
  gi_wp2_with (first
   | (refine ⟨trivial, ?_⟩; gi_at_call 94; refine (callsIn_wide.2 (bits_Len64.calls 1 a0 L _ HL1.out)).mono ?_; rintro e w' ⟨rfl, ⟨nd, rfl⟩⟩)
   | (refine ⟨trivial, ?_⟩; gi_at_call 95; refine (octets_shifts_in 5 _ _).mono ?_; rintro e w' ⟨rfl, rfl⟩))
  have bN := (Boxed.new w 119 (.int .u64 a0))
  have bB := (Boxed.new ((w.alloc (.cells #[.int .u64 a0] 119)).drewN nd) 26 (.slice none 0 0))
  have bS := (Boxed.new ((((w.alloc (.cells #[.int .u64 a0] 119)).drewN nd).alloc (.cells #[.slice none 0 0] 26))) 3 (.int .i64 (size : Int)))
  obtain ⟨W3, hW3⟩ : ∃ W3, W3 = ((((w.alloc (.cells #[.int .u64 a0] 119)).drewN nd).alloc (.cells #[.slice none 0 0] 26)).alloc (.cells #[.int .i64 (size : Int)] 3)) := ⟨_, rfl⟩
  have hB3 : Below w.heap.size w W3 := by rw [hW3]; exact below_alloc (below_alloc (pw_below_drewN (below_alloc (Below.refl _ _) _) _) _) _
  have hz3 : W3.heap.size = w.heap.size + 3 := by rw [hW3]; simp
  rw [show ((w.alloc (.cells #[.int .u64 a0] 119)).drewN nd).heap.size = w.heap.size + 1 from World.size_alloc _ _] at bB
  rw [World.size_alloc, show ((w.alloc (.cells #[.int .u64 a0] 119)).drewN nd).heap.size = w.heap.size + 1 from World.size_alloc _ _] at bS
  rw [← hW3] at bS ⊢
  have bN3 : Boxed W3 w.heap.size 119 (.int .u64 a0) := by rw [hW3]; exact (Boxed.alloc (Boxed.alloc (show Boxed ((w.alloc (.cells #[.int .u64 a0] 119)).drewN nd) w.heap.size 119 (.int .u64 a0) from bN) _) _)
  have bB3 : Boxed W3 (w.heap.size + 1) 26 (.slice none 0 0) := by rw [hW3]; exact Boxed.alloc bB _
  clear hW3 bN bB
  have hinfo : (Try.prog.info? 5).map (fun i => (i.zero, i.size, i.bytes)) = some (some (.int .u8 0), 1, 1) := by kernel_rfl
  obtain ⟨i0, hi, hz0, hz1, hz2⟩ := info_parts hinfo
  have HLT := Aside0.mk hn
  clear hinfo hn HL1 hL3 hLle hLd hi1 hi8
  refine wpIn_rangeFunc_ownG (α := Sh) rfl (by decide) (gf := 101) (lb := #[.pointer (some ⟨w.heap.size + 1 + 1, 0, none⟩)]) rfl trivial (enters_of Try.func101 (by kernel_rfl) rfl)
   (encs := fun x => #[.int .i64 x.1]) (Kp := Keep2 w.heap.size (w.heap.size + 1 + 1)) (S := fun ys => ys = shiftsOf size) (Sp := fun _ => True) (N := size) (w0 := W3)
   (fun l J Jx W hW _ _ hY h0 => octets_shifts1_in _ (by decide) l (w.heap.size + 1 + 1) w.heap.size size hs8 J Jx hY W ((hW.cell (p := ⟨w.heap.size + 1 + 1, 0, none⟩) (by show w.heap.size + 1 + 1 < _; omega)).trans bS.cell) h0)
   Keep2.trans (Keep2.other (by omega) (by omega)) (Below.refl _ _) (fun _ => rfl)
   (fun pre W => (∃ v, Boxed W (w.heap.size + 1) 26 v ∧ W.ownsRow (w.heap.size + 3) 5 1 v pre.length (nums .u8 (beOf a0 pre)) ∧ True) ∧ Boxed W w.heap.size 119 (.int .u64 a0) ∧ Boxed W (w.heap.size + 1 + 1) 3 (.int .i64 (size : Int)) ∧ Below w.heap.size w W)
   (fun _ _ _ => False)
   (OwnFrom.and (Own.from (holdsRow_own (w.heap.size + 3) (w.heap.size + 1) 26 5 1 (fun pre => pre.length) (fun pre => nums .u8 (beOf a0 pre)) (fun _ _ => True)) _) (OwnFrom.and (Own.from (boxed_own _ _ (fun _ => .int .u64 a0)) _) (OwnFrom.and (Own.from (boxed_own _ _ (fun _ => .int .i64 (size : Int))) _) (ownFrom_below (Nat.le_refl _) (by omega)))))
   (fun _ _ _ _ _ hs _ _ => hs)
   ⟨⟨_, bB3, World.ownsRow_nil _ _ _ _, trivial⟩, bN3, bS, hB3⟩
   (fun x => { tmps := #[.int .u64 a0, .int .i64 (size : Int), .pointer (some ⟨w.heap.size, 0, none⟩), undef, .slice none 0 0, .int .i64 0, .pointer (some ⟨w.heap.size + 1, 0, none⟩), .int .i64 x.1, .int .i64 (size : Int), .bool false, .bool false, .int .i64 (size : Int), .bool false, .bool false, .bool false, .int .u64 a0, .int .i64 L, .int .i64 (size : Int), .int .i64 (8 * (size : Int)), .bool false, .bool false, .int .i64 (size : Int), .func (.func 101) #[] #[.pointer (some ⟨w.heap.size + 1 + 1, 0, none⟩)], .int .i64 x.1, undef, undef, undef, undef, undef, undef, undef, undef], defers := [] }) ?assign ?body ?done ?stop
  case assign =>
   intro l x W K hK
   gi_wp2
   exact hK
  case stop =>
   rintro D c pre W _ _ h _
   exact h.elim
  case done =>
   rintro D ys W hD rfl ⟨⟨v, hv, hrow, _⟩, hn0, hs0, hB⟩ hK
   have hc := hv.cell
   gi_wp2
   refine ⟨by simp, .inl ⟨_, _, rfl, run_takeDeferred hK, ?_⟩⟩
   exact ⟨_, results_tmp2 rfl _ _ _, v, rfl, Kd.R_of_own (by rw [beOf_length]; exact ownsRow_putObj (own_weaken hrow (by omega)) _ hK rfl) (fun _ _ => trivial), hB.trans (belowK_b (w := w) (Nat.le_refl _) W D _ _ (by omega) hK rfl rfl)⟩
  case body =>
   rintro l pre x W ⟨⟨v, hv, hrow, _⟩, hn0, hs0, hB⟩ hlt
   have hc := hv.cell
   have hcn := hn0.cell
   obtain ⟨x, hx0, hx1⟩ := x
   gi_wp2
   have hsz := hB.size
   have hW3 : w.heap.size + 1 + 1 < W.heap.size := hs0.lt
   have hrow1 : W.drew.ownsRow (w.heap.size + 3) 5 1 v pre.length (nums .u8 (beOf a0 pre)) := hrow
   have HRW := Aside0.mk hrow
   have hcA := (Boxed.alloc hv (.cells #[.int .u8 (IntKind.u8.wrap (a0 / 2 ^ x.toNat))] 5)).cell
   clear hrow
   refine wpIn_region_any (by kernel_rfl) ?_
   refine wpAnyIn_ready (rs := [0, 1, 2]) (by kernel_rfl) (by simp) ?_
   refine AllReadyIn.cons rfl (fun K hK => ?_) ?_
   ·go_simp
    refine hK _ _ ?_
    clear hK K
    refine wpAnyIn_ready (rs := [1, 2]) (by kernel_rfl) (by simp) ?_
    refine AllReadyIn.cons rfl (fun K hK => ?_) ?_
    ·go_simp
     refine hK _ _ ?_
     clear hK K
     refine wpAnyIn_ready (rs := [2]) (by kernel_rfl) (by simp) ?_
     refine AllReadyIn.cons rfl (fun K hK => ?_) ?_
     ·go_simp
      refine hK _ _ ?_
      clear hK K
      refine wpAnyIn_ready (rs := [3]) (by kernel_rfl) (by simp) ?_
      refine AllReadyIn.cons rfl (fun K hK => ?_) ?_
      ·go_simp
       refine hK _ _ ?_
       clear hK K
       refine wpAnyIn_ready (rs := [4]) (by kernel_rfl) (by simp) ?_
       refine AllReadyIn.cons rfl (fun K hK => ?_) ?_
       ·go_simp
        refine hK _ _ ?_
        clear hK K
        refine wpAnyIn_ready (rs := [5]) (by kernel_rfl) (by simp) ?_
        refine AllReadyIn.cons rfl (fun K hK => ?_) ?_
        ·go_simp
         refine hK _ _ ?_
         clear hK K
         refine wpAnyIn_ready (rs := [6]) (by kernel_rfl) (by simp) ?_
         refine AllReadyIn.cons rfl (fun K hK => ?_) ?_
         ·refine stepIn_append_own (w := W.drew.alloc (.cells #[.int .u8 (IntKind.u8.wrap (a0 / 2 ^ x.toNat))] 5)) rfl (.tmp 24) (.tmp 29) 26 rfl (w.heap.size + 3) 5 i0 (.int .u8 0) 1 1 Try.underlying26 hi hz0 hz1 hz2 rfl (by decide) v pre.length (nums .u8 (beOf a0 pre)) rfl (hrow1.alloc _) ⟨W.heap.size, 0, none⟩ 1 1 [.int .u8 (IntKind.u8.wrap (a0 / 2 ^ x.toNat))] rfl rfl (cell_one_new _ _ _) (by simp [Value.oneCell']) (by simp only [maxLen]; omega) (by omega) (by simp; omega) ?_
          intro v' w1 hown' hgrow0 _
          have hgrow : (W.alloc (.cells #[.int .u8 (IntKind.u8.wrap (a0 / 2 ^ x.toNat))] 5)).grownBy w1 v.ownBlock := ⟨hgrow0.os, hgrow0.tape, hgrow0.output, hgrow0.size, hgrow0.block⟩
          clear hgrow0
          refine hK _ _ ?_
          clear hK K
          obtain ⟨g', cap', rfl⟩ := ownsRow_succ hown'
          obtain ⟨hv1, hv2, hr2, hk2, hb2⟩ := hv.appended (W := W) (n₀ := w.heap.size) (by decide) (own_weaken HRW.out (by omega)) (by omega) (by omega) (own_weaken hown' (by omega)) hgrow
          have hr3 := hown'.kept (grownBy_setCell' w1 (w.heap.size + 1) (.slice (some ⟨g', 0, none⟩) (pre.length + 1) cap')) (.inr (hv1.not_row (by decide) hown').symm)
          have HF := Aside0.mk (And.intro hv2 (And.intro hr3 (And.intro hk2 (And.intro hb2 hgrow))))
          clear hr2 hv2 hr3 hk2 hb2 hgrow hown'
          have hc1 := hv1.cell
          have hf1 := hv1.frozen
          refine wpAnyIn_ready (rs := [7]) (by kernel_rfl) (by simp) ?_
          refine AllReadyIn.cons rfl (fun K hK => ?_) ?_
          ·go_simp
           refine hK _ _ ?_
           clear hK K
           refine wpAnyIn_done (by kernel_rfl) ?_ _
           exact put_close (x := ⟨x, hx0, hx1⟩) hn0 hs0 hB HRW.out HF.out
          exact AllReadyIn.nil
         exact AllReadyIn.nil
        exact AllReadyIn.nil
       exact AllReadyIn.nil
      exact AllReadyIn.nil
     exact AllReadyIn.nil
    refine AllReadyIn.cons rfl (fun K hK => ?_) ?_
    ·go_simp
     refine hK _ _ ?_
     clear hK K
     refine wpAnyIn_ready (rs := [1]) (by kernel_rfl) (by simp) ?_
     refine AllReadyIn.cons rfl (fun K hK => ?_) ?_
     ·go_simp
      refine hK _ _ ?_
      clear hK K
      refine wpAnyIn_ready (rs := [3]) (by kernel_rfl) (by simp) ?_
      refine AllReadyIn.cons rfl (fun K hK => ?_) ?_
      ·go_simp
       refine hK _ _ ?_
       clear hK K
       refine wpAnyIn_ready (rs := [4]) (by kernel_rfl) (by simp) ?_
       refine AllReadyIn.cons rfl (fun K hK => ?_) ?_
       ·go_simp
        refine hK _ _ ?_
        clear hK K
        refine wpAnyIn_ready (rs := [5]) (by kernel_rfl) (by simp) ?_
        refine AllReadyIn.cons rfl (fun K hK => ?_) ?_
        ·go_simp
         refine hK _ _ ?_
         clear hK K
         refine wpAnyIn_ready (rs := [6]) (by kernel_rfl) (by simp) ?_
         refine AllReadyIn.cons rfl (fun K hK => ?_) ?_
         ·refine stepIn_append_own (w := W.drew.alloc (.cells #[.int .u8 (IntKind.u8.wrap (a0 / 2 ^ x.toNat))] 5)) rfl (.tmp 24) (.tmp 29) 26 rfl (w.heap.size + 3) 5 i0 (.int .u8 0) 1 1 Try.underlying26 hi hz0 hz1 hz2 rfl (by decide) v pre.length (nums .u8 (beOf a0 pre)) rfl (hrow1.alloc _) ⟨W.heap.size, 0, none⟩ 1 1 [.int .u8 (IntKind.u8.wrap (a0 / 2 ^ x.toNat))] rfl rfl (cell_one_new _ _ _) (by simp [Value.oneCell']) (by simp only [maxLen]; omega) (by omega) (by simp; omega) ?_
          intro v' w1 hown' hgrow0 _
          have hgrow : (W.alloc (.cells #[.int .u8 (IntKind.u8.wrap (a0 / 2 ^ x.toNat))] 5)).grownBy w1 v.ownBlock := ⟨hgrow0.os, hgrow0.tape, hgrow0.output, hgrow0.size, hgrow0.block⟩
          clear hgrow0
          refine hK _ _ ?_
          clear hK K
          obtain ⟨g', cap', rfl⟩ := ownsRow_succ hown'
          obtain ⟨hv1, hv2, hr2, hk2, hb2⟩ := hv.appended (W := W) (n₀ := w.heap.size) (by decide) (own_weaken HRW.out (by omega)) (by omega) (by omega) (own_weaken hown' (by omega)) hgrow
          have hr3 := hown'.kept (grownBy_setCell' w1 (w.heap.size + 1) (.slice (some ⟨g', 0, none⟩) (pre.length + 1) cap')) (.inr (hv1.not_row (by decide) hown').symm)
          have HF := Aside0.mk (And.intro hv2 (And.intro hr3 (And.intro hk2 (And.intro hb2 hgrow))))
          clear hr2 hv2 hr3 hk2 hb2 hgrow hown'
          have hc1 := hv1.cell
          have hf1 := hv1.frozen
          refine wpAnyIn_ready (rs := [7]) (by kernel_rfl) (by simp) ?_
          refine AllReadyIn.cons rfl (fun K hK => ?_) ?_
          ·go_simp
           refine hK _ _ ?_
           clear hK K
           refine wpAnyIn_done (by kernel_rfl) ?_ _
           exact put_close (x := ⟨x, hx0, hx1⟩) hn0 hs0 hB HRW.out HF.out
          exact AllReadyIn.nil
         exact AllReadyIn.nil
        exact AllReadyIn.nil
       exact AllReadyIn.nil
      exact AllReadyIn.nil
     exact AllReadyIn.nil
    exact AllReadyIn.nil
   refine AllReadyIn.cons rfl (fun K hK => ?_) ?_
   ·go_simp
    refine hK _ _ ?_
    clear hK K
    refine wpAnyIn_ready (rs := [0, 2]) (by kernel_rfl) (by simp) ?_
    refine AllReadyIn.cons rfl (fun K hK => ?_) ?_
    ·go_simp
     refine hK _ _ ?_
     clear hK K
     refine wpAnyIn_ready (rs := [2]) (by kernel_rfl) (by simp) ?_
     refine AllReadyIn.cons rfl (fun K hK => ?_) ?_
     ·go_simp
      refine hK _ _ ?_
      clear hK K
      refine wpAnyIn_ready (rs := [3]) (by kernel_rfl) (by simp) ?_
      refine AllReadyIn.cons rfl (fun K hK => ?_) ?_
      ·go_simp
       refine hK _ _ ?_
       clear hK K
       refine wpAnyIn_ready (rs := [4]) (by kernel_rfl) (by simp) ?_
       refine AllReadyIn.cons rfl (fun K hK => ?_) ?_
       ·go_simp
        refine hK _ _ ?_
        clear hK K
        refine wpAnyIn_ready (rs := [5]) (by kernel_rfl) (by simp) ?_
        refine AllReadyIn.cons rfl (fun K hK => ?_) ?_
        ·go_simp
         refine hK _ _ ?_
         clear hK K
         refine wpAnyIn_ready (rs := [6]) (by kernel_rfl) (by simp) ?_
         refine AllReadyIn.cons rfl (fun K hK => ?_) ?_
         ·refine stepIn_append_own (w := W.drew.alloc (.cells #[.int .u8 (IntKind.u8.wrap (a0 / 2 ^ x.toNat))] 5)) rfl (.tmp 24) (.tmp 29) 26 rfl (w.heap.size + 3) 5 i0 (.int .u8 0) 1 1 Try.underlying26 hi hz0 hz1 hz2 rfl (by decide) v pre.length (nums .u8 (beOf a0 pre)) rfl (hrow1.alloc _) ⟨W.heap.size, 0, none⟩ 1 1 [.int .u8 (IntKind.u8.wrap (a0 / 2 ^ x.toNat))] rfl rfl (cell_one_new _ _ _) (by simp [Value.oneCell']) (by simp only [maxLen]; omega) (by omega) (by simp; omega) ?_
          intro v' w1 hown' hgrow0 _
          have hgrow : (W.alloc (.cells #[.int .u8 (IntKind.u8.wrap (a0 / 2 ^ x.toNat))] 5)).grownBy w1 v.ownBlock := ⟨hgrow0.os, hgrow0.tape, hgrow0.output, hgrow0.size, hgrow0.block⟩
          clear hgrow0
          refine hK _ _ ?_
          clear hK K
          obtain ⟨g', cap', rfl⟩ := ownsRow_succ hown'
          obtain ⟨hv1, hv2, hr2, hk2, hb2⟩ := hv.appended (W := W) (n₀ := w.heap.size) (by decide) (own_weaken HRW.out (by omega)) (by omega) (by omega) (own_weaken hown' (by omega)) hgrow
          have hr3 := hown'.kept (grownBy_setCell' w1 (w.heap.size + 1) (.slice (some ⟨g', 0, none⟩) (pre.length + 1) cap')) (.inr (hv1.not_row (by decide) hown').symm)
          have HF := Aside0.mk (And.intro hv2 (And.intro hr3 (And.intro hk2 (And.intro hb2 hgrow))))
          clear hr2 hv2 hr3 hk2 hb2 hgrow hown'
          have hc1 := hv1.cell
          have hf1 := hv1.frozen
          refine wpAnyIn_ready (rs := [7]) (by kernel_rfl) (by simp) ?_
          refine AllReadyIn.cons rfl (fun K hK => ?_) ?_
          ·go_simp
           refine hK _ _ ?_
           clear hK K
           refine wpAnyIn_done (by kernel_rfl) ?_ _
           exact put_close (x := ⟨x, hx0, hx1⟩) hn0 hs0 hB HRW.out HF.out
          exact AllReadyIn.nil
         exact AllReadyIn.nil
        exact AllReadyIn.nil
       exact AllReadyIn.nil
      exact AllReadyIn.nil
     exact AllReadyIn.nil
    refine AllReadyIn.cons rfl (fun K hK => ?_) ?_
    ·go_simp
     refine hK _ _ ?_
     clear hK K
     refine wpAnyIn_ready (rs := [0, 3]) (by kernel_rfl) (by simp) ?_
     refine AllReadyIn.cons rfl (fun K hK => ?_) ?_
     ·go_simp
      refine hK _ _ ?_
      clear hK K
      refine wpAnyIn_ready (rs := [3]) (by kernel_rfl) (by simp) ?_
      refine AllReadyIn.cons rfl (fun K hK => ?_) ?_
      ·go_simp
       refine hK _ _ ?_
       clear hK K
       refine wpAnyIn_ready (rs := [4]) (by kernel_rfl) (by simp) ?_
       refine AllReadyIn.cons rfl (fun K hK => ?_) ?_
       ·go_simp
        refine hK _ _ ?_
        clear hK K
        refine wpAnyIn_ready (rs := [5]) (by kernel_rfl) (by simp) ?_
        refine AllReadyIn.cons rfl (fun K hK => ?_) ?_
        ·go_simp
         refine hK _ _ ?_
         clear hK K
         refine wpAnyIn_ready (rs := [6]) (by kernel_rfl) (by simp) ?_
         refine AllReadyIn.cons rfl (fun K hK => ?_) ?_
         ·refine stepIn_append_own (w := W.drew.alloc (.cells #[.int .u8 (IntKind.u8.wrap (a0 / 2 ^ x.toNat))] 5)) rfl (.tmp 24) (.tmp 29) 26 rfl (w.heap.size + 3) 5 i0 (.int .u8 0) 1 1 Try.underlying26 hi hz0 hz1 hz2 rfl (by decide) v pre.length (nums .u8 (beOf a0 pre)) rfl (hrow1.alloc _) ⟨W.heap.size, 0, none⟩ 1 1 [.int .u8 (IntKind.u8.wrap (a0 / 2 ^ x.toNat))] rfl rfl (cell_one_new _ _ _) (by simp [Value.oneCell']) (by simp only [maxLen]; omega) (by omega) (by simp; omega) ?_
          intro v' w1 hown' hgrow0 _
          have hgrow : (W.alloc (.cells #[.int .u8 (IntKind.u8.wrap (a0 / 2 ^ x.toNat))] 5)).grownBy w1 v.ownBlock := ⟨hgrow0.os, hgrow0.tape, hgrow0.output, hgrow0.size, hgrow0.block⟩
          clear hgrow0
          refine hK _ _ ?_
          clear hK K
          obtain ⟨g', cap', rfl⟩ := ownsRow_succ hown'
          obtain ⟨hv1, hv2, hr2, hk2, hb2⟩ := hv.appended (W := W) (n₀ := w.heap.size) (by decide) (own_weaken HRW.out (by omega)) (by omega) (by omega) (own_weaken hown' (by omega)) hgrow
          have hr3 := hown'.kept (grownBy_setCell' w1 (w.heap.size + 1) (.slice (some ⟨g', 0, none⟩) (pre.length + 1) cap')) (.inr (hv1.not_row (by decide) hown').symm)
          have HF := Aside0.mk (And.intro hv2 (And.intro hr3 (And.intro hk2 (And.intro hb2 hgrow))))
          clear hr2 hv2 hr3 hk2 hb2 hgrow hown'
          have hc1 := hv1.cell
          have hf1 := hv1.frozen
          refine wpAnyIn_ready (rs := [7]) (by kernel_rfl) (by simp) ?_
          refine AllReadyIn.cons rfl (fun K hK => ?_) ?_
          ·go_simp
           refine hK _ _ ?_
           clear hK K
           refine wpAnyIn_done (by kernel_rfl) ?_ _
           exact put_close (x := ⟨x, hx0, hx1⟩) hn0 hs0 hB HRW.out HF.out
          exact AllReadyIn.nil
         exact AllReadyIn.nil
        exact AllReadyIn.nil
       exact AllReadyIn.nil
      exact AllReadyIn.nil
     refine AllReadyIn.cons rfl (fun K hK => ?_) ?_
     ·go_simp
      refine hK _ _ ?_
      clear hK K
      refine wpAnyIn_ready (rs := [0, 4]) (by kernel_rfl) (by simp) ?_
      refine AllReadyIn.cons rfl (fun K hK => ?_) ?_
      ·go_simp
       refine hK _ _ ?_
       clear hK K
       refine wpAnyIn_ready (rs := [4]) (by kernel_rfl) (by simp) ?_
       refine AllReadyIn.cons rfl (fun K hK => ?_) ?_
       ·go_simp
        refine hK _ _ ?_
        clear hK K
        refine wpAnyIn_ready (rs := [5]) (by kernel_rfl) (by simp) ?_
        refine AllReadyIn.cons rfl (fun K hK => ?_) ?_
        ·go_simp
         refine hK _ _ ?_
         clear hK K
         refine wpAnyIn_ready (rs := [6]) (by kernel_rfl) (by simp) ?_
         refine AllReadyIn.cons rfl (fun K hK => ?_) ?_
         ·refine stepIn_append_own (w := W.drew.alloc (.cells #[.int .u8 (IntKind.u8.wrap (a0 / 2 ^ x.toNat))] 5)) rfl (.tmp 24) (.tmp 29) 26 rfl (w.heap.size + 3) 5 i0 (.int .u8 0) 1 1 Try.underlying26 hi hz0 hz1 hz2 rfl (by decide) v pre.length (nums .u8 (beOf a0 pre)) rfl (hrow1.alloc _) ⟨W.heap.size, 0, none⟩ 1 1 [.int .u8 (IntKind.u8.wrap (a0 / 2 ^ x.toNat))] rfl rfl (cell_one_new _ _ _) (by simp [Value.oneCell']) (by simp only [maxLen]; omega) (by omega) (by simp; omega) ?_
          intro v' w1 hown' hgrow0 _
          have hgrow : (W.alloc (.cells #[.int .u8 (IntKind.u8.wrap (a0 / 2 ^ x.toNat))] 5)).grownBy w1 v.ownBlock := ⟨hgrow0.os, hgrow0.tape, hgrow0.output, hgrow0.size, hgrow0.block⟩
          clear hgrow0
          refine hK _ _ ?_
          clear hK K
          obtain ⟨g', cap', rfl⟩ := ownsRow_succ hown'
          obtain ⟨hv1, hv2, hr2, hk2, hb2⟩ := hv.appended (W := W) (n₀ := w.heap.size) (by decide) (own_weaken HRW.out (by omega)) (by omega) (by omega) (own_weaken hown' (by omega)) hgrow
          have hr3 := hown'.kept (grownBy_setCell' w1 (w.heap.size + 1) (.slice (some ⟨g', 0, none⟩) (pre.length + 1) cap')) (.inr (hv1.not_row (by decide) hown').symm)
          have HF := Aside0.mk (And.intro hv2 (And.intro hr3 (And.intro hk2 (And.intro hb2 hgrow))))
          clear hr2 hv2 hr3 hk2 hb2 hgrow hown'
          have hc1 := hv1.cell
          have hf1 := hv1.frozen
          refine wpAnyIn_ready (rs := [7]) (by kernel_rfl) (by simp) ?_
          refine AllReadyIn.cons rfl (fun K hK => ?_) ?_
          ·go_simp
           refine hK _ _ ?_
           clear hK K
           refine wpAnyIn_done (by kernel_rfl) ?_ _
           exact put_close (x := ⟨x, hx0, hx1⟩) hn0 hs0 hB HRW.out HF.out
          exact AllReadyIn.nil
         exact AllReadyIn.nil
        exact AllReadyIn.nil
       exact AllReadyIn.nil
      refine AllReadyIn.cons rfl (fun K hK => ?_) ?_
      ·go_simp
       refine hK _ _ ?_
       clear hK K
       refine wpAnyIn_ready (rs := [0, 5]) (by kernel_rfl) (by simp) ?_
       refine AllReadyIn.cons rfl (fun K hK => ?_) ?_
       ·go_simp
        refine hK _ _ ?_
        clear hK K
        refine wpAnyIn_ready (rs := [5]) (by kernel_rfl) (by simp) ?_
        refine AllReadyIn.cons rfl (fun K hK => ?_) ?_
        ·go_simp
         refine hK _ _ ?_
         clear hK K
         refine wpAnyIn_ready (rs := [6]) (by kernel_rfl) (by simp) ?_
         refine AllReadyIn.cons rfl (fun K hK => ?_) ?_
         ·refine stepIn_append_own (w := W.drew.alloc (.cells #[.int .u8 (IntKind.u8.wrap (a0 / 2 ^ x.toNat))] 5)) rfl (.tmp 24) (.tmp 29) 26 rfl (w.heap.size + 3) 5 i0 (.int .u8 0) 1 1 Try.underlying26 hi hz0 hz1 hz2 rfl (by decide) v pre.length (nums .u8 (beOf a0 pre)) rfl (hrow1.alloc _) ⟨W.heap.size, 0, none⟩ 1 1 [.int .u8 (IntKind.u8.wrap (a0 / 2 ^ x.toNat))] rfl rfl (cell_one_new _ _ _) (by simp [Value.oneCell']) (by simp only [maxLen]; omega) (by omega) (by simp; omega) ?_
          intro v' w1 hown' hgrow0 _
          have hgrow : (W.alloc (.cells #[.int .u8 (IntKind.u8.wrap (a0 / 2 ^ x.toNat))] 5)).grownBy w1 v.ownBlock := ⟨hgrow0.os, hgrow0.tape, hgrow0.output, hgrow0.size, hgrow0.block⟩
          clear hgrow0
          refine hK _ _ ?_
          clear hK K
          obtain ⟨g', cap', rfl⟩ := ownsRow_succ hown'
          obtain ⟨hv1, hv2, hr2, hk2, hb2⟩ := hv.appended (W := W) (n₀ := w.heap.size) (by decide) (own_weaken HRW.out (by omega)) (by omega) (by omega) (own_weaken hown' (by omega)) hgrow
          have hr3 := hown'.kept (grownBy_setCell' w1 (w.heap.size + 1) (.slice (some ⟨g', 0, none⟩) (pre.length + 1) cap')) (.inr (hv1.not_row (by decide) hown').symm)
          have HF := Aside0.mk (And.intro hv2 (And.intro hr3 (And.intro hk2 (And.intro hb2 hgrow))))
          clear hr2 hv2 hr3 hk2 hb2 hgrow hown'
          have hc1 := hv1.cell
          have hf1 := hv1.frozen
          refine wpAnyIn_ready (rs := [7]) (by kernel_rfl) (by simp) ?_
          refine AllReadyIn.cons rfl (fun K hK => ?_) ?_
          ·go_simp
           refine hK _ _ ?_
           clear hK K
           refine wpAnyIn_done (by kernel_rfl) ?_ _
           exact put_close (x := ⟨x, hx0, hx1⟩) hn0 hs0 hB HRW.out HF.out
          exact AllReadyIn.nil
         exact AllReadyIn.nil
        exact AllReadyIn.nil
       refine AllReadyIn.cons rfl (fun K hK => ?_) ?_
       ·go_simp
        refine hK _ _ ?_
        clear hK K
        refine wpAnyIn_ready (rs := [0]) (by kernel_rfl) (by simp) ?_
        refine AllReadyIn.cons rfl (fun K hK => ?_) ?_
        ·go_simp
         refine hK _ _ ?_
         clear hK K
         refine wpAnyIn_ready (rs := [6]) (by kernel_rfl) (by simp) ?_
         refine AllReadyIn.cons rfl (fun K hK => ?_) ?_
         ·refine stepIn_append_own (w := W.drew.alloc (.cells #[.int .u8 (IntKind.u8.wrap (a0 / 2 ^ x.toNat))] 5)) rfl (.tmp 24) (.tmp 29) 26 rfl (w.heap.size + 3) 5 i0 (.int .u8 0) 1 1 Try.underlying26 hi hz0 hz1 hz2 rfl (by decide) v pre.length (nums .u8 (beOf a0 pre)) rfl (hrow1.alloc _) ⟨W.heap.size, 0, none⟩ 1 1 [.int .u8 (IntKind.u8.wrap (a0 / 2 ^ x.toNat))] rfl rfl (cell_one_new _ _ _) (by simp [Value.oneCell']) (by simp only [maxLen]; omega) (by omega) (by simp; omega) ?_
          intro v' w1 hown' hgrow0 _
          have hgrow : (W.alloc (.cells #[.int .u8 (IntKind.u8.wrap (a0 / 2 ^ x.toNat))] 5)).grownBy w1 v.ownBlock := ⟨hgrow0.os, hgrow0.tape, hgrow0.output, hgrow0.size, hgrow0.block⟩
          clear hgrow0
          refine hK _ _ ?_
          clear hK K
          obtain ⟨g', cap', rfl⟩ := ownsRow_succ hown'
          obtain ⟨hv1, hv2, hr2, hk2, hb2⟩ := hv.appended (W := W) (n₀ := w.heap.size) (by decide) (own_weaken HRW.out (by omega)) (by omega) (by omega) (own_weaken hown' (by omega)) hgrow
          have hr3 := hown'.kept (grownBy_setCell' w1 (w.heap.size + 1) (.slice (some ⟨g', 0, none⟩) (pre.length + 1) cap')) (.inr (hv1.not_row (by decide) hown').symm)
          have HF := Aside0.mk (And.intro hv2 (And.intro hr3 (And.intro hk2 (And.intro hb2 hgrow))))
          clear hr2 hv2 hr3 hk2 hb2 hgrow hown'
          have hc1 := hv1.cell
          have hf1 := hv1.frozen
          refine wpAnyIn_ready (rs := [7]) (by kernel_rfl) (by simp) ?_
          refine AllReadyIn.cons rfl (fun K hK => ?_) ?_
          ·go_simp
           refine hK _ _ ?_
           clear hK K
           refine wpAnyIn_done (by kernel_rfl) ?_ _
           exact put_close (x := ⟨x, hx0, hx1⟩) hn0 hs0 hB HRW.out HF.out
          exact AllReadyIn.nil
         exact AllReadyIn.nil
        exact AllReadyIn.nil
       exact AllReadyIn.nil
      exact AllReadyIn.nil
     exact AllReadyIn.nil
    exact AllReadyIn.nil
   refine AllReadyIn.cons rfl (fun K hK => ?_) ?_
   ·go_simp
    refine hK _ _ ?_
    clear hK K
    refine wpAnyIn_ready (rs := [0, 1]) (by kernel_rfl) (by simp) ?_
    refine AllReadyIn.cons rfl (fun K hK => ?_) ?_
    ·go_simp
     refine hK _ _ ?_
     clear hK K
     refine wpAnyIn_ready (rs := [1]) (by kernel_rfl) (by simp) ?_
     refine AllReadyIn.cons rfl (fun K hK => ?_) ?_
     ·go_simp
      refine hK _ _ ?_
      clear hK K
      refine wpAnyIn_ready (rs := [3]) (by kernel_rfl) (by simp) ?_
      refine AllReadyIn.cons rfl (fun K hK => ?_) ?_
      ·go_simp
       refine hK _ _ ?_
       clear hK K
       refine wpAnyIn_ready (rs := [4]) (by kernel_rfl) (by simp) ?_
       refine AllReadyIn.cons rfl (fun K hK => ?_) ?_
       ·go_simp
        refine hK _ _ ?_
        clear hK K
        refine wpAnyIn_ready (rs := [5]) (by kernel_rfl) (by simp) ?_
        refine AllReadyIn.cons rfl (fun K hK => ?_) ?_
        ·go_simp
         refine hK _ _ ?_
         clear hK K
         refine wpAnyIn_ready (rs := [6]) (by kernel_rfl) (by simp) ?_
         refine AllReadyIn.cons rfl (fun K hK => ?_) ?_
         ·refine stepIn_append_own (w := W.drew.alloc (.cells #[.int .u8 (IntKind.u8.wrap (a0 / 2 ^ x.toNat))] 5)) rfl (.tmp 24) (.tmp 29) 26 rfl (w.heap.size + 3) 5 i0 (.int .u8 0) 1 1 Try.underlying26 hi hz0 hz1 hz2 rfl (by decide) v pre.length (nums .u8 (beOf a0 pre)) rfl (hrow1.alloc _) ⟨W.heap.size, 0, none⟩ 1 1 [.int .u8 (IntKind.u8.wrap (a0 / 2 ^ x.toNat))] rfl rfl (cell_one_new _ _ _) (by simp [Value.oneCell']) (by simp only [maxLen]; omega) (by omega) (by simp; omega) ?_
          intro v' w1 hown' hgrow0 _
          have hgrow : (W.alloc (.cells #[.int .u8 (IntKind.u8.wrap (a0 / 2 ^ x.toNat))] 5)).grownBy w1 v.ownBlock := ⟨hgrow0.os, hgrow0.tape, hgrow0.output, hgrow0.size, hgrow0.block⟩
          clear hgrow0
          refine hK _ _ ?_
          clear hK K
          obtain ⟨g', cap', rfl⟩ := ownsRow_succ hown'
          obtain ⟨hv1, hv2, hr2, hk2, hb2⟩ := hv.appended (W := W) (n₀ := w.heap.size) (by decide) (own_weaken HRW.out (by omega)) (by omega) (by omega) (own_weaken hown' (by omega)) hgrow
          have hr3 := hown'.kept (grownBy_setCell' w1 (w.heap.size + 1) (.slice (some ⟨g', 0, none⟩) (pre.length + 1) cap')) (.inr (hv1.not_row (by decide) hown').symm)
          have HF := Aside0.mk (And.intro hv2 (And.intro hr3 (And.intro hk2 (And.intro hb2 hgrow))))
          clear hr2 hv2 hr3 hk2 hb2 hgrow hown'
          have hc1 := hv1.cell
          have hf1 := hv1.frozen
          refine wpAnyIn_ready (rs := [7]) (by kernel_rfl) (by simp) ?_
          refine AllReadyIn.cons rfl (fun K hK => ?_) ?_
          ·go_simp
           refine hK _ _ ?_
           clear hK K
           refine wpAnyIn_done (by kernel_rfl) ?_ _
           exact put_close (x := ⟨x, hx0, hx1⟩) hn0 hs0 hB HRW.out HF.out
          exact AllReadyIn.nil
         exact AllReadyIn.nil
        exact AllReadyIn.nil
       exact AllReadyIn.nil
      exact AllReadyIn.nil
     exact AllReadyIn.nil
    refine AllReadyIn.cons rfl (fun K hK => ?_) ?_
    ·go_simp
     refine hK _ _ ?_
     clear hK K
     refine wpAnyIn_ready (rs := [0, 3]) (by kernel_rfl) (by simp) ?_
     refine AllReadyIn.cons rfl (fun K hK => ?_) ?_
     ·go_simp
      refine hK _ _ ?_
      clear hK K
      refine wpAnyIn_ready (rs := [3]) (by kernel_rfl) (by simp) ?_
      refine AllReadyIn.cons rfl (fun K hK => ?_) ?_
      ·go_simp
       refine hK _ _ ?_
       clear hK K
       refine wpAnyIn_ready (rs := [4]) (by kernel_rfl) (by simp) ?_
       refine AllReadyIn.cons rfl (fun K hK => ?_) ?_
       ·go_simp
        refine hK _ _ ?_
        clear hK K
        refine wpAnyIn_ready (rs := [5]) (by kernel_rfl) (by simp) ?_
        refine AllReadyIn.cons rfl (fun K hK => ?_) ?_
        ·go_simp
         refine hK _ _ ?_
         clear hK K
         refine wpAnyIn_ready (rs := [6]) (by kernel_rfl) (by simp) ?_
         refine AllReadyIn.cons rfl (fun K hK => ?_) ?_
         ·refine stepIn_append_own (w := W.drew.alloc (.cells #[.int .u8 (IntKind.u8.wrap (a0 / 2 ^ x.toNat))] 5)) rfl (.tmp 24) (.tmp 29) 26 rfl (w.heap.size + 3) 5 i0 (.int .u8 0) 1 1 Try.underlying26 hi hz0 hz1 hz2 rfl (by decide) v pre.length (nums .u8 (beOf a0 pre)) rfl (hrow1.alloc _) ⟨W.heap.size, 0, none⟩ 1 1 [.int .u8 (IntKind.u8.wrap (a0 / 2 ^ x.toNat))] rfl rfl (cell_one_new _ _ _) (by simp [Value.oneCell']) (by simp only [maxLen]; omega) (by omega) (by simp; omega) ?_
          intro v' w1 hown' hgrow0 _
          have hgrow : (W.alloc (.cells #[.int .u8 (IntKind.u8.wrap (a0 / 2 ^ x.toNat))] 5)).grownBy w1 v.ownBlock := ⟨hgrow0.os, hgrow0.tape, hgrow0.output, hgrow0.size, hgrow0.block⟩
          clear hgrow0
          refine hK _ _ ?_
          clear hK K
          obtain ⟨g', cap', rfl⟩ := ownsRow_succ hown'
          obtain ⟨hv1, hv2, hr2, hk2, hb2⟩ := hv.appended (W := W) (n₀ := w.heap.size) (by decide) (own_weaken HRW.out (by omega)) (by omega) (by omega) (own_weaken hown' (by omega)) hgrow
          have hr3 := hown'.kept (grownBy_setCell' w1 (w.heap.size + 1) (.slice (some ⟨g', 0, none⟩) (pre.length + 1) cap')) (.inr (hv1.not_row (by decide) hown').symm)
          have HF := Aside0.mk (And.intro hv2 (And.intro hr3 (And.intro hk2 (And.intro hb2 hgrow))))
          clear hr2 hv2 hr3 hk2 hb2 hgrow hown'
          have hc1 := hv1.cell
          have hf1 := hv1.frozen
          refine wpAnyIn_ready (rs := [7]) (by kernel_rfl) (by simp) ?_
          refine AllReadyIn.cons rfl (fun K hK => ?_) ?_
          ·go_simp
           refine hK _ _ ?_
           clear hK K
           refine wpAnyIn_done (by kernel_rfl) ?_ _
           exact put_close (x := ⟨x, hx0, hx1⟩) hn0 hs0 hB HRW.out HF.out
          exact AllReadyIn.nil
         exact AllReadyIn.nil
        exact AllReadyIn.nil
       exact AllReadyIn.nil
      exact AllReadyIn.nil
     refine AllReadyIn.cons rfl (fun K hK => ?_) ?_
     ·go_simp
      refine hK _ _ ?_
      clear hK K
      refine wpAnyIn_ready (rs := [0, 4]) (by kernel_rfl) (by simp) ?_
      refine AllReadyIn.cons rfl (fun K hK => ?_) ?_
      ·go_simp
       refine hK _ _ ?_
       clear hK K
       refine wpAnyIn_ready (rs := [4]) (by kernel_rfl) (by simp) ?_
       refine AllReadyIn.cons rfl (fun K hK => ?_) ?_
       ·go_simp
        refine hK _ _ ?_
        clear hK K
        refine wpAnyIn_ready (rs := [5]) (by kernel_rfl) (by simp) ?_
        refine AllReadyIn.cons rfl (fun K hK => ?_) ?_
        ·go_simp
         refine hK _ _ ?_
         clear hK K
         refine wpAnyIn_ready (rs := [6]) (by kernel_rfl) (by simp) ?_
         refine AllReadyIn.cons rfl (fun K hK => ?_) ?_
         ·refine stepIn_append_own (w := W.drew.alloc (.cells #[.int .u8 (IntKind.u8.wrap (a0 / 2 ^ x.toNat))] 5)) rfl (.tmp 24) (.tmp 29) 26 rfl (w.heap.size + 3) 5 i0 (.int .u8 0) 1 1 Try.underlying26 hi hz0 hz1 hz2 rfl (by decide) v pre.length (nums .u8 (beOf a0 pre)) rfl (hrow1.alloc _) ⟨W.heap.size, 0, none⟩ 1 1 [.int .u8 (IntKind.u8.wrap (a0 / 2 ^ x.toNat))] rfl rfl (cell_one_new _ _ _) (by simp [Value.oneCell']) (by simp only [maxLen]; omega) (by omega) (by simp; omega) ?_
          intro v' w1 hown' hgrow0 _
          have hgrow : (W.alloc (.cells #[.int .u8 (IntKind.u8.wrap (a0 / 2 ^ x.toNat))] 5)).grownBy w1 v.ownBlock := ⟨hgrow0.os, hgrow0.tape, hgrow0.output, hgrow0.size, hgrow0.block⟩
          clear hgrow0
          refine hK _ _ ?_
          clear hK K
          obtain ⟨g', cap', rfl⟩ := ownsRow_succ hown'
          obtain ⟨hv1, hv2, hr2, hk2, hb2⟩ := hv.appended (W := W) (n₀ := w.heap.size) (by decide) (own_weaken HRW.out (by omega)) (by omega) (by omega) (own_weaken hown' (by omega)) hgrow
          have hr3 := hown'.kept (grownBy_setCell' w1 (w.heap.size + 1) (.slice (some ⟨g', 0, none⟩) (pre.length + 1) cap')) (.inr (hv1.not_row (by decide) hown').symm)
          have HF := Aside0.mk (And.intro hv2 (And.intro hr3 (And.intro hk2 (And.intro hb2 hgrow))))
          clear hr2 hv2 hr3 hk2 hb2 hgrow hown'
          have hc1 := hv1.cell
          have hf1 := hv1.frozen
          refine wpAnyIn_ready (rs := [7]) (by kernel_rfl) (by simp) ?_
          refine AllReadyIn.cons rfl (fun K hK => ?_) ?_
          ·go_simp
           refine hK _ _ ?_
           clear hK K
           refine wpAnyIn_done (by kernel_rfl) ?_ _
           exact put_close (x := ⟨x, hx0, hx1⟩) hn0 hs0 hB HRW.out HF.out
          exact AllReadyIn.nil
         exact AllReadyIn.nil
        exact AllReadyIn.nil
       exact AllReadyIn.nil
      refine AllReadyIn.cons rfl (fun K hK => ?_) ?_
      ·go_simp
       refine hK _ _ ?_
       clear hK K
       refine wpAnyIn_ready (rs := [0, 5]) (by kernel_rfl) (by simp) ?_
       refine AllReadyIn.cons rfl (fun K hK => ?_) ?_
       ·go_simp
        refine hK _ _ ?_
        clear hK K
        refine wpAnyIn_ready (rs := [5]) (by kernel_rfl) (by simp) ?_
        refine AllReadyIn.cons rfl (fun K hK => ?_) ?_
        ·go_simp
         refine hK _ _ ?_
         clear hK K
         refine wpAnyIn_ready (rs := [6]) (by kernel_rfl) (by simp) ?_
         refine AllReadyIn.cons rfl (fun K hK => ?_) ?_
         ·refine stepIn_append_own (w := W.drew.alloc (.cells #[.int .u8 (IntKind.u8.wrap (a0 / 2 ^ x.toNat))] 5)) rfl (.tmp 24) (.tmp 29) 26 rfl (w.heap.size + 3) 5 i0 (.int .u8 0) 1 1 Try.underlying26 hi hz0 hz1 hz2 rfl (by decide) v pre.length (nums .u8 (beOf a0 pre)) rfl (hrow1.alloc _) ⟨W.heap.size, 0, none⟩ 1 1 [.int .u8 (IntKind.u8.wrap (a0 / 2 ^ x.toNat))] rfl rfl (cell_one_new _ _ _) (by simp [Value.oneCell']) (by simp only [maxLen]; omega) (by omega) (by simp; omega) ?_
          intro v' w1 hown' hgrow0 _
          have hgrow : (W.alloc (.cells #[.int .u8 (IntKind.u8.wrap (a0 / 2 ^ x.toNat))] 5)).grownBy w1 v.ownBlock := ⟨hgrow0.os, hgrow0.tape, hgrow0.output, hgrow0.size, hgrow0.block⟩
          clear hgrow0
          refine hK _ _ ?_
          clear hK K
          obtain ⟨g', cap', rfl⟩ := ownsRow_succ hown'
          obtain ⟨hv1, hv2, hr2, hk2, hb2⟩ := hv.appended (W := W) (n₀ := w.heap.size) (by decide) (own_weaken HRW.out (by omega)) (by omega) (by omega) (own_weaken hown' (by omega)) hgrow
          have hr3 := hown'.kept (grownBy_setCell' w1 (w.heap.size + 1) (.slice (some ⟨g', 0, none⟩) (pre.length + 1) cap')) (.inr (hv1.not_row (by decide) hown').symm)
          have HF := Aside0.mk (And.intro hv2 (And.intro hr3 (And.intro hk2 (And.intro hb2 hgrow))))
          clear hr2 hv2 hr3 hk2 hb2 hgrow hown'
          have hc1 := hv1.cell
          have hf1 := hv1.frozen
          refine wpAnyIn_ready (rs := [7]) (by kernel_rfl) (by simp) ?_
          refine AllReadyIn.cons rfl (fun K hK => ?_) ?_
          ·go_simp
           refine hK _ _ ?_
           clear hK K
           refine wpAnyIn_done (by kernel_rfl) ?_ _
           exact put_close (x := ⟨x, hx0, hx1⟩) hn0 hs0 hB HRW.out HF.out
          exact AllReadyIn.nil
         exact AllReadyIn.nil
        exact AllReadyIn.nil
       refine AllReadyIn.cons rfl (fun K hK => ?_) ?_
       ·go_simp
        refine hK _ _ ?_
        clear hK K
        refine wpAnyIn_ready (rs := [0]) (by kernel_rfl) (by simp) ?_
        refine AllReadyIn.cons rfl (fun K hK => ?_) ?_
        ·go_simp
         refine hK _ _ ?_
         clear hK K
         refine wpAnyIn_ready (rs := [6]) (by kernel_rfl) (by simp) ?_
         refine AllReadyIn.cons rfl (fun K hK => ?_) ?_
         ·refine stepIn_append_own (w := W.drew.alloc (.cells #[.int .u8 (IntKind.u8.wrap (a0 / 2 ^ x.toNat))] 5)) rfl (.tmp 24) (.tmp 29) 26 rfl (w.heap.size + 3) 5 i0 (.int .u8 0) 1 1 Try.underlying26 hi hz0 hz1 hz2 rfl (by decide) v pre.length (nums .u8 (beOf a0 pre)) rfl (hrow1.alloc _) ⟨W.heap.size, 0, none⟩ 1 1 [.int .u8 (IntKind.u8.wrap (a0 / 2 ^ x.toNat))] rfl rfl (cell_one_new _ _ _) (by simp [Value.oneCell']) (by simp only [maxLen]; omega) (by omega) (by simp; omega) ?_
          intro v' w1 hown' hgrow0 _
          have hgrow : (W.alloc (.cells #[.int .u8 (IntKind.u8.wrap (a0 / 2 ^ x.toNat))] 5)).grownBy w1 v.ownBlock := ⟨hgrow0.os, hgrow0.tape, hgrow0.output, hgrow0.size, hgrow0.block⟩
          clear hgrow0
          refine hK _ _ ?_
          clear hK K
          obtain ⟨g', cap', rfl⟩ := ownsRow_succ hown'
          obtain ⟨hv1, hv2, hr2, hk2, hb2⟩ := hv.appended (W := W) (n₀ := w.heap.size) (by decide) (own_weaken HRW.out (by omega)) (by omega) (by omega) (own_weaken hown' (by omega)) hgrow
          have hr3 := hown'.kept (grownBy_setCell' w1 (w.heap.size + 1) (.slice (some ⟨g', 0, none⟩) (pre.length + 1) cap')) (.inr (hv1.not_row (by decide) hown').symm)
          have HF := Aside0.mk (And.intro hv2 (And.intro hr3 (And.intro hk2 (And.intro hb2 hgrow))))
          clear hr2 hv2 hr3 hk2 hb2 hgrow hown'
          have hc1 := hv1.cell
          have hf1 := hv1.frozen
          refine wpAnyIn_ready (rs := [7]) (by kernel_rfl) (by simp) ?_
          refine AllReadyIn.cons rfl (fun K hK => ?_) ?_
          ·go_simp
           refine hK _ _ ?_
           clear hK K
           refine wpAnyIn_done (by kernel_rfl) ?_ _
           exact put_close (x := ⟨x, hx0, hx1⟩) hn0 hs0 hB HRW.out HF.out
          exact AllReadyIn.nil
         exact AllReadyIn.nil
        exact AllReadyIn.nil
       exact AllReadyIn.nil
      exact AllReadyIn.nil
     exact AllReadyIn.nil
    exact AllReadyIn.nil
   exact AllReadyIn.nil
end
end Go.Proofs.Ytooabchnbmnchaa.Q
namespace Go.Proofs.Ytooabchnbmnchaa.Q
open Go.RowKit Go.Proofs.YtooabchnbmnchaaW.PrintWords Go.Proofs.YtooabchnbmnchaaW.PrintLast Go.Proofs.YtooabchnbmnchaaW.PrintMore
attribute [local go_sem] max2_int min2_int max_two min_two max_three min_three max_four min_four binOp_string_leq binOp_string_geq binOp_string_gtr   -- for this text's walks alone
set_option linter.unusedVariables false
set_option linter.unusedSimpArgs false
def node_kid.f (l0 : List Int) (a1 : Int) : Option (List Int) := (octets_Put.f (IntKind.u64.wrap (a1)) 4).bind fun bt109 => (if l0.length + bt109.1.length < 140737488355328 then (some (l0 ++ bt109.1)) else (none))
set_option maxHeartbeats 8000000 in
set_option maxRecDepth 100000 in
theorem node_kid.calls (P0_ : Nat → Prop) (u9000_ : Value) (l0 : List Int) (a1 : Int) (r : List Int) (w0 w : World) (hB : Below w0.heap.size w0 w) (ho0 : Kd.R (Kd.int .u8) 5 w w0.heap.size P0_ u9000_ l0) (h : node_kid.f l0 a1 = some r) :
  Calls Try.prog 49 #[u9000_, .int .i64 a1] w fun e w' => ∃ v0_ : Value, e = .returned (v0_) ∧ Kd.R (Kd.int .u8) 5 w' w0.heap.size (fun k_ => (P0_ k_ ∨ w.heap.size ≤ k_)) v0_ r ∧ Below w0.heap.size w0 w' ∧ Kept w w' (fun k_ => P0_ k_) := by
 have HO0 := Aside0.mk (show Kd.R (Kd.int .u8) 5 w w0.heap.size (fun k_ => (P0_ k_ ∨ w.heap.size ≤ k_)) u9000_ l0 from Kd.R_mono ho0 (fun k_ hk => (.inl hk)))
 have HK := Aside0.mk (Kept.refl w (fun k_ => P0_ k_))
 have HW0 := Aside0.mk hB.size
 have HB := Aside0.mk hB
 clear hB
 have H : ((octets_Put.f (IntKind.u64.wrap (a1)) 4).bind fun bt109 => (if l0.length + bt109.1.length < 140737488355328 then (some (l0 ++ bt109.1)) else (none))) = some r := h
 clear h
 replace H := Option.bind_eq_some_iff.mp H
 obtain ⟨⟨t109, t110⟩, A30, H⟩ := H
 try dsimp only at H
 have A3 := Aside0.mk A30
 clear A30
 by_cases c4 : l0.length + t109.length < 140737488355328
 ·rw [if_pos c4] at H
  have LMc4 := Aside0.mk c4
  clear c4
  obtain ⟨y113, hy113⟩ : ∃ y_ : List Int, y_ = (l0 ++ t109) := ⟨_, rfl⟩
  replace H : (some y113) = some r := by first | (rw [hy113]; with_reducible exact H) | (have H2_ := (Option.bind_some _ _).symm.trans H; rw [hy113]; with_reducible exact H2_) | (have H2_ := (Option.bind_some _ _).symm.trans H; with_reducible exact H2_) | with_reducible exact H | (rw [hy113]; exact H) | exact H
  have Ny113 := Aside0.mk hy113
  clear hy113
  obtain rfl := Option.some.inj H
  go_enter Try.func49, Try.ntmps49
  go_wp2_with (first | ((with_reducible refine gate_callee (f := 81) rfl ?_); refine gL_ (some 10) Try.func81 #[.int .u64 (IntKind.u64.wrap (a1)), .int .i64 4] ?_; (with_reducible refine (octets_Put.calls (IntKind.u64.wrap (a1)) 4 t109 t110 _ A3.out).mono ?_); rintro e w5 ⟨v111, rfl, ho0, hb⟩; refine ⟨_, rfl, ?_⟩; have HO112 := Aside0.mk (Kd.R_lower (Kd.R_new' (Kd.R_newM (M := fun k_ => (P0_ k_ ∨ w.heap.size ≤ k_)) ho0 (by first | exact HK.out.1 | exact (show Kept w _ (fun k_ => P0_ k_) from by repeat (first | (with_reducible first | exact HK.out | apply Kept.alloc | apply Kept.drewN | apply Kept.drew) | exact HK.out)).1) (fun k_ h_ => .inr h_)) (Kd.R_lt (rA_ HO0))) (bs_ HB)); replace HO0 := Aside0.mk (Kd.R_elder' (rA_ HO0) (Kd.R_base ho0) hb); replace HK := Aside0.mk (Kept.below (S := (fun k_ => P0_ k_)) (by repeat (first | (with_reducible first | exact HK.out | apply Kept.alloc | apply Kept.drewN | apply Kept.drew) | exact HK.out)) hb); replace HB := bS_ HB hb; (try clear hb ho0); obtain ⟨Ao7, co7, eo7⟩ := Kd.R_slice HO112.out; subst eo7) | ((with_reducible refine gate_builtin (b := .append) (xs := #[.tmp 13, .tmp 14]) rfl ?_); at_builtin; refine Kd.R_append_rows (Kd.int .u8) (w0 := w0) w0.heap.size rfl (.tmp 13) (.tmp 14) 26 5 (.int .u8 0) 1 rfl Try.underlying26 info5 rfl (by decide) (by omega) u9000_ l0 t109 _ _ _ (fun k_ => (P0_ k_ ∨ w.heap.size ≤ k_) ∧ some k_ ≠ (.slice Ao7 t109.length co7 : Value).ownBlock) (fun _ => False) rfl rfl ?aO ?aR (fun _ _ h => h) (fun _ h => h.elim) ?aF ?aB ?aS ?aL ?_; (case aR => exact cO_ (Kd.R_reads' HO112.out).2.2); (case aB => exact (bl_ HB)); (case aF => exact (fun k_ hk => ⟨(.inr (Nat.le_trans (by first | exact HK.out.1 | exact (show Kept w _ (fun k_ => P0_ k_) from by repeat (first | (with_reducible first | exact HK.out | apply Kept.alloc | apply Kept.drewN | apply Kept.drew) | exact HK.out)).1) hk)), Kd.fresh' (Kd.R_lt (rA_ HO112)) k_ hk⟩)); (case aO => exact (rA_ HO0)); (case aS => exact (bs_ HB)); (case aL => have := LMc4.out; omega); intro v114 w6 ho hb hg hat; rw [← Ny113.out] at ho; replace HO112 := Aside0.mk (Kd.R_after (ok := (fun k_ => (P0_ k_ ∨ w.heap.size ≤ k_))) (by (with_reducible repeat (first | apply Kd.R_alloc | apply Kd.R_drewN | apply Kd.R_drew)); exact Kd.R_mono HO112.out (fun _ hk => ⟨hk.1.1, hk.2⟩)) hg hat); replace HB := Aside0.mk (hb); replace HK := Aside0.mk (Kept.of_grown (S := (fun k_ => P0_ k_)) hg (by repeat (first | (with_reducible first | exact HK.out | apply Kept.alloc | apply Kept.drewN | apply Kept.drew) | exact HK.out)) (fun k_ e_ => (HO0.out.1 k_ e_).1)); have HO115 := Aside0.mk (ho); clear HO0; clear ho hb hg hat))
  go_ret
  exact ⟨_, fin_, by (with_reducible repeat (first | apply Kd.R_alloc | apply Kd.R_drewN | apply Kd.R_drew)); exact Kd.R_mono HO115.out (fun _ hk => hk.1), bl_ HB, by repeat (first | (with_reducible first | exact HK.out | apply Kept.alloc | apply Kept.drewN | apply Kept.drew) | exact HK.out)⟩
 ·rw [if_neg c4] at H
  exact absurd H (by simp)
end Go.Proofs.Ytooabchnbmnchaa.Q
namespace Go.Proofs.Ytooabchnbmnchaa.Q
open Go.RowKit Go.Proofs.YtooabchnbmnchaaW.PrintWords Go.Proofs.YtooabchnbmnchaaW.PrintLast Go.Proofs.YtooabchnbmnchaaW.PrintMore
attribute [local go_sem] max2_int min2_int max_two min_two max_three min_three max_four min_four binOp_string_leq binOp_string_geq binOp_string_gtr   -- for this text's walks alone
set_option linter.unusedVariables false
set_option linter.unusedSimpArgs false
def node_short.f (l0 : List Int) (a1 : ByteArray) : Option (List Int) := if l0.length < 140737488355328 then ((some (l0 ++ [((a1.size : Int)) % 256] : List Int)).bind fun y116 => (if y116.length + a1.size < 140737488355328 then (some (y116 ++ bytesOf a1)) else (none))) else (none)
set_option maxHeartbeats 8000000 in
set_option maxRecDepth 100000 in
theorem node_short.calls (P0_ : Nat → Prop) (u9000_ : Value) (l0 : List Int) (a1 : ByteArray) (r : List Int) (w0 w : World) (hB : Below w0.heap.size w0 w) (ho0 : Kd.R (Kd.int .u8) 5 w w0.heap.size P0_ u9000_ l0) (h : node_short.f l0 a1 = some r) :
  Calls Try.prog 50 #[u9000_, .string a1] w fun e w' => ∃ v0_ : Value, e = .returned (v0_) ∧ Kd.R (Kd.int .u8) 5 w' w0.heap.size (fun k_ => (P0_ k_ ∨ w.heap.size ≤ k_)) v0_ r ∧ Below w0.heap.size w0 w' ∧ Kept w w' (fun k_ => P0_ k_) := by
 have HO0 := Aside0.mk (show Kd.R (Kd.int .u8) 5 w w0.heap.size (fun k_ => (P0_ k_ ∨ w.heap.size ≤ k_)) u9000_ l0 from Kd.R_mono ho0 (fun k_ hk => (.inl hk)))
 have HK := Aside0.mk (Kept.refl w (fun k_ => P0_ k_))
 have HW0 := Aside0.mk hB.size
 have HB := Aside0.mk hB
 clear hB
 have H : (if l0.length < 140737488355328 then ((some (l0 ++ [((a1.size : Int)) % 256] : List Int)).bind fun y116 => (if y116.length + a1.size < 140737488355328 then (some (y116 ++ bytesOf a1)) else (none))) else (none)) = some r := h
 clear h
 by_cases c3 : l0.length < 140737488355328
 ·rw [if_pos c3] at H
  have LMc3 := Aside0.mk c3
  clear c3
  obtain ⟨y116, hy116⟩ : ∃ y_ : List Int, y_ = (l0 ++ [((a1.size : Int)) % 256]) := ⟨_, rfl⟩
  replace H : (if y116.length + a1.size < 140737488355328 then (some (y116 ++ bytesOf a1)) else (none)) = some r := by first | (rw [hy116]; with_reducible exact H) | (have H2_ := (Option.bind_some _ _).symm.trans H; rw [hy116]; with_reducible exact H2_) | (have H2_ := (Option.bind_some _ _).symm.trans H; with_reducible exact H2_) | with_reducible exact H | (rw [hy116]; exact H) | exact H
  have Ny116 := Aside0.mk hy116
  clear hy116
  by_cases c4 : y116.length + a1.size < 140737488355328
  ·rw [if_pos c4] at H
   have LMc4 := Aside0.mk c4
   clear c4
   obtain ⟨y119, hy119⟩ : ∃ y_ : List Int, y_ = (y116 ++ bytesOf a1) := ⟨_, rfl⟩
   replace H : (some y119) = some r := by first | (rw [hy119]; with_reducible exact H) | (have H2_ := (Option.bind_some _ _).symm.trans H; rw [hy119]; with_reducible exact H2_) | (have H2_ := (Option.bind_some _ _).symm.trans H; with_reducible exact H2_) | with_reducible exact H | (rw [hy119]; exact H) | exact H
   have Ny119 := Aside0.mk hy119
   clear hy119
   obtain rfl := Option.some.inj H
   go_enter Try.func50, Try.ntmps50
   go_wp2_with (first | ((with_reducible refine gate_builtin (b := .append) (xs := #[.tmp 5, .tmp 9]) rfl ?_); at_builtin; refine Kd.R_append (Kd.int .u8) (w0 := w0) w0.heap.size rfl (.tmp 5) (.tmp 9) 26 5 (.int .u8 0) 1 rfl Try.underlying26 info5 rfl (by decide) (by omega) u9000_ l0 (((a1.size : Int)) % 256) [.int .u8 (((a1.size : Int)) % 256)] (fun k_ => (P0_ k_ ∨ w.heap.size ≤ k_)) (fun _ => False) rfl rfl ?aP (fun _ hk => hk.elim) ?aF ?aO ?aB ?aS ?aL ?_; (case aP => exact rfl); (case aB => exact (bl_ HB)); (case aF => exact (fun k_ hk => (.inr (Nat.le_trans (by first | exact HK.out.1 | exact (show Kept w _ (fun k_ => P0_ k_) from by repeat (first | (with_reducible first | exact HK.out | apply Kept.alloc | apply Kept.drewN | apply Kept.drew) | exact HK.out)).1) hk)))); (case aO => exact (rA_ HO0)); (case aS => exact (bs_ HB)); (case aL => have := LMc3.out; omega); intro v117 w5 ho hb hg hat; rw [← Ny116.out] at ho; replace HB := Aside0.mk (hb); replace HK := Aside0.mk (Kept.of_grown (S := (fun k_ => P0_ k_)) hg (by repeat (first | (with_reducible first | exact HK.out | apply Kept.alloc | apply Kept.drewN | apply Kept.drew) | exact HK.out)) (fun k_ e_ => (HO0.out.1 k_ e_))); have HO118 := Aside0.mk (ho); clear HO0; clear ho hb hg hat) | (at_builtin; refine R_append_str (w0 := w0) w0.heap.size rfl (.tmp 10) _ 26 9 5 rfl Try.underlying26 Try.underlying9 info5 v117 y116 a1 (fun k_ => (P0_ k_ ∨ w.heap.size ≤ k_)) rfl rfl ?aF ?aO ?aB ?aS ?aL ?_; (case aB => exact (bl_ HB)); (case aF => exact (fun k_ hk => (.inr (Nat.le_trans (by first | exact HK.out.1 | exact (show Kept w _ (fun k_ => P0_ k_) from by repeat (first | (with_reducible first | exact HK.out | apply Kept.alloc | apply Kept.drewN | apply Kept.drew) | exact HK.out)).1) hk)))); (case aO => exact (rA_ HO118)); (case aS => exact (bs_ HB)); (case aL => have := LMc4.out; omega); intro v120 w6 ho hb hg hat; rw [← Ny119.out] at ho; replace HB := Aside0.mk (hb); replace HK := Aside0.mk (Kept.of_grown (S := (fun k_ => P0_ k_)) hg (by repeat (first | (with_reducible first | exact HK.out | apply Kept.alloc | apply Kept.drewN | apply Kept.drew) | exact HK.out)) (fun k_ e_ => (HO118.out.1 k_ e_))); have HO121 := Aside0.mk (ho); clear HO118; clear ho hb hg hat))
   go_ret
   exact ⟨_, fin_, by (with_reducible repeat (first | apply Kd.R_alloc | apply Kd.R_drewN | apply Kd.R_drew)); exact HO121.out, bl_ HB, by repeat (first | (with_reducible first | exact HK.out | apply Kept.alloc | apply Kept.drewN | apply Kept.drew) | exact HK.out)⟩
  ·rw [if_neg c4] at H
   exact absurd H (by simp)
 ·rw [if_neg c3] at H
  exact absurd H (by simp)
end Go.Proofs.Ytooabchnbmnchaa.Q
