-- Laid by this session's own program (wip/tools) out of the translation; Lean checks it. Thinned, shortened and merged for this claim.
import Derived.Test.YtooabchnbmnchaaQ0
import Derived.Test.YtooabchnbmnchaaSq
namespace Go.Proofs.Ytooabchnbmnchaa.Q
open Go.RowKit Go.Proofs.YtooabchnbmnchaaW.PrintWords Go.Proofs.YtooabchnbmnchaaW.PrintLast Go.Proofs.YtooabchnbmnchaaW.PrintMore
attribute [local go_sem] max2_int min2_int max_two min_two max_three min_three max_four min_four binOp_string_leq binOp_string_geq binOp_string_gtr   -- for this text's walks alone
set_option linter.unusedVariables false
set_option linter.unusedSimpArgs false
def bytes_Clone.f (l0 : List Int) : Option (List Int) := if l0.length ≤ 140737488355327 then some l0 else none
set_option maxHeartbeats 800000 in
set_option maxRecDepth 100000 in
theorem bytes_Clone.calls (A0 : Option Addr) (c0 : Nat) (l0 : List Int) (r : List Int) (w : World) (hr0 : Kd.C (Kd.int .u8) w A0 l0.length l0) (hc0 : l0.length ≤ c0) (h : bytes_Clone.f l0 = some r) : Calls Try.prog 75 #[.slice A0 l0.length c0] w fun e w' => ∃ v0_ : Value, e = .returned (v0_) ∧ Kd.R (Kd.int .u8) 5 w' w.heap.size (fun _ => True) v0_ r ∧ Below w.heap.size w w' := by
 unfold bytes_Clone.f at h
 by_cases hl : l0.length ≤ 140737488355327
 case neg => rw [if_neg hl] at h; cases h
 rw [if_pos hl] at h
 cases h
 have q22 : ∀ (w : World) (a : Option Addr) (n c n' c' : Nat), (binOp .eql 26 (.slice a n c) (.slice none n' c')).run Try.prog w = .ok (.bool a.isNone) w := fun w a n c n' c' => Lib.run_eql_slice_nil w _ _ a n c n' c' Try.underlying26
 have hinfo : (Try.prog.info? 5).map (fun i => (i.zero, i.size, i.bytes)) = some (some (.int .u8 0), 1, 1) := by kernel_rfl
 have HI := Aside0.mk hinfo
 have HR0 := Aside0.mk hr0
 have HB := Aside0.mk (Below.refl w.heap.size w)
 have LM := Aside0.mk hl
 clear hl hc0 hinfo
 rcases A0 with _ | ad
 ·have := C_none_nil hr0
  subst this
  clear hr0
  go_enter Try.func75, Try.ntmps75
  go_wp2
  go_ret
  exact ⟨_, rfl, Kd.R_nil _ _ _ _ _, Below.refl _ _⟩
 ·clear hr0
  go_enter Try.func75, Try.ntmps75
  go_wp2_with (first | ((with_reducible refine gate_builtin (b := .append) (xs := #[.tmp 5, .tmp 6]) rfl ?_); at_builtin; refine Kd.R_append_rows (Kd.int .u8) (w0 := w) w.heap.size rfl (.tmp 5) (.tmp 6) 26 5 (.int .u8 0) 1 rfl Try.underlying26 HI.out rfl (by decide) (by omega) (.slice (some ⟨w.heap.size, 0, none⟩) 0 0) ([] : List Int) l0 _ _ _ (fun _ => True) (fun _ => False) rfl rfl ?aO ?aR (fun _ _ h => h) (fun _ h => h.elim) (fun _ _ => trivial) ?aB ?aS ?aL ?_; (case aR => exact Kd.C_alloc HR0.out _); (case aB => exact below_alloc HB.out _); (case aO => exact Kd.R_of_own (own_lit w w.heap.size 5 .u8 [] (Nat.le_refl _) (by simp)) (fun _ _ => trivial)); (case aS => exact (below_size (below_alloc HB.out _))); (case aL => have := LM.out; simp; omega); intro v157 w3 ho hb hg hat; have HOb := Aside0.mk hb; have HO := Aside0.mk ho; clear ho hb hg hat))
  go_ret
  exact ⟨_, rfl, by simpa using HO.out, HOb.out⟩
end Go.Proofs.Ytooabchnbmnchaa.Q
namespace Go.Proofs.Ytooabchnbmnchaa.Q
open Go.RowKit Go.Proofs.YtooabchnbmnchaaW.PrintWords Go.Proofs.YtooabchnbmnchaaW.PrintLast Go.Proofs.YtooabchnbmnchaaW.PrintMore
attribute [local go_sem] max2_int min2_int max_two min_two max_three min_three max_four min_four binOp_string_leq binOp_string_geq binOp_string_gtr   -- for this text's walks alone
set_option linter.unusedVariables false
set_option linter.unusedSimpArgs false
mutual
def octets_Get.j0 : Nat → List Int → Int → Bool → Option (Int × Int)
 | 0, _, _, _ => none
 | k + 1, x0, x2, x13 => if x13 = true then (some (0, 3)) else (octets_Get.l0 k x2 x0 (x0.length : Int) 0)
def octets_Get.l0 : Nat → Int → List Int → Int → Int → Option (Int × Int)
 | 0, _, _, _, _ => none
 | k + 1, x2, x14, x15, x16 => if x16 < x15 then (if 0 ≤ x16 then (if x16 < (x14.length : Int) then (octets_Get.l0 k (Go.bits .or .u64 (IntKind.u64.wrap (x2 * 256)) (IntKind.u64.wrap (rd x14 x16))) x14 x15 (wrap64 (x16 + 1))) else (none)) else (none)) else (some (x2, 0))
end
def octets_Get.f (k : Nat) (l0 : List Int) : Option (Int × Int) := if (l0.length : Int) = 0 then (octets_Get.j0 k l0 0 true) else (octets_Get.j0 k l0 0 (decide ((l0.length : Int) > 8)))
theorem octets_Get.mono_l : ∀ k, (∀ y0 y1 y2, LeO (octets_Get.j0 k y0 y1 y2) (octets_Get.j0 (k + 1) y0 y1 y2)) ∧ (∀ y0 y1 y2 y3, LeO (octets_Get.l0 k y0 y1 y2 y3) (octets_Get.l0 (k + 1) y0 y1 y2 y3))
 | 0 => ⟨fun _ _ _ r h => by simp [octets_Get.j0] at h, fun _ _ _ _ r h => by simp [octets_Get.l0] at h⟩
 | k + 1 => by
  obtain ⟨ih0, ih1⟩ := octets_Get.mono_l k
  refine ⟨?_, ?_⟩
  ·intro y0 y1 y2
   unfold octets_Get.j0
   repeat' first
   | (with_reducible exact ih0 _ _ _)
   | (with_reducible exact ih1 _ _ _ _)
   | (with_reducible exact LeO.refl _)
   | (with_reducible exact LeO.none _)
   | (with_reducible refine LeO.ite ?_ ?_)
   | (with_reducible refine LeO.bind ?_ (fun _ => ?_))
   | exact ih0 _ _ _
   | exact ih1 _ _ _ _
   | exact LeO.none _
   | refine LeO.ite ?_ ?_
   | refine LeO.bind ?_ (fun _ => ?_)
  ·intro y0 y1 y2 y3
   unfold octets_Get.l0
   repeat' first
   | (with_reducible exact ih0 _ _ _)
   | (with_reducible exact ih1 _ _ _ _)
   | (with_reducible exact LeO.refl _)
   | (with_reducible exact LeO.none _)
   | (with_reducible refine LeO.ite ?_ ?_)
   | (with_reducible refine LeO.bind ?_ (fun _ => ?_))
   | exact ih0 _ _ _
   | exact ih1 _ _ _ _
   | exact LeO.none _
   | refine LeO.ite ?_ ?_
   | refine LeO.bind ?_ (fun _ => ?_)
theorem octets_Get.mono : ∀ a0 k, LeO (octets_Get.f k a0) (octets_Get.f (k + 1) a0) := by
 intro a0 k
 obtain ⟨ih0, ih1⟩ := octets_Get.mono_l k
 unfold octets_Get.f
 repeat' first
   | (with_reducible exact ih0 _ _ _)
   | (with_reducible exact ih1 _ _ _ _)
   | (with_reducible exact LeO.refl _)
   | (with_reducible exact LeO.none _)
   | (with_reducible refine LeO.ite ?_ ?_)
   | (with_reducible refine LeO.bind ?_ (fun _ => ?_))
   | exact ih0 _ _ _
   | exact ih1 _ _ _ _
   | exact LeO.none _
   | refine LeO.ite ?_ ?_
   | refine LeO.bind ?_ (fun _ => ?_)
set_option maxHeartbeats 8000000 in
set_option maxRecDepth 100000 in
theorem octets_Get.calls (k : Nat) (A0 : Option Addr) (c0 : Nat) (l0 : List Int) (r1 : Int) (r2 : Int) (w : World) (hr0 : Kd.C (Kd.int .u8) w A0 l0.length l0) (hc0 : l0.length ≤ c0) (h : octets_Get.f k l0 = some (r1, r2)) :
  Calls Try.prog 83 #[.slice A0 l0.length c0] w fun e w' => e = .returned (.tuple #[.int .u64 r1, .int .i64 r2]) ∧ Drawn0 w w' := by
 have HR0 := Aside0.mk hr0
 have HC0 := Aside0.mk hc0
 clear hr0 hc0
 have H : (if (l0.length : Int) = 0 then (octets_Get.j0 k l0 0 true) else (octets_Get.j0 k l0 0 (decide ((l0.length : Int) > 8)))) = some (r1, r2) := h
 clear h
 have HC2 := Aside0.mk H
 clear H
 go_enter Try.func83, Try.ntmps83
 go_upto_region 1 with (fail)
 go_cut [13] (fun v13 wc => ∃ (kq : Nat) (x13_1 : Bool), v13 = .bool x13_1 ∧ Aside0 (octets_Get.j0 kq l0 0 x13_1 = some (r1, r2)) ∧ Aside0 (kq ≤ k) ∧ Drawn0 w wc)
 case first =>
  have H := HC2.out
  clear HC2
  by_cases c3 : (l0.length : Int) = 0
  ·rw [if_pos c3] at H
   have c3b0 : ((l0.length : Int) == 0) = true := beq_iff_eq.mpr c3
   have c3b1 : ((l0.length : Int) != 0) = false := bne_eq_false_iff_eq.mpr c3
   clear c3
   (first | rw [c3b0] | (simp only [i64_w, i32_w]; rw [c3b0]) | skip)
   have H' := Aside0.mk H
   clear H
   go_wp2
   go_meet
   case rel => exact ⟨_, (true), (by first | rfl | (simp; done) | (simp [*]; done)), H', ⟨by first | omega | exact Nat.le_refl _⟩, by repeat (first | exact Drawn0.refl _ | apply Drawn0.step)⟩
  ·rw [if_neg c3] at H
   have c3b0 : ((l0.length : Int) == 0) = false := beq_eq_false_iff_ne.mpr c3
   have c3b1 : ((l0.length : Int) != 0) = true := bne_iff_ne.mpr c3
   have c3b2 : ¬ (l0 = []) := fun h_ => c3 (by rw [h_]; rfl)
   (first | rw [c3b0] | (simp only [i64_w, i32_w]; rw [c3b0]) | skip)
   have H' := Aside0.mk H
   clear H
   go_wp2
   go_meet
   case rel => exact ⟨_, (decide ((l0.length : Int) > 8)), (by first | rfl | (simp; done) | (simp [*]; done)), H', ⟨by first | omega | exact Nat.le_refl _⟩, by repeat (first | exact Drawn0.refl _ | apply Drawn0.step)⟩
 case rest =>
  clear HC2
  try clear p2
  try clear c3
  try clear c3b0
  try clear c3b1
  try clear c3b2
  obtain ⟨kq, x13_1, rfl, HA, HJ1, ⟨mc1, rfl⟩⟩ := hcut
  cases kq with
  | zero => exact absurd HA.out (by simp [octets_Get.j0])
  | succ kj1 =>
   have H := HA.out
   clear HA
   simp only [octets_Get.j0] at H
   by_cases c4 : x13_1 = true
   ·subst c4
    rw [if_pos rfl] at H
    simp only [Option.some.injEq, Prod.mk.injEq] at H
    obtain ⟨rfl, rfl⟩ := H
    go_wp2
    go_ret2
    exact ⟨by first | rfl | (simp; done) | (simp [*]; done), by repeat (first | exact Drawn0.refl _ | apply Drawn0.step)⟩
   ·replace c4 := Bool.eq_false_iff.mpr c4
    subst c4
    rw [if_neg (show ¬ (false = true) by decide)] at H
    have H' := Aside0.mk H
    clear H
    go_wp2
    go_loopg [2, 16] kj1 (fun kq v2 v16 w' => ∃ (x2_2 : Int) (x16_2 : Int), v2 = .int .u64 x2_2 ∧ v16 = .int .i64 x16_2 ∧ Aside0 (octets_Get.l0 kq x2_2 l0 (l0.length : Int) x16_2 = some (r1, r2)) ∧ Aside0 (kq ≤ kj1) ∧ Drawn0 w w')
    case atStart => exact ⟨(0), (0), (by first | rfl | (simp; done) | (simp [*]; done)), (by first | rfl | (simp; done) | (simp [*]; done)), H', ⟨Nat.le_refl _⟩, by repeat (first | exact Drawn0.refl _ | apply Drawn0.step)⟩
    case round =>
     clear H'
     try clear c1
     try clear p2
     try clear c3
     try clear c3b0
     try clear c3b1
     try clear c3b2
     try clear c4
     try clear p2
     obtain ⟨x2_2, x16_2, rfl, rfl, HA, HK2, ⟨m2, rfl⟩⟩ := hrel
     cases gk with
     | zero => exact absurd HA.out (by simp [octets_Get.l0])
     | succ k2 =>
      have H := HA.out
      clear HA
      simp only [octets_Get.l0] at H
      by_cases c5 : x16_2 < (l0.length : Int)
      ·rw [if_pos c5] at H
       have c5b0 : decide (x16_2 < (l0.length : Int)) = true := decide_eq_true c5
       clear c5
       by_cases c6 : 0 ≤ x16_2
       ·rw [if_pos c6] at H
        have c6b0 : decide (0 ≤ x16_2) = true := decide_eq_true c6
        clear c6
        by_cases c7 : x16_2 < (l0.length : Int)
        ·rw [if_pos c7] at H
         have c7b0 : decide (x16_2 < (l0.length : Int)) = true := decide_eq_true c7
         clear c7
         have H' := Aside0.mk H
         clear H
         have p101 : 0 ≤ (x16_2 : Int) := of_decide_eq_true (by first | (with_reducible assumption) | assumption)
         have q101 : x16_2 < (l0.length : Int) := of_decide_eq_true (by first | (with_reducible assumption) | assumption)
         obtain ⟨ad101, e101, hx101_0⟩ := Kd.at_int HR0.out x16_2 p101 q101
         cases e101
         replace p101 := eq_true p101
         replace q101 := eq_true q101
         go_wp2
         go_roundg k2
         case measure => have := HJ1.out; have := HK2.out; omega
         case rel => exact ⟨(Go.bits .or .u64 (IntKind.u64.wrap (x2_2 * 256)) (IntKind.u64.wrap (rd l0 x16_2))), (wrap64 (x16_2 + 1)), (by first | rfl | (simp; done) | (simp [*]; done)), (by first | rfl | (simp; done) | (simp [*]; done)), H', ⟨by have := HJ1.out; have := HK2.out; omega⟩, by repeat (first | exact Drawn0.refl _ | apply Drawn0.step)⟩
        ·rw [if_neg c7] at H
         exact absurd H (by simp)
       ·rw [if_neg c6] at H
        exact absurd H (by simp)
      ·rw [if_neg c5] at H
       have c5b0 : decide (x16_2 < (l0.length : Int)) = false := decide_eq_false c5
       clear c5
       simp only [Option.some.injEq, Prod.mk.injEq] at H
       obtain ⟨rfl, rfl⟩ := H
       go_wp2
       go_ret2
       exact ⟨by first | rfl | (simp; done) | (simp [*]; done), by repeat (first | exact Drawn0.refl _ | apply Drawn0.step)⟩
end Go.Proofs.Ytooabchnbmnchaa.Q
namespace Go.Proofs.Ytooabchnbmnchaa.Q
open Go.RowKit Go.Proofs.YtooabchnbmnchaaW.PrintWords Go.Proofs.YtooabchnbmnchaaW.PrintLast Go.Proofs.YtooabchnbmnchaaW.PrintMore
attribute [local go_sem] max2_int min2_int max_two min_two max_three min_three max_four min_four binOp_string_leq binOp_string_geq binOp_string_gtr   -- for this text's walks alone
set_option linter.unusedVariables false
set_option linter.unusedSimpArgs false
def crcBit (c : Nat) : Nat := (c >>> 1) ^^^ (if c % 2 = 1 then 0x82f63b78 else 0)
def crcBits : Nat → Nat → Nat
 | 0, c => c
 | t + 1, c => crcBit (crcBits t c)
theorem crcBit_lt (c : Nat) (h : c < 4294967296) : crcBit c < 4294967296 := by
 unfold crcBit
 have h1 : c >>> 1 < 2 ^ 32 := by rw [Nat.shiftRight_eq_div_pow]; omega
 have h2 : (if c % 2 = 1 then 0x82f63b78 else 0 : Nat) < 2 ^ 32 := by split <;> omega
 simpa using Nat.xor_lt_two_pow h1 h2
theorem crcBits_lt (t c : Nat) (h : c < 4294967296) : crcBits t c < 4294967296 := by
 induction t with
 | zero => exact h
 | succ t ih => exact crcBit_lt _ ih
theorem u32_xor (a b : Nat) (ha : a < 4294967296) (hb : b < 4294967296) : Go.bits .xor .u32 (a : Int) (b : Int) = ((a ^^^ b : Nat) : Int) ∧ a ^^^ b < 4294967296 := by
 have hx : a ^^^ b < 2 ^ 32 := Nat.xor_lt_two_pow (show a < 2 ^ 32 from ha) (show b < 2 ^ 32 from hb)
 refine ⟨?_, hx⟩
 have ha' : a % 2 ^ IntKind.u32.bits = a := Nat.mod_eq_of_lt (by rw [show (2 : Nat) ^ IntKind.u32.bits = 4294967296 from rfl]; exact ha)
 have hb' : b % 2 ^ IntKind.u32.bits = b := Nat.mod_eq_of_lt (by rw [show (2 : Nat) ^ IntKind.u32.bits = 4294967296 from rfl]; exact hb)
 simp only [bits, BitVec.ofInt_natCast, BitVec.toNat_xor, BitVec.toNat_ofNat, ha', hb']
 have h3 : a ^^^ b < 4294967296 := hx
 simp [IntKind.wrap, IntKind.bits, IntKind.signed]
 omega
theorem u32_wrap (a : Nat) (ha : a < 4294967296) : IntKind.u32.wrap (a : Int) = (a : Int) := by
 simp [IntKind.wrap, IntKind.bits, IntKind.signed]; omega
theorem u32_and (a b : Nat) (ha : a < 4294967296) (hb : b < 4294967296) : Go.bits .and .u32 (a : Int) (b : Int) = ((a &&& b : Nat) : Int) := by
 have hx : a &&& b ≤ a := Nat.and_le_left
 have ha' : a % 2 ^ IntKind.u32.bits = a := Nat.mod_eq_of_lt (by rw [show (2 : Nat) ^ IntKind.u32.bits = 4294967296 from rfl]; exact ha)
 have hb' : b % 2 ^ IntKind.u32.bits = b := Nat.mod_eq_of_lt (by rw [show (2 : Nat) ^ IntKind.u32.bits = 4294967296 from rfl]; exact hb)
 simp only [bits, BitVec.ofInt_natCast, BitVec.toNat_and, BitVec.toNat_ofNat, ha', hb']
 exact u32_wrap _ (by omega)
theorem crc_bit (c : Nat) (h : c < 4294967296) : Go.bits .xor .u32 ((c : Int) / 2) (Go.bits .and .u32 2197175160 ((-(Go.bits .and .u32 (c : Int) 1)) % 4294967296)) = (crcBit c : Nat) := by
 have e1 : (c : Int) / (2 : Int) = ((c >>> 1 : Nat) : Int) := by
  rw [Nat.shiftRight_eq_div_pow]; omega
 have e2 : Go.bits .and .u32 (c : Int) 1 = ((c % 2 : Nat) : Int) := by
  rw [show (1 : Int) = ((1 : Nat) : Int) from rfl, u32_and c 1 h (by omega), Nat.and_one_is_mod]
 have h1 : c >>> 1 < 4294967296 := by rw [Nat.shiftRight_eq_div_pow]; omega
 rw [e1, e2]
 unfold crcBit
 by_cases hc : c % 2 = 1
 ·rw [if_pos hc, hc, show (-((1 : Nat) : Int)) % 4294967296 = ((4294967295 : Nat) : Int) from by decide]
  rw [show (2197175160 : Int) = ((2197175160 : Nat) : Int) from rfl, u32_and _ _ (by omega) (by omega)]
  rw [show 2197175160 &&& 4294967295 = 2197175160 from by decide]
  exact (u32_xor _ _ h1 (by omega)).1
 ·have h0 : c % 2 = 0 := by omega
  rw [if_neg hc, h0, show (-((0 : Nat) : Int)) % 4294967296 = ((0 : Nat) : Int) from by decide]
  rw [show (2197175160 : Int) = ((2197175160 : Nat) : Int) from rfl, u32_and _ _ (by omega) (by omega)]
  rw [show 2197175160 &&& 0 = 0 from by decide]
  exact (u32_xor _ _ h1 (by omega)).1
def tabC (k : Nat) : Array Value := ((List.range 256).map fun i => Value.int .u32 (if i < k then (crcBits 8 i : Nat) else 0)).toArray
theorem tabC_size (k : Nat) : (tabC k).size = 256 := by simp [tabC]
theorem tabC_get (k i : Nat) (h : i < 256) : (tabC k)[i]? = some (Value.int .u32 (if i < k then (crcBits 8 i : Nat) else 0)) := by
 simp [tabC, h]
theorem tabC_set (k : Nat) (h : k < 256) : (tabC k).setIfInBounds k (.int .u32 (crcBits 8 k : Nat)) = tabC (k + 1) := by
 apply Array.ext (by simp [tabC_size])
 intro i h1 h2
 rw [tabC_size] at h2
 have a := tabC_get k i h2
 have b := tabC_get (k + 1) i h2
 rw [Array.getElem?_eq_getElem (by rw [tabC_size]; exact h2)] at a b
 rw [Array.getElem_setIfInBounds (by rw [tabC_size]; exact h2)]
 injection a with a; injection b with b
 rw [a, b]
 by_cases hk : k = i
 ·subst hk; rw [if_pos rfl, if_pos (by omega)]
 ·rw [if_neg hk]
  by_cases hl : i < k
  ·rw [if_pos hl, if_pos (by omega)]
  ·rw [if_neg hl, if_neg (by omega)]
theorem laid_cell {w : World} {b : Nat} {c : Array Value} {t : TypeId} (h : w.heap[b]? = some (.cells c t (0, 0))) (i : Nat) : w.cell? ⟨b, i, none⟩ = c[i]? ∧ w.frozen? ⟨b, i, none⟩ = false := by
 unfold World.cell? World.frozen?
 simp only [h]
 exact ⟨rfl, by simp⟩
theorem laid_set {w : World} {b : Nat} {c : Array Value} {t : TypeId} (h : w.heap[b]? = some (.cells c t (0, 0))) (i : Nat) (v : Value) : (w.setCell ⟨b, i, none⟩ v).heap[b]? = some (.cells (c.setIfInBounds i v) t (0, 0)) := by
 unfold World.setCell
 simp only [Array.getElem?_modify, h]
 simp
set_option maxHeartbeats 800000 in
set_option maxRecDepth 100000 in
theorem crc_table.calls (w : World) : Calls Try.prog 108 #[] w fun e w' => e = .returned (.pointer (some ⟨w.heap.size, 0, none⟩)) ∧ (∀ i : Nat, i < 256 → w'.cell? ⟨w.heap.size, i, none⟩ = some (.int .u32 (crcBits 8 i : Nat))) ∧ Below w.heap.size w w' := by
 have hz : Try.zeroCells154 = tabC 0 := by kernel_rfl
 go_enter Try.func108, Try.ntmps108
 go_wp2
 have HH := Aside0.mk (show (w.alloc (Obj.cells Try.zeroCells154 154)).heap[w.heap.size]? = some (.cells (tabC 0) 154 (0, 0)) by rw [← hz]; exact World.alloc_heap_new _ _)
 have HB := Aside0.mk (below_alloc (Below.refl w.heap.size w) (Obj.cells Try.zeroCells154 154))
 clear hz
 go_loopw [4] (fun v4 wr => ∃ k : Nat, v4 = .int .i64 (k : Int) ∧ k ≤ 256 ∧ Aside0 (wr.heap[w.heap.size]? = some (.cells (tabC k) 154 (0, 0))) ∧ Aside0 (Below w.heap.size w wr)) (fun v4 _ => 256 - (intOf v4).toNat)
 case atStart => exact ⟨0, rfl, by omega, HH, HB⟩
 case round =>
  obtain ⟨k, rfl, hk, H, B⟩ := hrel
  clear HH HB
  by_cases hlt : k < 256
  ·go_wp2
   go_loop [3, 9] (fun v3 v9 => ∃ j : Nat, v9 = .int .i64 (j : Int) ∧ j ≤ 8 ∧ v3 = .int .u32 (crcBits j k : Nat)) (fun _ v9 => 8 - (intOf v9).toNat)
   case atStart => exact ⟨0, rfl, by omega, rfl⟩
   case round =>
    obtain ⟨j, rfl, hj, rfl⟩ := hrel
    have hc := crcBits_lt j k (by omega)
    have hcb := crc_bit _ hc
    obtain ⟨c, hce⟩ : ∃ c, c = crcBits j k := ⟨_, rfl⟩
    rw [← hce] at hc hcb
    by_cases hj8 : j < 8
    ·have C := Aside0.mk hcb
     clear hcb
     go_wp2
     go_roundw
     case rel => exact ⟨j + 1, by push_cast; rfl, by omega, by rw [← hce, C.out, hce]; rfl⟩
     case measure => simp [intOf]; omega
    ·have : j = 8 := by omega
     subst this
     have hcell := (laid_cell H.out k).1
     rw [tabC_get k k hlt] at hcell
     have hfroz := (laid_cell H.out k).2
     have HS := Aside0.mk (laid_set H.out k (.int .u32 (crcBits 8 k : Nat)))
     rw [hce] at *
     go_wp2
     go_roundw
     case rel => exact ⟨k + 1, by push_cast; rfl, by omega, ⟨by rw [← tabC_set k hlt]; exact HS.out⟩, ⟨B.out.setCell (Nat.le_refl _) _⟩⟩
     case measure => simp [intOf]; omega
  ·have : k = 256 := by omega
   subst this
   go_wp2
   go_ret
   exact ⟨rfl, fun i hi => by rw [(laid_cell H.out i).1, tabC_get 256 i hi, if_pos hi], B.out⟩
def crcStep (c x : Nat) : Nat := (c >>> 8) ^^^ crcBits 8 ((c % 256) ^^^ x)
def crcRun (c : Nat) (l : List Int) : Nat := l.foldl (fun c x => crcStep c x.toNat) c
theorem octet_xor_lt (c x : Nat) (hx : x < 256) : (c % 256) ^^^ x < 256 := by
 have := Nat.xor_lt_two_pow (x := c % 256) (y := x) (n := 8) (by show c % 256 < 256; omega) hx
 exact this
theorem crcStep_lt (c x : Nat) (h : c < 4294967296) (hx : x < 256) : crcStep c x < 4294967296 := by
 unfold crcStep
 have h1 : c >>> 8 < 2 ^ 32 := by rw [Nat.shiftRight_eq_div_pow]; omega
 have h2 : crcBits 8 ((c % 256) ^^^ x) < 2 ^ 32 := crcBits_lt 8 _ (by have := octet_xor_lt c x hx; omega)
 exact Nat.xor_lt_two_pow h1 h2
theorem crcRun_snoc (c : Nat) (l : List Int) (x : Int) : crcRun c (l ++ [x]) = crcStep (crcRun c l) x.toNat := by simp [crcRun, List.foldl_append]
theorem crcRun_lt (l : List Int) : ∀ (c : Nat), c < 4294967296 → (∀ x ∈ l, 0 ≤ x ∧ x < 256) → crcRun c l < 4294967296 := by
 induction l with
 | nil => intro c h _; exact h
 | cons x l ih =>
  intro c h hx
  exact ih _ (crcStep_lt c x.toNat h (by have := hx x (by simp); omega)) (fun y hy => hx y (by simp [hy]))
theorem u8_xor (a b : Nat) (ha : a < 256) (hb : b < 256) : Go.bits .xor .u8 (a : Int) (b : Int) = ((a ^^^ b : Nat) : Int) := by
 have hx : a ^^^ b < 2 ^ 8 := Nat.xor_lt_two_pow (show a < 2 ^ 8 from ha) (show b < 2 ^ 8 from hb)
 have ha' : a % 2 ^ IntKind.u8.bits = a := Nat.mod_eq_of_lt (by rw [show (2 : Nat) ^ IntKind.u8.bits = 256 from rfl]; exact ha)
 have hb' : b % 2 ^ IntKind.u8.bits = b := Nat.mod_eq_of_lt (by rw [show (2 : Nat) ^ IntKind.u8.bits = 256 from rfl]; exact hb)
 simp only [bits, BitVec.ofInt_natCast, BitVec.toNat_xor, BitVec.toNat_ofNat, ha', hb']
 have h3 : a ^^^ b < 256 := hx
 simp [IntKind.wrap, IntKind.bits, IntKind.signed]
 omega
set_option maxHeartbeats 800000 in
set_option maxRecDepth 100000 in
theorem crc_run.calls (c : Nat) (hcl : c < 4294967296) (A0 : Option Addr) (c0 : Nat) (l0 : List Int) (w : World) (hr0 : Kd.C (Kd.int .u8) w A0 l0.length l0) (hc0 : l0.length ≤ c0) (hx : ∀ x ∈ l0, 0 ≤ x ∧ x < 256) (hl : l0.length ≤ 140737488355328) : Calls Try.prog 106 #[.int .u32 (c : Nat), .slice A0 l0.length c0] w fun e w' => e = .returned (.int .u32 (crcRun c l0 : Nat)) ∧ Below w.heap.size w w' := by
 have HX := Aside0.mk hx
 have HR0 := Aside0.mk hr0
 clear hx hr0 hc0
 by_cases he : l0.length = 0
 ·have : l0 = [] := List.eq_nil_of_length_eq_zero he
  subst this
  go_enter Try.func106, Try.ntmps106
  go_wp2
  go_ret
  exact ⟨rfl, Below.refl _ _⟩
 ·go_enter Try.func106, Try.ntmps106
  go_wp2_with (go_at_call 108; refine (crc_table.calls _).mono ?_; rintro e w1 ⟨rfl, ht, hb⟩; have HT := Aside0.mk ht; have HB := Aside0.mk hb; clear ht hb)
  have HR1 := Aside0.mk (Kd.C_below HR0.out HB.out)
  go_loop [0, 15] (fun v0 v15 => ∃ k : Nat, v15 = .int .i64 (k : Int) ∧ k ≤ l0.length ∧ v0 = .int .u32 (crcRun c (l0.take k) : Nat)) (fun _ v15 => l0.length - (intOf v15).toNat)
  case atStart => exact ⟨0, rfl, by omega, rfl⟩
  case round =>
   obtain ⟨k, rfl, hk, rfl⟩ := hrel
   have hlt := crcRun_lt (l0.take k) c hcl (fun x hx => HX.out x (List.mem_of_mem_take hx))
   obtain ⟨q, hq⟩ : ∃ q, q = crcRun c (l0.take k) := ⟨_, rfl⟩
   rw [← hq] at hlt ⊢
   by_cases hkn : k < l0.length
   ·obtain ⟨x, hxe⟩ : ∃ x : Nat, l0[k] = (x : Int) := ⟨l0[k].toNat, by have := HX.out _ (List.getElem_mem hkn); omega⟩
    have hxb : x < 256 := by have := HX.out _ (List.getElem_mem hkn); omega
    have hnext : crcRun c (l0.take (k + 1)) = crcStep q x := by
     rw [List.take_succ_eq_append_getElem hkn, crcRun_snoc, ← hq, hxe, Int.toNat_natCast]
    obtain ⟨ad, hae, hcell⟩ := Kd.at_int HR1.out (k : Int) (by omega) (by omega)
    cases hae
    rw [rd_nat l0 k hkn, hxe, Int.toNat_natCast] at hcell
    have htx := HT.out ((q % 256) ^^^ x) (octet_xor_lt q x hxb)
    have hxor : Go.bits .xor .u8 ((q : Int) % 256) (x : Int) = (((q % 256) ^^^ x : Nat) : Int) := by
     rw [← u8_xor (q % 256) x (by omega) hxb]; congr 1
    have hlx := octet_xor_lt q x hxb
    obtain ⟨y, hy⟩ : ∃ y, y = (q % 256) ^^^ x := ⟨_, rfl⟩
    rw [← hy] at htx hxor hlx
    have hstep : Go.bits .xor .u32 ((q : Int) / 256) ((crcBits 8 y : Nat) : Int) = (crcStep q x : Nat) := by
     have h1 : q >>> 8 < 4294967296 := by rw [Nat.shiftRight_eq_div_pow]; omega
     have := (u32_xor (q >>> 8) (crcBits 8 y) h1 (crcBits_lt 8 _ (by omega))).1
     rw [show ((q >>> 8 : Nat) : Int) = (q : Int) / 256 by rw [Nat.shiftRight_eq_div_pow]; omega] at this
     rw [this, hy]; rfl
    have HN := Aside0.mk hnext
    clear hnext hq hxe hy
    have HST := Aside0.mk hstep
    clear hstep
    go_wp2
    exact ⟨⟨k + 1, by push_cast; rfl, by omega, by rw [HST.out, HN.out]⟩, by simp [intOf]; omega⟩
   ·have : k = l0.length := by omega
    subst this
    go_wp2
    go_ret
    exact ⟨rfl, HB.out⟩
theorem u32_not (q : Nat) (h : q < 4294967296) : Go.bits .xor .u32 IntKind.u32.max (q : Int) = ((4294967295 - q : Nat) : Int) := by
 rw [show IntKind.u32.max = ((4294967295 : Nat) : Int) from by decide, (u32_xor 4294967295 q (by omega) h).1]
 have : (4294967295 ^^^ q : Nat) = 4294967295 - q := by
  have h1 := congrArg BitVec.toNat (show (BitVec.allOnes 32) ^^^ (BitVec.ofNat 32 q) = ~~~ (BitVec.ofNat 32 q) from BitVec.allOnes_xor)
  rw [BitVec.toNat_xor, BitVec.toNat_not, BitVec.toNat_allOnes, BitVec.toNat_ofNat, Nat.mod_eq_of_lt (show q < 2 ^ 32 from h)] at h1
  have e : (2 : Nat) ^ 32 - 1 = 4294967295 := by decide
  rw [e] at h1
  exact h1
 rw [this]
def crcSum (l : List Int) : Nat := 4294967295 - crcRun 4294967295 l
def crc_Sum.f (l0 : List Int) : Option Int := if (∀ x ∈ l0, 0 ≤ x ∧ x < 256) ∧ l0.length ≤ 140737488355328 then some ((crcSum l0 : Nat) : Int) else none
set_option maxHeartbeats 800000 in
set_option maxRecDepth 100000 in
theorem crc_Sum.calls (A0 : Option Addr) (c0 : Nat) (l0 : List Int) (r : Int) (w : World) (hr0 : Kd.C (Kd.int .u8) w A0 l0.length l0) (hc0 : l0.length ≤ c0) (h : crc_Sum.f l0 = some r) : Calls Try.prog 93 #[.slice A0 l0.length c0] w fun e w' => e = .returned (.int .u32 r) ∧ Below w.heap.size w w' := by
 unfold crc_Sum.f at h
 by_cases hx : (∀ x ∈ l0, 0 ≤ x ∧ x < 256) ∧ l0.length ≤ 140737488355328
 case neg => rw [if_neg hx] at h; cases h
 rw [if_pos hx] at h
 cases h
 have hr := crcRun_lt l0 4294967295 (by omega) hx.1
 have HP := Aside0.mk (crc_run.calls 4294967295 (by omega) A0 c0 l0 w hr0 hc0 hx.1 hx.2)
 clear hx hr0 hc0
 have HN := Aside0.mk (u32_not (crcRun 4294967295 l0) hr)
 clear hr
 unfold crcSum
 go_enter Try.func93, Try.ntmps93
 go_wp2_with (first | (go_at_call 106; refine HP.out.mono ?_; rintro e w1 ⟨rfl, hb⟩) | go_in)
 go_ret
 exact ⟨by rw [HN.out]; rfl, hb⟩
end Go.Proofs.Ytooabchnbmnchaa.Q
namespace Go.Proofs.Ytooabchnbmnchaa.Q
open Go.RowKit Go.Proofs.YtooabchnbmnchaaW.PrintWords Go.Proofs.YtooabchnbmnchaaW.PrintLast Go.Proofs.YtooabchnbmnchaaW.PrintMore
attribute [local go_sem] max2_int min2_int max_two min_two max_three min_three max_four min_four binOp_string_leq binOp_string_geq binOp_string_gtr   -- for this text's walks alone
set_option linter.unusedVariables false
set_option linter.unusedSimpArgs false
def frames_Open.f (k : Nat) (l0 : List Int) : Option (Int × List Int × Int × Int) := if (l0.length : Int) < 8 then (some (0, ([] : List Int), 0, 8)) else (if 2 ≤ 4 then (if 4 ≤ (l0.length : Int) then ((octets_Get.f k ((l0.take 4).drop 2)).bind fun bt104 => (if 0 < (l0.length : Int) then (if (rd l0 0) = 167 then (if bt104.1 > 4096 then (some (0, ([] : List Int), 0, 5)) else (if (l0.length : Int) < (wrap64 ((wrap64 (4 + (wrap64 (bt104.1)))) + 4)) then (some (0, ([] : List Int), 0, 8)) else (if 0 ≤ (wrap64 (4 + (wrap64 (bt104.1)))) then (if (wrap64 (4 + (wrap64 (bt104.1)))) ≤ (wrap64 ((wrap64 (4 + (wrap64 (bt104.1)))) + 4)) then (if (wrap64 ((wrap64 (4 + (wrap64 (bt104.1)))) + 4)) ≤ (l0.length : Int) then ((octets_Get.f k ((l0.take ((wrap64 ((wrap64 (4 + (wrap64 (bt104.1)))) + 4)) : Int).toNat).drop ((wrap64 (4 + (wrap64 (bt104.1)))) : Int).toNat)).bind fun bt108 => (if (wrap64 (4 + (wrap64 (bt104.1)))) ≤ (l0.length : Int) then ((crc_Sum.f (l0.take ((wrap64 (4 + (wrap64 (bt104.1)))) : Int).toNat)).bind fun t111 => (if ((bt108.1) % 4294967296) = t111 then (if 1 < (l0.length : Int) then (if 4 ≤ (wrap64 (4 + (wrap64 (bt104.1)))) then ((bytes_Clone.f ((l0.take ((wrap64 (4 + (wrap64 (bt104.1)))) : Int).toNat).drop 4)).bind fun t114 => (some (rd l0 1, t114, wrap64 ((wrap64 (4 + (wrap64 (bt104.1)))) + 4), 0))) else (none)) else (none)) else (some (0, ([] : List Int), 0, 21)))) else (none))) else (none)) else (none)) else (none)))) else (some (0, ([] : List Int), 0, 22))) else (none))) else (none)) else (none))
theorem frames_Open.mono : ∀ a0 k, LeO (frames_Open.f k a0) (frames_Open.f (k + 1) a0) := by
 intro a0 k
 unfold frames_Open.f
 repeat' first
   | (with_reducible exact octets_Get.mono _ _)
   | (with_reducible exact LeO.refl _)
   | (with_reducible exact LeO.none _)
   | (with_reducible refine LeO.ite ?_ ?_)
   | (with_reducible refine LeO.bind ?_ (fun _ => ?_))
   | exact octets_Get.mono _ _
   | exact LeO.none _
   | refine LeO.ite ?_ ?_
   | refine LeO.bind ?_ (fun _ => ?_)
def frames_Open.T14 : Bool × List (List Nat × List Nat) := (true, [([], []), ([0], [0]), ([1], [1]), ([], []), ([], []), ([3, 4], [3, 4]), ([5], [5]), ([2, 6], [2, 6]), ([], []), ([8], [8]), ([7, 6, 0, 1, 2, 3, 4, 5, 6, 7], [7]), ([9, 10, 0, 1, 2, 3, 4, 5, 6, 7, 8, 9, 10], [9]), ([11, 0, 1, 2, 3, 4, 5, 6, 7, 8, 9, 10, 11], [])])
def frames_Open.B14 : List Nat := [0, 1, 3, 0, 0, 24, 56, 127, 0, 256, 255, 2047, 4095]
theorem frames_Open.tab14 : rtab .any (opsOf Try.f103 14) = frames_Open.T14 := by kernel_rfl
theorem frames_Open.bits14 : waitsOk frames_Open.T14.2 frames_Open.B14 = true := by kernel_rfl
set_option maxHeartbeats 8000000 in
set_option maxRecDepth 100000 in
theorem frames_Open.calls (k : Nat) (A0 : Option Addr) (c0 : Nat) (l0 : List Int) (r1 : Int) (r2 : List Int) (r3 : Int) (r4 : Int) (w : World) (hr0 : Kd.C (Kd.int .u8) w A0 l0.length l0) (hc0 : l0.length ≤ c0) (h : frames_Open.f k l0 = some (r1, r2, r3, r4)) :
  Calls Try.prog 103 #[.slice A0 l0.length c0] w fun e w' => ∃ v1_ : Value, e = .returned (.tuple #[.agg #[.int .u8 r1, v1_], .int .i64 r3, .int .i64 r4]) ∧ Kd.R (Kd.int .u8) 5 w' w.heap.size (fun _ => True) v1_ r2 ∧ Below w.heap.size w w' := by
 have hu117 := Try.underlying117
 have HR0 := Aside0.mk hr0
 have HC0 := Aside0.mk hc0
 clear hr0 hc0
 have HB := Aside0.mk (Below.refl w.heap.size w)
 have H : (if (l0.length : Int) < 8 then (some (0, ([] : List Int), 0, 8)) else (if 2 ≤ 4 then (if 4 ≤ (l0.length : Int) then ((octets_Get.f k ((l0.take 4).drop 2)).bind fun bt104 => (if 0 < (l0.length : Int) then (if (rd l0 0) = 167 then (if bt104.1 > 4096 then (some (0, ([] : List Int), 0, 5)) else (if (l0.length : Int) < (wrap64 ((wrap64 (4 + (wrap64 (bt104.1)))) + 4)) then (some (0, ([] : List Int), 0, 8)) else (if 0 ≤ (wrap64 (4 + (wrap64 (bt104.1)))) then (if (wrap64 (4 + (wrap64 (bt104.1)))) ≤ (wrap64 ((wrap64 (4 + (wrap64 (bt104.1)))) + 4)) then (if (wrap64 ((wrap64 (4 + (wrap64 (bt104.1)))) + 4)) ≤ (l0.length : Int) then ((octets_Get.f k ((l0.take ((wrap64 ((wrap64 (4 + (wrap64 (bt104.1)))) + 4)) : Int).toNat).drop ((wrap64 (4 + (wrap64 (bt104.1)))) : Int).toNat)).bind fun bt108 => (if (wrap64 (4 + (wrap64 (bt104.1)))) ≤ (l0.length : Int) then ((crc_Sum.f (l0.take ((wrap64 (4 + (wrap64 (bt104.1)))) : Int).toNat)).bind fun t111 => (if ((bt108.1) % 4294967296) = t111 then (if 1 < (l0.length : Int) then (if 4 ≤ (wrap64 (4 + (wrap64 (bt104.1)))) then ((bytes_Clone.f ((l0.take ((wrap64 (4 + (wrap64 (bt104.1)))) : Int).toNat).drop 4)).bind fun t114 => (some (rd l0 1, t114, wrap64 ((wrap64 (4 + (wrap64 (bt104.1)))) + 4), 0))) else (none)) else (none)) else (some (0, ([] : List Int), 0, 21)))) else (none))) else (none)) else (none)) else (none)))) else (some (0, ([] : List Int), 0, 22))) else (none))) else (none)) else (none))) = some (r1, r2, r3, r4) := h
 clear h
 by_cases c2 : (l0.length : Int) < 8
 ·rw [if_pos c2] at H
  have c2b0 : decide ((l0.length : Int) < 8) = true := decide_eq_true c2
  have c2b1 : decide (l0.length < 8) = true := decide_eq_true (by omega)
  clear c2
  simp only [Option.some.injEq, Prod.mk.injEq] at H
  obtain ⟨rfl, rfl, rfl, rfl⟩ := H
  go_enter Try.func103, Try.ntmps103
  go_wp2_with (first | ((with_reducible refine gate_dst (N := 2) rfl ?_); refine bx_ 2 #[.int .u8 0, .slice none 0 0] 117 ?_; intro gb102 hg w3 hbox hb; have BK102 := Aside0.mk (hbox); have GW102 := bG_ HB hg; have GE102 := bG_ HB hg; replace HB := bS_ HB hb; clear hb hbox hg; obtain ⟨hcz4_0, hcz4_1, hfz4_0, hfz4_1⟩ := cz2_ BK102))
  refine bodyPost_ret (results_ctt rfl _ _ gb102 117 #[.int .u8 0, .slice none 0 0] (0, 0) _ rfl (by (with_reducible repeat (first | refine blk_drewN ?_ _ | refine blk_drew ?_ | refine blk_alloc ?_ _)); refine blk_put (cs := #[.int .u8 0, .slice none 0 0]) ?_ 1 _ rfl; (with_reducible repeat (first | refine blk_drewN ?_ _ | refine blk_drew ?_ | refine blk_alloc ?_ _)); refine blk_put (cs := #[.int .u8 0, .slice none 0 0]) ?_ 0 _ rfl; (with_reducible repeat (first | refine blk_drewN ?_ _ | refine blk_drew ?_ | refine blk_alloc ?_ _)); exact BK102.out) Try.underlying117 rfl (by kernel_rfl)) rfl ?_
  exact ⟨_, fin_, nil_, bl_ HB⟩
 ·rw [if_neg c2] at H
  have c2b0 : decide ((l0.length : Int) < 8) = false := decide_eq_false c2
  have c2b1 : decide (l0.length < 8) = false := decide_eq_false (by omega)
  clear c2
  by_cases c5 : 2 ≤ 4
  ·rw [if_pos c5] at H
   have c5b0 := eq_true c5
   have c5b1 : decide (2 ≤ 4) = true := decide_eq_true c5
   clear c5
   by_cases c6 : 4 ≤ (l0.length : Int)
   ·rw [if_pos c6] at H
    have c6b0 := eq_true c6
    have c6b1 : decide (4 ≤ (l0.length : Int)) = true := decide_eq_true c6
    clear c6
    replace H := Option.bind_eq_some_iff.mp H
    obtain ⟨⟨t104, t105⟩, A70, H⟩ := H
    try dsimp only at H
    have A7 := Aside0.mk A70
    clear A70
    by_cases c8 : 0 < (l0.length : Int)
    ·rw [if_pos c8] at H
     have c8b0 : decide (0 < (l0.length : Int)) = true := decide_eq_true c8
     have c8b1 : decide (0 < l0.length) = true := decide_eq_true (by omega)
     clear c8
     by_cases c9 : (rd l0 0) = 167
     ·rw [if_pos c9] at H
      have c9b0 : ((rd l0 0) == 167) = true := beq_iff_eq.mpr c9
      have c9b1 : ((rd l0 0) != 167) = false := bne_eq_false_iff_eq.mpr c9
      clear c9
      by_cases c10 : t104 > 4096
      ·rw [if_pos c10] at H
       have c10b0 : decide (4096 < t104) = true := decide_eq_true c10
       clear c10
       simp only [Option.some.injEq, Prod.mk.injEq] at H
       obtain ⟨rfl, rfl, rfl, rfl⟩ := H
       go_enter Try.func103, Try.ntmps103
       go_wp2_with (first | ((with_reducible refine gate_dst (N := 2) rfl ?_); refine bx_ 2 #[.int .u8 0, .slice none 0 0] 117 ?_; intro gb102 hg w11 hbox hb; have BK102 := Aside0.mk (hbox); have GW102 := bG_ HB hg; have GE102 := bG_ HB hg; replace HB := bS_ HB hb; clear hb hbox hg; obtain ⟨i012, hi012, _, hsz12, _⟩ := info_parts info5; obtain ⟨A12, hcut12, hA12, hC12⟩ := print_mid_of (P := Try.prog) (Value.int .u8) 0 26 5 .i64 .i64 Try.underlying26 hi012 hsz12 A0 c0 l0 2 4 (by omega) (by first | omega | exact of_decide_eq_true (by first | (with_reducible assumption) | assumption)) (of_decide_eq_true (by first | (with_reducible assumption) | assumption)) HC0.out; have HR103 := Aside0.mk (Kd.C_of_reads (h1 := fun _ => rfl) (hA12 _ (Kd.reads_of_C HR0.out))); have HC103 := Aside0.mk hC12; clear hA12 hC12 hi012 hsz12) | ((with_reducible refine gate_callee (f := 83) rfl ?_); refine goesL_ (some 17) rfl rfl Try.func83 (by kernel_rfl) rfl #[.slice A12 ((l0.take 4).drop 2).length (c0 - 2)] rfl (by (try simp only [List.map_toArray, List.map_cons, List.map_nil]); first | done | (rw [show ((l0.take 4).drop 2).length = (4 - 2) from (by rw [List.length_drop, List.length_take]; have h_ : (4 : Int) ≤ (l0.length : Int) := of_decide_eq_true (by first | (with_reducible assumption) | assumption); omega)] <;> rfl) | rfl | (simp only [List.length_drop, List.length_take]; rfl)) ?_; (with_reducible refine (octets_Get.calls k _ _ ((l0.take 4).drop 2) t104 t105 _ ?_ ?_ A7.out).mono ?_); exact cB_ HR103 HB; exact HC103.out; rintro e w' ⟨rfl, ⟨nd, rfl⟩⟩; refine ⟨_, rfl, ?_⟩; (try (rw [drewN_self w11]; generalize hq_ : World.drewN w11 _ = w11; replace BK102 : Aside0 (w11.heap[gb102]? = some (.cells #[.int .u8 0, .slice none 0 0] 117 (0, 0))) := ⟨by rw [← hq_]; exact (bA_ BK102)⟩; replace HB : Aside0 (Below w.heap.size w w11) := ⟨by rw [← hq_]; exact (bl_ HB)⟩; clear hq_)); (try (rw [drewN_self w11]; generalize hq_ : World.drewN w11 _ = w11; replace BK102 : Aside0 (w11.heap[gb102]? = some (.cells #[.int .u8 0, .slice none 0 0] 117 (0, 0))) := ⟨by rw [← hq_]; exact (bA_ BK102)⟩; replace HB : Aside0 (Below w.heap.size w w11) := ⟨by rw [← hq_]; exact (bl_ HB)⟩; clear hq_)); have p106 : 0 ≤ (0 : Int) := (by omega); have q106 : 0 < (l0.length : Int) := of_decide_eq_true (by first | (with_reducible assumption) | assumption); obtain ⟨ad106, e106, hx106_0⟩ := Kd.at_int HR0.out 0 p106 q106; cases e106; have qi106 : (0 < l0.length) = True := eq_true (by omega); (try rw [show ((0 : Int)).toNat = 0 from rfl] at hx106_0); (try rw [Addr.add_zero'] at hx106_0); replace hx106_0 := (HB.out.cell (World.block_lt_of_cell? w _ hx106_0)).trans hx106_0; replace p106 := eq_true p106; replace q106 := eq_true q106; obtain ⟨hcz13_0, hcz13_1, hfz13_0, hfz13_1⟩ := cz2_ BK102))
       refine bodyPost_ret (results_ctt rfl _ _ gb102 117 #[.int .u8 0, .slice none 0 0] (0, 0) _ rfl (by (with_reducible repeat (first | refine blk_drewN ?_ _ | refine blk_drew ?_ | refine blk_alloc ?_ _)); refine blk_put (cs := #[.int .u8 0, .slice none 0 0]) ?_ 1 _ rfl; (with_reducible repeat (first | refine blk_drewN ?_ _ | refine blk_drew ?_ | refine blk_alloc ?_ _)); refine blk_put (cs := #[.int .u8 0, .slice none 0 0]) ?_ 0 _ rfl; (with_reducible repeat (first | refine blk_drewN ?_ _ | refine blk_drew ?_ | refine blk_alloc ?_ _)); exact BK102.out) Try.underlying117 rfl (by kernel_rfl)) rfl ?_
       exact ⟨_, fin_, nil_, bl_ HB⟩
      ·rw [if_neg c10] at H
       have c10b0 : decide (4096 < t104) = false := decide_eq_false c10
       clear c10
       by_cases c14 : (l0.length : Int) < (wrap64 ((wrap64 (4 + (wrap64 (t104)))) + 4))
       ·rw [if_pos c14] at H
        have c14b0 : decide ((l0.length : Int) < (wrap64 ((wrap64 (4 + (wrap64 (t104)))) + 4))) = true := decide_eq_true c14
        clear c14
        simp only [Option.some.injEq, Prod.mk.injEq] at H
        obtain ⟨rfl, rfl, rfl, rfl⟩ := H
        go_enter Try.func103, Try.ntmps103
        go_wp2_with (first | ((with_reducible refine gate_dst (N := 2) rfl ?_); refine bx_ 2 #[.int .u8 0, .slice none 0 0] 117 ?_; intro gb102 hg w15 hbox hb; have BK102 := Aside0.mk (hbox); have GW102 := bG_ HB hg; have GE102 := bG_ HB hg; replace HB := bS_ HB hb; clear hb hbox hg; obtain ⟨i016, hi016, _, hsz16, _⟩ := info_parts info5; obtain ⟨A16, hcut16, hA16, hC16⟩ := print_mid_of (P := Try.prog) (Value.int .u8) 0 26 5 .i64 .i64 Try.underlying26 hi016 hsz16 A0 c0 l0 2 4 (by omega) (by first | omega | exact of_decide_eq_true (by first | (with_reducible assumption) | assumption)) (of_decide_eq_true (by first | (with_reducible assumption) | assumption)) HC0.out; have HR103 := Aside0.mk (Kd.C_of_reads (h1 := fun _ => rfl) (hA16 _ (Kd.reads_of_C HR0.out))); have HC103 := Aside0.mk hC16; clear hA16 hC16 hi016 hsz16) | ((with_reducible refine gate_callee (f := 83) rfl ?_); refine goesL_ (some 17) rfl rfl Try.func83 (by kernel_rfl) rfl #[.slice A16 ((l0.take 4).drop 2).length (c0 - 2)] rfl (by (try simp only [List.map_toArray, List.map_cons, List.map_nil]); first | done | (rw [show ((l0.take 4).drop 2).length = (4 - 2) from (by rw [List.length_drop, List.length_take]; have h_ : (4 : Int) ≤ (l0.length : Int) := of_decide_eq_true (by first | (with_reducible assumption) | assumption); omega)] <;> rfl) | rfl | (simp only [List.length_drop, List.length_take]; rfl)) ?_; (with_reducible refine (octets_Get.calls k _ _ ((l0.take 4).drop 2) t104 t105 _ ?_ ?_ A7.out).mono ?_); exact cB_ HR103 HB; exact HC103.out; rintro e w' ⟨rfl, ⟨nd, rfl⟩⟩; refine ⟨_, rfl, ?_⟩; (try (rw [drewN_self w15]; generalize hq_ : World.drewN w15 _ = w15; replace BK102 : Aside0 (w15.heap[gb102]? = some (.cells #[.int .u8 0, .slice none 0 0] 117 (0, 0))) := ⟨by rw [← hq_]; exact (bA_ BK102)⟩; replace HB : Aside0 (Below w.heap.size w w15) := ⟨by rw [← hq_]; exact (bl_ HB)⟩; clear hq_)); (try (rw [drewN_self w15]; generalize hq_ : World.drewN w15 _ = w15; replace BK102 : Aside0 (w15.heap[gb102]? = some (.cells #[.int .u8 0, .slice none 0 0] 117 (0, 0))) := ⟨by rw [← hq_]; exact (bA_ BK102)⟩; replace HB : Aside0 (Below w.heap.size w w15) := ⟨by rw [← hq_]; exact (bl_ HB)⟩; clear hq_)); have p106 : 0 ≤ (0 : Int) := (by omega); have q106 : 0 < (l0.length : Int) := of_decide_eq_true (by first | (with_reducible assumption) | assumption); obtain ⟨ad106, e106, hx106_0⟩ := Kd.at_int HR0.out 0 p106 q106; cases e106; have qi106 : (0 < l0.length) = True := eq_true (by omega); (try rw [show ((0 : Int)).toNat = 0 from rfl] at hx106_0); (try rw [Addr.add_zero'] at hx106_0); replace hx106_0 := (HB.out.cell (World.block_lt_of_cell? w _ hx106_0)).trans hx106_0; replace p106 := eq_true p106; replace q106 := eq_true q106; obtain ⟨hcz17_0, hcz17_1, hfz17_0, hfz17_1⟩ := cz2_ BK102))
        refine bodyPost_ret (results_ctt rfl _ _ gb102 117 #[.int .u8 0, .slice none 0 0] (0, 0) _ rfl (by (with_reducible repeat (first | refine blk_drewN ?_ _ | refine blk_drew ?_ | refine blk_alloc ?_ _)); refine blk_put (cs := #[.int .u8 0, .slice none 0 0]) ?_ 1 _ rfl; (with_reducible repeat (first | refine blk_drewN ?_ _ | refine blk_drew ?_ | refine blk_alloc ?_ _)); refine blk_put (cs := #[.int .u8 0, .slice none 0 0]) ?_ 0 _ rfl; (with_reducible repeat (first | refine blk_drewN ?_ _ | refine blk_drew ?_ | refine blk_alloc ?_ _)); exact BK102.out) Try.underlying117 rfl (by kernel_rfl)) rfl ?_
        exact ⟨_, fin_, nil_, bl_ HB⟩
       ·rw [if_neg c14] at H
        have c14b0 : decide ((l0.length : Int) < (wrap64 ((wrap64 (4 + (wrap64 (t104)))) + 4))) = false := decide_eq_false c14
        clear c14
        obtain ⟨ji18, hji18⟩ : ∃ j_ : Int, (wrap64 (4 + (wrap64 (t104)))) = j_ := ⟨_, rfl⟩
        replace H : (if 0 ≤ (ji18) then (if (ji18) ≤ (wrap64 ((ji18) + 4)) then (if (wrap64 ((ji18) + 4)) ≤ (l0.length : Int) then ((octets_Get.f k ((l0.take ((wrap64 ((ji18) + 4)) : Int).toNat).drop ((ji18) : Int).toNat)).bind fun bt108 => (if (ji18) ≤ (l0.length : Int) then ((crc_Sum.f (l0.take ((ji18) : Int).toNat)).bind fun t111 => (if ((bt108.1) % 4294967296) = t111 then (if 1 < (l0.length : Int) then (if 4 ≤ (ji18) then ((bytes_Clone.f ((l0.take ((ji18) : Int).toNat).drop 4)).bind fun t114 => (some (rd l0 1, t114, wrap64 ((ji18) + 4), 0))) else (none)) else (none)) else (some (0, ([] : List Int), 0, 21)))) else (none))) else (none)) else (none)) else (none)) = some (r1, r2, r3, r4) := by first | (rw [hji18] at H; exact H) | (simp only [hji18] at H ⊢; exact H)
        (try rw [hji18] at c14b0)
        (try rw [hji18] at A7)
        have hji18w : (IntKind.i64.wrap (4 + (wrap64 (t104)))) = ji18 := (i64_w _).trans hji18
        by_cases c19 : 0 ≤ (ji18)
        ·rw [if_pos c19] at H
         have c19b0 := eq_true c19
         have c19b1 : decide (0 ≤ (ji18)) = true := decide_eq_true c19
         clear c19
         by_cases c20 : (ji18) ≤ (wrap64 ((ji18) + 4))
         ·rw [if_pos c20] at H
          have c20b0 := eq_true c20
          have c20b1 : decide ((ji18) ≤ (wrap64 ((ji18) + 4))) = true := decide_eq_true c20
          by_cases c21 : (wrap64 ((ji18) + 4)) ≤ (l0.length : Int)
          ·rw [if_pos c21] at H
           have c21b0 := eq_true c21
           have c21b1 : decide ((wrap64 ((ji18) + 4)) ≤ (l0.length : Int)) = true := decide_eq_true c21
           replace H := Option.bind_eq_some_iff.mp H
           obtain ⟨⟨t108, t109⟩, A220, H⟩ := H
           try dsimp only at H
           have A22 := Aside0.mk A220
           clear A220
           have c23b0 := eq_true (of_decide_eq_true (by first | (with_reducible assumption) | assumption) : 0 ≤ (ji18))
           by_cases c24 : (ji18) ≤ (l0.length : Int)
           ·rw [if_pos c24] at H
            have c24b0 := eq_true c24
            have c24b1 : decide ((ji18) ≤ (l0.length : Int)) = true := decide_eq_true c24
            clear c24
            replace H := Option.bind_eq_some_iff.mp H
            obtain ⟨t111, A250, H⟩ := H
            try dsimp only at H
            have A25 := Aside0.mk A250
            clear A250
            by_cases c26 : ((t108) % 4294967296) = t111
            ·rw [if_pos c26] at H
             have c26b0 : (((t108) % 4294967296) == t111) = true := beq_iff_eq.mpr c26
             have c26b1 : (((t108) % 4294967296) != t111) = false := bne_eq_false_iff_eq.mpr c26
             clear c26
             by_cases c27 : 1 < (l0.length : Int)
             ·rw [if_pos c27] at H
              have c27b0 : decide (1 < (l0.length : Int)) = true := decide_eq_true c27
              have c27b1 : decide (1 < l0.length) = true := decide_eq_true (by omega)
              clear c27
              by_cases c28 : 4 ≤ (ji18)
              ·rw [if_pos c28] at H
               have c28b0 := eq_true c28
               have c28b1 : decide (4 ≤ (ji18)) = true := decide_eq_true c28
               clear c28
               have c29b0 := eq_true (of_decide_eq_true (by first | (with_reducible assumption) | assumption) : (ji18) ≤ (l0.length : Int))
               replace H := Option.bind_eq_some_iff.mp H
               obtain ⟨t114, A300, H⟩ := H
               replace H : (some (rd l0 1, t114, wrap64 ((ji18) + 4), 0)) = some (r1, r2, r3, r4) := H
               have A30 := Aside0.mk A300
               clear A300
               simp only [Option.some.injEq, Prod.mk.injEq] at H
               obtain ⟨rfl, rfl, rfl, rfl⟩ := H
               go_enter Try.func103, Try.ntmps103
               try go_wp2_with (first | ((with_reducible refine gate_dst (N := 2) rfl ?_); refine bx_ 2 #[.int .u8 0, .slice none 0 0] 117 ?_; intro gb102 hg w31 hbox hb; have BK102 := Aside0.mk (hbox); have GW102 := bG_ HB hg; have GE102 := bG_ HB hg; replace HB := bS_ HB hb; clear hb hbox hg; obtain ⟨i032, hi032, _, hsz32, _⟩ := info_parts info5; obtain ⟨A32, hcut32, hA32, hC32⟩ := print_mid_of (P := Try.prog) (Value.int .u8) 0 26 5 .i64 .i64 Try.underlying26 hi032 hsz32 A0 c0 l0 2 4 (by omega) (by first | omega | exact of_decide_eq_true (by first | (with_reducible assumption) | assumption)) (of_decide_eq_true (by first | (with_reducible assumption) | assumption)) HC0.out; have HR103 := Aside0.mk (Kd.C_of_reads (h1 := fun _ => rfl) (hA32 _ (Kd.reads_of_C HR0.out))); have HC103 := Aside0.mk hC32; clear hA32 hC32 hi032 hsz32) | ((with_reducible refine gate_callee (f := 83) rfl ?_); refine goesL_ (some 17) rfl rfl Try.func83 (by kernel_rfl) rfl #[.slice A32 ((l0.take 4).drop 2).length (c0 - 2)] rfl (by (try simp only [List.map_toArray, List.map_cons, List.map_nil]); first | done | (rw [show ((l0.take 4).drop 2).length = (4 - 2) from (by rw [List.length_drop, List.length_take]; have h_ : (4 : Int) ≤ (l0.length : Int) := of_decide_eq_true (by first | (with_reducible assumption) | assumption); omega)] <;> rfl) | rfl | (simp only [List.length_drop, List.length_take]; rfl)) ?_; (with_reducible refine (octets_Get.calls k _ _ ((l0.take 4).drop 2) t104 t105 _ ?_ ?_ A7.out).mono ?_); exact cB_ HR103 HB; exact HC103.out; rintro e w' ⟨rfl, ⟨nd, rfl⟩⟩; refine ⟨_, rfl, ?_⟩; (try (rw [drewN_self w31]; generalize hq_ : World.drewN w31 _ = w31; replace BK102 : Aside0 (w31.heap[gb102]? = some (.cells #[.int .u8 0, .slice none 0 0] 117 (0, 0))) := ⟨by rw [← hq_]; exact (bA_ BK102)⟩; replace HB : Aside0 (Below w.heap.size w w31) := ⟨by rw [← hq_]; exact (bl_ HB)⟩; clear hq_)); (try (rw [drewN_self w31]; generalize hq_ : World.drewN w31 _ = w31; replace BK102 : Aside0 (w31.heap[gb102]? = some (.cells #[.int .u8 0, .slice none 0 0] 117 (0, 0))) := ⟨by rw [← hq_]; exact (bA_ BK102)⟩; replace HB : Aside0 (Below w.heap.size w w31) := ⟨by rw [← hq_]; exact (bl_ HB)⟩; clear hq_)); have p106 : 0 ≤ (0 : Int) := (by omega); have q106 : 0 < (l0.length : Int) := of_decide_eq_true (by first | (with_reducible assumption) | assumption); obtain ⟨ad106, e106, hx106_0⟩ := Kd.at_int HR0.out 0 p106 q106; cases e106; have qi106 : (0 < l0.length) = True := eq_true (by omega); (try rw [show ((0 : Int)).toNat = 0 from rfl] at hx106_0); (try rw [Addr.add_zero'] at hx106_0); replace hx106_0 := (HB.out.cell (World.block_lt_of_cell? w _ hx106_0)).trans hx106_0; replace p106 := eq_true p106; replace q106 := eq_true q106; obtain ⟨i033, hi033, _, hsz33, _⟩ := info_parts info5; obtain ⟨A33, hcut33, hA33, hC33⟩ := print_mid_of (P := Try.prog) (Value.int .u8) 0 26 5 .i64 .i64 Try.underlying26 hi033 hsz33 (some ad106) c0 l0 (ji18) (wrap64 ((ji18) + 4)) (of_decide_eq_true (by first | (with_reducible assumption) | assumption)) (by first | omega | exact of_decide_eq_true (by first | (with_reducible assumption) | assumption)) (of_decide_eq_true (by first | (with_reducible assumption) | assumption)) HC0.out; have HR107 := Aside0.mk (Kd.C_of_reads (h1 := fun _ => rfl) (hA33 _ (Kd.reads_of_C HR0.out))); have HC107 := Aside0.mk hC33; clear hA33 hC33 hi033 hsz33) | ((with_reducible refine gate_callee (f := 83) rfl ?_); refine goesL_ (some 46) rfl rfl Try.func83 (by kernel_rfl) rfl #[.slice A33 ((l0.take ((wrap64 ((ji18) + 4)) : Int).toNat).drop ((ji18) : Int).toNat).length (c0 - (ji18).toNat)] rfl (by (try simp only [List.map_toArray, List.map_cons, List.map_nil]); first | done | (rw [show ((l0.take ((wrap64 ((ji18) + 4)) : Int).toNat).drop ((ji18) : Int).toNat).length = ((wrap64 ((ji18) + 4)).toNat - (ji18).toNat) from (by rw [List.length_drop, List.length_take]; have h_ : ((wrap64 ((ji18) + 4)) : Int) ≤ (l0.length : Int) := of_decide_eq_true (by first | (with_reducible assumption) | assumption); omega)] <;> rfl) | (simp only [hji18]; rfl) | rfl | (simp only [List.length_drop, List.length_take]; rfl)) ?_; (with_reducible refine (octets_Get.calls k _ _ ((l0.take ((wrap64 ((ji18) + 4)) : Int).toNat).drop ((ji18) : Int).toNat) t108 t109 _ ?_ ?_ A22.out).mono ?_); exact cB_ HR107 HB; exact HC107.out; rintro e w' ⟨rfl, ⟨nd, rfl⟩⟩; refine ⟨_, rfl, ?_⟩; (try (rw [drewN_self w31]; generalize hq_ : World.drewN w31 _ = w31; replace BK102 : Aside0 (w31.heap[gb102]? = some (.cells #[.int .u8 0, .slice none 0 0] 117 (0, 0))) := ⟨by rw [← hq_]; exact (bA_ BK102)⟩; replace HB : Aside0 (Below w.heap.size w w31) := ⟨by rw [← hq_]; exact (bl_ HB)⟩; clear hq_)); (try (rw [drewN_self w31]; generalize hq_ : World.drewN w31 _ = w31; replace BK102 : Aside0 (w31.heap[gb102]? = some (.cells #[.int .u8 0, .slice none 0 0] 117 (0, 0))) := ⟨by rw [← hq_]; exact (bA_ BK102)⟩; replace HB : Aside0 (Below w.heap.size w w31) := ⟨by rw [← hq_]; exact (bl_ HB)⟩; clear hq_)); obtain ⟨i034, hi034, _, hsz34, _⟩ := info_parts info5; obtain ⟨hcut34, hA34, hC34⟩ := print_take_of (P := Try.prog) (Value.int .u8) 0 26 5 .i64 Try.underlying26 hi034 hsz34 (some ad106) c0 l0 (ji18) (of_decide_eq_true (by first | (with_reducible assumption) | assumption)) (of_decide_eq_true (by first | (with_reducible assumption) | assumption)) HC0.out; have HR110 := Aside0.mk (Kd.C_of_reads (h1 := fun _ => rfl) (hA34 _ (Kd.reads_of_C HR0.out))); have HC110 := Aside0.mk hC34; clear hA34 hC34 hi034 hsz34) | ((with_reducible refine gate_callee (f := 93) rfl ?_); refine goesL_ (some 54) rfl rfl Try.func93 (by kernel_rfl) rfl #[.slice (some ad106) (l0.take ((ji18) : Int).toNat).length c0] rfl (by (try simp only [List.map_toArray, List.map_cons, List.map_nil]); first | done | (rw [show (l0.take ((ji18) : Int).toNat).length = (ji18).toNat from (by rw [List.length_take]; have h_ : ((ji18) : Int) ≤ (l0.length : Int) := of_decide_eq_true (by first | (with_reducible assumption) | assumption); omega)] <;> rfl) | (simp only [hji18]; rfl) | rfl | (simp only [List.length_drop, List.length_take]; rfl)) ?_; (with_reducible refine (crc_Sum.calls _ _ (l0.take ((ji18) : Int).toNat) t111 _ ?_ ?_ A25.out).mono ?_); exact cB_ HR110 HB; exact HC110.out; rintro e w35 ⟨rfl, hb⟩; refine ⟨_, rfl, ?_⟩; replace BK102 := bK_ BK102 hb; replace HB := bS_ HB hb; (try clear hb)))
               replace BK102 := Aside0.mk (blk_drew BK102.out)
               replace HB := Aside0.mk (below_drew1 HB.out)
               have p112 : 0 ≤ (1 : Int) := (by omega)
               have q112 : 1 < (l0.length : Int) := of_decide_eq_true (by first | (with_reducible assumption) | assumption)
               obtain ⟨ad112, e112, hx112_0⟩ := Kd.at_int HR0.out 1 p112 q112
               have hw112_0 := hx112_0
               (try rw [show ((1 : Int)).toNat = 1 from rfl] at hw112_0)
               (try rw [show 1 * 1 = 1 from rfl] at hw112_0)
               (try simp only [Nat.reduceMul, Nat.reduceEqDiff, Go.Addr.add, ↓reduceIte] at hw112_0)
               obtain rfl : ad106 = ad112 := (by injection e112)
               (try simp only [show (1 : Int).toNat = 1 from rfl, Nat.reduceMul, Nat.reduceEqDiff, Go.Addr.add, ↓reduceIte] at hx112_0)
               have qi112 : (1 < l0.length) = True := eq_true (by omega)
               (try rw [show ((1 : Int)).toNat = 1 from rfl] at hx112_0)
               replace hx112_0 := (HB.out.cell (World.block_lt_of_cell? w _ hx112_0)).trans hx112_0
               replace p112 := eq_true p112
               replace q112 := eq_true q112
               obtain ⟨i037, hi037, _, hsz37, _⟩ := info_parts info5
               obtain ⟨A37, hcut37, hA37, hC37⟩ := print_mid_of (P := Try.prog) (Value.int .u8) 0 26 5 .i64 .i64 Try.underlying26 hi037 hsz37 (some ad106) c0 l0 4 (ji18) (by omega) (by first | omega | exact of_decide_eq_true (by first | (with_reducible assumption) | assumption)) (of_decide_eq_true (by first | (with_reducible assumption) | assumption)) HC0.out
               have HR113 := Aside0.mk (Kd.C_of_reads (h1 := fun _ => rfl) (hA37 _ (Kd.reads_of_C HR0.out)))
               have HC113 := Aside0.mk hC37
               clear hA37 hC37 hi037 hsz37
               refine start_ (n := 13) (S := fun w' => w'.cell? ⟨ad106.block, ad106.off + 1, none⟩ = some (.int .u8 (rd l0 1))) (ds := []) #[false, false, false, false, false, false, false, false, false, false, false, false, false] (by kernel_rfl) rfl rfl (((HB.out.cell (World.block_lt_of_cell? w _ hw112_0)).trans hw112_0)) (fun hHeld => ?_); refine with_tabW frames_Open.tab14 frames_Open.bits14 (fun HT_ HW_ => ?_)
               generalize w35.drew = w36 at BK102 HB HR113 hx112_0 hHeld ⊢
               refine pu_ 0 (some 57) HT_ ?_
               refine pu_ 1 (some 58) HT_ ?_
               refine pu_ 3 (some 60) HT_ ?_
               refine pu_ 4 (some 61) HT_ ?_
               refine pu_ 5 (some 62) HT_ ?_
               refine pu_ 8 (some 65) HT_ ?_
               refine pu_ 9 (some 66) HT_ ?_
               refine take_ (i := 2) (N := some 59) (v := ?_) (a' := ?_) #[true, true, true, true, true, true, false, false, true, true, false, false, false] rfl rfl (take_ofW HT_.out HW_.out (by kernel_rfl)) (fun _ _ _ h => h) (Or.inl ⟨by rfl, ?_⟩) hHeld ?_ ?_
               rotate_left
               ·intro w' s0
                go_simp
                with_reducible rfl
               rotate_left
               ·simp only [Act.put, List.setIfInBounds_toArray, List.set_cons_zero, List.set_cons_succ, i64_w, i32_w]
                rfl
               refine on_ 6 (some 63) HT_ (fun K hK => ?_)
               refine goes_ Try.func75 (by kernel_rfl) rfl #[.slice A37 ((l0.take ((ji18) : Int).toNat).drop 4).length (c0 - 4)] (by rfl) rfl rfl (by (try simp only [List.map_toArray, List.map_cons, List.map_nil]); first | done | (rw [show ((l0.take ((ji18) : Int).toNat).drop 4).length = ((ji18).toNat - 4) from (by rw [List.length_drop, List.length_take]; have h_ : ((ji18) : Int) ≤ (l0.length : Int) := of_decide_eq_true (by first | (with_reducible assumption) | assumption); omega)] <;> rfl) | (simp only [hji18]; rfl) | rfl | (simp only [List.length_drop, List.length_take]; rfl)) ?_
               with_reducible refine (bytes_Clone.calls _ _ ((l0.take ((ji18) : Int).toNat).drop 4) t114 _ ?_ ?_ A30.out).mono ?_
               exact cB_ HR113 HB
               exact HC113.out
               rintro e w38 ⟨v115, rfl, ho0, hb⟩
               refine ⟨_, rfl, ?_⟩
               have HO116 := Aside0.mk (Kd.R_lower ho0 (bs_ HB))
               replace BK102 := bK_ BK102 hb
               replace HB := bS_ HB hb
               (try clear hb ho0)
               obtain ⟨Ao39, co39, eo39⟩ := Kd.R_slice HO116.out
               (first | subst eo39 | (injection eo39 with f1_ f2_ f3_; have f4_ := f1_.symm; have f5_ := f3_.symm; clear f1_ f2_ f3_; subst f4_; subst f5_))
               refine hK.out _ _ (((HB.out.cell (World.block_lt_of_cell? w _ hw112_0)).trans hw112_0)) (fun hHeld => ?_)
               clear hK K
               refine norm_ (a' := ?_) ?_ ?_
               rotate_left
               ·show Act.put _ (some 63) _ = _
                simp only [Act.put, List.setIfInBounds_toArray, List.set_cons_zero, List.set_cons_succ, i64_w, i32_w]
                rfl
               refine pu_ 7 (some 64) HT_ ?_
               refine on_ 10 none HT_ (fun K hK => ?_)
               have hs40 : w38.cell? ⟨gb102, 0, none⟩ = some (.int .u8 0) := (blk_cell BK102.out 0).trans rfl
               have hfs40 := blk_frozen BK102.out 0
               have hs41 : w38.cell? ⟨gb102, 1, none⟩ = some (.slice none 0 0) := (blk_cell BK102.out 1).trans rfl
               have hfs41 := blk_frozen BK102.out 1
               refine skip_ (w1 := ?_) (by rfl) rfl ?_ ?_
               rotate_left
               ·go_simp
                rfl
               refine hK.out _ _ (((cell_far (p := ⟨gb102, _, none⟩) (by first | exact Nat.ne_of_lt (Nat.lt_of_lt_of_le (by have := World.block_lt_of_cell? _ _ hw112_0; first | rwa [add_block] at this | exact this) GW102.out) | (rw [add_block]; exact Nat.ne_of_lt (Nat.lt_of_lt_of_le (by have := World.block_lt_of_cell? _ _ hw112_0; first | rwa [add_block] at this | exact this) GW102.out)) | (show (Addr.add _ _).block ≠ _; rw [add_block]; exact Nat.ne_of_lt (Nat.lt_of_lt_of_le (by have := World.block_lt_of_cell? _ _ hw112_0; first | rwa [add_block] at this | exact this) GW102.out)) | (dsimp only; exact Nat.ne_of_lt (Nat.lt_of_lt_of_le (by have := World.block_lt_of_cell? _ _ hw112_0; first | rwa [add_block] at this | exact this) GW102.out))) _).trans (((cell_far (p := ⟨gb102, _, none⟩) (by first | exact Nat.ne_of_lt (Nat.lt_of_lt_of_le (by have := World.block_lt_of_cell? _ _ hw112_0; first | rwa [add_block] at this | exact this) GW102.out) | (rw [add_block]; exact Nat.ne_of_lt (Nat.lt_of_lt_of_le (by have := World.block_lt_of_cell? _ _ hw112_0; first | rwa [add_block] at this | exact this) GW102.out)) | (show (Addr.add _ _).block ≠ _; rw [add_block]; exact Nat.ne_of_lt (Nat.lt_of_lt_of_le (by have := World.block_lt_of_cell? _ _ hw112_0; first | rwa [add_block] at this | exact this) GW102.out)) | (dsimp only; exact Nat.ne_of_lt (Nat.lt_of_lt_of_le (by have := World.block_lt_of_cell? _ _ hw112_0; first | rwa [add_block] at this | exact this) GW102.out))) _).trans (hHeld))))) (fun hHeld => ?_)
               clear hK K
               refine pu_ 11 (some 3) HT_ ?_
               refine pu_ 12 (some 4) HT_ ?_
               refine done_ (done_of HT_.out (by kernel_rfl)) ?_
               try go_wp2
               refine bodyPost_ret (results_ctt rfl _ _ gb102 117 #[.int .u8 (rd l0 1), .slice Ao39 t114.length co39] (0, 0) _ rfl (by (with_reducible repeat (first | refine blk_drewN ?_ _ | refine blk_drew ?_ | refine blk_alloc ?_ _)); refine blk_put (cs := #[.int .u8 (rd l0 1), .slice none 0 0]) ?_ 1 _ rfl; (with_reducible repeat (first | refine blk_drewN ?_ _ | refine blk_drew ?_ | refine blk_alloc ?_ _)); refine blk_put (cs := #[.int .u8 0, .slice none 0 0]) ?_ 0 _ rfl; (with_reducible repeat (first | refine blk_drewN ?_ _ | refine blk_drew ?_ | refine blk_alloc ?_ _)); exact BK102.out) Try.underlying117 rfl (by kernel_rfl)) rfl ?_
               exact ⟨_, by first | rfl | (simp [errW_none, errW_some] <;> rfl) | (simp only [← hji18]; first | rfl | (simp [errW_none, errW_some] <;> rfl)) | (simp [*, errW_none, errW_some] <;> rfl), by (with_reducible repeat (first | apply Kd.R_alloc | apply Kd.R_drewN | apply Kd.R_drew)); exact Kd.R_mono (Kd.R_far (p := ⟨gb102, 1, none⟩) (Kd.R_far (p := ⟨gb102, 0, none⟩) (Kd.R_types HO116.out BK102.out (by decide)) (fun _ hk => hk.2) (.int .u8 (rd l0 1))) (fun _ hk => hk.2) (.slice Ao39 t114.length co39)) (fun _ hk => trivial), bl_ HB⟩
              ·rw [if_neg c28] at H
               exact absurd H (by simp)
             ·rw [if_neg c27] at H
              exact absurd H (by simp)
            ·rw [if_neg c26] at H
             have c26b0 : (((t108) % 4294967296) == t111) = false := beq_eq_false_iff_ne.mpr c26
             have c26b1 : (((t108) % 4294967296) != t111) = true := bne_iff_ne.mpr c26
             simp only [Option.some.injEq, Prod.mk.injEq] at H
             obtain ⟨rfl, rfl, rfl, rfl⟩ := H
             go_enter Try.func103, Try.ntmps103
             go_wp2_with (first | ((with_reducible refine gate_dst (N := 2) rfl ?_); refine bx_ 2 #[.int .u8 0, .slice none 0 0] 117 ?_; intro gb102 hg w42 hbox hb; have BK102 := Aside0.mk (hbox); have GW102 := bG_ HB hg; have GE102 := bG_ HB hg; replace HB := bS_ HB hb; clear hb hbox hg; obtain ⟨i043, hi043, _, hsz43, _⟩ := info_parts info5; obtain ⟨A43, hcut43, hA43, hC43⟩ := print_mid_of (P := Try.prog) (Value.int .u8) 0 26 5 .i64 .i64 Try.underlying26 hi043 hsz43 A0 c0 l0 2 4 (by omega) (by first | omega | exact of_decide_eq_true (by first | (with_reducible assumption) | assumption)) (of_decide_eq_true (by first | (with_reducible assumption) | assumption)) HC0.out; have HR103 := Aside0.mk (Kd.C_of_reads (h1 := fun _ => rfl) (hA43 _ (Kd.reads_of_C HR0.out))); have HC103 := Aside0.mk hC43; clear hA43 hC43 hi043 hsz43) | ((with_reducible refine gate_callee (f := 83) rfl ?_); refine goesL_ (some 17) rfl rfl Try.func83 (by kernel_rfl) rfl #[.slice A43 ((l0.take 4).drop 2).length (c0 - 2)] rfl (by (try simp only [List.map_toArray, List.map_cons, List.map_nil]); first | done | (rw [show ((l0.take 4).drop 2).length = (4 - 2) from (by rw [List.length_drop, List.length_take]; have h_ : (4 : Int) ≤ (l0.length : Int) := of_decide_eq_true (by first | (with_reducible assumption) | assumption); omega)] <;> rfl) | rfl | (simp only [List.length_drop, List.length_take]; rfl)) ?_; (with_reducible refine (octets_Get.calls k _ _ ((l0.take 4).drop 2) t104 t105 _ ?_ ?_ A7.out).mono ?_); exact cB_ HR103 HB; exact HC103.out; rintro e w' ⟨rfl, ⟨nd, rfl⟩⟩; refine ⟨_, rfl, ?_⟩; (try (rw [drewN_self w42]; generalize hq_ : World.drewN w42 _ = w42; replace BK102 : Aside0 (w42.heap[gb102]? = some (.cells #[.int .u8 0, .slice none 0 0] 117 (0, 0))) := ⟨by rw [← hq_]; exact (bA_ BK102)⟩; replace HB : Aside0 (Below w.heap.size w w42) := ⟨by rw [← hq_]; exact (bl_ HB)⟩; clear hq_)); (try (rw [drewN_self w42]; generalize hq_ : World.drewN w42 _ = w42; replace BK102 : Aside0 (w42.heap[gb102]? = some (.cells #[.int .u8 0, .slice none 0 0] 117 (0, 0))) := ⟨by rw [← hq_]; exact (bA_ BK102)⟩; replace HB : Aside0 (Below w.heap.size w w42) := ⟨by rw [← hq_]; exact (bl_ HB)⟩; clear hq_)); have p106 : 0 ≤ (0 : Int) := (by omega); have q106 : 0 < (l0.length : Int) := of_decide_eq_true (by first | (with_reducible assumption) | assumption); obtain ⟨ad106, e106, hx106_0⟩ := Kd.at_int HR0.out 0 p106 q106; cases e106; have qi106 : (0 < l0.length) = True := eq_true (by omega); (try rw [show ((0 : Int)).toNat = 0 from rfl] at hx106_0); (try rw [Addr.add_zero'] at hx106_0); replace hx106_0 := (HB.out.cell (World.block_lt_of_cell? w _ hx106_0)).trans hx106_0; replace p106 := eq_true p106; replace q106 := eq_true q106; obtain ⟨i044, hi044, _, hsz44, _⟩ := info_parts info5; obtain ⟨A44, hcut44, hA44, hC44⟩ := print_mid_of (P := Try.prog) (Value.int .u8) 0 26 5 .i64 .i64 Try.underlying26 hi044 hsz44 (some ad106) c0 l0 (ji18) (wrap64 ((ji18) + 4)) (of_decide_eq_true (by first | (with_reducible assumption) | assumption)) (by first | omega | exact of_decide_eq_true (by first | (with_reducible assumption) | assumption)) (of_decide_eq_true (by first | (with_reducible assumption) | assumption)) HC0.out; have HR107 := Aside0.mk (Kd.C_of_reads (h1 := fun _ => rfl) (hA44 _ (Kd.reads_of_C HR0.out))); have HC107 := Aside0.mk hC44; clear hA44 hC44 hi044 hsz44) | ((with_reducible refine gate_callee (f := 83) rfl ?_); refine goesL_ (some 46) rfl rfl Try.func83 (by kernel_rfl) rfl #[.slice A44 ((l0.take ((wrap64 ((ji18) + 4)) : Int).toNat).drop ((ji18) : Int).toNat).length (c0 - (ji18).toNat)] rfl (by (try simp only [List.map_toArray, List.map_cons, List.map_nil]); first | done | (rw [show ((l0.take ((wrap64 ((ji18) + 4)) : Int).toNat).drop ((ji18) : Int).toNat).length = ((wrap64 ((ji18) + 4)).toNat - (ji18).toNat) from (by rw [List.length_drop, List.length_take]; have h_ : ((wrap64 ((ji18) + 4)) : Int) ≤ (l0.length : Int) := of_decide_eq_true (by first | (with_reducible assumption) | assumption); omega)] <;> rfl) | (simp only [hji18]; rfl) | rfl | (simp only [List.length_drop, List.length_take]; rfl)) ?_; (with_reducible refine (octets_Get.calls k _ _ ((l0.take ((wrap64 ((ji18) + 4)) : Int).toNat).drop ((ji18) : Int).toNat) t108 t109 _ ?_ ?_ A22.out).mono ?_); exact cB_ HR107 HB; exact HC107.out; rintro e w' ⟨rfl, ⟨nd, rfl⟩⟩; refine ⟨_, rfl, ?_⟩; (try (rw [drewN_self w42]; generalize hq_ : World.drewN w42 _ = w42; replace BK102 : Aside0 (w42.heap[gb102]? = some (.cells #[.int .u8 0, .slice none 0 0] 117 (0, 0))) := ⟨by rw [← hq_]; exact (bA_ BK102)⟩; replace HB : Aside0 (Below w.heap.size w w42) := ⟨by rw [← hq_]; exact (bl_ HB)⟩; clear hq_)); (try (rw [drewN_self w42]; generalize hq_ : World.drewN w42 _ = w42; replace BK102 : Aside0 (w42.heap[gb102]? = some (.cells #[.int .u8 0, .slice none 0 0] 117 (0, 0))) := ⟨by rw [← hq_]; exact (bA_ BK102)⟩; replace HB : Aside0 (Below w.heap.size w w42) := ⟨by rw [← hq_]; exact (bl_ HB)⟩; clear hq_)); obtain ⟨i045, hi045, _, hsz45, _⟩ := info_parts info5; obtain ⟨hcut45, hA45, hC45⟩ := print_take_of (P := Try.prog) (Value.int .u8) 0 26 5 .i64 Try.underlying26 hi045 hsz45 (some ad106) c0 l0 (ji18) (of_decide_eq_true (by first | (with_reducible assumption) | assumption)) (of_decide_eq_true (by first | (with_reducible assumption) | assumption)) HC0.out; have HR110 := Aside0.mk (Kd.C_of_reads (h1 := fun _ => rfl) (hA45 _ (Kd.reads_of_C HR0.out))); have HC110 := Aside0.mk hC45; clear hA45 hC45 hi045 hsz45) | ((with_reducible refine gate_callee (f := 93) rfl ?_); refine goesL_ (some 54) rfl rfl Try.func93 (by kernel_rfl) rfl #[.slice (some ad106) (l0.take ((ji18) : Int).toNat).length c0] rfl (by (try simp only [List.map_toArray, List.map_cons, List.map_nil]); first | done | (rw [show (l0.take ((ji18) : Int).toNat).length = (ji18).toNat from (by rw [List.length_take]; have h_ : ((ji18) : Int) ≤ (l0.length : Int) := of_decide_eq_true (by first | (with_reducible assumption) | assumption); omega)] <;> rfl) | (simp only [hji18]; rfl) | rfl | (simp only [List.length_drop, List.length_take]; rfl)) ?_; (with_reducible refine (crc_Sum.calls _ _ (l0.take ((ji18) : Int).toNat) t111 _ ?_ ?_ A25.out).mono ?_); exact cB_ HR110 HB; exact HC110.out; rintro e w46 ⟨rfl, hb⟩; refine ⟨_, rfl, ?_⟩; replace BK102 := bK_ BK102 hb; replace HB := bS_ HB hb; (try clear hb); obtain ⟨hcz47_0, hcz47_1, hfz47_0, hfz47_1⟩ := cz2_ BK102))
             refine bodyPost_ret (results_ctt rfl _ _ gb102 117 #[.int .u8 0, .slice none 0 0] (0, 0) _ rfl (by (with_reducible repeat (first | refine blk_drewN ?_ _ | refine blk_drew ?_ | refine blk_alloc ?_ _)); refine blk_put (cs := #[.int .u8 0, .slice none 0 0]) ?_ 1 _ rfl; (with_reducible repeat (first | refine blk_drewN ?_ _ | refine blk_drew ?_ | refine blk_alloc ?_ _)); refine blk_put (cs := #[.int .u8 0, .slice none 0 0]) ?_ 0 _ rfl; (with_reducible repeat (first | refine blk_drewN ?_ _ | refine blk_drew ?_ | refine blk_alloc ?_ _)); exact BK102.out) Try.underlying117 rfl (by kernel_rfl)) rfl ?_
             exact ⟨_, by first | rfl | (simp [errW_none, errW_some] <;> rfl) | (simp only [← hji18]; first | rfl | (simp [errW_none, errW_some] <;> rfl)) | (simp [*, errW_none, errW_some] <;> rfl), nil_, bl_ HB⟩
           ·rw [if_neg c24] at H
            exact absurd H (by simp)
          ·rw [if_neg c21] at H
           exact absurd H (by simp)
         ·rw [if_neg c20] at H
          exact absurd H (by simp)
        ·rw [if_neg c19] at H
         exact absurd H (by simp)
     ·rw [if_neg c9] at H
      have c9b0 : ((rd l0 0) == 167) = false := beq_eq_false_iff_ne.mpr c9
      have c9b1 : ((rd l0 0) != 167) = true := bne_iff_ne.mpr c9
      simp only [Option.some.injEq, Prod.mk.injEq] at H
      obtain ⟨rfl, rfl, rfl, rfl⟩ := H
      go_enter Try.func103, Try.ntmps103
      go_wp2_with (first | ((with_reducible refine gate_dst (N := 2) rfl ?_); refine bx_ 2 #[.int .u8 0, .slice none 0 0] 117 ?_; intro gb102 hg w48 hbox hb; have BK102 := Aside0.mk (hbox); have GW102 := bG_ HB hg; have GE102 := bG_ HB hg; replace HB := bS_ HB hb; clear hb hbox hg; obtain ⟨i049, hi049, _, hsz49, _⟩ := info_parts info5; obtain ⟨A49, hcut49, hA49, hC49⟩ := print_mid_of (P := Try.prog) (Value.int .u8) 0 26 5 .i64 .i64 Try.underlying26 hi049 hsz49 A0 c0 l0 2 4 (by omega) (by first | omega | exact of_decide_eq_true (by first | (with_reducible assumption) | assumption)) (of_decide_eq_true (by first | (with_reducible assumption) | assumption)) HC0.out; have HR103 := Aside0.mk (Kd.C_of_reads (h1 := fun _ => rfl) (hA49 _ (Kd.reads_of_C HR0.out))); have HC103 := Aside0.mk hC49; clear hA49 hC49 hi049 hsz49) | ((with_reducible refine gate_callee (f := 83) rfl ?_); refine goesL_ (some 17) rfl rfl Try.func83 (by kernel_rfl) rfl #[.slice A49 ((l0.take 4).drop 2).length (c0 - 2)] rfl (by (try simp only [List.map_toArray, List.map_cons, List.map_nil]); first | done | (rw [show ((l0.take 4).drop 2).length = (4 - 2) from (by rw [List.length_drop, List.length_take]; have h_ : (4 : Int) ≤ (l0.length : Int) := of_decide_eq_true (by first | (with_reducible assumption) | assumption); omega)] <;> rfl) | rfl | (simp only [List.length_drop, List.length_take]; rfl)) ?_; (with_reducible refine (octets_Get.calls k _ _ ((l0.take 4).drop 2) t104 t105 _ ?_ ?_ A7.out).mono ?_); exact cB_ HR103 HB; exact HC103.out; rintro e w' ⟨rfl, ⟨nd, rfl⟩⟩; refine ⟨_, rfl, ?_⟩; (try (rw [drewN_self w48]; generalize hq_ : World.drewN w48 _ = w48; replace BK102 : Aside0 (w48.heap[gb102]? = some (.cells #[.int .u8 0, .slice none 0 0] 117 (0, 0))) := ⟨by rw [← hq_]; exact (bA_ BK102)⟩; replace HB : Aside0 (Below w.heap.size w w48) := ⟨by rw [← hq_]; exact (bl_ HB)⟩; clear hq_)); (try (rw [drewN_self w48]; generalize hq_ : World.drewN w48 _ = w48; replace BK102 : Aside0 (w48.heap[gb102]? = some (.cells #[.int .u8 0, .slice none 0 0] 117 (0, 0))) := ⟨by rw [← hq_]; exact (bA_ BK102)⟩; replace HB : Aside0 (Below w.heap.size w w48) := ⟨by rw [← hq_]; exact (bl_ HB)⟩; clear hq_)); have p106 : 0 ≤ (0 : Int) := (by omega); have q106 : 0 < (l0.length : Int) := of_decide_eq_true (by first | (with_reducible assumption) | assumption); obtain ⟨ad106, e106, hx106_0⟩ := Kd.at_int HR0.out 0 p106 q106; cases e106; have qi106 : (0 < l0.length) = True := eq_true (by omega); (try rw [show ((0 : Int)).toNat = 0 from rfl] at hx106_0); (try rw [Addr.add_zero'] at hx106_0); replace hx106_0 := (HB.out.cell (World.block_lt_of_cell? w _ hx106_0)).trans hx106_0; replace p106 := eq_true p106; replace q106 := eq_true q106; obtain ⟨hcz50_0, hcz50_1, hfz50_0, hfz50_1⟩ := cz2_ BK102))
      refine bodyPost_ret (results_ctt rfl _ _ gb102 117 #[.int .u8 0, .slice none 0 0] (0, 0) _ rfl (by (with_reducible repeat (first | refine blk_drewN ?_ _ | refine blk_drew ?_ | refine blk_alloc ?_ _)); refine blk_put (cs := #[.int .u8 0, .slice none 0 0]) ?_ 1 _ rfl; (with_reducible repeat (first | refine blk_drewN ?_ _ | refine blk_drew ?_ | refine blk_alloc ?_ _)); refine blk_put (cs := #[.int .u8 0, .slice none 0 0]) ?_ 0 _ rfl; (with_reducible repeat (first | refine blk_drewN ?_ _ | refine blk_drew ?_ | refine blk_alloc ?_ _)); exact BK102.out) Try.underlying117 rfl (by kernel_rfl)) rfl ?_
      exact ⟨_, fin_, nil_, bl_ HB⟩
    ·rw [if_neg c8] at H
     exact absurd H (by simp)
   ·rw [if_neg c6] at H
    exact absurd H (by simp)
  ·rw [if_neg c5] at H
   exact absurd H (by simp)
end Go.Proofs.Ytooabchnbmnchaa.Q
namespace Go.Proofs.Ytooabchnbmnchaa.Q
open Go.RowKit Go.Proofs.YtooabchnbmnchaaW.PrintWords Go.Proofs.YtooabchnbmnchaaW.PrintLast Go.Proofs.YtooabchnbmnchaaW.PrintMore
attribute [local go_sem] max2_int min2_int max_two min_two max_three min_three max_four min_four binOp_string_leq binOp_string_geq binOp_string_gtr   -- for this text's walks alone
set_option linter.unusedVariables false
set_option linter.unusedSimpArgs false
def slices_ContainsFunc_byte_byte.Gives (g : Nat) (p : List Int → Bool) : Prop := ∀ (v : List Int) (A : Option Addr) (c : Nat) (W : World), Calls Try.prog g #[.slice A v.length c] W fun e w' => e = .returned (.bool (p v)) ∧ Below W.heap.size W w'
def slices_ContainsFunc_byte_byte.p (g : Nat) : Option (List Int → Bool) := if g = 78 then some (fun v => decide (4096 < v.length)) else if g = 68 then some (fun v => decide (4096 < v.length)) else none
def slices_ContainsFunc_byte_byte.f (l0 : List (List Int)) (g : Nat) : Option Bool := (slices_ContainsFunc_byte_byte.p g).bind fun p => some (l0.any p)
theorem slices_ContainsFunc_byte_byte.gives_transeptwalCheck1 : slices_ContainsFunc_byte_byte.Gives 78 (fun v => decide (4096 < v.length)) := by
 intro v A c W
 go_enter Try.func78, Try.ntmps78
 go_wp2
 go_ret
 exact ⟨by first | rfl | (congr 2; simp; omega) | simp, Below.refl _ _⟩
theorem slices_ContainsFunc_byte_byte.gives_transeptwalAppend1 : slices_ContainsFunc_byte_byte.Gives 68 (fun v => decide (4096 < v.length)) := by
 intro v A c W
 go_enter Try.func68, Try.ntmps68
 go_wp2
 go_ret
 exact ⟨by first | rfl | (congr 2; simp; omega) | simp, Below.refl _ _⟩
theorem slices_ContainsFunc_byte_byte.gives {g : Nat} {p : List Int → Bool} (h : slices_ContainsFunc_byte_byte.p g = some p) : slices_ContainsFunc_byte_byte.Gives g p ∧ (∀ args w, (callFunc g args).run Try.prog w = .ok (.enter g args) w) := by
 unfold slices_ContainsFunc_byte_byte.p at h
 by_cases c0 : g = 78
 ·rw [if_pos c0] at h; cases h; subst c0; exact ⟨slices_ContainsFunc_byte_byte.gives_transeptwalCheck1, enters_of Try.func78 (by kernel_rfl) rfl⟩
 rw [if_neg c0] at h
 by_cases c1 : g = 68
 ·rw [if_pos c1] at h; cases h; subst c1; exact ⟨slices_ContainsFunc_byte_byte.gives_transeptwalAppend1, enters_of Try.func68 (by kernel_rfl) rfl⟩
 rw [if_neg c1] at h
 cases h
set_option maxHeartbeats 800000 in
theorem slices_ContainsFunc_byte_byte.idx {g : Nat} {p : List Int → Bool} (hp : slices_ContainsFunc_byte_byte.Gives g p) (eg : ∀ args w, (callFunc g args).run Try.prog w = .ok (.enter g args) w) (A0 : Option Addr) (c0 : Nat) (l0 : List (List Int)) (w : World) (hr0 : Kd.C (Kd.slice 5 (Kd.int .u8)) w A0 l0.length l0) (hc0 : l0.length ≤ c0) :
  Calls Try.prog 89 #[.slice A0 l0.length c0, .func (.func g) #[] #[]] w fun e w' => ∃ i : Int, e = .returned (.int .i64 i) ∧ decide (0 ≤ i) = l0.any p ∧ Below w.heap.size w w' := by
 have hm := Kd.C_max hr0
 have HR0 := Aside0.mk hr0
 have HC0 := Aside0.mk hc0
 have HP := Aside0.mk hp
 clear hr0 hc0 hp
 go_enter Try.func89, Try.ntmps89
 go_wp2
 go_loopg [5, 8] l0.length (fun gg _ s8 wr => ∃ kk : Nat, kk ≤ l0.length ∧ l0.length - kk ≤ gg ∧ s8 = .int .i64 kk ∧ Aside0 (Below w.heap.size w wr) ∧ Aside0 ((l0.take kk).any p = false))
 case atStart => exact ⟨0, Nat.zero_le _, by omega, rfl, ⟨Below.refl _ w⟩, ⟨by simp⟩⟩
 case round =>
  obtain ⟨kk, hkk, hg, rfl, BW, A⟩ := hrel
  by_cases hlt : kk < l0.length
  ·have hltz : (kk : Int) < (l0.length : Int) := by omega
   obtain ⟨ad, rfl, hel⟩ := HR0.out.2.2 (by omega)
   obtain ⟨cs, hcl, hK, hcs⟩ := hel kk l0[kk] (List.getElem?_eq_getElem hlt)
   obtain ⟨Av, cv, rfl, _, _⟩ := hK
   have hcell : w.cell? ((ad.add (kk * 1)).add 0) = some (.slice Av l0[kk].length cv) := hcs 0 _ rfl
   rw [Nat.mul_one, show (ad.add kk).add 0 = ad.add kk from rfl] at hcell
   have hcell' := (BW.out.cell (World.block_lt_of_cell? w _ hcell)).trans hcell
   clear hcell
   have hcall := HP.out l0[kk] Av cv wr
   cases hq : p l0[kk] with
   | true =>
    rw [hq] at hcall
    have HQ := Aside0.mk hq
    clear hq
    go_wp2_with (go_at_fn g; refine hcall.mono ?_; rintro e w' ⟨rfl, hb'⟩)
    go_ret
    refine ⟨_, rfl, ?_, BW.out.trans (hb'.mono BW.out.size)⟩
    rw [decide_eq_true (by omega)]
    exact (List.any_eq_true.2 ⟨_, List.getElem_mem hlt, HQ.out⟩).symm
   | false =>
    rw [hq] at hcall
    have HQ := Aside0.mk hq
    clear hq
    go_wp2_with (go_at_fn g; refine hcall.mono ?_; rintro e w' ⟨rfl, hb'⟩)
    go_roundg (l0.length - (kk + 1))
    case measure => omega
    case rel =>
     refine ⟨kk + 1, by omega, by omega, by go_num, ⟨BW.out.trans (hb'.mono BW.out.size)⟩, ⟨?_⟩⟩
     rw [List.take_succ_eq_append_getElem hlt, List.any_append, A.out]
     simp [HQ.out]
  ·have hltz : ¬ (kk : Int) < (l0.length : Int) := by omega
   have : kk = l0.length := by omega
   subst this
   go_wp2
   go_ret
   refine ⟨_, rfl, ?_, BW.out⟩
   rw [List.take_length] at A
   rw [A.out]
   decide
set_option maxHeartbeats 800000 in
theorem slices_ContainsFunc_byte_byte.calls (A0 : Option Addr) (c0 : Nat) (l0 : List (List Int)) (g : Nat) (r : Bool) (w : World) (hr0 : Kd.C (Kd.slice 5 (Kd.int .u8)) w A0 l0.length l0) (hc0 : l0.length ≤ c0) (h : slices_ContainsFunc_byte_byte.f l0 g = some r) :
  Calls Try.prog 67 #[.slice A0 l0.length c0, .func (.func g) #[] #[]] w fun e w' => e = .returned (.bool r) ∧ Below w.heap.size w w' := by
 unfold slices_ContainsFunc_byte_byte.f at h
 obtain ⟨p, hp, h⟩ := Option.bind_eq_some_iff.1 h
 cases h
 obtain ⟨hg, eg⟩ := slices_ContainsFunc_byte_byte.gives hp
 have hcall := slices_ContainsFunc_byte_byte.idx hg eg A0 c0 l0 w hr0 hc0
 clear hr0 hc0 hp hg eg
 go_enter Try.func67, Try.ntmps67
 go_wp2_with (go_at_call 89; refine hcall.mono ?_; rintro e w' ⟨i, rfl, hi, hb⟩)
 go_ret
 exact ⟨rfl, hb⟩
end Go.Proofs.Ytooabchnbmnchaa.Q
namespace Go.Proofs.Ytooabchnbmnchaa.Q
open Go.RowKit Go.Proofs.YtooabchnbmnchaaW.PrintWords Go.Proofs.YtooabchnbmnchaaW.PrintLast Go.Proofs.YtooabchnbmnchaaW.PrintMore
attribute [local go_sem] max2_int min2_int max_two min_two max_three min_three max_four min_four binOp_string_leq binOp_string_geq binOp_string_gtr   -- for this text's walks alone
set_option linter.unusedVariables false
set_option linter.unusedSimpArgs false
section
variable {F : Fence} {n : Nat} {P : Program}
def SeqM {α : Type} (F : Fence) (n : Nat) (P : Program) (g : Nat) (lb : Array Value) (encs : α → Array Value) (M : α → World → World → Prop) (Kp : World → World → Prop) (S : List α → Prop) (N : Nat) (w : World) : Prop :=
 ∀ (l : Nat) (J : List α → World → Prop) (W : World), Below w.heap.size w W → AbidesFrom W.heap.size J →
  (∀ pre x W0 W1, J pre W0 → Below W0.heap.size W0 W1 → M x W0 W1 → pre.length < N → YieldAt F (n - 1) P l (encs x) W1 fun e W' => e = .returned (.bool true) ∧ J (pre ++ [x]) W' ∧ Kp W1 W') →
  J [] W → CallsIn F n P g (#[.func (.yield l) #[] #[]] ++ lb) W fun e W' => (∃ v, e = .returned v) ∧ ∃ xs, S xs ∧ J xs W'
theorem grown_of_below {W W' : World} (h : Below W.heap.size W W') : W.grownBy W' none := ⟨h.os, h.tape, h.output, h.size, fun k hk _ => h.block k hk⟩
def goesOnM {α : Type} (B : Nat) (Kp : World → World → Prop) (I : List α → World → Prop) (xs : List α) (W : World) : Exit → Act → World → Prop
 | .normal, _, W' => KeepsFrom B W W' ∧ Kp W W' ∧ I xs W'
 | _, _, _ => False
theorem wpIn_rangeFunc_M {α : Type} {g : Operand} {ps : Array Tmp} {assign body : Code} {Q : Exit → Act → World → Prop} {a : Act} {w : World}
  (hro : F.round = none) (h1 : 1 ≤ n) {gf : Nat} {lb : Array Value} (hg : a.eval g = .func (.func gf) #[] lb) (hFg : F.fn gf) (eg : ∀ args w, (callFunc gf args).run P w = .ok (.enter gf args) w)
  {encs : α → Array Value} {M : α → World → World → Prop} {Kp : World → World → Prop} {S : List α → Prop} {N : Nat} {w0 : World} (hseq : SeqM F (n - 1) P gf lb encs M Kp S N w0)
  (hKt : ∀ {A B C : World}, Kp A B → Kp B C → Kp A C) (hKb : ∀ (W : World) (l : Nat) (o o' : Obj), w.heap.size ≤ l → W.heap[l]? = some o → o.isCells = false → o.isWalk = false → Kp W (W.putObj l o')) (hb0 : Below w0.heap.size w0 w) (hps : ∀ x, (encs x).size = ps.size)
  (I : List α → World → Prop) (hI : OwnFrom w.heap.size I) (h0 : I [] w) (A : List α → α → Act → World → Prop) (hA : ∀ pre x a', OwnFrom w.heap.size (fun (_ : Unit) W => A pre x a' W))
  (hassign : ∀ (l : Nat) (pre : List α) (x : α) (W0 W : World) (K : Act → World → Prop), I pre W0 → Below W0.heap.size W0 W → M x W0 W → (∀ a' W', KeepsFrom w.heap.size W W' → Kp W W' → A pre x a' W' → K a' W') →
   assign.wpIn (F.inRound l) (n - 1 - 1) P (Exit.then K (fun _ _ _ => False)) { tmps := (ps.zip (encs x)).foldl (fun t (p, v) => t.setIfInBounds p v) a.tmps, defers := [] } W)
  (hbody : ∀ (l : Nat) (pre : List α) (x : α) (a' : Act) (W : World), A pre x a' W → pre.length < N → body.wpIn (F.inRound l) (n - 1 - 1) P (goesOnM w.heap.size Kp I (pre ++ [x]) W) a' W)
  (hdone : ∀ (D : Nat) (xs : List α) (W : World), w.heap.size ≤ D → S xs → I xs W → W.heap[D]? = some (.deferred (some [])) → Q .normal { a with defers := { target := .collected D, args := #[] } :: a.defers } W) :
  (Code.rangeFunc g ps assign body).wpIn F n P Q a w := by
 refine wpIn_rangeFunc fun fn hfn => ?_
 rw [hro]
 -- the two blocks of book-keeping: the rounds' deferred calls at w.heap.size, the loop's record behind it
 let recd : LoopState → Option Code → Loop := fun st pe => { state := st, pending := pe, fn, tmps := a.tmps, params := ps, assign, body, defers := w.heap.size }
 have hrec : ∀ st pe, recd st pe = { state := st, pending := pe, fn, tmps := a.tmps, params := ps, assign, body, defers := w.heap.size } := fun _ _ => rfl
 obtain ⟨W1, hW1⟩ : ∃ W1, W1 = (w.alloc (.deferred (some []))).alloc (.loop (recd .ready none)) := ⟨_, rfl⟩
 have hL1 : W1.heap[w.heap.size + 1]? = some (.loop (recd .ready none)) := by
  have := World.alloc_heap_new (w.alloc (.deferred (some []))) (.loop (recd .ready none))
  rw [World.size_alloc] at this
  rw [hW1]; exact this
 have hD1 : W1.heap[w.heap.size]? = some (.deferred (some [])) := by
  rw [hW1]; exact (Below.heap_alloc _ _ _ (by rw [World.size_alloc]; omega)).trans (World.alloc_heap_new w _)
 have hz1 : W1.heap.size = w.heap.size + 2 := by rw [hW1, World.size_alloc, World.size_alloc]
 have hI1 : I [] W1 := by rw [hW1]; exact hI.alloc _ (hI.alloc _ h0)
 have hb1 : Below w0.heap.size w0 W1 := by
  rw [hW1]; exact hb0.trans ((((Below.refl _ w).alloc (Nat.le_refl _) _).alloc (by rw [World.size_alloc]; omega) _).mono hb0.size)
 refine ⟨w.heap.size + 1, [{ target := .collected w.heap.size, args := #[] }], W1, { target := .fn (.func gf) lb, args := #[.func (.yield (w.heap.size + 1)) #[] #[]] }, W1, gf,
  #[.func (.yield (w.heap.size + 1)) #[] #[]] ++ lb, W1, ?_, ?_, ?_, ?_, fun _ => h1, ?_⟩
 ·rw [hW1]; exact run_enterLoop_outer _ _ _ _ _
 ·simp only [resolve, hg]
  simp [go_sem]
 ·intro f' hf'
  simp [Target.leads] at hf'
  subst hf'
  exact hFg
 ·simp [invoke, go_sem, eg]
 let J : List α → World → Prop := fun pre W => I pre W ∧ W.heap[w.heap.size + 1]? = some (.loop (recd .ready none)) ∧ W.heap[w.heap.size]? = some (.deferred (some []))
 have hJ : AbidesFrom W1.heap.size J := by
  intro s X Y row hs hg' hr
  have hrow : ∀ r, row = some r → ∃ o : Obj, X.heap[r]? = some o ∧ o.isCells = false := fun r e => by
   obtain ⟨_, o, ho, hw⟩ := hr r e
   exact ⟨o, ho, Obj.not_cells_of_walk hw⟩
  have hkeep : ∀ (k : Nat) (o : Obj), X.heap[k]? = some o → o.isWalk = false → Y.heap[k]? = some o := by
   intro k o ho hw
   refine (hg'.block k (Array.getElem?_eq_some_iff.1 ho).1 (fun e => ?_)).trans ho
   obtain ⟨_, o', ho', hw'⟩ := hr k e.symm
   rw [ho] at ho'
   cases ho'
   rw [hw] at hw'
   cases hw'
  exact ⟨hI s X Y row hs.1 hg' (fun r e => ⟨by have := (hr r e).1; omega, hrow r e⟩), hkeep _ _ hs.2.1 rfl, hkeep _ _ hs.2.2 rfl⟩
 refine (hseq (w.heap.size + 1) J W1 hb1 hJ ?_ ⟨hI1, hL1, hD1⟩).mono ?_
 ·intro pre x X0 X hj hbl hM hlen
  have hl : X.heap[w.heap.size + 1]? = some (.loop (recd .ready none)) := (hbl.block _ (Array.getElem?_eq_some_iff.1 hj.2.1).1).trans hj.2.1
  have hk : X.heap[w.heap.size]? = some (.deferred (some [])) := (hbl.block _ (Array.getElem?_eq_some_iff.1 hj.2.2).1).trans hj.2.2
  refine ⟨fn, _, assign, body, run_yield (P := P) (args := encs x) hl (hps x), roundIn_of_wpIn hfn (hassign _ pre x X0 X _ hj.1 hbl hM ?_)⟩
  intro a' Y hkf hkp hax
  have hlY := hkf.same _ _ (by omega) hl rfl
  have hkY := hkf.same _ _ (Nat.le_refl _) hk rfl
  have hltY := (Array.getElem?_eq_some_iff.1 hlY).1
  refine ⟨_, run_beginRound hlY rfl, ?_⟩
  let busy : Loop := { recd .ready none with state := .busy }
  have hlZ : (Y.putObj (w.heap.size + 1) (.loop busy)).heap[w.heap.size + 1]? = some (.loop busy) := World.putObj_heap_same hltY
  have hkZ : (Y.putObj (w.heap.size + 1) (.loop busy)).heap[w.heap.size]? = some (.deferred (some [])) := (World.putObj_heap_other (by omega)).trans hkY
  refine wpIn_mono (hbody _ pre x a' _ ((hA pre x a').putObj (s := ()) _ hax (by omega) hlY rfl) hlen) ?_
  intro e a3 Z hp
  match e, hp with
  | .normal, hp =>
   obtain ⟨hk3, hkp3, hi3⟩ := hp
   have hl3 := hk3.same _ _ (by omega) hlZ rfl
   have hk4 := hk3.same _ _ (Nat.le_refl _) hkZ rfl
   have hend := run_endRound (P := P) none hl3
   refine ⟨_, _, hend, rfl, ⟨hI.putObj _ hi3 (by omega) hl3 rfl, World.putObj_heap_same (Array.getElem?_eq_some_iff.1 hl3).1, (World.putObj_heap_other (by omega)).trans hk4⟩, ?_⟩
   exact hKt hkp (hKt (hKt (hKb _ _ _ _ (by omega) hlY rfl rfl) hkp3) (hKb _ _ _ _ (by omega) hl3 rfl rfl))
 ·rintro e X ⟨⟨v, rfl⟩, xs, hS, hi, hl, hk⟩
  exact ⟨none, _, run_endLoop (P := P) hl (by simp [recd]), hdone _ xs _ (Nat.le_refl _) hS (hI.putObj _ hi (by omega) hl rfl) ((World.putObj_heap_other (by omega)).trans hk)⟩
end
section
open Go.Shelf
attribute [local go_sem] Oper.semAt_some
abbrev Fr := Int × Value × List Int × Int
def frames_Scan.l0 : Nat → List Int → Int → List (Int × List Int) → Option (List (Int × List Int) × Int)
 | 0, _, _, _ => none
 | k + 1, l0, p, acc => if 0 ≤ p ∧ p ≤ (l0.length : Int) ∧ acc.length < 4398046511104 then
   (frames_Open.f k (l0.drop p.toNat)).bind fun b => if b.2.2.2 = 0 then frames_Scan.l0 k l0 (wrap64 (p + b.2.2.1)) (acc ++ [(b.1, b.2.1)]) else (if b.2.2.1 = 0 then some (acc, p) else none)
  else none
def lastAt (xs : List Fr) : Int := (xs.getLast?.map fun x => x.2.2.2).getD 0
theorem lastAt_snoc (xs : List Fr) (x : Fr) : lastAt (xs ++ [x]) = x.2.2.2 := by simp [lastAt]
def ofFr (x : Fr) : Int × List Int := (x.1, x.2.2.1)
def encFr (x : Fr) : Array Value := #[.agg #[.int .u8 x.1, x.2.1], .int .i64 x.2.2.2]
def FrM (x : Fr) (W0 W1 : World) : Prop := Kd.R (Kd.int .u8) 5 W1 W0.heap.size (fun _ => True) x.2.1 x.2.2.1
def KeepB (lo b : Nat) (W W' : World) : Prop := Below lo W W' ∧ W'.heap[b]? = W.heap[b]?
set_option maxHeartbeats 1000000 in
theorem frames_each_in (n : Nat) (A0 : Option Addr) (m c : Nat) (w : World) :
  CallsIn Fence.wide n Try.prog 97 #[.slice A0 m c] w fun e w' => e = .returned (.func (.func 102) #[] #[.pointer (some ⟨w.heap.size, 0, none⟩)]) ∧ w' = w.alloc (.cells #[.slice A0 m c] 26) := by
 refine callsIn_of_wp Try.func97 rfl trivial ?_ rfl
 simp only [Try.ntmps97, List.size_toArray, List.length_cons, List.length_nil, Nat.reduceAdd, Nat.reduceSub, Array.replicate_succ, Array.replicate_zero, List.push_toArray, List.append_toArray, List.nil_append, List.cons_append]
 gi_wp2
 go_ret
 exact ⟨rfl, rfl⟩
theorem frames_Open_size {k : Nat} {b l : List Int} {a n e : Int} (h : frames_Open.f k b = some (a, l, n, e)) (he : e = 0) : 4 ≤ n ∧ n ≤ (b.length : Int) := by
 unfold frames_Open.f at h
 by_cases c1 : (b.length : Int) < 8
 ·rw [if_pos c1] at h; simp at h; omega
 rw [if_neg c1, if_pos (by omega), if_pos (by omega)] at h
 obtain ⟨⟨x1, x2⟩, _, h⟩ := Option.bind_eq_some_iff.1 h
 simp only at h
 obtain ⟨y, hy⟩ : ∃ y, y = wrap64 (4 + (wrap64 x1)) := ⟨_, rfl⟩
 rw [← hy] at h
 obtain ⟨z, hz⟩ : ∃ z, z = wrap64 (y + 4) := ⟨_, rfl⟩
 rw [← hz] at h
 rw [if_pos (by omega)] at h
 by_cases c2 : rd b 0 = 167
 case neg => rw [if_neg c2] at h; simp at h; omega
 rw [if_pos c2] at h
 by_cases c3 : x1 > 4096
 ·rw [if_pos c3] at h; simp at h; omega
 rw [if_neg c3] at h
 by_cases c4 : (b.length : Int) < z
 ·rw [if_pos c4] at h; simp at h; omega
 rw [if_neg c4] at h
 by_cases c5 : 0 ≤ y
 case neg => rw [if_neg c5] at h; cases h
 rw [if_pos c5] at h
 by_cases c6 : y ≤ z
 case neg => rw [if_neg c6] at h; cases h
 rw [if_pos c6] at h
 by_cases c7 : z ≤ (b.length : Int)
 case neg => rw [if_neg c7] at h; cases h
 rw [if_pos c7] at h
 obtain ⟨⟨x3, x4⟩, _, h⟩ := Option.bind_eq_some_iff.1 h
 simp only at h
 by_cases c8 : y ≤ (b.length : Int)
 case neg => rw [if_neg c8] at h; cases h
 rw [if_pos c8] at h
 obtain ⟨x5, _, h⟩ := Option.bind_eq_some_iff.1 h
 by_cases c9 : x3 % 4294967296 = x5
 case neg => rw [if_neg c9] at h; simp at h; omega
 rw [if_pos c9] at h
 by_cases c10 : 1 < (b.length : Int)
 case neg => rw [if_neg c10] at h; cases h
 rw [if_pos c10] at h
 by_cases c11 : 4 ≤ y
 case neg => rw [if_neg c11] at h; cases h
 rw [if_pos c11] at h
 obtain ⟨x6, _, h⟩ := Option.bind_eq_some_iff.1 h
 simp only [Option.some.injEq, Prod.mk.injEq] at h
 omega
set_option maxRecDepth 100000 in
set_option maxHeartbeats 2000000 in
theorem frames_each1_in (n : Nat) (hn : 1 ≤ n) (k : Nat) (l Bn lo : Nat) (A0 : Option Addr) (c0 : Nat) (l0 : List Int) (w0 : World) (hlo : lo = w0.heap.size) (hr0 : Kd.C (Kd.int .u8) w0 A0 l0.length l0) (hc0 : l0.length ≤ c0) (r : List (Int × List Int) × Int)
  (hf : frames_Scan.l0 k l0 0 [] = some r) (J : List Fr → World → Prop) (W : World) (hJ : AbidesFrom W.heap.size J)
  (hY : ∀ pre x W0 W1, J pre W0 → Below W0.heap.size W0 W1 → FrM x W0 W1 → pre.length < 4398046511104 → YieldAt Fence.wide (n - 1) Try.prog l (encFr x) W1 fun e W' => e = .returned (.bool true) ∧ J (pre ++ [x]) W' ∧ KeepB lo Bn W1 W')
  (hBW : Below lo w0 W) (hBn : W.heap[Bn]? = some (.cells #[.slice A0 l0.length c0] 26 (0, 0))) (h0 : J [] W) :
  CallsIn Fence.wide n Try.prog 102 #[.func (.yield l) #[] #[], .pointer (some ⟨Bn, 0, none⟩)] W fun e W' => (∃ v, e = .returned v) ∧ ∃ xs, (xs.map ofFr = r.1 ∧ lastAt xs = r.2) ∧ J xs W' := by
 refine callsIn_of_wp Try.func102 rfl trivial ?_ rfl
 simp only [Try.ntmps102, List.size_toArray, List.length_cons, List.length_nil, Nat.reduceAdd, Nat.reduceSub, Array.replicate_succ, Array.replicate_zero, List.push_toArray, List.append_toArray, List.nil_append, List.cons_append]
 gi_wp2
 have HF := Aside0.mk hf
 have HR0 := Aside0.mk hr0
 have HY := Aside0.mk hY
 have HJ := Aside0.mk hJ
 clear hf hr0 hY hJ
 gi_loopw [3] (fun v3 wr => ∃ (kq : Nat) (p : Int) (acc : List Fr), v3 = .int .i64 p ∧ Aside0 (frames_Scan.l0 kq l0 p (acc.map ofFr) = some r) ∧ Aside0 (p = lastAt acc) ∧ Aside0 (J acc wr) ∧ Aside0 (Below lo w0 wr) ∧ Aside0 (wr.heap[Bn]? = some (.cells #[.slice A0 l0.length c0] 26 (0, 0)))) (fun v3 _ => l0.length - (intOf v3).toNat)
 case atStart => exact ⟨k, 0, [], rfl, HF, ⟨rfl⟩, ⟨h0⟩, ⟨hBW⟩, ⟨hBn⟩⟩
 case round =>
  clear HF h0 hBW hBn
  obtain ⟨kq, p, acc, rfl, H, HP, HJr, HBW, HBn⟩ := hrel
  cases kq with
  | zero => exact absurd H.out (by simp [frames_Scan.l0])
  | succ kq =>
   have h := H.out
   clear H
   simp only [frames_Scan.l0] at h
   by_cases hp : 0 ≤ p ∧ p ≤ (l0.length : Int) ∧ (acc.map ofFr).length < 4398046511104
   case neg => rw [if_neg hp] at h; cases h
   rw [if_pos hp] at h
   obtain ⟨⟨r1, r2, r3, r4⟩, ho, h⟩ := Option.bind_eq_some_iff.1 h
   simp only at h
   obtain ⟨q, rfl⟩ : ∃ q : Nat, p = (q : Int) := ⟨p.toNat, by omega⟩
   rw [Int.toNat_natCast] at ho
   have hql : q ≤ l0.length := by omega
   have hacc : acc.length < 4398046511104 := by simpa using hp.2.2
   have hmx := Kd.C_max HR0.out
   have hcB : wr.cell? ⟨Bn, 0, none⟩ = some (.slice A0 l0.length c0) := by unfold World.cell?; rw [HBn.out]; rfl
   have HR1 := Aside0.mk (Kd.C_below HR0.out (by rw [← hlo]; exact HBW.out))
   have hinfo : (Try.prog.info? 5).map (fun i => (i.zero, i.size, i.bytes)) = some (some (.int .u8 0), 1, 1) := by kernel_rfl
   obtain ⟨i0, hi, _, hsz, _⟩ := info_parts hinfo
   obtain ⟨A1, hcut, hA1, hC1⟩ := print_drop_of (P := Try.prog) (Value.int .u8) 0 26 5 .i64 Try.underlying26 hi hsz A0 c0 l0 (q : Int) (by omega) (by omega) hc0
   simp only [Int.toNat_natCast] at hcut hA1 hC1
   have hbl : (l0.drop q).length = l0.length - q := List.length_drop
   obtain ⟨b, hb⟩ : ∃ b, b = l0.drop q := ⟨_, rfl⟩
   rw [← hb] at hcut hA1 hC1 hbl ho
   clear hb
   have HO := Aside0.mk ho
   have HRd := Aside0.mk (Kd.C_of_reads (h1 := fun _ => rfl) (hA1 _ (Kd.reads_of_C HR1.out)))
   have HC1 := Aside0.mk hC1
   clear hA1 hC1 hinfo hi hsz
   by_cases he : r4 = 0
   ·subst he
    rw [if_pos rfl] at h
    have hsz := frames_Open_size ho rfl
    rw [hbl] at hsz
    have hw : wrap64 ((q : Int) + r3) = (q : Int) + r3 := wrap64_id (by omega) (by omega)
    rw [hw] at h
    have HH := Aside0.mk h
    have HW := Aside0.mk hw
    clear h ho hw hbl
    gi_wp2_with (refine ⟨trivial, ?_⟩; gi_at_call 103; refine (callsIn_wide.2 (frames_Open.calls kq A1 (c0 - q) b r1 r2 r3 0 wr HRd.out HC1.out HO.out)).mono ?_; rintro e w2 ⟨v1, rfl, ho1, hb1⟩; obtain ⟨A2, c2, rfl⟩ := Kd.R_slice ho1; have hM : FrM (r1, .slice A2 r2.length c2, r2, (q : Int) + r3) wr (w2.alloc (.cells #[.int .u8 r1, .slice A2 r2.length c2] 117)) := Kd.R_alloc ho1 _; obtain ⟨fn, tmps, assign, body, hy, hR⟩ := HY.out acc _ wr _ HJr.out (below_alloc hb1 (.cells #[.int .u8 r1, .slice A2 r2.length c2] 117)) hM hacc; dsimp only [encFr] at hy; have HB1 := Aside0.mk hb1; clear hM ho1 hb1)
    refine hR.mono ?_
    rintro e W3 ⟨rfl, hJ3, hk3⟩
    clear hR hy
    have HJ3 := Aside0.mk hJ3
    have HK3 := Aside0.mk hk3
    clear hJ3 hk3 hcB hcut
    gi_wp2
    go_roundw
    case rel =>
     have hlt : Bn < wr.heap.size := (Array.getElem?_eq_some_iff.1 HBn.out).1
     have hb3 := HK3.out.1
     refine ⟨kq, _, acc ++ [(r1, .slice A2 r2.length c2, r2, (q : Int) + r3)], rfl, ⟨by rw [List.map_append]; exact HH.out⟩, ⟨by rw [lastAt_snoc]⟩, HJ3, ⟨(HBW.out.trans ((below_alloc HB1.out _).mono (by have := HBW.out.size; omega))).trans hb3⟩, ⟨?_⟩⟩
     ·rw [HK3.out.2]
      exact ((below_alloc HB1.out _).block _ hlt).trans HBn.out
    case measure => simp [intOf]; omega
   ·rw [if_neg he] at h
    by_cases h3 : r3 = 0
    case neg => rw [if_neg h3] at h; cases h
    rw [if_pos h3] at h
    subst h3
    have HH := Aside0.mk h
    have hr4 : (r4 != 0) = true := by simpa using he
    clear h ho hbl he
    gi_wp2_with (refine ⟨trivial, ?_⟩; gi_at_call 103; refine (callsIn_wide.2 (frames_Open.calls kq A1 (c0 - q) b r1 r2 0 r4 wr HRd.out HC1.out HO.out)).mono ?_; rintro e w2 ⟨v1, rfl, ho1, hb1⟩; obtain ⟨A2, c2, rfl⟩ := Kd.R_slice ho1; have HB1 := Aside0.mk hb1; clear ho1 hb1)
    refine ⟨fun _ h => (by cases h), ?_⟩
    gi_wp2
    refine bodyPost_ret (results_none rfl _ _ _) rfl ?_
    have hz : r = (acc.map ofFr, (q : Int)) := by have := HH.out; simp at this; exact this.symm
    refine ⟨⟨_, rfl⟩, acc, ⟨by rw [hz], by rw [hz]; exact HP.out.symm⟩, ?_⟩
    exact HJ.out _ _ _ none HJr.out (grown_of_below (below_alloc HB1.out _)) (fun _ h => by cases h)
end
section
open Go.Shelf
attribute [local go_sem] Oper.semAt_some
def toFrame (x : Fr) : S117 := ⟨x.1, x.2.2.1⟩
def frames_Scan.f (k : Nat) (l0 : List Int) : Option (List S117 × Int) := (frames_Scan.l0 k l0 0 []).bind fun r => some (r.1.map fun x => ⟨x.1, x.2⟩, r.2)
theorem frames_Scan.mono_l : ∀ k l0 p acc, LeO (frames_Scan.l0 k l0 p acc) (frames_Scan.l0 (k + 1) l0 p acc) := by
 intro k
 induction k with
 | zero => intro l0 p acc; exact LeO.none _
 | succ k ih =>
  intro l0 p acc
  show LeO (if 0 ≤ p ∧ p ≤ (l0.length : Int) ∧ acc.length < 4398046511104 then _ else _) (if 0 ≤ p ∧ p ≤ (l0.length : Int) ∧ acc.length < 4398046511104 then _ else _)
  refine LeO.ite (LeO.bind (frames_Open.mono _ _) (fun b => ?_)) (LeO.none _)
  exact LeO.ite (ih _ _ _) (LeO.refl _)
theorem frames_Scan.mono : ∀ a0 k, LeO (frames_Scan.f k a0) (frames_Scan.f (k + 1) a0) := fun a0 k => LeO.bind (frames_Scan.mono_l k a0 0 []) (fun _ => LeO.refl _)
theorem S_ownFrom {α β : Type} (d : Kd α) (e base B : Nat) (ok : Nat → Prop) (v : β → Value) (xs : β → List α) : OwnFrom B (fun s W => Kd.S d e W base ok (v s) (xs s)) := by
 intro s X Y row hs hg hr
 refine Kd.S_mono (Kd.S_grown (Kd.S_bound hs) hg (fun k hk he => ?_)) (fun k hk => hk.1)
 obtain ⟨_, o, ho, hc⟩ := hr k he.symm
 obtain ⟨_, _, _, q, _, cells, hcl⟩ := hk
 rw [hcl] at ho
 cases ho
 cases hc
theorem R_ownFrom {α β : Type} (d : Kd α) (e base B : Nat) (ok : Nat → Prop) (v : β → Value) (xs : β → List α) : OwnFrom B (fun s W => d.R e W base ok (v s) (xs s)) := by
 intro s X Y row hs hg hr
 refine Kd.R_mono (Kd.R_grown (Kd.R_bound hs) hg (fun k hk he => ?_)) (fun k hk => hk.1)
 obtain ⟨_, o, ho, hc⟩ := hr k he.symm
 obtain ⟨_, _, _, q, _, cells, hcl⟩ := hk
 rw [hcl] at ho
 cases ho
 cases hc
theorem holdsS_own {α β : Type} (d : Kd α) (e base B Bl : Nat) (t : TypeId) (ok : Nat → Prop) (xs : β → List α) : OwnFrom B (fun s W => ∃ v, Boxed W Bl t v ∧ Kd.S d e W base ok v (xs s)) := by
 intro s X Y row hs hg hr
 obtain ⟨v, hv, hS⟩ := hs
 exact ⟨v, boxed_own (β := Unit) Bl t (fun _ => v) () X Y row hv hg (fun r e => (hr r e).2), S_ownFrom d e base B ok (fun (_ : Unit) => v) (fun _ => xs s) () X Y row hS hg hr⟩
theorem block_ownFrom (B b : Nat) (cs : Array Value) (t : TypeId) : OwnFrom B (fun (_ : Unit) W => W.heap[b]? = some (.cells cs t (0, 0))) := by
 intro s X Y row hs hg hr
 refine (hg.block b (Array.getElem?_eq_some_iff.1 hs).1 (fun he => ?_)).trans hs
 obtain ⟨_, o, ho, hc⟩ := hr b he.symm
 rw [hs] at ho
 cases ho
 cases hc
theorem R_appendedT {α : Type} {d : Kd α} {e base : Nat} {okv okp : Nat → Prop} {W w1 : World} {v v1 : Value} {xs : List α} {p : α} {inner cs : List Value} (hE : ∀ q ∈ d.E, q ≠ e) (hr : Reps (d.M W base (fun k => okv k ∧ some k ≠ v.ownBlock)) d.sz xs inner) (hp : d.M W base okp p cs) (hokp : ∀ k, okp k → some k ≠ v.ownBlock)
  (hown : w1.ownsRow base e d.sz v1 (xs.length + 1) (inner ++ cs)) (hg : W.grownBy w1 v.ownBlock) : d.R e w1 base (fun _ => True) v1 (xs ++ [p]) := by
 have step : ∀ {q : α} {c : List Value} {o : Nat → Prop}, d.M W base o q c → (∀ k, o k → some k ≠ v.ownBlock) → d.M w1 base (fun k => True ∧ some k ≠ v1.ownBlock) q c := by
  intro q c o hq ho
  have h1 := d.M_move (w1 := w1) (fun k hk => hg.block k hk.2.2.1 (ho k hk.1)) (d.M_bound hq)
  refine d.M_mono (fun k hk => ⟨trivial, fun he => ?_⟩) h1
  obtain ⟨hok, _, hlt, q', hq', cells, hc⟩ := hk
  obtain ⟨cells', hc'⟩ := own_typed hown k he.symm
  rw [hg.block k hlt (ho k hok), hc] at hc'
  injection hc' with hc'
  injection hc' with _ hc' _
  exact hE q' hq' hc'
 exact ⟨fun _ _ => trivial, inner ++ cs, by rw [List.length_append, List.length_singleton]; exact hown, (hr.imp_ (fun _ _ hq => step hq (fun _ hk => hk.2))).snoc (step hp hokp) (d.K_len (d.K_of_M hp))⟩
def ScanA (z : Nat) (w : World) (tm : Nat → Value → Value → Array Value) (pre : List Fr) (x : Fr) (a' : Act) (W : World) : Prop :=
 ∃ Bx B, z + 3 ≤ Bx ∧ W.heap[Bx]? = some (.cells #[.int .u8 x.1, x.2.1] 117 (0, 0)) ∧ (∃ v, Boxed W z 128 v ∧ Kd.S k117 117 W (z + 3) (fun k => k < B) v (pre.map toFrame)) ∧
  Kd.R (Kd.int .u8) 5 W (z + 3) (fun k => B ≤ k) x.2.1 x.2.2.1 ∧ Boxed W (z + 1) 3 (.int .i64 (lastAt pre)) ∧ Below z w W ∧ a' = { tmps := tm Bx (.agg #[.int .u8 x.1, x.2.1]) (.int .i64 x.2.2.2), defers := [] }
theorem scan_close {tmps : Array Value} {z D : Nat} {w X : World} {xs : List Fr} {v : Value} {i : Int} (hz : z = w.heap.size) (hD : z + 3 ≤ D) (hDX : X.heap[D]? = some (.deferred (some [])))
  (HS : Kd.S k117 117 X (z + 3) (fun _ => True) v (xs.map toFrame)) (HV : Boxed X z 128 v) (HG : Boxed X (z + 1) 3 (.int .i64 i)) (HB : Below z w X)
  (h2 : tmps.getD 2 undef = .pointer (some ⟨z, 0, none⟩)) (h3 : tmps.getD 3 undef = .pointer (some ⟨z + 1, 0, none⟩)) :
  (results Try.f90 tmps).run Try.prog (((X.setCell ⟨z, 0, none⟩ v).setCell ⟨z + 1, 0, none⟩ (.int .i64 i)).drew.putObj D (.deferred none)) = .ok (.tuple #[v, .int .i64 i]) (((X.setCell ⟨z, 0, none⟩ v).setCell ⟨z + 1, 0, none⟩ (.int .i64 i)).drew.putObj D (.deferred none)) ∧
  Kd.S k117 117 (((X.setCell ⟨z, 0, none⟩ v).setCell ⟨z + 1, 0, none⟩ (.int .i64 i)).drew.putObj D (.deferred none)) w.heap.size (fun _ => True) v (xs.map toFrame) ∧
  Below w.heap.size w (((X.setCell ⟨z, 0, none⟩ v).setCell ⟨z + 1, 0, none⟩ (.int .i64 i)).drew.putObj D (.deferred none)) := by
 obtain ⟨Y, hY⟩ : ∃ Y, Y = ((X.setCell ⟨z, 0, none⟩ v).setCell ⟨z + 1, 0, none⟩ (.int .i64 i)).drew := ⟨_, rfl⟩
 have hDY : Y.heap[D]? = some (.deferred (some [])) := by
  rw [hY]
  show ((X.setCell ⟨z, 0, none⟩ v).setCell ⟨z + 1, 0, none⟩ (.int .i64 i)).heap[D]? = _
  rw [Below.heap_setCell _ _ _ _ (by show D ≠ z + 1; omega), Below.heap_setCell _ _ _ _ (by show D ≠ z; omega)]
  exact hDX
 have bV : Boxed Y z 128 v := by rw [hY]; exact (HV.set v).other (by omega) _
 have bG : Boxed Y (z + 1) 3 (.int .i64 i) := by rw [hY]; exact (HG.other (B' := z) (by omega) v).set _
 have bS : Kd.S k117 117 Y (z + 3) (fun _ => True) v (xs.map toFrame) := by
  rw [hY]
  exact Kd.S_mono (Kd.S_drew (Kd.S_far (Kd.S_far (Kd.S_bound HS) (p := ⟨z, 0, none⟩) (fun k hk => by show k ≠ z; have := hk.2.1; omega) _) (p := ⟨z + 1, 0, none⟩) (fun k hk => by show k ≠ z + 1; have := hk.2.1; omega) _)) (fun _ _ => trivial)
 have bB : Below z w Y := by
  rw [hY]
  exact below_drew (HB.trans (((Below.refl z _).setCell (p := ⟨z, 0, none⟩) (Nat.le_refl _) _).setCell (p := ⟨z + 1, 0, none⟩) (by show z ≤ z + 1; omega) _))
 rw [← hY]
 clear hY
 have cV : Boxed (Y.putObj D (.deferred none)) z 128 v := (World.putObj_heap_other (by omega)).trans bV
 have cG : Boxed (Y.putObj D (.deferred none)) (z + 1) 3 (.int .i64 i) := (World.putObj_heap_other (by omega)).trans bG
 refine ⟨?_, ?_, ?_⟩
 ·have hv := cV.cell
  have hg := cG.cell
  have e2 : tmps[2]?.getD undef = .pointer (some ⟨z, 0, none⟩) := by simpa using h2
  have e3 : tmps[3]?.getD undef = .pointer (some ⟨z + 1, 0, none⟩) := by simpa using h3
  simp [results, Try.results90, go_sem, e2, e3, hv, hg]
 ·have := (S_ownFrom k117 117 (z + 3) z (fun _ => True) (fun (_ : Unit) => v) (fun _ => xs.map toFrame)).putObj (s := ()) (.deferred none) bS (by omega) hDY rfl
  exact Kd.S_lower this (by omega)
 ·rw [← hz]
  exact bB.trans (belowK_b (w := w) (by omega) Y D _ _ (by omega) hDY rfl rfl)
set_option maxRecDepth 100000 in
set_option maxHeartbeats 4000000 in
theorem frames_Scan.calls (k : Nat) (A0 : Option Addr) (c0 : Nat) (l0 : List Int) (r1 : List S117) (r2 : Int) (w : World) (hr0 : Kd.C (Kd.int .u8) w A0 l0.length l0) (hc0 : l0.length ≤ c0) (h : frames_Scan.f k l0 = some (r1, r2)) : Calls Try.prog 90 #[.slice A0 l0.length c0] w fun e w' => ∃ v0_ : Value, e = .returned (.tuple #[v0_, .int .i64 r2]) ∧ Kd.S k117 117 w' w.heap.size (fun _ => True) v0_ r1 ∧ Below w.heap.size w w' := by
 unfold frames_Scan.f at h
 obtain ⟨r, hr, h⟩ := Option.bind_eq_some_iff.1 h
 simp only [Option.some.injEq, Prod.mk.injEq] at h
 obtain ⟨he1, he2⟩ := h
 have HR := Aside0.mk hr
 have HR0 := Aside0.mk hr0
 refine (callsIn_wide (n := 6)).1 ?_
 refine callsIn_of_wp_marks Try.func90 rfl trivial ?_ rfl
 simp only [Try.ntmps90, List.size_toArray, List.length_cons, List.length_nil, Nat.reduceAdd, Nat.reduceSub, Array.replicate_succ, Array.replicate_zero, List.push_toArray, List.append_toArray, List.nil_append, List.cons_append]
 gi_wp2_with (refine ⟨trivial, ?_⟩; gi_at_call 97; refine (frames_each_in 5 _ _ _ _).mono ?_; rintro e w' ⟨rfl, rfl⟩)
 obtain ⟨z, hz⟩ : ∃ z, z = w.heap.size := ⟨_, rfl⟩
 have bL := Boxed.new w 128 (.slice none 0 0)
 have bG := Boxed.new (w.alloc (.cells #[.slice none 0 0] 128)) 3 (.int .i64 0)
 have bB := Boxed.new ((w.alloc (.cells #[.slice none 0 0] 128)).alloc (.cells #[.int .i64 0] 3)) 26 (.slice A0 l0.length c0)
 rw [World.size_alloc] at bG
 rw [World.size_alloc, World.size_alloc] at bB
 obtain ⟨W3, hW3⟩ : ∃ W3, W3 = (((w.alloc (.cells #[.slice none 0 0] 128)).alloc (.cells #[.int .i64 0] 3)).alloc (.cells #[.slice A0 l0.length c0] 26)) := ⟨_, rfl⟩
 have hz3 : W3.heap.size = z + 3 := by rw [hW3, hz]; simp
 have hB3 : Below z w W3 := by rw [hW3, hz]; exact below_alloc (below_alloc (below_alloc (Below.refl _ _) _) _) _
 rw [← hW3] at bB ⊢
 replace bL : Boxed W3 z 128 (.slice none 0 0) := by rw [hW3, hz]; exact (Boxed.alloc (Boxed.alloc bL _) _)
 replace bG : Boxed W3 (z + 1) 3 (.int .i64 0) := by rw [hW3, hz]; exact Boxed.alloc bG _
 rw [show w.heap.size + 1 + 1 = z + 2 by omega] at bB ⊢
 rw [← hz]
 clear hW3
 have hinfo : (Try.prog.info? 117).map (fun i => (i.zero, i.size, i.bytes)) = some (some (.agg #[.int .u8 0, .slice none 0 0]), 2, 32) := by kernel_rfl
 obtain ⟨i0, hi, hz0, hz1, hz2⟩ := info_parts hinfo
 have HZ := Aside0.mk hz
 clear hinfo hr hz
 refine wpIn_rangeFunc_M (α := Fr) rfl (by decide) (gf := 102) (lb := #[.pointer (some ⟨z + 2, 0, none⟩)]) rfl trivial (enters_of Try.func102 (by kernel_rfl) rfl)
  (encs := encFr) (M := FrM) (Kp := KeepB z (z + 2)) (S := fun xs => xs.map ofFr = r.1 ∧ lastAt xs = r.2) (N := 4398046511104) (w0 := W3)
  (fun l J W hW hJ hY h0 => frames_each1_in _ (by decide) k l (z + 2) z A0 c0 l0 w HZ.out HR0.out hc0 r HR.out J W hJ hY (hB3.trans (hW.mono (by omega))) ((hW.block _ (by omega)).trans bB) h0)
  (fun h k => ⟨h.1.trans k.1, k.2.trans h.2⟩)
  (fun W l o o' hl ho hc hw => ⟨belowK_b (w := W3) (by omega) W l o o' hl ho hc hw, World.putObj_heap_other (by omega)⟩)
  (Below.refl _ _) (fun _ => rfl)
  (fun pre W => (∃ v, Boxed W z 128 v ∧ Kd.S k117 117 W (z + 3) (fun _ => True) v (pre.map toFrame)) ∧ Boxed W (z + 1) 3 (.int .i64 (lastAt pre)) ∧ Below z w W ∧ z + 3 ≤ W.heap.size)
  (OwnFrom.and (holdsS_own _ _ _ _ _ _ _ _) (OwnFrom.and (Own.from (boxed_own _ _ _) _) (OwnFrom.and (ownFrom_below (by have := HZ.out; omega) (by omega)) (fun _ _ _ _ hs hg _ => Nat.le_trans hs hg.size))))
  ⟨⟨_, bL, Kd.S_nil _ _ _ _ _⟩, bG, hB3, by omega⟩
  (ScanA z w (fun Bx v at_ => #[.slice A0 l0.length c0, undef, .pointer (some ⟨z, 0, none⟩), .pointer (some ⟨z + 1, 0, none⟩), .pointer (some ⟨Bx, 0, none⟩), at_, .slice A0 l0.length c0, .func (.func 102) #[] #[.pointer (some ⟨z + 2, 0, none⟩)], v, at_, undef, undef, undef, undef, undef, undef, undef]))
  ?own ?assign ?body ?done
 case own =>
  intro pre x a' s X Y row hs hg hr
  obtain ⟨Bx, B, h1, h2, h3, h4, h5, h6, h7⟩ := hs
  exact ⟨Bx, B, h1, block_ownFrom _ _ _ _ () X Y row h2 hg hr, holdsS_own _ _ _ _ _ _ _ (fun (_ : Unit) => pre.map toFrame) () X Y row h3 hg hr, R_ownFrom _ _ _ _ _ (fun (_ : Unit) => x.2.1) (fun _ => x.2.2.1) () X Y row h4 hg hr, boxed_own (β := Unit) _ _ (fun _ => .int .i64 (lastAt pre)) () X Y row h5 hg (fun r e => (hr r e).2), ownFrom_below (β := Unit) (by have := HZ.out; omega) (by omega) () X Y row h6 hg hr, h7⟩
 case assign =>
  rintro l pre ⟨kd, vd, dat, at_⟩ X0 X K ⟨⟨v, hv, hS⟩, hG, hB, hsz⟩ hbl hM hK
  simp only [FrM] at hM
  obtain ⟨A2, c2, rfl⟩ := Kd.R_slice hM
  simp only [encFr]
  have HK := Aside0.mk hK
  clear hK
  gi_wp2
  have hlt := hbl.size
  refine HK.out _ _ ((KeepsOthers.alloc _ _).from _) ⟨(Below.refl z X).alloc (by omega) _, Below.heap_alloc X _ (z + 2) (by omega)⟩ ?_
  refine ⟨X.heap.size, X0.heap.size, by omega, World.alloc_heap_new _ _, ⟨v, ?_, ?_⟩, ?_, ?_, ?_, rfl⟩
  ·exact Boxed.alloc ((hbl.block z (by omega)).trans hv) _
  ·exact Kd.S_alloc (Kd.S_mono (Kd.S_below (Kd.S_bound hS) hbl) (fun k hk => hk.2.2.1)) _
  ·exact Kd.R_alloc (Kd.R_lower (Kd.R_mono (Kd.R_bound hM) (fun k hk => hk.2.1)) (by omega)) _
  ·exact Boxed.alloc ((hbl.block (z + 1) (by omega)).trans hG) _
  ·exact (hB.trans (hbl.mono (by omega))).trans ((Below.refl z X).alloc (by omega) _)
 case body =>
  rintro l pre ⟨kd, vd, dat, at_⟩ a' X ⟨Bx, B, h1, h2, ⟨v, hv, hS⟩, hR, hG, hB, rfl⟩ hlen
  simp only at hR h2
  obtain ⟨A2, c2, rfl⟩ := Kd.R_slice hR
  have hBx := (Array.getElem?_eq_some_iff.1 h2).1
  have hc0x : X.cell? ⟨Bx, 0, none⟩ = some (.int .u8 kd) := (laid_cell h2 0).1
  have hc1x : X.cell? ⟨Bx, 1, none⟩ = some (.slice A2 dat.length c2) := (laid_cell h2 1).1
  have hvc := hv.cell
  have hGc := hG.cell
  have hGf := hG.frozen
  have hvf := hv.frozen
  obtain ⟨f, hf, hT⟩ := Kd.S_tag hS (pre.map toFrame).length (fun k => B ≤ k) (fun k q1 q2 => by omega)
  have hT2 := Kd.R_alloc hT (.cells #[.int .u8 kd, .slice A2 dat.length c2] 117)
  obtain ⟨hb0, inner, hrow, hreps⟩ := hT2
  have hcn : ∀ (j : Nat) (u : Value), ([.int .u8 kd, .slice A2 dat.length c2] : List Value)[j]? = some u → (X.alloc (.cells #[.int .u8 kd, .slice A2 dat.length c2] 117)).cell? ((⟨X.heap.size, 0, none⟩ : Addr).add j) = some u := by
   intro j u hj
   have hn := World.alloc_heap_new X (.cells #[.int .u8 kd, .slice A2 dat.length c2] 117)
   rcases j with _ | _ | j
   ·exact (laid_cell hn 0).1.trans hj
   ·exact (laid_cell hn 1).1.trans hj
   ·simp at hj
  have hzl : (pre.map toFrame).zipIdx.length = pre.length := by simp
  rw [hzl] at hrow
  have HRW := Aside0.mk hrow
  have HREP := Aside0.mk hreps
  have HCN := Aside0.mk hcn
  have HT := Aside0.mk hT
  have HS := Aside0.mk hS
  have HRR := Aside0.mk hR
  have HV := Aside0.mk hv
  have HG := Aside0.mk hG
  have HB := Aside0.mk hB
  have HF := Aside0.mk hf
  have HB0 := Aside0.mk hb0
  clear hrow hreps hcn hT hS hR hv hG hB hf hb0
  gi_wp2_with (gi_at_builtin; refine wpListIn_append_own _ rfl _ _ 128 rfl (z + 3) 117 i0 (.agg #[.int .u8 0, .slice none 0 0]) 2 32 Try.underlying128 hi hz0 hz1 hz2 rfl (by decide) v _ inner rfl HRW.out ⟨X.heap.size, 0, none⟩ 1 1 [.int .u8 kd, .slice A2 dat.length c2] rfl rfl HCN.out (by simp [Value.oneCell']) (by simp only [maxLen]; omega) (by omega) (by simp; omega) ?_; intro v' w1 hown' hgrow _; obtain ⟨g', cap', rfl⟩ := ownsRow_succ hown'; obtain ⟨inner0, hrow0⟩ := Kd.S_own HS.out; obtain ⟨hv1, hv2, hr2, hk2, hb2⟩ := HV.out.appended (W := X) (n₀ := z) (by decide) (own_weaken hrow0 (by omega)) (by have := HB.out.size; have := HZ.out; omega) (Nat.le_refl _) (own_weaken hown' (by omega)) hgrow; have hG1 := (HG.out.alloc (.cells #[.int .u8 kd, .slice A2 dat.length c2] 117)).kept hgrow (HG.out.not_row (by decide) hrow0); have hG2 := hG1.other (B' := z) (by omega) (.slice (some ⟨g', 0, none⟩) (pre.length + 1) cap'); have hc1 := hv1.cell; have hf1 := hv1.frozen; have hg2 := hG2.cell; have hgf2 := hG2.frozen; have hg1 := hG1.cell; have hgf1 := hG1.frozen; have hV3 := hv1.other (B' := z + 1) (by omega) (.int .i64 at_); have hvc3 := hV3.cell; have hvf3 := hV3.frozen; clear hV3; have HO := Aside0.mk hown'; have HGR := Aside0.mk hgrow; have HV2 := Aside0.mk hv2; have HK2 := Aside0.mk hk2; have HB2 := Aside0.mk hb2; have HG2 := Aside0.mk hG2; clear hown' hgrow hv1 hv2 hr2 hk2 hb2 hG1 hG2 hrow0)
  have hM : (Kd.tag f k117).M (X.alloc (.cells #[.int .u8 kd, .slice A2 dat.length c2] 117)) (z + 3) (fun k => B ≤ k) (toFrame (kd, .slice A2 dat.length c2, dat, at_), (pre.map toFrame).length) [.int .u8 kd, .slice A2 dat.length c2] :=
   ⟨[.int .u8 kd], [.slice A2 dat.length c2], rfl, rfl, ⟨_, rfl, Kd.R_mono (Kd.R_alloc HRR.out _) (fun k hk => ⟨hk, HF.out k hk⟩)⟩⟩
  have hne : ∀ k, B ≤ k → some k ≠ v.ownBlock := fun k hk he => by have := HB0.out k he.symm; omega
  have hS1 := R_appendedT (d := Kd.tag f k117) (show ∀ q ∈ k117.E, q ≠ 117 from by decide) HREP.out hM hne (by rw [hzl]; exact HO.out) HGR.out
  rw [← Kd.zip_snoc] at hS1
  have hS2 : Kd.S k117 117 w1 (z + 3) (fun k => z + 3 ≤ k) (.slice (some ⟨g', 0, none⟩) (pre.length + 1) cap') ((pre ++ [((kd, Value.slice A2 dat.length c2, dat, at_) : Fr)]).map toFrame) := by
   rw [List.map_append]
   exact Kd.S_mono (Kd.S_bound ⟨f, hS1⟩) (fun k hk => hk.2.1)
  have hs2 : z + 2 < X.heap.size := by omega
  have hsz : X.heap.size ≤ w1.heap.size := by have := HGR.out.size; rw [World.size_alloc] at this; omega
  have hb5 := Kd.S_base HS.out
  refine ⟨(HK2.out.trans (KeepsOthers.setCell _ _ _)).from _, ⟨HB2.out.trans ((Below.refl z _).setCell (p := ⟨z + 1, 0, none⟩) (by show z ≤ z + 1; omega) _), ?_⟩, ⟨_, HV2.out.other (by omega) _, ?_⟩, ?_, ?_, ?_⟩
  ·rw [Below.heap_setCell _ _ _ _ (by show z + 2 ≠ z + 1; omega), Below.heap_setCell _ _ _ _ (by show z + 2 ≠ z; omega), HGR.out.block (z + 2) (by rw [World.size_alloc]; omega) (fun he => by have := hb5 _ he.symm; omega)]
   exact Below.heap_alloc _ _ _ hs2
  ·refine Kd.S_mono (Kd.S_far (Kd.S_far hS2 (p := ⟨z, 0, none⟩) (fun k hk => by show k ≠ z; omega) _) (p := ⟨z + 1, 0, none⟩) (fun k hk => by show k ≠ z + 1; omega) _) (fun _ _ => trivial)
  ·rw [lastAt_snoc]
   exact HG2.out.set _
  ·exact (HB.out.trans HB2.out).trans ((Below.refl z _).setCell (p := ⟨z + 1, 0, none⟩) (by show z ≤ z + 1; omega) _)
  ·simp; omega
 case done =>
  rintro D xs X hD ⟨hS1, hS2⟩ ⟨⟨v, hv, hS⟩, hG, hB, hsz⟩ hK
  obtain ⟨Av, cv, rfl⟩ := Kd.S_slice hS
  have hvc := hv.cell
  have hGc := hG.cell
  have hGf := hG.frozen
  have hvf := hv.frozen
  have HS := Aside0.mk hS
  have HV := Aside0.mk hv
  have HG := Aside0.mk hG
  have HB := Aside0.mk hB
  clear hS hv hG hB
  have hc1 : (X.setCell ⟨z, 0, none⟩ (.slice Av (xs.map toFrame).length cv)).cell? ⟨z + 1, 0, none⟩ = some (.int .i64 (lastAt xs)) := (HG.out.other (B' := z) (by omega) _).cell
  have hf1 : (X.setCell ⟨z, 0, none⟩ (.slice Av (xs.map toFrame).length cv)).frozen? ⟨z + 1, 0, none⟩ = false := (HG.out.other (B' := z) (by omega) _).frozen
  gi_wp2
  refine wpIn_region_any (by kernel_rfl) ?_
  refine wpAnyIn_ready (rs := [0, 1]) (by kernel_rfl) (by simp) ?_
  refine AllReadyIn.cons rfl (fun K hK => ?_) ?_
  ·go_simp
   refine hK _ _ ?_
   clear hK K
   refine wpAnyIn_ready (rs := [1, 2]) (by kernel_rfl) (by simp) ?_
   refine AllReadyIn.cons rfl (fun K hK => ?_) ?_
   ·go_simp
    refine hK _ _ ?_
    clear hK K
    refine wpAnyIn_ready (rs := [2]) (by kernel_rfl) (by simp) ?_
    refine AllReadyIn.cons rfl (fun K hK => ?_) ?_
    ·go_simp
     refine hK _ _ ?_
     clear hK K
     refine wpAnyIn_ready (rs := [3]) (by kernel_rfl) (by simp) ?_
     refine AllReadyIn.cons rfl (fun K hK => ?_) ?_
     ·go_simp
      refine hK _ _ ?_
      clear hK K
      refine wpAnyIn_done (by kernel_rfl) ?_ _
      rename_i K1 hK1
      refine hK1 _ _ ?_
      gi_wp2
      obtain ⟨q1, q2, q3⟩ := scan_close (tmps := #[Value.slice A0 l0.length c0, undef, .pointer (some ⟨z, 0, none⟩), .pointer (some ⟨z + 1, 0, none⟩), undef, undef, .slice A0 l0.length c0, .func (.func 102) #[] #[.pointer (some ⟨z + 2, 0, none⟩)], undef, undef, undef, undef, undef, undef, undef, .slice Av xs.length cv, .int .i64 r2]) HZ.out (by omega) hK HS.out HV.out HG.out HB.out rfl rfl
      rw [List.length_map] at q1 q2 q3
      rw [hS2, he2] at q1 q2 q3
      refine ⟨by simp, .inl ⟨_, _, rfl, run_takeDeferred (show _ = some (Obj.deferred (some [])) from ?_), ?_⟩⟩
      ·show ((X.setCell ⟨z, 0, none⟩ (.slice Av xs.length cv)).setCell ⟨z + 1, 0, none⟩ (.int .i64 r2)).heap[D]? = _
       rw [Below.heap_setCell _ _ _ _ (by show D ≠ z + 1; omega), Below.heap_setCell _ _ _ _ (by show D ≠ z; omega)]
       exact hK
      ·have hr1 : xs.map toFrame = r1 := by rw [← he1, ← hS1, List.map_map]; rfl
       rw [hr1] at q2
       exact ⟨_, q1, _, rfl, q2, q3⟩
     exact AllReadyIn.nil
    exact AllReadyIn.nil
   refine AllReadyIn.cons rfl (fun K hK => ?_) ?_
   ·go_simp
    refine hK _ _ ?_
    clear hK K
    refine wpAnyIn_ready (rs := [1]) (by kernel_rfl) (by simp) ?_
    refine AllReadyIn.cons rfl (fun K hK => ?_) ?_
    ·go_simp
     refine hK _ _ ?_
     clear hK K
     refine wpAnyIn_ready (rs := [3]) (by kernel_rfl) (by simp) ?_
     refine AllReadyIn.cons rfl (fun K hK => ?_) ?_
     ·go_simp
      refine hK _ _ ?_
      clear hK K
      refine wpAnyIn_done (by kernel_rfl) ?_ _
      rename_i K1 hK1
      refine hK1 _ _ ?_
      gi_wp2
      obtain ⟨q1, q2, q3⟩ := scan_close (tmps := #[Value.slice A0 l0.length c0, undef, .pointer (some ⟨z, 0, none⟩), .pointer (some ⟨z + 1, 0, none⟩), undef, undef, .slice A0 l0.length c0, .func (.func 102) #[] #[.pointer (some ⟨z + 2, 0, none⟩)], undef, undef, undef, undef, undef, undef, undef, .slice Av xs.length cv, .int .i64 r2]) HZ.out (by omega) hK HS.out HV.out HG.out HB.out rfl rfl
      rw [List.length_map] at q1 q2 q3
      rw [hS2, he2] at q1 q2 q3
      refine ⟨by simp, .inl ⟨_, _, rfl, run_takeDeferred (show _ = some (Obj.deferred (some [])) from ?_), ?_⟩⟩
      ·show ((X.setCell ⟨z, 0, none⟩ (.slice Av xs.length cv)).setCell ⟨z + 1, 0, none⟩ (.int .i64 r2)).heap[D]? = _
       rw [Below.heap_setCell _ _ _ _ (by show D ≠ z + 1; omega), Below.heap_setCell _ _ _ _ (by show D ≠ z; omega)]
       exact hK
      ·have hr1 : xs.map toFrame = r1 := by rw [← he1, ← hS1, List.map_map]; rfl
       rw [hr1] at q2
       exact ⟨_, q1, _, rfl, q2, q3⟩
     exact AllReadyIn.nil
    exact AllReadyIn.nil
   exact AllReadyIn.nil
  refine AllReadyIn.cons rfl (fun K hK => ?_) ?_
  ·go_simp
   refine hK _ _ ?_
   clear hK K
   refine wpAnyIn_ready (rs := [0]) (by kernel_rfl) (by simp) ?_
   refine AllReadyIn.cons rfl (fun K hK => ?_) ?_
   ·go_simp
    refine hK _ _ ?_
    clear hK K
    refine wpAnyIn_ready (rs := [2]) (by kernel_rfl) (by simp) ?_
    refine AllReadyIn.cons rfl (fun K hK => ?_) ?_
    ·go_simp
     refine hK _ _ ?_
     clear hK K
     refine wpAnyIn_ready (rs := [3]) (by kernel_rfl) (by simp) ?_
     refine AllReadyIn.cons rfl (fun K hK => ?_) ?_
     ·go_simp
      refine hK _ _ ?_
      clear hK K
      refine wpAnyIn_done (by kernel_rfl) ?_ _
      rename_i K1 hK1
      refine hK1 _ _ ?_
      gi_wp2
      obtain ⟨q1, q2, q3⟩ := scan_close (tmps := #[Value.slice A0 l0.length c0, undef, .pointer (some ⟨z, 0, none⟩), .pointer (some ⟨z + 1, 0, none⟩), undef, undef, .slice A0 l0.length c0, .func (.func 102) #[] #[.pointer (some ⟨z + 2, 0, none⟩)], undef, undef, undef, undef, undef, undef, undef, .slice Av xs.length cv, .int .i64 r2]) HZ.out (by omega) hK HS.out HV.out HG.out HB.out rfl rfl
      rw [List.length_map] at q1 q2 q3
      rw [hS2, he2] at q1 q2 q3
      refine ⟨by simp, .inl ⟨_, _, rfl, run_takeDeferred (show _ = some (Obj.deferred (some [])) from ?_), ?_⟩⟩
      ·show ((X.setCell ⟨z, 0, none⟩ (.slice Av xs.length cv)).setCell ⟨z + 1, 0, none⟩ (.int .i64 r2)).heap[D]? = _
       rw [Below.heap_setCell _ _ _ _ (by show D ≠ z + 1; omega), Below.heap_setCell _ _ _ _ (by show D ≠ z; omega)]
       exact hK
      ·have hr1 : xs.map toFrame = r1 := by rw [← he1, ← hS1, List.map_map]; rfl
       rw [hr1] at q2
       exact ⟨_, q1, _, rfl, q2, q3⟩
     exact AllReadyIn.nil
    exact AllReadyIn.nil
   exact AllReadyIn.nil
  exact AllReadyIn.nil
end
end Go.Proofs.Ytooabchnbmnchaa.Q
namespace Go.Proofs.Ytooabchnbmnchaa.Q
open Go.RowKit Go.Proofs.YtooabchnbmnchaaW.PrintWords Go.Proofs.YtooabchnbmnchaaW.PrintLast Go.Proofs.YtooabchnbmnchaaW.PrintMore
attribute [local go_sem] max2_int min2_int max_two min_two max_three min_three max_four min_four binOp_string_leq binOp_string_geq binOp_string_gtr   -- for this text's walks alone
set_option linter.unusedVariables false
set_option linter.unusedSimpArgs false
def wal_records.l0 : Nat → List (List Int) → Int → List (S117) → Int → Int → Option ((List (List Int)) × Int)
 | 0, _, _, _, _, _ => none
 | k + 1, x2, x3, x13, x14, x15 => if x15 < x14 then (if 0 ≤ x15 then (if x15 < (x13.length : Int) then (if ((rd_T117 x13 x15).f0) = 1 then (if x2.length < 5864062014805 then (wal_records.l0 k (x2 ++ [(rd_T117 x13 x15).f1]) (wrap64 (x3 + (wrap64 ((((rd_T117 x13 x15).f1).length : Int) + 8)))) x13 x14 (wrap64 (x15 + 1))) else (none)) else (some (x2, x3))) else (none)) else (none)) else (some (x2, x3))
def wal_records.f (k : Nat) (l0 : List Int) : Option ((List (List Int)) × Int) := (frames_Scan.f k l0).bind fun bt117 => (wal_records.l0 k ([] : List (List Int)) 0 bt117.1 (bt117.1.length : Int) 0)
theorem wal_records.mono_l : ∀ k, (∀ y0 y1 y2 y3 y4, LeO (wal_records.l0 k y0 y1 y2 y3 y4) (wal_records.l0 (k + 1) y0 y1 y2 y3 y4))
 | 0 => fun _ _ _ _ _ r h => by simp [wal_records.l0] at h
 | k + 1 => by
  have ih0 := wal_records.mono_l k
  ·intro y0 y1 y2 y3 y4
   unfold wal_records.l0
   repeat' first
   | (with_reducible exact ih0 _ _ _ _ _)
   | (with_reducible exact frames_Scan.mono _ _)
   | (with_reducible exact LeO.refl _)
   | (with_reducible exact LeO.none _)
   | (with_reducible refine LeO.ite ?_ ?_)
   | (with_reducible refine LeO.bind ?_ (fun _ => ?_))
   | exact ih0 _ _ _ _ _
   | exact frames_Scan.mono _ _
   | exact LeO.none _
   | refine LeO.ite ?_ ?_
   | refine LeO.bind ?_ (fun _ => ?_)
theorem wal_records.mono : ∀ a0 k, LeO (wal_records.f k a0) (wal_records.f (k + 1) a0) := by
 intro a0 k
 have ih0 := wal_records.mono_l k
 unfold wal_records.f
 repeat' first
   | (with_reducible exact ih0 _ _ _ _ _)
   | (with_reducible exact frames_Scan.mono _ _)
   | (with_reducible exact LeO.refl _)
   | (with_reducible exact LeO.none _)
   | (with_reducible refine LeO.ite ?_ ?_)
   | (with_reducible refine LeO.bind ?_ (fun _ => ?_))
   | exact ih0 _ _ _ _ _
   | exact frames_Scan.mono _ _
   | exact LeO.none _
   | refine LeO.ite ?_ ?_
   | refine LeO.bind ?_ (fun _ => ?_)
set_option maxHeartbeats 8000000 in
set_option maxRecDepth 100000 in
theorem wal_records.calls (k : Nat) (A0 : Option Addr) (c0 : Nat) (l0 : List Int) (r1 : List (List Int)) (r2 : Int) (w : World) (hr0 : Kd.C (Kd.int .u8) w A0 l0.length l0) (hc0 : l0.length ≤ c0) (h : wal_records.f k l0 = some (r1, r2)) :
  Calls Try.prog 73 #[.slice A0 l0.length c0] w fun e w' => ∃ v0_ : Value, e = .returned (.tuple #[v0_, .int .i64 r2]) ∧ Kd.N (Kd.slice 5 (Kd.int .u8)) 26 w' w.heap.size (fun k_ => (w.heap.size ≤ k_)) v0_ r1 ∧ Below w.heap.size w w' := by
 have hu117 := Try.underlying117
 have HR0 := Aside0.mk hr0
 have HC0 := Aside0.mk hc0
 clear hr0 hc0
 have HB := Aside0.mk (Below.refl w.heap.size w)
 have H : ((frames_Scan.f k l0).bind fun bt117 => (wal_records.l0 k ([] : List (List Int)) 0 bt117.1 (bt117.1.length : Int) 0)) = some (r1, r2) := h
 clear h
 replace H := Option.bind_eq_some_iff.mp H
 obtain ⟨⟨t117, t118⟩, A20, H⟩ := H
 replace H : (wal_records.l0 k ([] : List (List Int)) 0 t117 (t117.length : Int) 0) = some (r1, r2) := H
 have A2 := Aside0.mk A20
 clear A20
 have H' := Aside0.mk H
 clear H
 go_enter Try.func73, Try.ntmps73
 go_wp2_with (first | ((with_reducible refine gate_callee (f := 90) rfl ?_); refine gL_ (some 10) Try.func90 #[.slice A0 l0.length c0] ?_; (with_reducible refine (frames_Scan.calls k _ _ l0 t117 t118 _ ?_ ?_ A2.out).mono ?_); exact cO_ HR0.out; exact HC0.out; rintro e w3 ⟨v119, rfl, ho0, hb⟩; refine ⟨_, rfl, ?_⟩; have HO120 := Aside0.mk (Kd.N_lower (Kd.N_mono (ok' := fun k_ => (w.heap.size ≤ k_)) (Kd.S_N (Kd.S_bound ho0)) (fun k_ hk_ => (Nat.le_trans (bs_ HB) hk_.2.1))) (bs_ HB)); replace HB := bS_ HB hb; (try clear hb ho0); obtain ⟨Ao4, co4, eo4⟩ := Kd.N_slice HO120.out; subst eo4))
 go_loopg [2, 3, 15] k (fun kq v2 v3 v15 w' => ∃ (x2_1 : List (List Int)) (x3_1 : Int) (x15_1 : Int), v3 = .int .i64 x3_1 ∧ v15 = .int .i64 x15_1 ∧ Aside0 (wal_records.l0 kq x2_1 x3_1 t117 (t117.length : Int) x15_1 = some (r1, r2)) ∧ Aside0 (kq ≤ k) ∧ Aside0 (Kd.N (Kd.slice 5 (Kd.int .u8)) 26 w' w.heap.size (fun k_ => (w.heap.size ≤ k_) ∧ some k_ ≠ ((.slice Ao4 t117.length co4) : Value).ownBlock) v2 x2_1) ∧ Aside0 (Kd.N k117 117 w' w.heap.size (fun k_ => (w.heap.size ≤ k_) ∧ some k_ ≠ (v2 : Value).ownBlock) (.slice Ao4 t117.length co4) t117) ∧ Aside0 (Below w.heap.size w w'))
 case atStart => exact ⟨(([] : List (List Int))), (0), (0), (by first | rfl | (simp; done) | (simp [*]; done)), (by first | rfl | (simp; done) | (simp [*]; done)), H', ⟨Nat.le_refl _⟩, ⟨nil_⟩, ⟨by (with_reducible repeat (first | apply Kd.N_alloc | apply Kd.N_drewN | apply Kd.N_drew)); exact Kd.N_mono HO120.out (fun _ hk => ⟨hk, (by simp [Value.ownBlock])⟩)⟩, ⟨bl_ HB⟩⟩
 case round =>
  clear H'
  try clear p2
  obtain ⟨x2_1, x3_1, x15_1, rfl, rfl, HA, HK1, HO_2, HO_13, HB⟩ := hrel
  cases gk with
  | zero => exact absurd HA.out (by simp [wal_records.l0])
  | succ k1 =>
   have H := HA.out
   clear HA
   simp only [wal_records.l0] at H
   by_cases c5 : x15_1 < (t117.length : Int)
   ·rw [if_pos c5] at H
    have c5b0 : decide (x15_1 < (t117.length : Int)) = true := decide_eq_true c5
    clear c5
    by_cases c6 : 0 ≤ x15_1
    ·rw [if_pos c6] at H
     have c6b0 : decide (0 ≤ x15_1) = true := decide_eq_true c6
     clear c6
     by_cases c7 : x15_1 < (t117.length : Int)
     ·rw [if_pos c7] at H
      have c7b0 : decide (x15_1 < (t117.length : Int)) = true := decide_eq_true c7
      clear c7
      by_cases c8 : ((rd_T117 t117 x15_1).f0) = 1
      ·rw [if_pos c8] at H
       have c8b0 : (((rd_T117 t117 x15_1).f0) == 1) = true := beq_iff_eq.mpr c8
       have c8b1 : (((rd_T117 t117 x15_1).f0) != 1) = false := bne_eq_false_iff_eq.mpr c8
       clear c8
       by_cases c9 : x2_1.length < 5864062014805
       ·rw [if_pos c9] at H
        have LMc9 := Aside0.mk c9
        clear c9
        obtain ⟨y123, hy123⟩ : ∃ y_ : List (List Int), y_ = (x2_1 ++ [(rd_T117 t117 x15_1).f1]) := ⟨_, rfl⟩
        replace H : (wal_records.l0 k1 y123 (wrap64 (x3_1 + (wrap64 ((((rd_T117 t117 x15_1).f1).length : Int) + 8)))) t117 (t117.length : Int) (wrap64 (x15_1 + 1))) = some (r1, r2) := by first | (rw [hy123]; with_reducible exact H) | (have H2_ := (Option.bind_some _ _).symm.trans H; rw [hy123]; with_reducible exact H2_) | (have H2_ := (Option.bind_some _ _).symm.trans H; with_reducible exact H2_) | with_reducible exact H | (rw [hy123]; exact H) | exact H
        have Ny123 := Aside0.mk hy123
        clear hy123
        have H' := Aside0.mk H
        clear H
        have p121 : 0 ≤ (x15_1 : Int) := of_decide_eq_true (by first | (with_reducible assumption) | assumption)
        have q121 : x15_1 < (t117.length : Int) := of_decide_eq_true (by first | (with_reducible assumption) | assumption)
        obtain ⟨ad121, A121_1, c121_1, e121, hx121_0, hx121_1, hl121_1, hi121_1⟩ := at_T117 (Kd.N_reads' HO_13.out).2.2 x15_1 p121 q121
        cases e121
        obtain ⟨ce121, hce121, hMe121, hcc121⟩ := Kd.N_get HO_13.out z117 x15_1 p121 (by first | exact q121 | exact of_decide_eq_true (by first | (with_reducible assumption) | assumption) | (have e_ := (Kd.N_reads' HO_13.out).1; omega))
        obtain ⟨ua121_1, uc121_1, rfl, ul121_1, ge121_1⟩ := k117_openF hMe121
        have hv121_1 := hcc121 1 _ rfl
        rw [add_field _ _ 1 (by omega)] at hv121_1
        replace hv121_1 := Option.some.inj (hv121_1.symm.trans hx121_1)
        injection hv121_1 with hva_ hvn_ hvc_
        rw [hva_] at ge121_1
        rw [hvc_] at ul121_1
        have HL121_1 := Aside0.mk (show Kd.V (Kd.int .u8) 5 _ w.heap.size _ _ ((rd_T117 t117 x15_1).f1) from Kd.V_mk ul121_1 ge121_1)
        clear hva_ hvn_ hvc_ ge121_1 ul121_1
        clear hcc121 hce121
        have HR121_1 := Aside0.mk hi121_1
        have HC121_1 := Aside0.mk hl121_1
        clear hi121_1 hl121_1
        replace p121 := eq_true p121
        replace q121 := eq_true q121
        go_wp2_with (first | ((with_reducible refine gate_dst (N := 7) rfl ?_); refine bx_ 7 #[.int .u8 0, .slice none 0 0] 117 ?_; intro gb122 hg w10 hbox hb; replace HO_2 := Aside0.mk (Kd.N_below (Kd.N_elderB (nA_ HO_2) gb122 (Nat.le_of_eq hg.symm)) hb); replace HO_13 := Aside0.mk (Kd.N_below (Kd.N_elderB (nA_ HO_13) gb122 (Nat.le_of_eq hg.symm)) hb); replace HL121_1 := Aside0.mk (Kd.V_below (Kd.V_elderB (vA_ HL121_1) gb122 (Nat.le_of_eq hg.symm)) hb); replace HR121_1 := Aside0.mk (Kd.C_below (by repeat (first | (with_reducible exact HR121_1.out) | (with_reducible refine Kd.C_alloc ?_ _) | (with_reducible refine Kd.C_drewN ?_ _) | (with_reducible refine Kd.C_drew ?_) | exact HR121_1.out)) hb); have BK122 := Aside0.mk (hbox); have GW122 := bG_ HB hg; have GE122 := bG_ HB hg; replace HB := bS_ HB hb; clear hb hbox hg; obtain ⟨hcz11_0, hcz11_1, hfz11_0, hfz11_1⟩ := cz2_ BK122) | ((with_reducible refine gate_store (t := 117) (p := 7) rfl ?_); refine store_event (t := 117) (p := 7) (v := ?vo_w12) (w1 := ((w10.setCell ⟨gb122, 0, none⟩ (.int .u8 ((rd_T117 t117 x15_1).f0))).setCell ⟨gb122, 1, none⟩ (.slice A121_1 ((rd_T117 t117 x15_1).f1).length c121_1))) ?hg ?ho ?hn ?hr ?_; (case ho => rfl); (case hg => rfl); (case hn => rfl); (case hr => first | (go_simp; done) | (go_simp; rfl)); intro w12 hw; replace HO_2 : Aside0 (Kd.N (Kd.slice 5 (Kd.int .u8)) 26 w12 w.heap.size (fun k_ => (w.heap.size ≤ k_) ∧ some k_ ≠ (.slice (some ad121) t117.length co4 : Value).ownBlock ∧ k_ ≠ gb122) u2 x2_1) := ⟨(by rw [hw]; exact (Kd.N_mono (nD_ HO_2 (fun k_ hk => hk.2)) (fun _ hk => ⟨hk.1.1.1, ⟨hk.1.1.2, hk.1.2⟩⟩)))⟩; replace HO_13 : Aside0 (Kd.N k117 117 w12 w.heap.size (fun k_ => (w.heap.size ≤ k_) ∧ some k_ ≠ (u2 : Value).ownBlock ∧ k_ ≠ gb122) (.slice (some ad121) t117.length co4) t117) := ⟨(by rw [hw]; exact (Kd.N_mono (nD_ HO_13 (fun k_ hk => hk.2)) (fun _ hk => ⟨hk.1.1.1, ⟨hk.1.1.2, hk.1.2⟩⟩)))⟩; replace HL121_1 : Aside0 (Kd.V (Kd.int .u8) 5 w12 w.heap.size (fun k_ => (w.heap.size ≤ k_) ∧ some k_ ≠ (u2 : Value).ownBlock ∧ some k_ ≠ (.slice (some ad121) t117.length co4 : Value).ownBlock ∧ k_ ≠ gb122) (.slice A121_1 ((rd_T117 t117 x15_1).f1).length c121_1) ((rd_T117 t117 x15_1).f1)) := ⟨(by rw [hw]; exact (Kd.V_mono (vD_ HL121_1 (fun k_ hk => hk.2)) (fun _ hk => ⟨hk.1.1.1.1, ⟨hk.1.1.1.2, ⟨hk.1.1.2, hk.1.2⟩⟩⟩)))⟩; replace BK122 : Aside0 (w12.heap[gb122]? = some (.cells #[.int .u8 ((rd_T117 t117 x15_1).f0), .slice A121_1 ((rd_T117 t117 x15_1).f1).length c121_1] 117 (0, 0))) := ⟨(by rw [hw]; exact (by (with_reducible repeat (first | refine blk_drewN ?_ _ | refine blk_drew ?_ | refine blk_alloc ?_ _)); refine blk_put (cs := #[.int .u8 ((rd_T117 t117 x15_1).f0), .slice none 0 0]) ?_ 1 _ rfl; (with_reducible repeat (first | refine blk_drewN ?_ _ | refine blk_drew ?_ | refine blk_alloc ?_ _)); refine blk_put (cs := #[.int .u8 0, .slice none 0 0]) ?_ 0 _ rfl; (with_reducible repeat (first | refine blk_drewN ?_ _ | refine blk_drew ?_ | refine blk_alloc ?_ _)); exact BK122.out))⟩; replace HB : Aside0 (Below w.heap.size w w12) := ⟨(by rw [hw]; exact (bl_ HB))⟩; clear hw; obtain ⟨hcz13_0, hcz13_1, hfz13_0, hfz13_1⟩ := cz2_ BK122) | ((with_reducible refine gate_builtin (b := .append) (xs := #[.tmp 22, .tmp 25]) rfl ?_); at_builtin; refine Kd.N_append (Kd.slice 5 (Kd.int .u8)) (w0 := w) w.heap.size rfl (.tmp 22) (.tmp 25) 56 26 (.slice none 0 0) 24 rfl Try.underlying56 info26 rfl (by decide) (by omega) u2 x2_1 ((rd_T117 t117 x15_1).f1) [.slice A121_1 ((rd_T117 t117 x15_1).f1).length c121_1] (fun k_ => (w.heap.size ≤ k_) ∧ some k_ ≠ (.slice (some ad121) t117.length co4 : Value).ownBlock ∧ k_ ≠ gb122) (fun k_ => ((fun k_ => (w.heap.size ≤ k_) ∧ some k_ ≠ (.slice (some ad121) t117.length co4 : Value).ownBlock ∧ k_ ≠ gb122)) k_ ∧ some k_ ≠ (u2 : Value).ownBlock) rfl rfl ?aP (fun _ hk => hk) ?aF ?aO ?aB ?aS ?aL ?_; (case aP => exact (Kd.FK_slice_mk (Kd.V_reads' (Kd.V_mono (ok' := (fun k_ => ((fun k_ => (w.heap.size ≤ k_) ∧ some k_ ≠ (.slice (some ad121) t117.length co4 : Value).ownBlock ∧ k_ ≠ gb122)) k_ ∧ some k_ ≠ (u2 : Value).ownBlock)) (HL121_1.out) (fun k_ hk => ⟨⟨hk.1, ⟨hk.2.2.1, hk.2.2.2⟩⟩, hk.2.1⟩))).2.1 (Kd.V_F (Kd.V_mono (ok' := (fun k_ => ((fun k_ => (w.heap.size ≤ k_) ∧ some k_ ≠ (.slice (some ad121) t117.length co4 : Value).ownBlock ∧ k_ ≠ gb122)) k_ ∧ some k_ ≠ (u2 : Value).ownBlock)) (HL121_1.out) (fun k_ hk => ⟨⟨hk.1, ⟨hk.2.2.1, hk.2.2.2⟩⟩, hk.2.1⟩))))); (case aB => exact (bl_ HB)); (case aF => exact (fun k_ hk => ⟨(Nat.le_trans (bs_ HB) hk), Kd.fresh' (Kd.N_lt (nA_ HO_13)) k_ hk, Kd.freshB (bA_ BK122) k_ hk⟩)); (case aO => exact (nA_ HO_2)); (case aS => exact (bs_ HB)); (case aL => have := LMc9.out; omega); intro v124 w14 ho hb hg hat; rw [← Ny123.out] at ho; replace HO_13 := Aside0.mk (Kd.N_afterv (ok := (fun k_ => (w.heap.size ≤ k_) ∧ k_ ≠ gb122)) (by (with_reducible repeat (first | apply Kd.N_alloc | apply Kd.N_drewN | apply Kd.N_drew)); exact Kd.N_mono HO_13.out (fun _ hk => ⟨⟨hk.1, hk.2.2⟩, hk.2.1⟩)) hg hat); replace HL121_1 := Aside0.mk (Kd.V_afterv (ok := (fun k_ => (w.heap.size ≤ k_) ∧ some k_ ≠ (.slice (some ad121) t117.length co4 : Value).ownBlock ∧ k_ ≠ gb122)) (by (with_reducible repeat (first | apply Kd.V_alloc | apply Kd.V_drewN | apply Kd.V_drew)); exact Kd.V_mono HL121_1.out (fun _ hk => ⟨⟨hk.1, ⟨hk.2.2.1, hk.2.2.2⟩⟩, hk.2.1⟩)) hg hat); replace BK122 := Aside0.mk (blk_grown (bA_ BK122) hg (Kd.N_ne HO_2.out BK122.out (by decide))); replace HB := Aside0.mk (hb); have HO125 := Aside0.mk (ho); clear HO_2; clear ho hb hg hat; obtain ⟨hcz15_0, hcz15_1, hfz15_0, hfz15_1⟩ := cz2_ BK122))
        go_roundg k1
        case measure => have := HK1.out; omega
        case rel => exact ⟨(y123), (wrap64 (x3_1 + (wrap64 ((((rd_T117 t117 x15_1).f1).length : Int) + 8)))), (wrap64 (x15_1 + 1)), (by first | rfl | (simp; done) | (simp [*]; done)), (by first | rfl | (simp; done) | (simp [*]; done)), H', ⟨by have := HK1.out; omega⟩, ⟨by (with_reducible repeat (first | apply Kd.N_alloc | apply Kd.N_drewN | apply Kd.N_drew)); exact Kd.N_mono HO125.out (fun _ hk => ⟨hk.1, hk.2.1⟩)⟩, ⟨by (with_reducible repeat (first | apply Kd.N_alloc | apply Kd.N_drewN | apply Kd.N_drew)); exact Kd.N_mono HO_13.out (fun _ hk => ⟨hk.1.1, hk.2⟩)⟩, ⟨bl_ HB⟩⟩
       ·rw [if_neg c9] at H
        exact absurd H (by simp)
      ·rw [if_neg c8] at H
       have c8b0 : (((rd_T117 t117 x15_1).f0) == 1) = false := beq_eq_false_iff_ne.mpr c8
       have c8b1 : (((rd_T117 t117 x15_1).f0) != 1) = true := bne_iff_ne.mpr c8
       simp only [Option.some.injEq, Prod.mk.injEq] at H
       obtain ⟨rfl, rfl⟩ := H
       have p121 : 0 ≤ (x15_1 : Int) := of_decide_eq_true (by first | (with_reducible assumption) | assumption)
       have q121 : x15_1 < (t117.length : Int) := of_decide_eq_true (by first | (with_reducible assumption) | assumption)
       obtain ⟨ad121, A121_1, c121_1, e121, hx121_0, hx121_1, hl121_1, hi121_1⟩ := at_T117 (Kd.N_reads' HO_13.out).2.2 x15_1 p121 q121
       cases e121
       obtain ⟨ce121, hce121, hMe121, hcc121⟩ := Kd.N_get HO_13.out z117 x15_1 p121 (by first | exact q121 | exact of_decide_eq_true (by first | (with_reducible assumption) | assumption) | (have e_ := (Kd.N_reads' HO_13.out).1; omega))
       obtain ⟨ua121_1, uc121_1, rfl, ul121_1, ge121_1⟩ := k117_openF hMe121
       have hv121_1 := hcc121 1 _ rfl
       rw [add_field _ _ 1 (by omega)] at hv121_1
       replace hv121_1 := Option.some.inj (hv121_1.symm.trans hx121_1)
       injection hv121_1 with hva_ hvn_ hvc_
       rw [hva_] at ge121_1
       rw [hvc_] at ul121_1
       have HL121_1 := Aside0.mk (show Kd.V (Kd.int .u8) 5 _ w.heap.size _ _ ((rd_T117 t117 x15_1).f1) from Kd.V_mk ul121_1 ge121_1)
       clear hva_ hvn_ hvc_ ge121_1 ul121_1
       clear hcc121 hce121
       have HR121_1 := Aside0.mk hi121_1
       have HC121_1 := Aside0.mk hl121_1
       clear hi121_1 hl121_1
       replace p121 := eq_true p121
       replace q121 := eq_true q121
       go_wp2_with (first | ((with_reducible refine gate_dst (N := 7) rfl ?_); refine bx_ 7 #[.int .u8 0, .slice none 0 0] 117 ?_; intro gb122 hg w16 hbox hb; replace HO_2 := Aside0.mk (Kd.N_below (Kd.N_elderB (nA_ HO_2) gb122 (Nat.le_of_eq hg.symm)) hb); replace HO_13 := Aside0.mk (Kd.N_below (Kd.N_elderB (nA_ HO_13) gb122 (Nat.le_of_eq hg.symm)) hb); replace HL121_1 := Aside0.mk (Kd.V_below (Kd.V_elderB (vA_ HL121_1) gb122 (Nat.le_of_eq hg.symm)) hb); replace HR121_1 := Aside0.mk (Kd.C_below (by repeat (first | (with_reducible exact HR121_1.out) | (with_reducible refine Kd.C_alloc ?_ _) | (with_reducible refine Kd.C_drewN ?_ _) | (with_reducible refine Kd.C_drew ?_) | exact HR121_1.out)) hb); have BK122 := Aside0.mk (hbox); have GW122 := bG_ HB hg; have GE122 := bG_ HB hg; replace HB := bS_ HB hb; clear hb hbox hg; obtain ⟨hcz17_0, hcz17_1, hfz17_0, hfz17_1⟩ := cz2_ BK122))
       go_ret2
       exact ⟨_, fin_, Kd.N_mono (nD_ HO_2 (fun k_ hk => hk.2)) (fun _ hk => hk.1.1.1), bl_ HB⟩
     ·rw [if_neg c7] at H
      exact absurd H (by simp)
    ·rw [if_neg c6] at H
     exact absurd H (by simp)
   ·rw [if_neg c5] at H
    have c5b0 : decide (x15_1 < (t117.length : Int)) = false := decide_eq_false c5
    clear c5
    simp only [Option.some.injEq, Prod.mk.injEq] at H
    obtain ⟨rfl, rfl⟩ := H
    go_wp2
    go_ret2
    exact ⟨_, fin_, by (with_reducible repeat (first | apply Kd.N_alloc | apply Kd.N_drewN | apply Kd.N_drew)); exact Kd.N_mono HO_2.out (fun _ hk => hk.1), bl_ HB⟩
end Go.Proofs.Ytooabchnbmnchaa.Q
namespace Go.Proofs.Ytooabchnbmnchaa.Q
open Go.RowKit Go.Proofs.YtooabchnbmnchaaW.PrintWords Go.Proofs.YtooabchnbmnchaaW.PrintLast Go.Proofs.YtooabchnbmnchaaW.PrintMore
attribute [local go_sem] max2_int min2_int max_two min_two max_three min_three max_four min_four binOp_string_leq binOp_string_geq binOp_string_gtr   -- for this text's walks alone
set_option linter.unusedVariables false
set_option linter.unusedSimpArgs false
def wal_index.f (a0 : Int) : Option (Bool) := if a0 ≥ 0 then (some (decide (a0 ≤ 1099511627776))) else (some false)
set_option maxHeartbeats 8000000 in
set_option maxRecDepth 100000 in
theorem wal_index.calls (a0 : Int) (r : Bool) (w : World) (h : wal_index.f a0 = some r) :
  Calls Try.prog 74 #[.int .i64 a0] w fun e w' => e = .returned (.bool r) ∧ Drawn0 w w' := by
 have H : (if a0 ≥ 0 then (some (decide (a0 ≤ 1099511627776))) else (some false)) = some r := h
 clear h
 by_cases c2 : a0 ≥ 0
 ·rw [if_pos c2] at H
  have c2b0 : decide (0 ≤ a0) = true := decide_eq_true c2
  clear c2
  obtain rfl := Option.some.inj H
  go_enter Try.func74, Try.ntmps74
  go_wp2
  go_ret
  exact ⟨by first | rfl | (simp; done) | (simp [*]; done), by repeat (first | exact Drawn0.refl _ | apply Drawn0.step)⟩
 ·rw [if_neg c2] at H
  have c2b0 : decide (0 ≤ a0) = false := decide_eq_false c2
  clear c2
  obtain rfl := Option.some.inj H
  go_enter Try.func74, Try.ntmps74
  go_wp2
  go_ret
  exact ⟨by first | rfl | (simp; done) | (simp [*]; done), by repeat (first | exact Drawn0.refl _ | apply Drawn0.step)⟩
end Go.Proofs.Ytooabchnbmnchaa.Q
namespace Go.Proofs.Ytooabchnbmnchaa.Q
open Go.RowKit Go.Proofs.YtooabchnbmnchaaW.PrintWords Go.Proofs.YtooabchnbmnchaaW.PrintLast Go.Proofs.YtooabchnbmnchaaW.PrintMore
attribute [local go_sem] max2_int min2_int max_two min_two max_three min_three max_four min_four binOp_string_leq binOp_string_geq binOp_string_gtr   -- for this text's walks alone
set_option linter.unusedVariables false
set_option linter.unusedSimpArgs false
mutual
def wal_Check.j0 : Nat → Bool → List (S70) → Int → List (List Int) → Option (Int)
 | 0, _, _, _, _ => none
 | k + 1, x3, x127000, x127001, x127002 => if x3 = true then ((slices_ContainsFunc_byte_byte.f x127002 78).bind fun t128 => (wal_Check.j1 k (!t128) x127000 x127001 x127002)) else (wal_Check.j1 k false x127000 x127001 x127002)
def wal_Check.j1 : Nat → Bool → List (S70) → Int → List (List Int) → Option (Int)
 | 0, _, _, _, _ => none
 | k + 1, x3, x127000, x127001, x127002 => wal_Check.l0 k x3 x127001 x127000 (x127000.length : Int) 0 x127000 x127001 x127002
def wal_Check.l0 : Nat → Bool → Int → List (S70) → Int → Int → List (S70) → Int → List (List Int) → Option (Int)
 | 0, _, _, _, _, _, _, _, _ => none
 | k + 1, x3, x4, x34, x35, x36, x127000, x127001, x127002 => if x36 < x35 then (if 0 ≤ x36 then (if x36 < (x34.length : Int) then (if x3 = true then (if x36 = 0 then ((wal_records.f k ((rd_T70 x34 x36).f1)).bind fun bt131 => ((wal_index.f ((rd_T70 x34 x36).f0)).bind fun t135 => (if t135 = true then (wal_Check.l0 k (bt131.2 == (((rd_T70 x34 x36).f1).length : Int)) (wrap64 (((rd_T70 x34 x36).f0) + (bt131.1.length : Int))) x34 x35 (wrap64 (x36 + 1)) x127000 x127001 x127002) else (wal_Check.l0 k false (wrap64 (((rd_T70 x34 x36).f0) + (bt131.1.length : Int))) x34 x35 (wrap64 (x36 + 1)) x127000 x127001 x127002)))) else ((wal_records.f k ((rd_T70 x34 x36).f1)).bind fun bt136 => ((wal_index.f ((rd_T70 x34 x36).f0)).bind fun t140 => (if t140 = true then (if ((rd_T70 x34 x36).f0) = x4 then (wal_Check.l0 k (bt136.2 == (((rd_T70 x34 x36).f1).length : Int)) (wrap64 (x4 + (bt136.1.length : Int))) x34 x35 (wrap64 (x36 + 1)) x127000 x127001 x127002) else (wal_Check.l0 k false (wrap64 (x4 + (bt136.1.length : Int))) x34 x35 (wrap64 (x36 + 1)) x127000 x127001 x127002)) else (wal_Check.l0 k false (wrap64 (x4 + (bt136.1.length : Int))) x34 x35 (wrap64 (x36 + 1)) x127000 x127001 x127002))))) else (some 9)) else (none)) else (none)) else (if x3 = true then (if x4 = x127001 then (some 0) else (some 9)) else (some 9))
end
def wal_Check.f (k : Nat) (l0_0 : List (S70)) (a0_1 : Int) (l0_2 : List (List Int)) : Option (Int) := if (l0_0.length : Int) ≤ 4096 then ((wal_index.f a0_1).bind fun t127 => (if t127 = true then (wal_Check.j0 k (decide ((l0_2.length : Int) ≤ 4096)) l0_0 a0_1 l0_2) else (wal_Check.j0 k false l0_0 a0_1 l0_2))) else (wal_Check.j0 k false l0_0 a0_1 l0_2)
theorem wal_Check.mono_l : ∀ k, (∀ y0 y1 y2 y3, LeO (wal_Check.j0 k y0 y1 y2 y3) (wal_Check.j0 (k + 1) y0 y1 y2 y3)) ∧ (∀ y0 y1 y2 y3, LeO (wal_Check.j1 k y0 y1 y2 y3) (wal_Check.j1 (k + 1) y0 y1 y2 y3)) ∧ (∀ y0 y1 y2 y3 y4 y5 y6 y7, LeO (wal_Check.l0 k y0 y1 y2 y3 y4 y5 y6 y7) (wal_Check.l0 (k + 1) y0 y1 y2 y3 y4 y5 y6 y7))
 | 0 => ⟨fun _ _ _ _ r h => by simp [wal_Check.j0] at h, fun _ _ _ _ r h => by simp [wal_Check.j1] at h, fun _ _ _ _ _ _ _ _ r h => by simp [wal_Check.l0] at h⟩
 | k + 1 => by
  obtain ⟨ih0, ih1, ih2⟩ := wal_Check.mono_l k
  refine ⟨?_, ?_, ?_⟩
  ·intro y0 y1 y2 y3
   unfold wal_Check.j0
   repeat' first
   | (with_reducible exact ih0 _ _ _ _)
   | (with_reducible exact ih1 _ _ _ _)
   | (with_reducible exact ih2 _ _ _ _ _ _ _ _)
   | (with_reducible exact wal_records.mono _ _)
   | (with_reducible exact LeO.refl _)
   | (with_reducible exact LeO.none _)
   | (with_reducible refine LeO.ite ?_ ?_)
   | (with_reducible refine LeO.bind ?_ (fun _ => ?_))
   | exact ih0 _ _ _ _
   | exact ih1 _ _ _ _
   | exact ih2 _ _ _ _ _ _ _ _
   | exact wal_records.mono _ _
   | exact LeO.none _
   | refine LeO.ite ?_ ?_
   | refine LeO.bind ?_ (fun _ => ?_)
  ·intro y0 y1 y2 y3
   unfold wal_Check.j1
   repeat' first
   | (with_reducible exact ih0 _ _ _ _)
   | (with_reducible exact ih1 _ _ _ _)
   | (with_reducible exact ih2 _ _ _ _ _ _ _ _)
   | (with_reducible exact wal_records.mono _ _)
   | (with_reducible exact LeO.refl _)
   | (with_reducible exact LeO.none _)
   | (with_reducible refine LeO.ite ?_ ?_)
   | (with_reducible refine LeO.bind ?_ (fun _ => ?_))
   | exact ih0 _ _ _ _
   | exact ih1 _ _ _ _
   | exact ih2 _ _ _ _ _ _ _ _
   | exact wal_records.mono _ _
   | exact LeO.none _
   | refine LeO.ite ?_ ?_
   | refine LeO.bind ?_ (fun _ => ?_)
  ·intro y0 y1 y2 y3 y4 y5 y6 y7
   unfold wal_Check.l0
   repeat' first
   | (with_reducible exact ih0 _ _ _ _)
   | (with_reducible exact ih1 _ _ _ _)
   | (with_reducible exact ih2 _ _ _ _ _ _ _ _)
   | (with_reducible exact wal_records.mono _ _)
   | (with_reducible exact LeO.refl _)
   | (with_reducible exact LeO.none _)
   | (with_reducible refine LeO.ite ?_ ?_)
   | (with_reducible refine LeO.bind ?_ (fun _ => ?_))
   | exact ih0 _ _ _ _
   | exact ih1 _ _ _ _
   | exact ih2 _ _ _ _ _ _ _ _
   | exact wal_records.mono _ _
   | exact LeO.none _
   | refine LeO.ite ?_ ?_
   | refine LeO.bind ?_ (fun _ => ?_)
theorem wal_Check.mono : ∀ a0 a1 a2 k, LeO (wal_Check.f k a0 a1 a2) (wal_Check.f (k + 1) a0 a1 a2) := by
 intro a0 a1 a2 k
 obtain ⟨ih0, ih1, ih2⟩ := wal_Check.mono_l k
 unfold wal_Check.f
 repeat' first
   | (with_reducible exact ih0 _ _ _ _)
   | (with_reducible exact ih1 _ _ _ _)
   | (with_reducible exact ih2 _ _ _ _ _ _ _ _)
   | (with_reducible exact wal_records.mono _ _)
   | (with_reducible exact LeO.refl _)
   | (with_reducible exact LeO.none _)
   | (with_reducible refine LeO.ite ?_ ?_)
   | (with_reducible refine LeO.bind ?_ (fun _ => ?_))
   | exact ih0 _ _ _ _
   | exact ih1 _ _ _ _
   | exact ih2 _ _ _ _ _ _ _ _
   | exact wal_records.mono _ _
   | exact LeO.none _
   | refine LeO.ite ?_ ?_
   | refine LeO.bind ?_ (fun _ => ?_)
set_option maxHeartbeats 8000000 in
set_option maxRecDepth 100000 in
theorem wal_Check.calls (k : Nat) (A0_0 : Option Addr) (c0_0 : Nat) (l0_0 : List (S70)) (a0_1 : Int) (A0_2 : Option Addr) (c0_2 : Nat) (l0_2 : List (List Int)) (r : Int) (w : World) (hr0_0 : Kd.C k70 w A0_0 l0_0.length l0_0) (hc0_0 : l0_0.length ≤ c0_0) (hr0_2 : Kd.C (Kd.slice 5 (Kd.int .u8)) w A0_2 l0_2.length l0_2) (hc0_2 : l0_2.length ≤ c0_2) (h : wal_Check.f k l0_0 a0_1 l0_2 = some r) :
  Calls Try.prog 47 #[.agg #[.slice A0_0 l0_0.length c0_0, .int .i64 a0_1, .slice A0_2 l0_2.length c0_2]] w fun e w' => e = .returned (.int .i64 r) ∧ Below w.heap.size w w' := by
 have hu61 := Try.underlying61
 have hu70 := Try.underlying70
 have HR0_0 := Aside0.mk hr0_0
 have HC0_0 := Aside0.mk hc0_0
 clear hr0_0 hc0_0
 have HR0_2 := Aside0.mk hr0_2
 have HC0_2 := Aside0.mk hc0_2
 clear hr0_2 hc0_2
 have HB := Aside0.mk (Below.refl w.heap.size w)
 have H : (if (l0_0.length : Int) ≤ 4096 then ((wal_index.f a0_1).bind fun t127 => (if t127 = true then (wal_Check.j0 k (decide ((l0_2.length : Int) ≤ 4096)) l0_0 a0_1 l0_2) else (wal_Check.j0 k false l0_0 a0_1 l0_2))) else (wal_Check.j0 k false l0_0 a0_1 l0_2)) = some r := h
 clear h
 have HC2 := Aside0.mk H
 clear H
 go_enter Try.func47, Try.ntmps47
 go_upto_region 1 with (first | ((with_reducible refine gate_dst (N := 1) rfl ?_); (try (refine gate_guard (by rfl) ?_; dsimp only)); refine bx_ 1 #[.slice A0_0 l0_0.length c0_0, .int .i64 a0_1, .slice A0_2 l0_2.length c0_2] 61 ?_; intro gb126 hg w3 hbox hb; have BK126 := Aside0.mk (hbox); have GW126 := bG_ HB hg; have GE126 := bG_ HB hg; replace HB := bS_ HB hb; clear hb hbox hg))
 (try simp only [Act.put, List.setIfInBounds_toArray, List.set_cons_zero, List.set_cons_succ])
 go_cut [3] (fun v3 wc => ∃ (kq : Nat) (x3_1 : Bool), v3 = .bool x3_1 ∧ Aside0 (wal_Check.j0 kq x3_1 l0_0 a0_1 l0_2 = some r) ∧ Aside0 (kq ≤ k) ∧ Aside0 (wc.heap[gb126]? = some (.cells #[(.slice A0_0 l0_0.length c0_0), .int .i64 a0_1, (.slice A0_2 l0_2.length c0_2)] 61 (0, 0))) ∧ Aside0 (Below w.heap.size w wc))
 case first =>
  have H := HC2.out
  clear HC2
  by_cases c4 : (l0_0.length : Int) ≤ 4096
  ·rw [if_pos c4] at H
   have c4b0 : decide ((l0_0.length : Int) ≤ 4096) = true := decide_eq_true c4
   have c4b1 : decide (l0_0.length ≤ 4096) = true := decide_eq_true (by omega)
   clear c4
   (first | rw [c4b0] | (simp only [i64_w, i32_w]; rw [c4b0]) | skip)
   replace H := Option.bind_eq_some_iff.mp H
   obtain ⟨t127, A50, H⟩ := H
   try dsimp only at H
   have A5 := Aside0.mk A50
   clear A50
   by_cases c6 : t127 = true
   ·subst c6
    rw [if_pos rfl] at H
    have H' := Aside0.mk H
    clear H
    obtain ⟨hcz7_0, hcz7_1, hcz7_2, hfz7_0, hfz7_1, hfz7_2⟩ := cz3_ BK126
    go_wp2_with (first | (go_at_call 74; (with_reducible refine (wal_index.calls a0_1 true _ A5.out).mono ?_); rintro e w' ⟨rfl, ⟨nd, rfl⟩⟩))
    go_meet
    case rel => exact ⟨_, (decide ((l0_2.length : Int) ≤ 4096)), (by first | rfl | (simp; done) | (simp [*]; done)), H', ⟨by first | omega | exact Nat.le_refl _⟩, ⟨bA_ BK126⟩, ⟨bl_ HB⟩⟩
   ·replace c6 := Bool.eq_false_iff.mpr c6
    subst c6
    rw [if_neg (show ¬ (false = true) by decide)] at H
    have H' := Aside0.mk H
    clear H
    obtain ⟨hcz8_0, hcz8_1, hcz8_2, hfz8_0, hfz8_1, hfz8_2⟩ := cz3_ BK126
    go_wp2_with (first | (go_at_call 74; (with_reducible refine (wal_index.calls a0_1 false _ A5.out).mono ?_); rintro e w' ⟨rfl, ⟨nd, rfl⟩⟩))
    go_meet
    case rel => exact ⟨_, (false), (by first | rfl | (simp; done) | (simp [*]; done)), H', ⟨by first | omega | exact Nat.le_refl _⟩, ⟨bA_ BK126⟩, ⟨bl_ HB⟩⟩
  ·rw [if_neg c4] at H
   have c4b0 : decide ((l0_0.length : Int) ≤ 4096) = false := decide_eq_false c4
   have c4b1 : decide (l0_0.length ≤ 4096) = false := decide_eq_false (by omega)
   clear c4
   (first | rw [c4b0] | (simp only [i64_w, i32_w]; rw [c4b0]) | skip)
   have H' := Aside0.mk H
   clear H
   obtain ⟨hcz9_0, hcz9_1, hcz9_2, hfz9_0, hfz9_1, hfz9_2⟩ := cz3_ BK126
   go_wp2
   go_meet
   case rel => exact ⟨_, (false), (by first | rfl | (simp; done) | (simp [*]; done)), H', ⟨by first | omega | exact Nat.le_refl _⟩, ⟨bA_ BK126⟩, ⟨bl_ HB⟩⟩
 case rest =>
  clear HC2
  try clear p2
  try clear c4
  try clear c4b0
  try clear c4b1
  try clear c6
  try clear hcz7_0
  try clear hcz7_1
  try clear hcz7_2
  try clear hcz8_0
  try clear hcz8_1
  try clear hcz8_2
  try clear hcz9_0
  try clear hcz9_1
  try clear hcz9_2
  try clear hfz7_0
  try clear hfz7_1
  try clear hfz7_2
  try clear hfz8_0
  try clear hfz8_1
  try clear hfz8_2
  try clear hfz9_0
  try clear hfz9_1
  try clear hfz9_2
  obtain ⟨kq, x3_1, rfl, HA, HJ1, BK126, HB⟩ := hcut
  cases kq with
  | zero => exact absurd HA.out (by simp [wal_Check.j0])
  | succ kj1 =>
   have H := HA.out
   clear HA
   simp only [wal_Check.j0] at H
   have HC10 := Aside0.mk H
   clear H
   go_upto_region 2 with (fail)
   go_cut [3] (fun v3 wc => ∃ (kq : Nat) (x3_9 : Bool), v3 = .bool x3_9 ∧ Aside0 (wal_Check.j1 kq x3_9 l0_0 a0_1 l0_2 = some r) ∧ Aside0 (kq ≤ kj1) ∧ Aside0 (wc.heap[gb126]? = some (.cells #[(.slice A0_0 l0_0.length c0_0), .int .i64 a0_1, (.slice A0_2 l0_2.length c0_2)] 61 (0, 0))) ∧ Aside0 (Below w.heap.size w wc))
   case first =>
    have H := HC10.out
    clear HC10
    by_cases c11 : x3_1 = true
    ·subst c11
     rw [if_pos rfl] at H
     replace H := Option.bind_eq_some_iff.mp H
     obtain ⟨t128, A120, H⟩ := H
     replace H : (wal_Check.j1 kj1 (!t128) l0_0 a0_1 l0_2) = some r := H
     have A12 := Aside0.mk A120
     clear A120
     have H' := Aside0.mk H
     clear H
     obtain ⟨hcz13_0, hcz13_1, hcz13_2, hfz13_0, hfz13_1, hfz13_2⟩ := cz3_ BK126
     go_wp2_with (first | (go_at_call 67; (with_reducible refine (slices_ContainsFunc_byte_byte.calls _ _ l0_2 78 t128 _ ?_ ?_ A12.out).mono ?_); exact cB_ HR0_2 HB; exact HC0_2.out; rintro e w14 ⟨rfl, hb⟩; replace BK126 := bK_ BK126 hb; replace HB := bS_ HB hb; (try clear hb)))
     go_meet
     case rel => exact ⟨_, (!t128), (by first | rfl | (simp; done) | (simp [*]; done)), H', ⟨by have := HJ1.out; first | omega | exact Nat.le_refl _⟩, ⟨bA_ BK126⟩, ⟨bl_ HB⟩⟩
    ·replace c11 := Bool.eq_false_iff.mpr c11
     subst c11
     rw [if_neg (show ¬ (false = true) by decide)] at H
     have H' := Aside0.mk H
     clear H
     go_wp2
     go_meet
     case rel => exact ⟨_, (false), (by first | rfl | (simp; done) | (simp [*]; done)), H', ⟨by have := HJ1.out; first | omega | exact Nat.le_refl _⟩, ⟨bA_ BK126⟩, ⟨bl_ HB⟩⟩
   case rest =>
    clear HC10
    try clear c1
    try clear p2
    try clear c4
    try clear c4b0
    try clear c4b1
    try clear c6
    try clear c11
    try clear hcz13_0
    try clear hcz13_1
    try clear hcz13_2
    try clear hcz7_0
    try clear hcz7_1
    try clear hcz7_2
    try clear hcz8_0
    try clear hcz8_1
    try clear hcz8_2
    try clear hcz9_0
    try clear hcz9_1
    try clear hcz9_2
    try clear hfz13_0
    try clear hfz13_1
    try clear hfz13_2
    try clear hfz7_0
    try clear hfz7_1
    try clear hfz7_2
    try clear hfz8_0
    try clear hfz8_1
    try clear hfz8_2
    try clear hfz9_0
    try clear hfz9_1
    try clear hfz9_2
    try clear p2
    obtain ⟨kq, x3_9, rfl, HA, HJ9, BK126, HB⟩ := hcut
    cases kq with
    | zero => exact absurd HA.out (by simp [wal_Check.j1])
    | succ kj9 =>
     have H := HA.out
     clear HA
     simp only [wal_Check.j1] at H
     have H' := Aside0.mk H
     clear H
     obtain ⟨hcz15_0, hcz15_1, hcz15_2, hfz15_0, hfz15_1, hfz15_2⟩ := cz3_ BK126
     go_wp2
     go_loopg [3, 4, 36] kj9 (fun kq v3 v4 v36 w' => ∃ (x3_3 : Bool) (x4_3 : Int) (x36_3 : Int), v3 = .bool x3_3 ∧ v4 = .int .i64 x4_3 ∧ v36 = .int .i64 x36_3 ∧ Aside0 (wal_Check.l0 kq x3_3 x4_3 l0_0 (l0_0.length : Int) x36_3 l0_0 a0_1 l0_2 = some r) ∧ Aside0 (kq ≤ kj9) ∧ Aside0 (w'.heap[gb126]? = some (.cells #[(.slice A0_0 l0_0.length c0_0), .int .i64 a0_1, (.slice A0_2 l0_2.length c0_2)] 61 (0, 0))) ∧ Aside0 (Below w.heap.size w w'))
     case atStart => exact ⟨(x3_9), (a0_1), (0), (by first | rfl | (simp; done) | (simp [*]; done)), (by first | rfl | (simp; done) | (simp [*]; done)), (by first | rfl | (simp; done) | (simp [*]; done)), H', ⟨Nat.le_refl _⟩, ⟨bA_ BK126⟩, ⟨bl_ HB⟩⟩
     case round =>
      clear H'
      try clear c1
      try clear p2
      try clear c4
      try clear c4b0
      try clear c4b1
      try clear c6
      try clear c11
      try clear hcz13_0
      try clear hcz13_1
      try clear hcz13_2
      try clear hcz15_0
      try clear hcz15_1
      try clear hcz15_2
      try clear hcz7_0
      try clear hcz7_1
      try clear hcz7_2
      try clear hcz8_0
      try clear hcz8_1
      try clear hcz8_2
      try clear hcz9_0
      try clear hcz9_1
      try clear hcz9_2
      try clear hfz13_0
      try clear hfz13_1
      try clear hfz13_2
      try clear hfz15_0
      try clear hfz15_1
      try clear hfz15_2
      try clear hfz7_0
      try clear hfz7_1
      try clear hfz7_2
      try clear hfz8_0
      try clear hfz8_1
      try clear hfz8_2
      try clear hfz9_0
      try clear hfz9_1
      try clear hfz9_2
      try clear p2
      obtain ⟨x3_3, x4_3, x36_3, rfl, rfl, rfl, HA, HK3, BK126, HB⟩ := hrel
      cases gk with
      | zero => exact absurd HA.out (by simp [wal_Check.l0])
      | succ k3 =>
       have H := HA.out
       clear HA
       simp only [wal_Check.l0] at H
       by_cases c16 : x36_3 < (l0_0.length : Int)
       ·rw [if_pos c16] at H
        have c16b0 : decide (x36_3 < (l0_0.length : Int)) = true := decide_eq_true c16
        clear c16
        by_cases c17 : 0 ≤ x36_3
        ·rw [if_pos c17] at H
         have c17b0 : decide (0 ≤ x36_3) = true := decide_eq_true c17
         clear c17
         by_cases c18 : x36_3 < (l0_0.length : Int)
         ·rw [if_pos c18] at H
          have c18b0 : decide (x36_3 < (l0_0.length : Int)) = true := decide_eq_true c18
          clear c18
          by_cases c19 : x3_3 = true
          ·subst c19
           rw [if_pos rfl] at H
           by_cases c20 : x36_3 = 0
           ·rw [if_pos c20] at H
            have c20b0 : (x36_3 == 0) = true := beq_iff_eq.mpr c20
            have c20b1 : (x36_3 != 0) = false := bne_eq_false_iff_eq.mpr c20
            clear c20
            replace H := Option.bind_eq_some_iff.mp H
            obtain ⟨⟨t131, t134⟩, A210, H⟩ := H
            try dsimp only at H
            have A21 := Aside0.mk A210
            clear A210
            replace H := Option.bind_eq_some_iff.mp H
            obtain ⟨t135, A220, H⟩ := H
            try dsimp only at H
            have A22 := Aside0.mk A220
            clear A220
            by_cases c23 : t135 = true
            ·subst c23
             rw [if_pos rfl] at H
             have H' := Aside0.mk H
             clear H
             have p129 : 0 ≤ (x36_3 : Int) := of_decide_eq_true (by first | (with_reducible assumption) | assumption)
             have q129 : x36_3 < (l0_0.length : Int) := of_decide_eq_true (by first | (with_reducible assumption) | assumption)
             obtain ⟨ad129, A129_1, c129_1, e129, hx129_0, hx129_1, hl129_1, hi129_1⟩ := at_T70 HR0_0.out x36_3 p129 q129
             cases e129
             replace hx129_0 := (HB.out.cell (World.block_lt_of_cell? w _ hx129_0)).trans hx129_0
             replace hx129_1 := (HB.out.cell (World.block_lt_of_cell? w _ hx129_1)).trans hx129_1
             have HR129_1 := Aside0.mk hi129_1
             have HC129_1 := Aside0.mk hl129_1
             clear hi129_1 hl129_1
             replace p129 := eq_true p129
             replace q129 := eq_true q129
             go_wp2_with (first | ((with_reducible refine gate_dst (N := 6) rfl ?_); (try (refine gate_guard (by rfl) ?_; dsimp only)); refine bx_ 6 #[.int .i64 0, .slice none 0 0] 70 ?_; intro gb130 hg w24 hbox hb; have BK130 := Aside0.mk (hbox); have GW130 := bG_ HB hg; have GE130 := bG_ HB hg; replace HB := bS_ HB hb; have NB126_130 := nL_ BK126 hg; have NB130_126 := nG_ BK126 hg; replace BK126 := bK_ BK126 hb; clear hb hbox hg; have hnb25 := NB130_126.out; have hnc25 := NB126_130.out; obtain ⟨hcz26_0, hcz26_1, hfz26_0, hfz26_1⟩ := cz2_ BK130) | ((with_reducible refine gate_callee (f := 73) rfl ?_); refine gL_ (some 50) Try.func73 #[.slice A129_1 ((rd_T70 l0_0 x36_3).f1).length c129_1] ?_; (with_reducible refine (wal_records.calls k3 _ _ ((rd_T70 l0_0 x36_3).f1) t131 t134 _ ?_ ?_ A21.out).mono ?_); exact Kd.C_below HR129_1.out (bl_ HB); exact HC129_1.out; rintro e w27 ⟨v132, rfl, ho0, hb⟩; refine ⟨_, rfl, ?_⟩; have HO133 := Aside0.mk (Kd.N_lower (Kd.N_mono (ok' := fun k_ => k_ ≠ gb126 ∧ k_ ≠ gb130) ho0 (fun k_ hk_ => ⟨(Kd.freshB (bA_ BK126) k_ hk_), (Kd.freshB (g := gb130) (o := .cells #[.int .i64 ((rd_T70 l0_0 x36_3).f0), .slice A129_1 ((rd_T70 l0_0 x36_3).f1).length c129_1] 70 (0, 0)) (by (with_reducible repeat (first | refine blk_drewN ?_ _ | refine blk_drew ?_ | refine blk_alloc ?_ _)); refine blk_put (cs := #[.int .i64 ((rd_T70 l0_0 x36_3).f0), .slice none 0 0]) ?_ 1 _ rfl; (with_reducible repeat (first | refine blk_drewN ?_ _ | refine blk_drew ?_ | refine blk_alloc ?_ _)); refine blk_put (cs := #[.int .i64 0, .slice none 0 0]) ?_ 0 _ rfl; (with_reducible repeat (first | refine blk_drewN ?_ _ | refine blk_drew ?_ | refine blk_alloc ?_ _)); exact BK130.out) k_ hk_)⟩)) (bs_ HB)); replace BK126 := bK_ BK126 hb; replace BK130 := Aside0.mk (blk_below (g := gb130) (o := .cells #[.int .i64 ((rd_T70 l0_0 x36_3).f0), .slice A129_1 ((rd_T70 l0_0 x36_3).f1).length c129_1] 70 (0, 0)) (by (with_reducible repeat (first | refine blk_drewN ?_ _ | refine blk_drew ?_ | refine blk_alloc ?_ _)); refine blk_put (cs := #[.int .i64 ((rd_T70 l0_0 x36_3).f0), .slice none 0 0]) ?_ 1 _ rfl; (with_reducible repeat (first | refine blk_drewN ?_ _ | refine blk_drew ?_ | refine blk_alloc ?_ _)); refine blk_put (cs := #[.int .i64 0, .slice none 0 0]) ?_ 0 _ rfl; (with_reducible repeat (first | refine blk_drewN ?_ _ | refine blk_drew ?_ | refine blk_alloc ?_ _)); exact BK130.out) hb); replace HB := bS_ HB hb; (try clear hb ho0); obtain ⟨hcz28_0, hcz28_1, hfz28_0, hfz28_1⟩ := cz2_ BK130) | ((with_reducible refine gate_callee (f := 74) rfl ?_); refine gL_ (some 55) Try.func74 #[.int .i64 ((rd_T70 l0_0 x36_3).f0)] ?_; (with_reducible refine (wal_index.calls ((rd_T70 l0_0 x36_3).f0) true _ A22.out).mono ?_); rintro e w' ⟨rfl, ⟨nd, rfl⟩⟩; refine ⟨_, rfl, ?_⟩; obtain ⟨Ao29, co29, eo29⟩ := Kd.N_slice HO133.out; subst eo29))
             go_roundg k3
             case measure => have := HJ1.out; have := HJ9.out; have := HK3.out; omega
             case rel => exact ⟨((t134 == (((rd_T70 l0_0 x36_3).f1).length : Int))), (wrap64 (((rd_T70 l0_0 x36_3).f0) + (t131.length : Int))), (wrap64 (x36_3 + 1)), (by first | rfl | (simp; done) | (simp [*]; done)), (by first | rfl | (simp; done) | (simp [*]; done)), (by first | rfl | (simp; done) | (simp [*]; done)), H', ⟨by have := HJ1.out; have := HJ9.out; have := HK3.out; omega⟩, ⟨bA_ BK126⟩, ⟨bl_ HB⟩⟩
            ·replace c23 := Bool.eq_false_iff.mpr c23
             subst c23
             rw [if_neg (show ¬ (false = true) by decide)] at H
             have H' := Aside0.mk H
             clear H
             have p129 : 0 ≤ (x36_3 : Int) := of_decide_eq_true (by first | (with_reducible assumption) | assumption)
             have q129 : x36_3 < (l0_0.length : Int) := of_decide_eq_true (by first | (with_reducible assumption) | assumption)
             obtain ⟨ad129, A129_1, c129_1, e129, hx129_0, hx129_1, hl129_1, hi129_1⟩ := at_T70 HR0_0.out x36_3 p129 q129
             cases e129
             replace hx129_0 := (HB.out.cell (World.block_lt_of_cell? w _ hx129_0)).trans hx129_0
             replace hx129_1 := (HB.out.cell (World.block_lt_of_cell? w _ hx129_1)).trans hx129_1
             have HR129_1 := Aside0.mk hi129_1
             have HC129_1 := Aside0.mk hl129_1
             clear hi129_1 hl129_1
             replace p129 := eq_true p129
             replace q129 := eq_true q129
             go_wp2_with (first | ((with_reducible refine gate_dst (N := 6) rfl ?_); (try (refine gate_guard (by rfl) ?_; dsimp only)); refine bx_ 6 #[.int .i64 0, .slice none 0 0] 70 ?_; intro gb130 hg w30 hbox hb; have BK130 := Aside0.mk (hbox); have GW130 := bG_ HB hg; have GE130 := bG_ HB hg; replace HB := bS_ HB hb; have NB126_130 := nL_ BK126 hg; have NB130_126 := nG_ BK126 hg; replace BK126 := bK_ BK126 hb; clear hb hbox hg; have hnb31 := NB130_126.out; have hnc31 := NB126_130.out; obtain ⟨hcz32_0, hcz32_1, hfz32_0, hfz32_1⟩ := cz2_ BK130) | ((with_reducible refine gate_callee (f := 73) rfl ?_); refine gL_ (some 50) Try.func73 #[.slice A129_1 ((rd_T70 l0_0 x36_3).f1).length c129_1] ?_; (with_reducible refine (wal_records.calls k3 _ _ ((rd_T70 l0_0 x36_3).f1) t131 t134 _ ?_ ?_ A21.out).mono ?_); exact Kd.C_below HR129_1.out (bl_ HB); exact HC129_1.out; rintro e w33 ⟨v132, rfl, ho0, hb⟩; refine ⟨_, rfl, ?_⟩; have HO133 := Aside0.mk (Kd.N_lower (Kd.N_mono (ok' := fun k_ => k_ ≠ gb126 ∧ k_ ≠ gb130) ho0 (fun k_ hk_ => ⟨(Kd.freshB (bA_ BK126) k_ hk_), (Kd.freshB (g := gb130) (o := .cells #[.int .i64 ((rd_T70 l0_0 x36_3).f0), .slice A129_1 ((rd_T70 l0_0 x36_3).f1).length c129_1] 70 (0, 0)) (by (with_reducible repeat (first | refine blk_drewN ?_ _ | refine blk_drew ?_ | refine blk_alloc ?_ _)); refine blk_put (cs := #[.int .i64 ((rd_T70 l0_0 x36_3).f0), .slice none 0 0]) ?_ 1 _ rfl; (with_reducible repeat (first | refine blk_drewN ?_ _ | refine blk_drew ?_ | refine blk_alloc ?_ _)); refine blk_put (cs := #[.int .i64 0, .slice none 0 0]) ?_ 0 _ rfl; (with_reducible repeat (first | refine blk_drewN ?_ _ | refine blk_drew ?_ | refine blk_alloc ?_ _)); exact BK130.out) k_ hk_)⟩)) (bs_ HB)); replace BK126 := bK_ BK126 hb; replace BK130 := Aside0.mk (blk_below (g := gb130) (o := .cells #[.int .i64 ((rd_T70 l0_0 x36_3).f0), .slice A129_1 ((rd_T70 l0_0 x36_3).f1).length c129_1] 70 (0, 0)) (by (with_reducible repeat (first | refine blk_drewN ?_ _ | refine blk_drew ?_ | refine blk_alloc ?_ _)); refine blk_put (cs := #[.int .i64 ((rd_T70 l0_0 x36_3).f0), .slice none 0 0]) ?_ 1 _ rfl; (with_reducible repeat (first | refine blk_drewN ?_ _ | refine blk_drew ?_ | refine blk_alloc ?_ _)); refine blk_put (cs := #[.int .i64 0, .slice none 0 0]) ?_ 0 _ rfl; (with_reducible repeat (first | refine blk_drewN ?_ _ | refine blk_drew ?_ | refine blk_alloc ?_ _)); exact BK130.out) hb); replace HB := bS_ HB hb; (try clear hb ho0); obtain ⟨hcz34_0, hcz34_1, hfz34_0, hfz34_1⟩ := cz2_ BK130) | ((with_reducible refine gate_callee (f := 74) rfl ?_); refine gL_ (some 55) Try.func74 #[.int .i64 ((rd_T70 l0_0 x36_3).f0)] ?_; (with_reducible refine (wal_index.calls ((rd_T70 l0_0 x36_3).f0) false _ A22.out).mono ?_); rintro e w' ⟨rfl, ⟨nd, rfl⟩⟩; refine ⟨_, rfl, ?_⟩; obtain ⟨Ao35, co35, eo35⟩ := Kd.N_slice HO133.out; subst eo35))
             go_roundg k3
             case measure => have := HJ1.out; have := HJ9.out; have := HK3.out; omega
             case rel => exact ⟨(false), (wrap64 (((rd_T70 l0_0 x36_3).f0) + (t131.length : Int))), (wrap64 (x36_3 + 1)), (by first | rfl | (simp; done) | (simp [*]; done)), (by first | rfl | (simp; done) | (simp [*]; done)), (by first | rfl | (simp; done) | (simp [*]; done)), H', ⟨by have := HJ1.out; have := HJ9.out; have := HK3.out; omega⟩, ⟨bA_ BK126⟩, ⟨bl_ HB⟩⟩
           ·rw [if_neg c20] at H
            have c20b0 : (x36_3 == 0) = false := beq_eq_false_iff_ne.mpr c20
            have c20b1 : (x36_3 != 0) = true := bne_iff_ne.mpr c20
            replace H := Option.bind_eq_some_iff.mp H
            obtain ⟨⟨t136, t139⟩, A360, H⟩ := H
            try dsimp only at H
            have A36 := Aside0.mk A360
            clear A360
            replace H := Option.bind_eq_some_iff.mp H
            obtain ⟨t140, A370, H⟩ := H
            try dsimp only at H
            have A37 := Aside0.mk A370
            clear A370
            by_cases c38 : t140 = true
            ·subst c38
             rw [if_pos rfl] at H
             by_cases c39 : ((rd_T70 l0_0 x36_3).f0) = x4_3
             ·rw [if_pos c39] at H
              have c39b0 : (((rd_T70 l0_0 x36_3).f0) == x4_3) = true := beq_iff_eq.mpr c39
              have c39b1 : (((rd_T70 l0_0 x36_3).f0) != x4_3) = false := bne_eq_false_iff_eq.mpr c39
              clear c39
              have H' := Aside0.mk H
              clear H
              have p129 : 0 ≤ (x36_3 : Int) := of_decide_eq_true (by first | (with_reducible assumption) | assumption)
              have q129 : x36_3 < (l0_0.length : Int) := of_decide_eq_true (by first | (with_reducible assumption) | assumption)
              obtain ⟨ad129, A129_1, c129_1, e129, hx129_0, hx129_1, hl129_1, hi129_1⟩ := at_T70 HR0_0.out x36_3 p129 q129
              cases e129
              replace hx129_0 := (HB.out.cell (World.block_lt_of_cell? w _ hx129_0)).trans hx129_0
              replace hx129_1 := (HB.out.cell (World.block_lt_of_cell? w _ hx129_1)).trans hx129_1
              have HR129_1 := Aside0.mk hi129_1
              have HC129_1 := Aside0.mk hl129_1
              clear hi129_1 hl129_1
              replace p129 := eq_true p129
              replace q129 := eq_true q129
              go_wp2_with (first | ((with_reducible refine gate_dst (N := 6) rfl ?_); (try (refine gate_guard (by rfl) ?_; dsimp only)); refine bx_ 6 #[.int .i64 0, .slice none 0 0] 70 ?_; intro gb130 hg w40 hbox hb; have BK130 := Aside0.mk (hbox); have GW130 := bG_ HB hg; have GE130 := bG_ HB hg; replace HB := bS_ HB hb; have NB126_130 := nL_ BK126 hg; have NB130_126 := nG_ BK126 hg; replace BK126 := bK_ BK126 hb; clear hb hbox hg; have hnb41 := NB130_126.out; have hnc41 := NB126_130.out; obtain ⟨hcz42_0, hcz42_1, hfz42_0, hfz42_1⟩ := cz2_ BK130) | ((with_reducible refine gate_callee (f := 73) rfl ?_); refine gL_ (some 50) Try.func73 #[.slice A129_1 ((rd_T70 l0_0 x36_3).f1).length c129_1] ?_; (with_reducible refine (wal_records.calls k3 _ _ ((rd_T70 l0_0 x36_3).f1) t136 t139 _ ?_ ?_ A36.out).mono ?_); exact Kd.C_below HR129_1.out (bl_ HB); exact HC129_1.out; rintro e w43 ⟨v137, rfl, ho0, hb⟩; refine ⟨_, rfl, ?_⟩; have HO138 := Aside0.mk (Kd.N_lower (Kd.N_mono (ok' := fun k_ => k_ ≠ gb126 ∧ k_ ≠ gb130) ho0 (fun k_ hk_ => ⟨(Kd.freshB (bA_ BK126) k_ hk_), (Kd.freshB (g := gb130) (o := .cells #[.int .i64 ((rd_T70 l0_0 x36_3).f0), .slice A129_1 ((rd_T70 l0_0 x36_3).f1).length c129_1] 70 (0, 0)) (by (with_reducible repeat (first | refine blk_drewN ?_ _ | refine blk_drew ?_ | refine blk_alloc ?_ _)); refine blk_put (cs := #[.int .i64 ((rd_T70 l0_0 x36_3).f0), .slice none 0 0]) ?_ 1 _ rfl; (with_reducible repeat (first | refine blk_drewN ?_ _ | refine blk_drew ?_ | refine blk_alloc ?_ _)); refine blk_put (cs := #[.int .i64 0, .slice none 0 0]) ?_ 0 _ rfl; (with_reducible repeat (first | refine blk_drewN ?_ _ | refine blk_drew ?_ | refine blk_alloc ?_ _)); exact BK130.out) k_ hk_)⟩)) (bs_ HB)); replace BK126 := bK_ BK126 hb; replace BK130 := Aside0.mk (blk_below (g := gb130) (o := .cells #[.int .i64 ((rd_T70 l0_0 x36_3).f0), .slice A129_1 ((rd_T70 l0_0 x36_3).f1).length c129_1] 70 (0, 0)) (by (with_reducible repeat (first | refine blk_drewN ?_ _ | refine blk_drew ?_ | refine blk_alloc ?_ _)); refine blk_put (cs := #[.int .i64 ((rd_T70 l0_0 x36_3).f0), .slice none 0 0]) ?_ 1 _ rfl; (with_reducible repeat (first | refine blk_drewN ?_ _ | refine blk_drew ?_ | refine blk_alloc ?_ _)); refine blk_put (cs := #[.int .i64 0, .slice none 0 0]) ?_ 0 _ rfl; (with_reducible repeat (first | refine blk_drewN ?_ _ | refine blk_drew ?_ | refine blk_alloc ?_ _)); exact BK130.out) hb); replace HB := bS_ HB hb; (try clear hb ho0); obtain ⟨hcz44_0, hcz44_1, hfz44_0, hfz44_1⟩ := cz2_ BK130) | ((with_reducible refine gate_callee (f := 74) rfl ?_); refine gL_ (some 55) Try.func74 #[.int .i64 ((rd_T70 l0_0 x36_3).f0)] ?_; (with_reducible refine (wal_index.calls ((rd_T70 l0_0 x36_3).f0) true _ A37.out).mono ?_); rintro e w' ⟨rfl, ⟨nd, rfl⟩⟩; refine ⟨_, rfl, ?_⟩; obtain ⟨Ao45, co45, eo45⟩ := Kd.N_slice HO138.out; subst eo45))
              go_roundg k3
              case measure => have := HJ1.out; have := HJ9.out; have := HK3.out; omega
              case rel => exact ⟨((t139 == (((rd_T70 l0_0 x36_3).f1).length : Int))), (wrap64 (x4_3 + (t136.length : Int))), (wrap64 (x36_3 + 1)), (by first | rfl | (simp; done) | (simp [*]; done)), (by first | rfl | (simp; done) | (simp [*]; done)), (by first | rfl | (simp; done) | (simp [*]; done)), H', ⟨by have := HJ1.out; have := HJ9.out; have := HK3.out; omega⟩, ⟨bA_ BK126⟩, ⟨bl_ HB⟩⟩
             ·rw [if_neg c39] at H
              have c39b0 : (((rd_T70 l0_0 x36_3).f0) == x4_3) = false := beq_eq_false_iff_ne.mpr c39
              have c39b1 : (((rd_T70 l0_0 x36_3).f0) != x4_3) = true := bne_iff_ne.mpr c39
              have H' := Aside0.mk H
              clear H
              have p129 : 0 ≤ (x36_3 : Int) := of_decide_eq_true (by first | (with_reducible assumption) | assumption)
              have q129 : x36_3 < (l0_0.length : Int) := of_decide_eq_true (by first | (with_reducible assumption) | assumption)
              obtain ⟨ad129, A129_1, c129_1, e129, hx129_0, hx129_1, hl129_1, hi129_1⟩ := at_T70 HR0_0.out x36_3 p129 q129
              cases e129
              replace hx129_0 := (HB.out.cell (World.block_lt_of_cell? w _ hx129_0)).trans hx129_0
              replace hx129_1 := (HB.out.cell (World.block_lt_of_cell? w _ hx129_1)).trans hx129_1
              have HR129_1 := Aside0.mk hi129_1
              have HC129_1 := Aside0.mk hl129_1
              clear hi129_1 hl129_1
              replace p129 := eq_true p129
              replace q129 := eq_true q129
              go_wp2_with (first | ((with_reducible refine gate_dst (N := 6) rfl ?_); (try (refine gate_guard (by rfl) ?_; dsimp only)); refine bx_ 6 #[.int .i64 0, .slice none 0 0] 70 ?_; intro gb130 hg w46 hbox hb; have BK130 := Aside0.mk (hbox); have GW130 := bG_ HB hg; have GE130 := bG_ HB hg; replace HB := bS_ HB hb; have NB126_130 := nL_ BK126 hg; have NB130_126 := nG_ BK126 hg; replace BK126 := bK_ BK126 hb; clear hb hbox hg; have hnb47 := NB130_126.out; have hnc47 := NB126_130.out; obtain ⟨hcz48_0, hcz48_1, hfz48_0, hfz48_1⟩ := cz2_ BK130) | ((with_reducible refine gate_callee (f := 73) rfl ?_); refine gL_ (some 50) Try.func73 #[.slice A129_1 ((rd_T70 l0_0 x36_3).f1).length c129_1] ?_; (with_reducible refine (wal_records.calls k3 _ _ ((rd_T70 l0_0 x36_3).f1) t136 t139 _ ?_ ?_ A36.out).mono ?_); exact Kd.C_below HR129_1.out (bl_ HB); exact HC129_1.out; rintro e w49 ⟨v137, rfl, ho0, hb⟩; refine ⟨_, rfl, ?_⟩; have HO138 := Aside0.mk (Kd.N_lower (Kd.N_mono (ok' := fun k_ => k_ ≠ gb126 ∧ k_ ≠ gb130) ho0 (fun k_ hk_ => ⟨(Kd.freshB (bA_ BK126) k_ hk_), (Kd.freshB (g := gb130) (o := .cells #[.int .i64 ((rd_T70 l0_0 x36_3).f0), .slice A129_1 ((rd_T70 l0_0 x36_3).f1).length c129_1] 70 (0, 0)) (by (with_reducible repeat (first | refine blk_drewN ?_ _ | refine blk_drew ?_ | refine blk_alloc ?_ _)); refine blk_put (cs := #[.int .i64 ((rd_T70 l0_0 x36_3).f0), .slice none 0 0]) ?_ 1 _ rfl; (with_reducible repeat (first | refine blk_drewN ?_ _ | refine blk_drew ?_ | refine blk_alloc ?_ _)); refine blk_put (cs := #[.int .i64 0, .slice none 0 0]) ?_ 0 _ rfl; (with_reducible repeat (first | refine blk_drewN ?_ _ | refine blk_drew ?_ | refine blk_alloc ?_ _)); exact BK130.out) k_ hk_)⟩)) (bs_ HB)); replace BK126 := bK_ BK126 hb; replace BK130 := Aside0.mk (blk_below (g := gb130) (o := .cells #[.int .i64 ((rd_T70 l0_0 x36_3).f0), .slice A129_1 ((rd_T70 l0_0 x36_3).f1).length c129_1] 70 (0, 0)) (by (with_reducible repeat (first | refine blk_drewN ?_ _ | refine blk_drew ?_ | refine blk_alloc ?_ _)); refine blk_put (cs := #[.int .i64 ((rd_T70 l0_0 x36_3).f0), .slice none 0 0]) ?_ 1 _ rfl; (with_reducible repeat (first | refine blk_drewN ?_ _ | refine blk_drew ?_ | refine blk_alloc ?_ _)); refine blk_put (cs := #[.int .i64 0, .slice none 0 0]) ?_ 0 _ rfl; (with_reducible repeat (first | refine blk_drewN ?_ _ | refine blk_drew ?_ | refine blk_alloc ?_ _)); exact BK130.out) hb); replace HB := bS_ HB hb; (try clear hb ho0); obtain ⟨hcz50_0, hcz50_1, hfz50_0, hfz50_1⟩ := cz2_ BK130) | ((with_reducible refine gate_callee (f := 74) rfl ?_); refine gL_ (some 55) Try.func74 #[.int .i64 ((rd_T70 l0_0 x36_3).f0)] ?_; (with_reducible refine (wal_index.calls ((rd_T70 l0_0 x36_3).f0) true _ A37.out).mono ?_); rintro e w' ⟨rfl, ⟨nd, rfl⟩⟩; refine ⟨_, rfl, ?_⟩; obtain ⟨Ao51, co51, eo51⟩ := Kd.N_slice HO138.out; subst eo51))
              go_roundg k3
              case measure => have := HJ1.out; have := HJ9.out; have := HK3.out; omega
              case rel => exact ⟨(false), (wrap64 (x4_3 + (t136.length : Int))), (wrap64 (x36_3 + 1)), (by first | rfl | (simp; done) | (simp [*]; done)), (by first | rfl | (simp; done) | (simp [*]; done)), (by first | rfl | (simp; done) | (simp [*]; done)), H', ⟨by have := HJ1.out; have := HJ9.out; have := HK3.out; omega⟩, ⟨bA_ BK126⟩, ⟨bl_ HB⟩⟩
            ·replace c38 := Bool.eq_false_iff.mpr c38
             subst c38
             rw [if_neg (show ¬ (false = true) by decide)] at H
             have H' := Aside0.mk H
             clear H
             have p129 : 0 ≤ (x36_3 : Int) := of_decide_eq_true (by first | (with_reducible assumption) | assumption)
             have q129 : x36_3 < (l0_0.length : Int) := of_decide_eq_true (by first | (with_reducible assumption) | assumption)
             obtain ⟨ad129, A129_1, c129_1, e129, hx129_0, hx129_1, hl129_1, hi129_1⟩ := at_T70 HR0_0.out x36_3 p129 q129
             cases e129
             replace hx129_0 := (HB.out.cell (World.block_lt_of_cell? w _ hx129_0)).trans hx129_0
             replace hx129_1 := (HB.out.cell (World.block_lt_of_cell? w _ hx129_1)).trans hx129_1
             have HR129_1 := Aside0.mk hi129_1
             have HC129_1 := Aside0.mk hl129_1
             clear hi129_1 hl129_1
             replace p129 := eq_true p129
             replace q129 := eq_true q129
             go_wp2_with (first | ((with_reducible refine gate_dst (N := 6) rfl ?_); (try (refine gate_guard (by rfl) ?_; dsimp only)); refine bx_ 6 #[.int .i64 0, .slice none 0 0] 70 ?_; intro gb130 hg w52 hbox hb; have BK130 := Aside0.mk (hbox); have GW130 := bG_ HB hg; have GE130 := bG_ HB hg; replace HB := bS_ HB hb; have NB126_130 := nL_ BK126 hg; have NB130_126 := nG_ BK126 hg; replace BK126 := bK_ BK126 hb; clear hb hbox hg; have hnb53 := NB130_126.out; have hnc53 := NB126_130.out; obtain ⟨hcz54_0, hcz54_1, hfz54_0, hfz54_1⟩ := cz2_ BK130) | ((with_reducible refine gate_callee (f := 73) rfl ?_); refine gL_ (some 50) Try.func73 #[.slice A129_1 ((rd_T70 l0_0 x36_3).f1).length c129_1] ?_; (with_reducible refine (wal_records.calls k3 _ _ ((rd_T70 l0_0 x36_3).f1) t136 t139 _ ?_ ?_ A36.out).mono ?_); exact Kd.C_below HR129_1.out (bl_ HB); exact HC129_1.out; rintro e w55 ⟨v137, rfl, ho0, hb⟩; refine ⟨_, rfl, ?_⟩; have HO138 := Aside0.mk (Kd.N_lower (Kd.N_mono (ok' := fun k_ => k_ ≠ gb126 ∧ k_ ≠ gb130) ho0 (fun k_ hk_ => ⟨(Kd.freshB (bA_ BK126) k_ hk_), (Kd.freshB (g := gb130) (o := .cells #[.int .i64 ((rd_T70 l0_0 x36_3).f0), .slice A129_1 ((rd_T70 l0_0 x36_3).f1).length c129_1] 70 (0, 0)) (by (with_reducible repeat (first | refine blk_drewN ?_ _ | refine blk_drew ?_ | refine blk_alloc ?_ _)); refine blk_put (cs := #[.int .i64 ((rd_T70 l0_0 x36_3).f0), .slice none 0 0]) ?_ 1 _ rfl; (with_reducible repeat (first | refine blk_drewN ?_ _ | refine blk_drew ?_ | refine blk_alloc ?_ _)); refine blk_put (cs := #[.int .i64 0, .slice none 0 0]) ?_ 0 _ rfl; (with_reducible repeat (first | refine blk_drewN ?_ _ | refine blk_drew ?_ | refine blk_alloc ?_ _)); exact BK130.out) k_ hk_)⟩)) (bs_ HB)); replace BK126 := bK_ BK126 hb; replace BK130 := Aside0.mk (blk_below (g := gb130) (o := .cells #[.int .i64 ((rd_T70 l0_0 x36_3).f0), .slice A129_1 ((rd_T70 l0_0 x36_3).f1).length c129_1] 70 (0, 0)) (by (with_reducible repeat (first | refine blk_drewN ?_ _ | refine blk_drew ?_ | refine blk_alloc ?_ _)); refine blk_put (cs := #[.int .i64 ((rd_T70 l0_0 x36_3).f0), .slice none 0 0]) ?_ 1 _ rfl; (with_reducible repeat (first | refine blk_drewN ?_ _ | refine blk_drew ?_ | refine blk_alloc ?_ _)); refine blk_put (cs := #[.int .i64 0, .slice none 0 0]) ?_ 0 _ rfl; (with_reducible repeat (first | refine blk_drewN ?_ _ | refine blk_drew ?_ | refine blk_alloc ?_ _)); exact BK130.out) hb); replace HB := bS_ HB hb; (try clear hb ho0); obtain ⟨hcz56_0, hcz56_1, hfz56_0, hfz56_1⟩ := cz2_ BK130) | ((with_reducible refine gate_callee (f := 74) rfl ?_); refine gL_ (some 55) Try.func74 #[.int .i64 ((rd_T70 l0_0 x36_3).f0)] ?_; (with_reducible refine (wal_index.calls ((rd_T70 l0_0 x36_3).f0) false _ A37.out).mono ?_); rintro e w' ⟨rfl, ⟨nd, rfl⟩⟩; refine ⟨_, rfl, ?_⟩; obtain ⟨Ao57, co57, eo57⟩ := Kd.N_slice HO138.out; subst eo57))
             go_roundg k3
             case measure => have := HJ1.out; have := HJ9.out; have := HK3.out; omega
             case rel => exact ⟨(false), (wrap64 (x4_3 + (t136.length : Int))), (wrap64 (x36_3 + 1)), (by first | rfl | (simp; done) | (simp [*]; done)), (by first | rfl | (simp; done) | (simp [*]; done)), (by first | rfl | (simp; done) | (simp [*]; done)), H', ⟨by have := HJ1.out; have := HJ9.out; have := HK3.out; omega⟩, ⟨bA_ BK126⟩, ⟨bl_ HB⟩⟩
          ·replace c19 := Bool.eq_false_iff.mpr c19
           subst c19
           rw [if_neg (show ¬ (false = true) by decide)] at H
           obtain rfl := Option.some.inj H
           have p129 : 0 ≤ (x36_3 : Int) := of_decide_eq_true (by first | (with_reducible assumption) | assumption)
           have q129 : x36_3 < (l0_0.length : Int) := of_decide_eq_true (by first | (with_reducible assumption) | assumption)
           obtain ⟨ad129, A129_1, c129_1, e129, hx129_0, hx129_1, hl129_1, hi129_1⟩ := at_T70 HR0_0.out x36_3 p129 q129
           cases e129
           replace hx129_0 := (HB.out.cell (World.block_lt_of_cell? w _ hx129_0)).trans hx129_0
           replace hx129_1 := (HB.out.cell (World.block_lt_of_cell? w _ hx129_1)).trans hx129_1
           have HR129_1 := Aside0.mk hi129_1
           have HC129_1 := Aside0.mk hl129_1
           clear hi129_1 hl129_1
           replace p129 := eq_true p129
           replace q129 := eq_true q129
           go_wp2_with (first | ((with_reducible refine gate_dst (N := 6) rfl ?_); (try (refine gate_guard (by rfl) ?_; dsimp only)); refine bx_ 6 #[.int .i64 0, .slice none 0 0] 70 ?_; intro gb130 hg w58 hbox hb; have BK130 := Aside0.mk (hbox); have GW130 := bG_ HB hg; have GE130 := bG_ HB hg; replace HB := bS_ HB hb; have NB126_130 := nL_ BK126 hg; have NB130_126 := nG_ BK126 hg; replace BK126 := bK_ BK126 hb; clear hb hbox hg; have hnb59 := NB130_126.out; have hnc59 := NB126_130.out; obtain ⟨hcz60_0, hcz60_1, hfz60_0, hfz60_1⟩ := cz2_ BK130))
           go_ret
           exact ⟨fin_, bl_ HB⟩
         ·rw [if_neg c18] at H
          exact absurd H (by simp)
        ·rw [if_neg c17] at H
         exact absurd H (by simp)
       ·rw [if_neg c16] at H
        have c16b0 : decide (x36_3 < (l0_0.length : Int)) = false := decide_eq_false c16
        clear c16
        by_cases c61 : x3_3 = true
        ·subst c61
         rw [if_pos rfl] at H
         by_cases c62 : x4_3 = a0_1
         ·rw [if_pos c62] at H
          have c62b0 : (x4_3 == a0_1) = true := beq_iff_eq.mpr c62
          have c62b1 : (x4_3 != a0_1) = false := bne_eq_false_iff_eq.mpr c62
          clear c62
          obtain rfl := Option.some.inj H
          obtain ⟨hcz63_0, hcz63_1, hcz63_2, hfz63_0, hfz63_1, hfz63_2⟩ := cz3_ BK126
          go_wp2
          go_ret
          exact ⟨fin_, bl_ HB⟩
         ·rw [if_neg c62] at H
          have c62b0 : (x4_3 == a0_1) = false := beq_eq_false_iff_ne.mpr c62
          have c62b1 : (x4_3 != a0_1) = true := bne_iff_ne.mpr c62
          obtain rfl := Option.some.inj H
          obtain ⟨hcz64_0, hcz64_1, hcz64_2, hfz64_0, hfz64_1, hfz64_2⟩ := cz3_ BK126
          go_wp2
          go_ret
          exact ⟨fin_, bl_ HB⟩
        ·replace c61 := Bool.eq_false_iff.mpr c61
         subst c61
         rw [if_neg (show ¬ (false = true) by decide)] at H
         obtain rfl := Option.some.inj H
         go_wp2
         go_ret
         exact ⟨fin_, bl_ HB⟩
end Go.Proofs.Ytooabchnbmnchaa.Q
namespace Go.Proofs.Ytooabchnbmnchaa.Q
open Go.RowKit Go.Proofs.YtooabchnbmnchaaW.PrintWords Go.Proofs.YtooabchnbmnchaaW.PrintLast Go.Proofs.YtooabchnbmnchaaW.PrintMore
attribute [local go_sem] max2_int min2_int max_two min_two max_three min_three max_four min_four binOp_string_leq binOp_string_geq binOp_string_gtr   -- for this text's walks alone
set_option linter.unusedVariables false
set_option linter.unusedSimpArgs false
def wal_cloneAll.l0 : Nat → List (List Int) → List (List Int) → Int → Int → Option ((List (List Int)))
 | 0, _, _, _, _ => none
 | k + 1, x3, x6, x7, x8 => if x8 < x7 then (if 0 ≤ x8 then (if x8 < (x6.length : Int) then ((bytes_Clone.f (rd_L1 x6 x8)).bind fun t142 => (if x3.length < 5864062014805 then (wal_cloneAll.l0 k (x3 ++ [t142]) x6 x7 (wrap64 (x8 + 1))) else (none))) else (none)) else (none)) else (some x3)
def wal_cloneAll.f (k : Nat) (l0 : List (List Int)) : Option ((List (List Int))) := wal_cloneAll.l0 k ([] : List (List Int)) l0 (l0.length : Int) 0
theorem wal_cloneAll.mono_l : ∀ k, (∀ y0 y1 y2 y3, LeO (wal_cloneAll.l0 k y0 y1 y2 y3) (wal_cloneAll.l0 (k + 1) y0 y1 y2 y3))
 | 0 => fun _ _ _ _ r h => by simp [wal_cloneAll.l0] at h
 | k + 1 => by
  have ih0 := wal_cloneAll.mono_l k
  ·intro y0 y1 y2 y3
   unfold wal_cloneAll.l0
   repeat' first
   | (with_reducible exact ih0 _ _ _ _)
   | (with_reducible exact LeO.refl _)
   | (with_reducible exact LeO.none _)
   | (with_reducible refine LeO.ite ?_ ?_)
   | (with_reducible refine LeO.bind ?_ (fun _ => ?_))
   | exact ih0 _ _ _ _
   | exact LeO.none _
   | refine LeO.ite ?_ ?_
   | refine LeO.bind ?_ (fun _ => ?_)
theorem wal_cloneAll.mono : ∀ a0 k, LeO (wal_cloneAll.f k a0) (wal_cloneAll.f (k + 1) a0) := by
 intro a0 k
 have ih0 := wal_cloneAll.mono_l k
 unfold wal_cloneAll.f
 repeat' first
   | (with_reducible exact ih0 _ _ _ _)
   | (with_reducible exact LeO.refl _)
   | (with_reducible exact LeO.none _)
   | (with_reducible refine LeO.ite ?_ ?_)
   | (with_reducible refine LeO.bind ?_ (fun _ => ?_))
   | exact ih0 _ _ _ _
   | exact LeO.none _
   | refine LeO.ite ?_ ?_
   | refine LeO.bind ?_ (fun _ => ?_)
set_option maxHeartbeats 8000000 in
set_option maxRecDepth 100000 in
theorem wal_cloneAll.calls (k : Nat) (A0 : Option Addr) (c0 : Nat) (l0 : List (List Int)) (r : List (List Int)) (w : World) (hr0 : Kd.C (Kd.slice 5 (Kd.int .u8)) w A0 l0.length l0) (hc0 : l0.length ≤ c0) (h : wal_cloneAll.f k l0 = some r) :
  Calls Try.prog 69 #[.slice A0 l0.length c0] w fun e w' => ∃ v0_ : Value, e = .returned (v0_) ∧ Kd.S (Kd.slice 5 (Kd.int .u8)) 26 w' w.heap.size (fun _ => True) v0_ r ∧ Below w.heap.size w w' := by
 have HR0 := Aside0.mk hr0
 have HC0 := Aside0.mk hc0
 clear hr0 hc0
 have HB := Aside0.mk (Below.refl w.heap.size w)
 have H : (wal_cloneAll.l0 k ([] : List (List Int)) l0 (l0.length : Int) 0) = some r := h
 clear h
 have H' := Aside0.mk H
 clear H
 go_enter Try.func69, Try.ntmps69
 go_wp2
 go_loopg [3, 8] k (fun kq v3 v8 w' => ∃ (x3_1 : List (List Int)) (x8_1 : Int), v8 = .int .i64 x8_1 ∧ Aside0 (wal_cloneAll.l0 kq x3_1 l0 (l0.length : Int) x8_1 = some r) ∧ Aside0 (kq ≤ k) ∧ Aside0 (Kd.S (Kd.slice 5 (Kd.int .u8)) 26 w' w.heap.size (fun _ => True) v3 x3_1) ∧ Aside0 (Below w.heap.size w w'))
 case atStart => exact ⟨(([] : List (List Int))), (0), (by first | rfl | (simp; done) | (simp [*]; done)), H', ⟨Nat.le_refl _⟩, ⟨nil_⟩, ⟨bl_ HB⟩⟩
 case round =>
  clear H'
  obtain ⟨x3_1, x8_1, rfl, HA, HK1, HO_3, HB⟩ := hrel
  cases gk with
  | zero => exact absurd HA.out (by simp [wal_cloneAll.l0])
  | succ k1 =>
   have H := HA.out
   clear HA
   simp only [wal_cloneAll.l0] at H
   by_cases c2 : x8_1 < (l0.length : Int)
   ·rw [if_pos c2] at H
    have c2b0 : decide (x8_1 < (l0.length : Int)) = true := decide_eq_true c2
    clear c2
    by_cases c3 : 0 ≤ x8_1
    ·rw [if_pos c3] at H
     have c3b0 : decide (0 ≤ x8_1) = true := decide_eq_true c3
     clear c3
     by_cases c4 : x8_1 < (l0.length : Int)
     ·rw [if_pos c4] at H
      have c4b0 : decide (x8_1 < (l0.length : Int)) = true := decide_eq_true c4
      clear c4
      replace H := Option.bind_eq_some_iff.mp H
      obtain ⟨t142, A50, H⟩ := H
      try dsimp only at H
      have A5 := Aside0.mk A50
      clear A50
      by_cases c6 : x3_1.length < 5864062014805
      ·rw [if_pos c6] at H
       have LMc6 := Aside0.mk c6
       clear c6
       obtain ⟨y145, hy145⟩ : ∃ y_ : List (List Int), y_ = (x3_1 ++ [t142]) := ⟨_, rfl⟩
       replace H : (wal_cloneAll.l0 k1 y145 l0 (l0.length : Int) (wrap64 (x8_1 + 1))) = some r := by first | (rw [hy145]; with_reducible exact H) | (have H2_ := (Option.bind_some _ _).symm.trans H; rw [hy145]; with_reducible exact H2_) | (have H2_ := (Option.bind_some _ _).symm.trans H; with_reducible exact H2_) | with_reducible exact H | (rw [hy145]; exact H) | exact H
       have Ny145 := Aside0.mk hy145
       clear hy145
       have H' := Aside0.mk H
       clear H
       have p141 : 0 ≤ (x8_1 : Int) := of_decide_eq_true (by first | (with_reducible assumption) | assumption)
       have q141 : x8_1 < (l0.length : Int) := of_decide_eq_true (by first | (with_reducible assumption) | assumption)
       obtain ⟨ad141, A141_0, c141_0, e141, hx141_0, hl141_0, hi141_0⟩ := at_L1 HR0.out x8_1 p141 q141
       cases e141
       replace hx141_0 := (HB.out.cell (World.block_lt_of_cell? w _ hx141_0)).trans hx141_0
       have HR141_0 := Aside0.mk hi141_0
       have HC141_0 := Aside0.mk hl141_0
       clear hi141_0 hl141_0
       replace p141 := eq_true p141
       replace q141 := eq_true q141
       go_wp2_with (first | ((with_reducible refine gate_callee (f := 75) rfl ?_); refine gL_ (some 14) Try.func75 #[.slice A141_0 (rd_L1 l0 x8_1).length c141_0] ?_; (with_reducible refine (bytes_Clone.calls _ _ (rd_L1 l0 x8_1) t142 _ ?_ ?_ A5.out).mono ?_); exact cB_ HR141_0 HB; exact HC141_0.out; rintro e w7 ⟨v143, rfl, ho0, hb⟩; refine ⟨_, rfl, ?_⟩; replace HO_3 := Aside0.mk (Kd.S_elder' (sA_ HO_3) (Kd.R_base ho0) hb); have HO144 := Aside0.mk (Kd.R_lower ho0 (bs_ HB)); replace HB := bS_ HB hb; (try clear hb ho0); obtain ⟨Ao9, co9, eo9⟩ := Kd.R_slice HO144.out; subst eo9) | ((with_reducible refine gate_builtin (b := .append) (xs := #[.tmp 12, .tmp 15]) rfl ?_); at_builtin; refine Kd.S_append (Kd.slice 5 (Kd.int .u8)) (w0 := w) w.heap.size rfl (.tmp 12) (.tmp 15) 56 26 (.slice none 0 0) 24 rfl Try.underlying56 info26 rfl (by decide) (by omega) u3 x3_1 t142 [.slice Ao9 t142.length co9] (fun _ => True) (fun k_ => some k_ = (.slice Ao9 t142.length co9 : Value).ownBlock) rfl rfl ?aP (fun k_ hk_ => ((Kd.R_mono (ok' := fun k_ => ((fun _ => True)) k_ ∧ some k_ ≠ (u3 : Value).ownBlock) (Kd.R_apart' (HO144.out) (Kd.S_typed HO_3.out) (by decide)) (fun k_ hk => ⟨trivial, hk.2⟩))).1 k_ hk_.symm) ?aF ?aO ?aB ?aS ?aL ?_; (case aP => exact Kd.M_row (Kd.R_mono (Kd.R_tight rfl (Kd.R_mono (ok' := fun k_ => ((fun _ => True)) k_ ∧ some k_ ≠ (u3 : Value).ownBlock) (Kd.R_apart' (HO144.out) (Kd.S_typed HO_3.out) (by decide)) (fun k_ hk => ⟨trivial, hk.2⟩))) (fun _ h_ => h_))); (case aB => exact (bl_ HB)); (case aF => exact (fun _ _ => trivial)); (case aO => exact (by (with_reducible repeat (first | apply Kd.S_alloc | apply Kd.S_drewN | apply Kd.S_drew)); exact Kd.S_mono HO_3.out (fun k_ hk => ⟨trivial, fun e_ => hk.2 e_⟩))); (case aS => exact (bs_ HB)); (case aL => have := LMc6.out; omega); intro v146 w8 ho hb hg hat; rw [← Ny145.out] at ho; replace HB := Aside0.mk (hb); have HO147 := Aside0.mk (ho); clear HO_3 HO144; clear ho hb hg hat))
       go_roundg k1
       case measure => have := HK1.out; omega
       case rel => exact ⟨(y145), (wrap64 (x8_1 + 1)), (by first | rfl | (simp; done) | (simp [*]; done)), H', ⟨by have := HK1.out; omega⟩, ⟨sA_ HO147⟩, ⟨bl_ HB⟩⟩
      ·rw [if_neg c6] at H
       exact absurd H (by simp)
     ·rw [if_neg c4] at H
      exact absurd H (by simp)
    ·rw [if_neg c3] at H
     exact absurd H (by simp)
   ·rw [if_neg c2] at H
    have c2b0 : decide (x8_1 < (l0.length : Int)) = false := decide_eq_false c2
    clear c2
    obtain rfl := Option.some.inj H
    go_wp2
    go_ret
    exact ⟨_, fin_, sA_ HO_3, bl_ HB⟩
end Go.Proofs.Ytooabchnbmnchaa.Q
