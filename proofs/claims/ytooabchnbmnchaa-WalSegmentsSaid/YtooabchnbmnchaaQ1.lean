-- Laid by this session's own program (wip/tools) out of the translation; Lean checks it. Thinned, shortened and merged for this claim.
import Derived.Test.YtooabchnbmnchaaQ0
import Derived.Test.YtooabchnbmnchaaSq
namespace Go.Proofs.Ytooabchnbmnchaa.Q
open Go.RowKit Go.Proofs.YtooabchnbmnchaaW.PrintWords Go.Proofs.YtooabchnbmnchaaW.PrintLast Go.Proofs.YtooabchnbmnchaaW.PrintMore
attribute [local go_sem] max2_int min2_int max_two min_two max_three min_three max_four min_four binOp_string_leq binOp_string_geq binOp_string_gtr   -- for this text's walks alone
set_option linter.unusedVariables false
set_option linter.unusedSimpArgs false
def bytes_Clone.f (l0 : List Int) : Option (List Int) := if l0.length ≤ 140737488355327 then some l0 else none
set_option maxHeartbeats 800000 in
set_option maxRecDepth 100000 in
theorem bytes_Clone.calls (A0 : Option Addr) (c0 : Nat) (l0 : List Int) (r : List Int) (w : World) (hr0 : Kd.C (Kd.int .u8) w A0 l0.length l0) (hc0 : l0.length ≤ c0) (h : bytes_Clone.f l0 = some r) : Calls Try.prog 75 #[.slice A0 l0.length c0] w fun e w' => ∃ v0_ : Value, e = .returned (v0_) ∧ Kd.R (Kd.int .u8) 5 w' w.heap.size (fun _ => True) v0_ r ∧ Below w.heap.size w w' := by
 unfold bytes_Clone.f at h
 by_cases hl : l0.length ≤ 140737488355327
 case neg => rw [if_neg hl] at h; cases h
 rw [if_pos hl] at h
 cases h
 have q22 : ∀ (w : World) (a : Option Addr) (n c n' c' : Nat), (binOp .eql 26 (.slice a n c) (.slice none n' c')).run Try.prog w = .ok (.bool a.isNone) w := fun w a n c n' c' => Lib.run_eql_slice_nil w _ _ a n c n' c' Try.underlying26
 have hinfo : (Try.prog.info? 5).map (fun i => (i.zero, i.size, i.bytes)) = some (some (.int .u8 0), 1, 1) := by kernel_rfl
 have HI := Aside0.mk hinfo
 have HR0 := Aside0.mk hr0
 have HB := Aside0.mk (Below.refl w.heap.size w)
 have LM := Aside0.mk hl
 clear hl hc0 hinfo
 rcases A0 with _ | ad
 ·have := C_none_nil hr0
  subst this
  clear hr0
  go_enter Try.func75, Try.ntmps75
  go_wp2
  go_ret
  exact ⟨_, rfl, Kd.R_nil _ _ _ _ _, Below.refl _ _⟩
 ·clear hr0
  go_enter Try.func75, Try.ntmps75
  go_wp2_with (first | ((with_reducible refine gate_builtin (b := .append) (xs := #[.tmp 5, .tmp 6]) rfl ?_); at_builtin; refine Kd.R_append_rows (Kd.int .u8) (w0 := w) w.heap.size rfl (.tmp 5) (.tmp 6) 26 5 (.int .u8 0) 1 rfl Try.underlying26 HI.out rfl (by decide) (by omega) (.slice (some ⟨w.heap.size, 0, none⟩) 0 0) ([] : List Int) l0 _ _ _ (fun _ => True) (fun _ => False) rfl rfl ?aO ?aR (fun _ _ h => h) (fun _ h => h.elim) (fun _ _ => trivial) ?aB ?aS ?aL ?_; (case aR => exact Kd.C_alloc HR0.out _); (case aB => exact below_alloc HB.out _); (case aO => exact Kd.R_of_own (own_lit w w.heap.size 5 .u8 [] (Nat.le_refl _) (by simp)) (fun _ _ => trivial)); (case aS => exact (below_size (below_alloc HB.out _))); (case aL => have := LM.out; simp; omega); intro v157 w3 ho hb hg hat; have HOb := Aside0.mk hb; have HO := Aside0.mk ho; clear ho hb hg hat))
  go_ret
  exact ⟨_, rfl, by simpa using HO.out, HOb.out⟩
end Go.Proofs.Ytooabchnbmnchaa.Q
namespace Go.Proofs.Ytooabchnbmnchaa.Q
open Go.RowKit Go.Proofs.YtooabchnbmnchaaW.PrintWords Go.Proofs.YtooabchnbmnchaaW.PrintLast Go.Proofs.YtooabchnbmnchaaW.PrintMore
attribute [local go_sem] max2_int min2_int max_two min_two max_three min_three max_four min_four binOp_string_leq binOp_string_geq binOp_string_gtr   -- for this text's walks alone
set_option linter.unusedVariables false
set_option linter.unusedSimpArgs false
mutual
def octets_Get.j0 : Nat → List Int → Int → Bool → Option (Int × Int)
 | 0, _, _, _ => none
 | k + 1, x0, x2, x13 => if x13 = true then (some (0, 3)) else (octets_Get.l0 k x2 x0 (x0.length : Int) 0)
def octets_Get.l0 : Nat → Int → List Int → Int → Int → Option (Int × Int)
 | 0, _, _, _, _ => none
 | k + 1, x2, x14, x15, x16 => if x16 < x15 then (if 0 ≤ x16 then (if x16 < (x14.length : Int) then (octets_Get.l0 k (Go.bits .or .u64 (IntKind.u64.wrap (x2 * 256)) (IntKind.u64.wrap (rd x14 x16))) x14 x15 (wrap64 (x16 + 1))) else (none)) else (none)) else (some (x2, 0))
end
def octets_Get.f (k : Nat) (l0 : List Int) : Option (Int × Int) := if (l0.length : Int) = 0 then (octets_Get.j0 k l0 0 true) else (octets_Get.j0 k l0 0 (decide ((l0.length : Int) > 8)))
theorem octets_Get.mono_l : ∀ k, (∀ y0 y1 y2, LeO (octets_Get.j0 k y0 y1 y2) (octets_Get.j0 (k + 1) y0 y1 y2)) ∧ (∀ y0 y1 y2 y3, LeO (octets_Get.l0 k y0 y1 y2 y3) (octets_Get.l0 (k + 1) y0 y1 y2 y3))
 | 0 => ⟨fun _ _ _ r h => by simp [octets_Get.j0] at h, fun _ _ _ _ r h => by simp [octets_Get.l0] at h⟩
 | k + 1 => by
  obtain ⟨ih0, ih1⟩ := octets_Get.mono_l k
  refine ⟨?_, ?_⟩
  ·intro y0 y1 y2
   unfold octets_Get.j0
   repeat' first
   | (with_reducible exact ih0 _ _ _)
   | (with_reducible exact ih1 _ _ _ _)
   | (with_reducible exact LeO.refl _)
   | (with_reducible exact LeO.none _)
   | (with_reducible refine LeO.ite ?_ ?_)
   | (with_reducible refine LeO.bind ?_ (fun _ => ?_))
   | exact ih0 _ _ _
   | exact ih1 _ _ _ _
   | exact LeO.none _
   | refine LeO.ite ?_ ?_
   | refine LeO.bind ?_ (fun _ => ?_)
  ·intro y0 y1 y2 y3
   unfold octets_Get.l0
   repeat' first
   | (with_reducible exact ih0 _ _ _)
   | (with_reducible exact ih1 _ _ _ _)
   | (with_reducible exact LeO.refl _)
   | (with_reducible exact LeO.none _)
   | (with_reducible refine LeO.ite ?_ ?_)
   | (with_reducible refine LeO.bind ?_ (fun _ => ?_))
   | exact ih0 _ _ _
   | exact ih1 _ _ _ _
   | exact LeO.none _
   | refine LeO.ite ?_ ?_
   | refine LeO.bind ?_ (fun _ => ?_)
theorem octets_Get.mono : ∀ a0 k, LeO (octets_Get.f k a0) (octets_Get.f (k + 1) a0) := by
 intro a0 k
 obtain ⟨ih0, ih1⟩ := octets_Get.mono_l k
 unfold octets_Get.f
 repeat' first
   | (with_reducible exact ih0 _ _ _)
   | (with_reducible exact ih1 _ _ _ _)
   | (with_reducible exact LeO.refl _)
   | (with_reducible exact LeO.none _)
   | (with_reducible refine LeO.ite ?_ ?_)
   | (with_reducible refine LeO.bind ?_ (fun _ => ?_))
   | exact ih0 _ _ _
   | exact ih1 _ _ _ _
   | exact LeO.none _
   | refine LeO.ite ?_ ?_
   | refine LeO.bind ?_ (fun _ => ?_)
set_option maxHeartbeats 8000000 in
set_option maxRecDepth 100000 in
theorem octets_Get.calls (k : Nat) (A0 : Option Addr) (c0 : Nat) (l0 : List Int) (r1 : Int) (r2 : Int) (w : World) (hr0 : Kd.C (Kd.int .u8) w A0 l0.length l0) (hc0 : l0.length ≤ c0) (h : octets_Get.f k l0 = some (r1, r2)) :
  Calls Try.prog 83 #[.slice A0 l0.length c0] w fun e w' => e = .returned (.tuple #[.int .u64 r1, .int .i64 r2]) ∧ Drawn0 w w' := by
 have HR0 := Aside0.mk hr0
 have HC0 := Aside0.mk hc0
 clear hr0 hc0
 have H : (if (l0.length : Int) = 0 then (octets_Get.j0 k l0 0 true) else (octets_Get.j0 k l0 0 (decide ((l0.length : Int) > 8)))) = some (r1, r2) := h
 clear h
 have HC2 := Aside0.mk H
 clear H
 go_enter Try.func83, Try.ntmps83
 go_upto_region 1 with (fail)
 go_cut [13] (fun v13 wc => ∃ (kq : Nat) (x13_1 : Bool), v13 = .bool x13_1 ∧ Aside0 (octets_Get.j0 kq l0 0 x13_1 = some (r1, r2)) ∧ Aside0 (kq ≤ k) ∧ Drawn0 w wc)
 case first =>
  have H := HC2.out
  clear HC2
  by_cases c3 : (l0.length : Int) = 0
  ·rw [if_pos c3] at H
   have c3b0 : ((l0.length : Int) == 0) = true := beq_iff_eq.mpr c3
   have c3b1 : ((l0.length : Int) != 0) = false := bne_eq_false_iff_eq.mpr c3
   clear c3
   (first | rw [c3b0] | (simp only [i64_w, i32_w]; rw [c3b0]) | skip)
   have H' := Aside0.mk H
   clear H
   go_wp2
   go_meet
   case rel => exact ⟨_, (true), (by first | rfl | (simp; done) | (simp [*]; done)), H', ⟨by first | omega | exact Nat.le_refl _⟩, by repeat (first | exact Drawn0.refl _ | apply Drawn0.step)⟩
  ·rw [if_neg c3] at H
   have c3b0 : ((l0.length : Int) == 0) = false := beq_eq_false_iff_ne.mpr c3
   have c3b1 : ((l0.length : Int) != 0) = true := bne_iff_ne.mpr c3
   have c3b2 : ¬ (l0 = []) := fun h_ => c3 (by rw [h_]; rfl)
   (first | rw [c3b0] | (simp only [i64_w, i32_w]; rw [c3b0]) | skip)
   have H' := Aside0.mk H
   clear H
   go_wp2
   go_meet
   case rel => exact ⟨_, (decide ((l0.length : Int) > 8)), (by first | rfl | (simp; done) | (simp [*]; done)), H', ⟨by first | omega | exact Nat.le_refl _⟩, by repeat (first | exact Drawn0.refl _ | apply Drawn0.step)⟩
 case rest =>
  clear HC2
  try clear p2
  try clear c3
  try clear c3b0
  try clear c3b1
  try clear c3b2
  obtain ⟨kq, x13_1, rfl, HA, HJ1, ⟨mc1, rfl⟩⟩ := hcut
  cases kq with
  | zero => exact absurd HA.out (by simp [octets_Get.j0])
  | succ kj1 =>
   have H := HA.out
   clear HA
   simp only [octets_Get.j0] at H
   by_cases c4 : x13_1 = true
   ·subst c4
    rw [if_pos rfl] at H
    simp only [Option.some.injEq, Prod.mk.injEq] at H
    obtain ⟨rfl, rfl⟩ := H
    go_wp2
    go_ret2
    exact ⟨by first | rfl | (simp; done) | (simp [*]; done), by repeat (first | exact Drawn0.refl _ | apply Drawn0.step)⟩
   ·replace c4 := Bool.eq_false_iff.mpr c4
    subst c4
    rw [if_neg (show ¬ (false = true) by decide)] at H
    have H' := Aside0.mk H
    clear H
    go_wp2
    go_loopg [2, 16] kj1 (fun kq v2 v16 w' => ∃ (x2_2 : Int) (x16_2 : Int), v2 = .int .u64 x2_2 ∧ v16 = .int .i64 x16_2 ∧ Aside0 (octets_Get.l0 kq x2_2 l0 (l0.length : Int) x16_2 = some (r1, r2)) ∧ Aside0 (kq ≤ kj1) ∧ Drawn0 w w')
    case atStart => exact ⟨(0), (0), (by first | rfl | (simp; done) | (simp [*]; done)), (by first | rfl | (simp; done) | (simp [*]; done)), H', ⟨Nat.le_refl _⟩, by repeat (first | exact Drawn0.refl _ | apply Drawn0.step)⟩
    case round =>
     clear H'
     try clear c1
     try clear p2
     try clear c3
     try clear c3b0
     try clear c3b1
     try clear c3b2
     try clear c4
     try clear p2
     obtain ⟨x2_2, x16_2, rfl, rfl, HA, HK2, ⟨m2, rfl⟩⟩ := hrel
     cases gk with
     | zero => exact absurd HA.out (by simp [octets_Get.l0])
     | succ k2 =>
      have H := HA.out
      clear HA
      simp only [octets_Get.l0] at H
      by_cases c5 : x16_2 < (l0.length : Int)
      ·rw [if_pos c5] at H
       have c5b0 : decide (x16_2 < (l0.length : Int)) = true := decide_eq_true c5
       clear c5
       by_cases c6 : 0 ≤ x16_2
       ·rw [if_pos c6] at H
        have c6b0 : decide (0 ≤ x16_2) = true := decide_eq_true c6
        clear c6
        by_cases c7 : x16_2 < (l0.length : Int)
        ·rw [if_pos c7] at H
         have c7b0 : decide (x16_2 < (l0.length : Int)) = true := decide_eq_true c7
         clear c7
         have H' := Aside0.mk H
         clear H
         have p101 : 0 ≤ (x16_2 : Int) := of_decide_eq_true (by first | (with_reducible assumption) | assumption)
         have q101 : x16_2 < (l0.length : Int) := of_decide_eq_true (by first | (with_reducible assumption) | assumption)
         obtain ⟨ad101, e101, hx101_0⟩ := Kd.at_int HR0.out x16_2 p101 q101
         cases e101
         replace p101 := eq_true p101
         replace q101 := eq_true q101
         go_wp2
         go_roundg k2
         case measure => have := HJ1.out; have := HK2.out; omega
         case rel => exact ⟨(Go.bits .or .u64 (IntKind.u64.wrap (x2_2 * 256)) (IntKind.u64.wrap (rd l0 x16_2))), (wrap64 (x16_2 + 1)), (by first | rfl | (simp; done) | (simp [*]; done)), (by first | rfl | (simp; done) | (simp [*]; done)), H', ⟨by have := HJ1.out; have := HK2.out; omega⟩, by repeat (first | exact Drawn0.refl _ | apply Drawn0.step)⟩
        ·rw [if_neg c7] at H
         exact absurd H (by simp)
       ·rw [if_neg c6] at H
        exact absurd H (by simp)
      ·rw [if_neg c5] at H
       have c5b0 : decide (x16_2 < (l0.length : Int)) = false := decide_eq_false c5
       clear c5
       simp only [Option.some.injEq, Prod.mk.injEq] at H
       obtain ⟨rfl, rfl⟩ := H
       go_wp2
       go_ret2
       exact ⟨by first | rfl | (simp; done) | (simp [*]; done), by repeat (first | exact Drawn0.refl _ | apply Drawn0.step)⟩
end Go.Proofs.Ytooabchnbmnchaa.Q
namespace Go.Proofs.Ytooabchnbmnchaa.Q
open Go.RowKit Go.Proofs.YtooabchnbmnchaaW.PrintWords Go.Proofs.YtooabchnbmnchaaW.PrintLast Go.Proofs.YtooabchnbmnchaaW.PrintMore
attribute [local go_sem] max2_int min2_int max_two min_two max_three min_three max_four min_four binOp_string_leq binOp_string_geq binOp_string_gtr   -- for this text's walks alone
set_option linter.unusedVariables false
set_option linter.unusedSimpArgs false
def crcBit (c : Nat) : Nat := (c >>> 1) ^^^ (if c % 2 = 1 then 0x82f63b78 else 0)
def crcBits : Nat → Nat → Nat
 | 0, c => c
 | t + 1, c => crcBit (crcBits t c)
theorem crcBit_lt (c : Nat) (h : c < 4294967296) : crcBit c < 4294967296 := by
 unfold crcBit
 have h1 : c >>> 1 < 2 ^ 32 := by rw [Nat.shiftRight_eq_div_pow]; omega
 have h2 : (if c % 2 = 1 then 0x82f63b78 else 0 : Nat) < 2 ^ 32 := by split <;> omega
 simpa using Nat.xor_lt_two_pow h1 h2
theorem crcBits_lt (t c : Nat) (h : c < 4294967296) : crcBits t c < 4294967296 := by
 induction t with
 | zero => exact h
 | succ t ih => exact crcBit_lt _ ih
theorem u32_xor (a b : Nat) (ha : a < 4294967296) (hb : b < 4294967296) : Go.bits .xor .u32 (a : Int) (b : Int) = ((a ^^^ b : Nat) : Int) ∧ a ^^^ b < 4294967296 := by
 have hx : a ^^^ b < 2 ^ 32 := Nat.xor_lt_two_pow (show a < 2 ^ 32 from ha) (show b < 2 ^ 32 from hb)
 refine ⟨?_, hx⟩
 have ha' : a % 2 ^ IntKind.u32.bits = a := Nat.mod_eq_of_lt (by rw [show (2 : Nat) ^ IntKind.u32.bits = 4294967296 from rfl]; exact ha)
 have hb' : b % 2 ^ IntKind.u32.bits = b := Nat.mod_eq_of_lt (by rw [show (2 : Nat) ^ IntKind.u32.bits = 4294967296 from rfl]; exact hb)
 simp only [bits, BitVec.ofInt_natCast, BitVec.toNat_xor, BitVec.toNat_ofNat, ha', hb']
 have h3 : a ^^^ b < 4294967296 := hx
 simp [IntKind.wrap, IntKind.bits, IntKind.signed]
 omega
theorem u32_wrap (a : Nat) (ha : a < 4294967296) : IntKind.u32.wrap (a : Int) = (a : Int) := by
 simp [IntKind.wrap, IntKind.bits, IntKind.signed]; omega
theorem u32_and (a b : Nat) (ha : a < 4294967296) (hb : b < 4294967296) : Go.bits .and .u32 (a : Int) (b : Int) = ((a &&& b : Nat) : Int) := by
 have hx : a &&& b ≤ a := Nat.and_le_left
 have ha' : a % 2 ^ IntKind.u32.bits = a := Nat.mod_eq_of_lt (by rw [show (2 : Nat) ^ IntKind.u32.bits = 4294967296 from rfl]; exact ha)
 have hb' : b % 2 ^ IntKind.u32.bits = b := Nat.mod_eq_of_lt (by rw [show (2 : Nat) ^ IntKind.u32.bits = 4294967296 from rfl]; exact hb)
 simp only [bits, BitVec.ofInt_natCast, BitVec.toNat_and, BitVec.toNat_ofNat, ha', hb']
 exact u32_wrap _ (by omega)
theorem crc_bit (c : Nat) (h : c < 4294967296) : Go.bits .xor .u32 ((c : Int) / 2) (Go.bits .and .u32 2197175160 ((-(Go.bits .and .u32 (c : Int) 1)) % 4294967296)) = (crcBit c : Nat) := by
 have e1 : (c : Int) / (2 : Int) = ((c >>> 1 : Nat) : Int) := by
  rw [Nat.shiftRight_eq_div_pow]; omega
 have e2 : Go.bits .and .u32 (c : Int) 1 = ((c % 2 : Nat) : Int) := by
  rw [show (1 : Int) = ((1 : Nat) : Int) from rfl, u32_and c 1 h (by omega), Nat.and_one_is_mod]
 have h1 : c >>> 1 < 4294967296 := by rw [Nat.shiftRight_eq_div_pow]; omega
 rw [e1, e2]
 unfold crcBit
 by_cases hc : c % 2 = 1
 ·rw [if_pos hc, hc, show (-((1 : Nat) : Int)) % 4294967296 = ((4294967295 : Nat) : Int) from by decide]
  rw [show (2197175160 : Int) = ((2197175160 : Nat) : Int) from rfl, u32_and _ _ (by omega) (by omega)]
  rw [show 2197175160 &&& 4294967295 = 2197175160 from by decide]
  exact (u32_xor _ _ h1 (by omega)).1
 ·have h0 : c % 2 = 0 := by omega
  rw [if_neg hc, h0, show (-((0 : Nat) : Int)) % 4294967296 = ((0 : Nat) : Int) from by decide]
  rw [show (2197175160 : Int) = ((2197175160 : Nat) : Int) from rfl, u32_and _ _ (by omega) (by omega)]
  rw [show 2197175160 &&& 0 = 0 from by decide]
  exact (u32_xor _ _ h1 (by omega)).1
def tabC (k : Nat) : Array Value := ((List.range 256).map fun i => Value.int .u32 (if i < k then (crcBits 8 i : Nat) else 0)).toArray
theorem tabC_size (k : Nat) : (tabC k).size = 256 := by simp [tabC]
theorem tabC_get (k i : Nat) (h : i < 256) : (tabC k)[i]? = some (Value.int .u32 (if i < k then (crcBits 8 i : Nat) else 0)) := by
 simp [tabC, h]
theorem tabC_set (k : Nat) (h : k < 256) : (tabC k).setIfInBounds k (.int .u32 (crcBits 8 k : Nat)) = tabC (k + 1) := by
 apply Array.ext (by simp [tabC_size])
 intro i h1 h2
 rw [tabC_size] at h2
 have a := tabC_get k i h2
 have b := tabC_get (k + 1) i h2
 rw [Array.getElem?_eq_getElem (by rw [tabC_size]; exact h2)] at a b
 rw [Array.getElem_setIfInBounds (by rw [tabC_size]; exact h2)]
 injection a with a; injection b with b
 rw [a, b]
 by_cases hk : k = i
 ·subst hk; rw [if_pos rfl, if_pos (by omega)]
 ·rw [if_neg hk]
  by_cases hl : i < k
  ·rw [if_pos hl, if_pos (by omega)]
  ·rw [if_neg hl, if_neg (by omega)]
theorem laid_cell {w : World} {b : Nat} {c : Array Value} {t : TypeId} (h : w.heap[b]? = some (.cells c t (0, 0))) (i : Nat) : w.cell? ⟨b, i, none⟩ = c[i]? ∧ w.frozen? ⟨b, i, none⟩ = false := by
 unfold World.cell? World.frozen?
 simp only [h]
 exact ⟨rfl, by simp⟩
theorem laid_set {w : World} {b : Nat} {c : Array Value} {t : TypeId} (h : w.heap[b]? = some (.cells c t (0, 0))) (i : Nat) (v : Value) : (w.setCell ⟨b, i, none⟩ v).heap[b]? = some (.cells (c.setIfInBounds i v) t (0, 0)) := by
 unfold World.setCell
 simp only [Array.getElem?_modify, h]
 simp
set_option maxHeartbeats 800000 in
set_option maxRecDepth 100000 in
theorem crc_table.calls (w : World) : Calls Try.prog 108 #[] w fun e w' => e = .returned (.pointer (some ⟨w.heap.size, 0, none⟩)) ∧ (∀ i : Nat, i < 256 → w'.cell? ⟨w.heap.size, i, none⟩ = some (.int .u32 (crcBits 8 i : Nat))) ∧ Below w.heap.size w w' := by
 have hz : Try.zeroCells154 = tabC 0 := by kernel_rfl
 go_enter Try.func108, Try.ntmps108
 go_wp2
 have HH := Aside0.mk (show (w.alloc (Obj.cells Try.zeroCells154 154)).heap[w.heap.size]? = some (.cells (tabC 0) 154 (0, 0)) by rw [← hz]; exact World.alloc_heap_new _ _)
 have HB := Aside0.mk (below_alloc (Below.refl w.heap.size w) (Obj.cells Try.zeroCells154 154))
 clear hz
 go_loopw [4] (fun v4 wr => ∃ k : Nat, v4 = .int .i64 (k : Int) ∧ k ≤ 256 ∧ Aside0 (wr.heap[w.heap.size]? = some (.cells (tabC k) 154 (0, 0))) ∧ Aside0 (Below w.heap.size w wr)) (fun v4 _ => 256 - (intOf v4).toNat)
 case atStart => exact ⟨0, rfl, by omega, HH, HB⟩
 case round =>
  obtain ⟨k, rfl, hk, H, B⟩ := hrel
  clear HH HB
  by_cases hlt : k < 256
  ·go_wp2
   go_loop [3, 9] (fun v3 v9 => ∃ j : Nat, v9 = .int .i64 (j : Int) ∧ j ≤ 8 ∧ v3 = .int .u32 (crcBits j k : Nat)) (fun _ v9 => 8 - (intOf v9).toNat)
   case atStart => exact ⟨0, rfl, by omega, rfl⟩
   case round =>
    obtain ⟨j, rfl, hj, rfl⟩ := hrel
    have hc := crcBits_lt j k (by omega)
    have hcb := crc_bit _ hc
    obtain ⟨c, hce⟩ : ∃ c, c = crcBits j k := ⟨_, rfl⟩
    rw [← hce] at hc hcb
    by_cases hj8 : j < 8
    ·have C := Aside0.mk hcb
     clear hcb
     go_wp2
     go_roundw
     case rel => exact ⟨j + 1, by push_cast; rfl, by omega, by rw [← hce, C.out, hce]; rfl⟩
     case measure => simp [intOf]; omega
    ·have : j = 8 := by omega
     subst this
     have hcell := (laid_cell H.out k).1
     rw [tabC_get k k hlt] at hcell
     have hfroz := (laid_cell H.out k).2
     have HS := Aside0.mk (laid_set H.out k (.int .u32 (crcBits 8 k : Nat)))
     rw [hce] at *
     go_wp2
     go_roundw
     case rel => exact ⟨k + 1, by push_cast; rfl, by omega, ⟨by rw [← tabC_set k hlt]; exact HS.out⟩, ⟨B.out.setCell (Nat.le_refl _) _⟩⟩
     case measure => simp [intOf]; omega
  ·have : k = 256 := by omega
   subst this
   go_wp2
   go_ret
   exact ⟨rfl, fun i hi => by rw [(laid_cell H.out i).1, tabC_get 256 i hi, if_pos hi], B.out⟩
def crcStep (c x : Nat) : Nat := (c >>> 8) ^^^ crcBits 8 ((c % 256) ^^^ x)
def crcRun (c : Nat) (l : List Int) : Nat := l.foldl (fun c x => crcStep c x.toNat) c
theorem octet_xor_lt (c x : Nat) (hx : x < 256) : (c % 256) ^^^ x < 256 := by
 have := Nat.xor_lt_two_pow (x := c % 256) (y := x) (n := 8) (by show c % 256 < 256; omega) hx
 exact this
theorem crcStep_lt (c x : Nat) (h : c < 4294967296) (hx : x < 256) : crcStep c x < 4294967296 := by
 unfold crcStep
 have h1 : c >>> 8 < 2 ^ 32 := by rw [Nat.shiftRight_eq_div_pow]; omega
 have h2 : crcBits 8 ((c % 256) ^^^ x) < 2 ^ 32 := crcBits_lt 8 _ (by have := octet_xor_lt c x hx; omega)
 exact Nat.xor_lt_two_pow h1 h2
theorem crcRun_snoc (c : Nat) (l : List Int) (x : Int) : crcRun c (l ++ [x]) = crcStep (crcRun c l) x.toNat := by simp [crcRun, List.foldl_append]
theorem crcRun_lt (l : List Int) : ∀ (c : Nat), c < 4294967296 → (∀ x ∈ l, 0 ≤ x ∧ x < 256) → crcRun c l < 4294967296 := by
 induction l with
 | nil => intro c h _; exact h
 | cons x l ih =>
  intro c h hx
  exact ih _ (crcStep_lt c x.toNat h (by have := hx x (by simp); omega)) (fun y hy => hx y (by simp [hy]))
theorem u8_xor (a b : Nat) (ha : a < 256) (hb : b < 256) : Go.bits .xor .u8 (a : Int) (b : Int) = ((a ^^^ b : Nat) : Int) := by
 have hx : a ^^^ b < 2 ^ 8 := Nat.xor_lt_two_pow (show a < 2 ^ 8 from ha) (show b < 2 ^ 8 from hb)
 have ha' : a % 2 ^ IntKind.u8.bits = a := Nat.mod_eq_of_lt (by rw [show (2 : Nat) ^ IntKind.u8.bits = 256 from rfl]; exact ha)
 have hb' : b % 2 ^ IntKind.u8.bits = b := Nat.mod_eq_of_lt (by rw [show (2 : Nat) ^ IntKind.u8.bits = 256 from rfl]; exact hb)
 simp only [bits, BitVec.ofInt_natCast, BitVec.toNat_xor, BitVec.toNat_ofNat, ha', hb']
 have h3 : a ^^^ b < 256 := hx
 simp [IntKind.wrap, IntKind.bits, IntKind.signed]
 omega
set_option maxHeartbeats 800000 in
set_option maxRecDepth 100000 in
theorem crc_run.calls (c : Nat) (hcl : c < 4294967296) (A0 : Option Addr) (c0 : Nat) (l0 : List Int) (w : World) (hr0 : Kd.C (Kd.int .u8) w A0 l0.length l0) (hc0 : l0.length ≤ c0) (hx : ∀ x ∈ l0, 0 ≤ x ∧ x < 256) (hl : l0.length ≤ 140737488355328) : Calls Try.prog 106 #[.int .u32 (c : Nat), .slice A0 l0.length c0] w fun e w' => e = .returned (.int .u32 (crcRun c l0 : Nat)) ∧ Below w.heap.size w w' := by
 have HX := Aside0.mk hx
 have HR0 := Aside0.mk hr0
 clear hx hr0 hc0
 by_cases he : l0.length = 0
 ·have : l0 = [] := List.eq_nil_of_length_eq_zero he
  subst this
  go_enter Try.func106, Try.ntmps106
  go_wp2
  go_ret
  exact ⟨rfl, Below.refl _ _⟩
 ·go_enter Try.func106, Try.ntmps106
  go_wp2_with (go_at_call 108; refine (crc_table.calls _).mono ?_; rintro e w1 ⟨rfl, ht, hb⟩; have HT := Aside0.mk ht; have HB := Aside0.mk hb; clear ht hb)
  have HR1 := Aside0.mk (Kd.C_below HR0.out HB.out)
  go_loop [0, 15] (fun v0 v15 => ∃ k : Nat, v15 = .int .i64 (k : Int) ∧ k ≤ l0.length ∧ v0 = .int .u32 (crcRun c (l0.take k) : Nat)) (fun _ v15 => l0.length - (intOf v15).toNat)
  case atStart => exact ⟨0, rfl, by omega, rfl⟩
  case round =>
   obtain ⟨k, rfl, hk, rfl⟩ := hrel
   have hlt := crcRun_lt (l0.take k) c hcl (fun x hx => HX.out x (List.mem_of_mem_take hx))
   obtain ⟨q, hq⟩ : ∃ q, q = crcRun c (l0.take k) := ⟨_, rfl⟩
   rw [← hq] at hlt ⊢
   by_cases hkn : k < l0.length
   ·obtain ⟨x, hxe⟩ : ∃ x : Nat, l0[k] = (x : Int) := ⟨l0[k].toNat, by have := HX.out _ (List.getElem_mem hkn); omega⟩
    have hxb : x < 256 := by have := HX.out _ (List.getElem_mem hkn); omega
    have hnext : crcRun c (l0.take (k + 1)) = crcStep q x := by
     rw [List.take_succ_eq_append_getElem hkn, crcRun_snoc, ← hq, hxe, Int.toNat_natCast]
    obtain ⟨ad, hae, hcell⟩ := Kd.at_int HR1.out (k : Int) (by omega) (by omega)
    cases hae
    rw [rd_nat l0 k hkn, hxe, Int.toNat_natCast] at hcell
    have htx := HT.out ((q % 256) ^^^ x) (octet_xor_lt q x hxb)
    have hxor : Go.bits .xor .u8 ((q : Int) % 256) (x : Int) = (((q % 256) ^^^ x : Nat) : Int) := by
     rw [← u8_xor (q % 256) x (by omega) hxb]; congr 1
    have hlx := octet_xor_lt q x hxb
    obtain ⟨y, hy⟩ : ∃ y, y = (q % 256) ^^^ x := ⟨_, rfl⟩
    rw [← hy] at htx hxor hlx
    have hstep : Go.bits .xor .u32 ((q : Int) / 256) ((crcBits 8 y : Nat) : Int) = (crcStep q x : Nat) := by
     have h1 : q >>> 8 < 4294967296 := by rw [Nat.shiftRight_eq_div_pow]; omega
     have := (u32_xor (q >>> 8) (crcBits 8 y) h1 (crcBits_lt 8 _ (by omega))).1
     rw [show ((q >>> 8 : Nat) : Int) = (q : Int) / 256 by rw [Nat.shiftRight_eq_div_pow]; omega] at this
     rw [this, hy]; rfl
    have HN := Aside0.mk hnext
    clear hnext hq hxe hy
    have HST := Aside0.mk hstep
    clear hstep
    go_wp2
    exact ⟨⟨k + 1, by push_cast; rfl, by omega, by rw [HST.out, HN.out]⟩, by simp [intOf]; omega⟩
   ·have : k = l0.length := by omega
    subst this
    go_wp2
    go_ret
    exact ⟨rfl, HB.out⟩
theorem u32_not (q : Nat) (h : q < 4294967296) : Go.bits .xor .u32 IntKind.u32.max (q : Int) = ((4294967295 - q : Nat) : Int) := by
 rw [show IntKind.u32.max = ((4294967295 : Nat) : Int) from by decide, (u32_xor 4294967295 q (by omega) h).1]
 have : (4294967295 ^^^ q : Nat) = 4294967295 - q := by
  have h1 := congrArg BitVec.toNat (show (BitVec.allOnes 32) ^^^ (BitVec.ofNat 32 q) = ~~~ (BitVec.ofNat 32 q) from BitVec.allOnes_xor)
  rw [BitVec.toNat_xor, BitVec.toNat_not, BitVec.toNat_allOnes, BitVec.toNat_ofNat, Nat.mod_eq_of_lt (show q < 2 ^ 32 from h)] at h1
  have e : (2 : Nat) ^ 32 - 1 = 4294967295 := by decide
  rw [e] at h1
  exact h1
 rw [this]
def crcSum (l : List Int) : Nat := 4294967295 - crcRun 4294967295 l
def crc_Sum.f (l0 : List Int) : Option Int := if (∀ x ∈ l0, 0 ≤ x ∧ x < 256) ∧ l0.length ≤ 140737488355328 then some ((crcSum l0 : Nat) : Int) else none
set_option maxHeartbeats 800000 in
set_option maxRecDepth 100000 in
theorem crc_Sum.calls (A0 : Option Addr) (c0 : Nat) (l0 : List Int) (r : Int) (w : World) (hr0 : Kd.C (Kd.int .u8) w A0 l0.length l0) (hc0 : l0.length ≤ c0) (h : crc_Sum.f l0 = some r) : Calls Try.prog 93 #[.slice A0 l0.length c0] w fun e w' => e = .returned (.int .u32 r) ∧ Below w.heap.size w w' := by
 unfold crc_Sum.f at h
 by_cases hx : (∀ x ∈ l0, 0 ≤ x ∧ x < 256) ∧ l0.length ≤ 140737488355328
 case neg => rw [if_neg hx] at h; cases h
 rw [if_pos hx] at h
 cases h
 have hr := crcRun_lt l0 4294967295 (by omega) hx.1
 have HP := Aside0.mk (crc_run.calls 4294967295 (by omega) A0 c0 l0 w hr0 hc0 hx.1 hx.2)
 clear hx hr0 hc0
 have HN := Aside0.mk (u32_not (crcRun 4294967295 l0) hr)
 clear hr
 unfold crcSum
 go_enter Try.func93, Try.ntmps93
 go_wp2_with (first | (go_at_call 106; refine HP.out.mono ?_; rintro e w1 ⟨rfl, hb⟩) | go_in)
 go_ret
 exact ⟨by rw [HN.out]; rfl, hb⟩
end Go.Proofs.Ytooabchnbmnchaa.Q
namespace Go.Proofs.Ytooabchnbmnchaa.Q
open Go.RowKit Go.Proofs.YtooabchnbmnchaaW.PrintWords Go.Proofs.YtooabchnbmnchaaW.PrintLast Go.Proofs.YtooabchnbmnchaaW.PrintMore
attribute [local go_sem] max2_int min2_int max_two min_two max_three min_three max_four min_four binOp_string_leq binOp_string_geq binOp_string_gtr   -- for this text's walks alone
set_option linter.unusedVariables false
set_option linter.unusedSimpArgs false
def frames_Open.f (k : Nat) (l0 : List Int) : Option (Int × List Int × Int × Int) := if (l0.length : Int) < 8 then (some (0, ([] : List Int), 0, 8)) else (if 2 ≤ 4 then (if 4 ≤ (l0.length : Int) then ((octets_Get.f k ((l0.take 4).drop 2)).bind fun bt104 => (if 0 < (l0.length : Int) then (if (rd l0 0) = 167 then (if bt104.1 > 4096 then (some (0, ([] : List Int), 0, 5)) else (if (l0.length : Int) < (wrap64 ((wrap64 (4 + (wrap64 (bt104.1)))) + 4)) then (some (0, ([] : List Int), 0, 8)) else (if 0 ≤ (wrap64 (4 + (wrap64 (bt104.1)))) then (if (wrap64 (4 + (wrap64 (bt104.1)))) ≤ (wrap64 ((wrap64 (4 + (wrap64 (bt104.1)))) + 4)) then (if (wrap64 ((wrap64 (4 + (wrap64 (bt104.1)))) + 4)) ≤ (l0.length : Int) then ((octets_Get.f k ((l0.take ((wrap64 ((wrap64 (4 + (wrap64 (bt104.1)))) + 4)) : Int).toNat).drop ((wrap64 (4 + (wrap64 (bt104.1)))) : Int).toNat)).bind fun bt108 => (if (wrap64 (4 + (wrap64 (bt104.1)))) ≤ (l0.length : Int) then ((crc_Sum.f (l0.take ((wrap64 (4 + (wrap64 (bt104.1)))) : Int).toNat)).bind fun t111 => (if ((bt108.1) % 4294967296) = t111 then (if 1 < (l0.length : Int) then (if 4 ≤ (wrap64 (4 + (wrap64 (bt104.1)))) then ((bytes_Clone.f ((l0.take ((wrap64 (4 + (wrap64 (bt104.1)))) : Int).toNat).drop 4)).bind fun t114 => (some (rd l0 1, t114, wrap64 ((wrap64 (4 + (wrap64 (bt104.1)))) + 4), 0))) else (none)) else (none)) else (some (0, ([] : List Int), 0, 21)))) else (none))) else (none)) else (none)) else (none)))) else (some (0, ([] : List Int), 0, 22))) else (none))) else (none)) else (none))
theorem frames_Open.mono : ∀ a0 k, LeO (frames_Open.f k a0) (frames_Open.f (k + 1) a0) := by
 intro a0 k
 unfold frames_Open.f
 repeat' first
   | (with_reducible exact octets_Get.mono _ _)
   | (with_reducible exact LeO.refl _)
   | (with_reducible exact LeO.none _)
   | (with_reducible refine LeO.ite ?_ ?_)
   | (with_reducible refine LeO.bind ?_ (fun _ => ?_))
   | exact octets_Get.mono _ _
   | exact LeO.none _
   | refine LeO.ite ?_ ?_
   | refine LeO.bind ?_ (fun _ => ?_)
def frames_Open.T14 : Bool × List (List Nat × List Nat) := (true, [([], []), ([0], [0]), ([1], [1]), ([], []), ([], []), ([3, 4], [3, 4]), ([5], [5]), ([2, 6], [2, 6]), ([], []), ([8], [8]), ([7, 6, 0, 1, 2, 3, 4, 5, 6, 7], [7]), ([9, 10, 0, 1, 2, 3, 4, 5, 6, 7, 8, 9, 10], [9]), ([11, 0, 1, 2, 3, 4, 5, 6, 7, 8, 9, 10, 11], [])])
def frames_Open.B14 : List Nat := [0, 1, 3, 0, 0, 24, 56, 127, 0, 256, 255, 2047, 4095]
theorem frames_Open.tab14 : rtab .any (opsOf Try.f103 14) = frames_Open.T14 := by kernel_rfl
theorem frames_Open.bits14 : waitsOk frames_Open.T14.2 frames_Open.B14 = true := by kernel_rfl
set_option maxHeartbeats 8000000 in
set_option maxRecDepth 100000 in
theorem frames_Open.calls (k : Nat) (A0 : Option Addr) (c0 : Nat) (l0 : List Int) (r1 : Int) (r2 : List Int) (r3 : Int) (r4 : Int) (w : World) (hr0 : Kd.C (Kd.int .u8) w A0 l0.length l0) (hc0 : l0.length ≤ c0) (h : frames_Open.f k l0 = some (r1, r2, r3, r4)) :
  Calls Try.prog 103 #[.slice A0 l0.length c0] w fun e w' => ∃ v1_ : Value, e = .returned (.tuple #[.agg #[.int .u8 r1, v1_], .int .i64 r3, .int .i64 r4]) ∧ Kd.R (Kd.int .u8) 5 w' w.heap.size (fun _ => True) v1_ r2 ∧ Below w.heap.size w w' := by
 have hu117 := Try.underlying117
 have HR0 := Aside0.mk hr0
 have HC0 := Aside0.mk hc0
 clear hr0 hc0
 have HB := Aside0.mk (Below.refl w.heap.size w)
 have H : (if (l0.length : Int) < 8 then (some (0, ([] : List Int), 0, 8)) else (if 2 ≤ 4 then (if 4 ≤ (l0.length : Int) then ((octets_Get.f k ((l0.take 4).drop 2)).bind fun bt104 => (if 0 < (l0.length : Int) then (if (rd l0 0) = 167 then (if bt104.1 > 4096 then (some (0, ([] : List Int), 0, 5)) else (if (l0.length : Int) < (wrap64 ((wrap64 (4 + (wrap64 (bt104.1)))) + 4)) then (some (0, ([] : List Int), 0, 8)) else (if 0 ≤ (wrap64 (4 + (wrap64 (bt104.1)))) then (if (wrap64 (4 + (wrap64 (bt104.1)))) ≤ (wrap64 ((wrap64 (4 + (wrap64 (bt104.1)))) + 4)) then (if (wrap64 ((wrap64 (4 + (wrap64 (bt104.1)))) + 4)) ≤ (l0.length : Int) then ((octets_Get.f k ((l0.take ((wrap64 ((wrap64 (4 + (wrap64 (bt104.1)))) + 4)) : Int).toNat).drop ((wrap64 (4 + (wrap64 (bt104.1)))) : Int).toNat)).bind fun bt108 => (if (wrap64 (4 + (wrap64 (bt104.1)))) ≤ (l0.length : Int) then ((crc_Sum.f (l0.take ((wrap64 (4 + (wrap64 (bt104.1)))) : Int).toNat)).bind fun t111 => (if ((bt108.1) % 4294967296) = t111 then (if 1 < (l0.length : Int) then (if 4 ≤ (wrap64 (4 + (wrap64 (bt104.1)))) then ((bytes_Clone.f ((l0.take ((wrap64 (4 + (wrap64 (bt104.1)))) : Int).toNat).drop 4)).bind fun t114 => (some (rd l0 1, t114, wrap64 ((wrap64 (4 + (wrap64 (bt104.1)))) + 4), 0))) else (none)) else (none)) else (some (0, ([] : List Int), 0, 21)))) else (none))) else (none)) else (none)) else (none)))) else (some (0, ([] : List Int), 0, 22))) else (none))) else (none)) else (none))) = some (r1, r2, r3, r4) := h
 clear h
 by_cases c2 : (l0.length : Int) < 8
 ·rw [if_pos c2] at H
  have c2b0 : decide ((l0.length : Int) < 8) = true := decide_eq_true c2
  have c2b1 : decide (l0.length < 8) = true := decide_eq_true (by omega)
  clear c2
  simp only [Option.some.injEq, Prod.mk.injEq] at H
  obtain ⟨rfl, rfl, rfl, rfl⟩ := H
  go_enter Try.func103, Try.ntmps103
  go_wp2_with (first | ((with_reducible refine gate_dst (N := 2) rfl ?_); refine bx_ 2 #[.int .u8 0, .slice none 0 0] 117 ?_; intro gb102 hg w3 hbox hb; have BK102 := Aside0.mk (hbox); have GW102 := bG_ HB hg; have GE102 := bG_ HB hg; replace HB := bS_ HB hb; clear hb hbox hg; obtain ⟨hcz4_0, hcz4_1, hfz4_0, hfz4_1⟩ := cz2_ BK102))
  refine bodyPost_ret (results_ctt rfl _ _ gb102 117 #[.int .u8 0, .slice none 0 0] (0, 0) _ rfl (by (with_reducible repeat (first | refine blk_drewN ?_ _ | refine blk_drew ?_ | refine blk_alloc ?_ _)); refine blk_put (cs := #[.int .u8 0, .slice none 0 0]) ?_ 1 _ rfl; (with_reducible repeat (first | refine blk_drewN ?_ _ | refine blk_drew ?_ | refine blk_alloc ?_ _)); refine blk_put (cs := #[.int .u8 0, .slice none 0 0]) ?_ 0 _ rfl; (with_reducible repeat (first | refine blk_drewN ?_ _ | refine blk_drew ?_ | refine blk_alloc ?_ _)); exact BK102.out) Try.underlying117 rfl (by kernel_rfl)) rfl ?_
  exact ⟨_, fin_, nil_, bl_ HB⟩
 ·rw [if_neg c2] at H
  have c2b0 : decide ((l0.length : Int) < 8) = false := decide_eq_false c2
  have c2b1 : decide (l0.length < 8) = false := decide_eq_false (by omega)
  clear c2
  by_cases c5 : 2 ≤ 4
  ·rw [if_pos c5] at H
   have c5b0 := eq_true c5
   have c5b1 : decide (2 ≤ 4) = true := decide_eq_true c5
   clear c5
   by_cases c6 : 4 ≤ (l0.length : Int)
   ·rw [if_pos c6] at H
    have c6b0 := eq_true c6
    have c6b1 : decide (4 ≤ (l0.length : Int)) = true := decide_eq_true c6
    clear c6
    replace H := Option.bind_eq_some_iff.mp H
    obtain ⟨⟨t104, t105⟩, A70, H⟩ := H
    try dsimp only at H
    have A7 := Aside0.mk A70
    clear A70
    by_cases c8 : 0 < (l0.length : Int)
    ·rw [if_pos c8] at H
     have c8b0 : decide (0 < (l0.length : Int)) = true := decide_eq_true c8
     have c8b1 : decide (0 < l0.length) = true := decide_eq_true (by omega)
     clear c8
     by_cases c9 : (rd l0 0) = 167
     ·rw [if_pos c9] at H
      have c9b0 : ((rd l0 0) == 167) = true := beq_iff_eq.mpr c9
      have c9b1 : ((rd l0 0) != 167) = false := bne_eq_false_iff_eq.mpr c9
      clear c9
      by_cases c10 : t104 > 4096
      ·rw [if_pos c10] at H
       have c10b0 : decide (4096 < t104) = true := decide_eq_true c10
       clear c10
       simp only [Option.some.injEq, Prod.mk.injEq] at H
       obtain ⟨rfl, rfl, rfl, rfl⟩ := H
       go_enter Try.func103, Try.ntmps103
       go_wp2_with (first | ((with_reducible refine gate_dst (N := 2) rfl ?_); refine bx_ 2 #[.int .u8 0, .slice none 0 0] 117 ?_; intro gb102 hg w11 hbox hb; have BK102 := Aside0.mk (hbox); have GW102 := bG_ HB hg; have GE102 := bG_ HB hg; replace HB := bS_ HB hb; clear hb hbox hg; obtain ⟨i012, hi012, _, hsz12, _⟩ := info_parts info5; obtain ⟨A12, hcut12, hA12, hC12⟩ := print_mid_of (P := Try.prog) (Value.int .u8) 0 26 5 .i64 .i64 Try.underlying26 hi012 hsz12 A0 c0 l0 2 4 (by omega) (by first | omega | exact of_decide_eq_true (by first | (with_reducible assumption) | assumption)) (of_decide_eq_true (by first | (with_reducible assumption) | assumption)) HC0.out; have HR103 := Aside0.mk (Kd.C_of_reads (h1 := fun _ => rfl) (hA12 _ (Kd.reads_of_C HR0.out))); have HC103 := Aside0.mk hC12; clear hA12 hC12 hi012 hsz12) | ((with_reducible refine gate_callee (f := 83) rfl ?_); refine goesL_ (some 17) rfl rfl Try.func83 (by kernel_rfl) rfl #[.slice A12 ((l0.take 4).drop 2).length (c0 - 2)] rfl (by (try simp only [List.map_toArray, List.map_cons, List.map_nil]); first | done | (rw [show ((l0.take 4).drop 2).length = (4 - 2) from (by rw [List.length_drop, List.length_take]; have h_ : (4 : Int) ≤ (l0.length : Int) := of_decide_eq_true (by first | (with_reducible assumption) | assumption); omega)] <;> rfl) | rfl | (simp only [List.length_drop, List.length_take]; rfl)) ?_; (with_reducible refine (octets_Get.calls k _ _ ((l0.take 4).drop 2) t104 t105 _ ?_ ?_ A7.out).mono ?_); exact cB_ HR103 HB; exact HC103.out; rintro e w' ⟨rfl, ⟨nd, rfl⟩⟩; refine ⟨_, rfl, ?_⟩; (try (rw [drewN_self w11]; generalize hq_ : World.drewN w11 _ = w11; replace BK102 : Aside0 (w11.heap[gb102]? = some (.cells #[.int .u8 0, .slice none 0 0] 117 (0, 0))) := ⟨by rw [← hq_]; exact (bA_ BK102)⟩; replace HB : Aside0 (Below w.heap.size w w11) := ⟨by rw [← hq_]; exact (bl_ HB)⟩; clear hq_)); (try (rw [drewN_self w11]; generalize hq_ : World.drewN w11 _ = w11; replace BK102 : Aside0 (w11.heap[gb102]? = some (.cells #[.int .u8 0, .slice none 0 0] 117 (0, 0))) := ⟨by rw [← hq_]; exact (bA_ BK102)⟩; replace HB : Aside0 (Below w.heap.size w w11) := ⟨by rw [← hq_]; exact (bl_ HB)⟩; clear hq_)); have p106 : 0 ≤ (0 : Int) := (by omega); have q106 : 0 < (l0.length : Int) := of_decide_eq_true (by first | (with_reducible assumption) | assumption); obtain ⟨ad106, e106, hx106_0⟩ := Kd.at_int HR0.out 0 p106 q106; cases e106; have qi106 : (0 < l0.length) = True := eq_true (by omega); (try rw [show ((0 : Int)).toNat = 0 from rfl] at hx106_0); (try rw [Addr.add_zero'] at hx106_0); replace hx106_0 := (HB.out.cell (World.block_lt_of_cell? w _ hx106_0)).trans hx106_0; replace p106 := eq_true p106; replace q106 := eq_true q106; obtain ⟨hcz13_0, hcz13_1, hfz13_0, hfz13_1⟩ := cz2_ BK102))
       refine bodyPost_ret (results_ctt rfl _ _ gb102 117 #[.int .u8 0, .slice none 0 0] (0, 0) _ rfl (by (with_reducible repeat (first | refine blk_drewN ?_ _ | refine blk_drew ?_ | refine blk_alloc ?_ _)); refine blk_put (cs := #[.int .u8 0, .slice none 0 0]) ?_ 1 _ rfl; (with_reducible repeat (first | refine blk_drewN ?_ _ | refine blk_drew ?_ | refine blk_alloc ?_ _)); refine blk_put (cs := #[.int .u8 0, .slice none 0 0]) ?_ 0 _ rfl; (with_reducible repeat (first | refine blk_drewN ?_ _ | refine blk_drew ?_ | refine blk_alloc ?_ _)); exact BK102.out) Try.underlying117 rfl (by kernel_rfl)) rfl ?_
       exact ⟨_, fin_, nil_, bl_ HB⟩
      ·rw [if_neg c10] at H
       have c10b0 : decide (4096 < t104) = false := decide_eq_false c10
       clear c10
       by_cases c14 : (l0.length : Int) < (wrap64 ((wrap64 (4 + (wrap64 (t104)))) + 4))
       ·rw [if_pos c14] at H
        have c14b0 : decide ((l0.length : Int) < (wrap64 ((wrap64 (4 + (wrap64 (t104)))) + 4))) = true := decide_eq_true c14
        clear c14
        simp only [Option.some.injEq, Prod.mk.injEq] at H
        obtain ⟨rfl, rfl, rfl, rfl⟩ := H
        go_enter Try.func103, Try.ntmps103
        go_wp2_with (first | ((with_reducible refine gate_dst (N := 2) rfl ?_); refine bx_ 2 #[.int .u8 0, .slice none 0 0] 117 ?_; intro gb102 hg w15 hbox hb; have BK102 := Aside0.mk (hbox); have GW102 := bG_ HB hg; have GE102 := bG_ HB hg; replace HB := bS_ HB hb; clear hb hbox hg; obtain ⟨i016, hi016, _, hsz16, _⟩ := info_parts info5; obtain ⟨A16, hcut16, hA16, hC16⟩ := print_mid_of (P := Try.prog) (Value.int .u8) 0 26 5 .i64 .i64 Try.underlying26 hi016 hsz16 A0 c0 l0 2 4 (by omega) (by first | omega | exact of_decide_eq_true (by first | (with_reducible assumption) | assumption)) (of_decide_eq_true (by first | (with_reducible assumption) | assumption)) HC0.out; have HR103 := Aside0.mk (Kd.C_of_reads (h1 := fun _ => rfl) (hA16 _ (Kd.reads_of_C HR0.out))); have HC103 := Aside0.mk hC16; clear hA16 hC16 hi016 hsz16) | ((with_reducible refine gate_callee (f := 83) rfl ?_); refine goesL_ (some 17) rfl rfl Try.func83 (by kernel_rfl) rfl #[.slice A16 ((l0.take 4).drop 2).length (c0 - 2)] rfl (by (try simp only [List.map_toArray, List.map_cons, List.map_nil]); first | done | (rw [show ((l0.take 4).drop 2).length = (4 - 2) from (by rw [List.length_drop, List.length_take]; have h_ : (4 : Int) ≤ (l0.length : Int) := of_decide_eq_true (by first | (with_reducible assumption) | assumption); omega)] <;> rfl) | rfl | (simp only [List.length_drop, List.length_take]; rfl)) ?_; (with_reducible refine (octets_Get.calls k _ _ ((l0.take 4).drop 2) t104 t105 _ ?_ ?_ A7.out).mono ?_); exact cB_ HR103 HB; exact HC103.out; rintro e w' ⟨rfl, ⟨nd, rfl⟩⟩; refine ⟨_, rfl, ?_⟩; (try (rw [drewN_self w15]; generalize hq_ : World.drewN w15 _ = w15; replace BK102 : Aside0 (w15.heap[gb102]? = some (.cells #[.int .u8 0, .slice none 0 0] 117 (0, 0))) := ⟨by rw [← hq_]; exact (bA_ BK102)⟩; replace HB : Aside0 (Below w.heap.size w w15) := ⟨by rw [← hq_]; exact (bl_ HB)⟩; clear hq_)); (try (rw [drewN_self w15]; generalize hq_ : World.drewN w15 _ = w15; replace BK102 : Aside0 (w15.heap[gb102]? = some (.cells #[.int .u8 0, .slice none 0 0] 117 (0, 0))) := ⟨by rw [← hq_]; exact (bA_ BK102)⟩; replace HB : Aside0 (Below w.heap.size w w15) := ⟨by rw [← hq_]; exact (bl_ HB)⟩; clear hq_)); have p106 : 0 ≤ (0 : Int) := (by omega); have q106 : 0 < (l0.length : Int) := of_decide_eq_true (by first | (with_reducible assumption) | assumption); obtain ⟨ad106, e106, hx106_0⟩ := Kd.at_int HR0.out 0 p106 q106; cases e106; have qi106 : (0 < l0.length) = True := eq_true (by omega); (try rw [show ((0 : Int)).toNat = 0 from rfl] at hx106_0); (try rw [Addr.add_zero'] at hx106_0); replace hx106_0 := (HB.out.cell (World.block_lt_of_cell? w _ hx106_0)).trans hx106_0; replace p106 := eq_true p106; replace q106 := eq_true q106; obtain ⟨hcz17_0, hcz17_1, hfz17_0, hfz17_1⟩ := cz2_ BK102))
        refine bodyPost_ret (results_ctt rfl _ _ gb102 117 #[.int .u8 0, .slice none 0 0] (0, 0) _ rfl (by (with_reducible repeat (first | refine blk_drewN ?_ _ | refine blk_drew ?_ | refine blk_alloc ?_ _)); refine blk_put (cs := #[.int .u8 0, .slice none 0 0]) ?_ 1 _ rfl; (with_reducible repeat (first | refine blk_drewN ?_ _ | refine blk_drew ?_ | refine blk_alloc ?_ _)); refine blk_put (cs := #[.int .u8 0, .slice none 0 0]) ?_ 0 _ rfl; (with_reducible repeat (first | refine blk_drewN ?_ _ | refine blk_drew ?_ | refine blk_alloc ?_ _)); exact BK102.out) Try.underlying117 rfl (by kernel_rfl)) rfl ?_
        exact ⟨_, fin_, nil_, bl_ HB⟩
       ·rw [if_neg c14] at H
        have c14b0 : decide ((l0.length : Int) < (wrap64 ((wrap64 (4 + (wrap64 (t104)))) + 4))) = false := decide_eq_false c14
        clear c14
        obtain ⟨ji18, hji18⟩ : ∃ j_ : Int, (wrap64 (4 + (wrap64 (t104)))) = j_ := ⟨_, rfl⟩
        replace H : (if 0 ≤ (ji18) then (if (ji18) ≤ (wrap64 ((ji18) + 4)) then (if (wrap64 ((ji18) + 4)) ≤ (l0.length : Int) then ((octets_Get.f k ((l0.take ((wrap64 ((ji18) + 4)) : Int).toNat).drop ((ji18) : Int).toNat)).bind fun bt108 => (if (ji18) ≤ (l0.length : Int) then ((crc_Sum.f (l0.take ((ji18) : Int).toNat)).bind fun t111 => (if ((bt108.1) % 4294967296) = t111 then (if 1 < (l0.length : Int) then (if 4 ≤ (ji18) then ((bytes_Clone.f ((l0.take ((ji18) : Int).toNat).drop 4)).bind fun t114 => (some (rd l0 1, t114, wrap64 ((ji18) + 4), 0))) else (none)) else (none)) else (some (0, ([] : List Int), 0, 21)))) else (none))) else (none)) else (none)) else (none)) = some (r1, r2, r3, r4) := by first | (rw [hji18] at H; exact H) | (simp only [hji18] at H ⊢; exact H)
        (try rw [hji18] at c14b0)
        (try rw [hji18] at A7)
        have hji18w : (IntKind.i64.wrap (4 + (wrap64 (t104)))) = ji18 := (i64_w _).trans hji18
        by_cases c19 : 0 ≤ (ji18)
        ·rw [if_pos c19] at H
         have c19b0 := eq_true c19
         have c19b1 : decide (0 ≤ (ji18)) = true := decide_eq_true c19
         clear c19
         by_cases c20 : (ji18) ≤ (wrap64 ((ji18) + 4))
         ·rw [if_pos c20] at H
          have c20b0 := eq_true c20
          have c20b1 : decide ((ji18) ≤ (wrap64 ((ji18) + 4))) = true := decide_eq_true c20
          by_cases c21 : (wrap64 ((ji18) + 4)) ≤ (l0.length : Int)
          ·rw [if_pos c21] at H
           have c21b0 := eq_true c21
           have c21b1 : decide ((wrap64 ((ji18) + 4)) ≤ (l0.length : Int)) = true := decide_eq_true c21
           replace H := Option.bind_eq_some_iff.mp H
           obtain ⟨⟨t108, t109⟩, A220, H⟩ := H
           try dsimp only at H
           have A22 := Aside0.mk A220
           clear A220
           have c23b0 := eq_true (of_decide_eq_true (by first | (with_reducible assumption) | assumption) : 0 ≤ (ji18))
           by_cases c24 : (ji18) ≤ (l0.length : Int)
           ·rw [if_pos c24] at H
            have c24b0 := eq_true c24
            have c24b1 : decide ((ji18) ≤ (l0.length : Int)) = true := decide_eq_true c24
            clear c24
            replace H := Option.bind_eq_some_iff.mp H
            obtain ⟨t111, A250, H⟩ := H
            try dsimp only at H
            have A25 := Aside0.mk A250
            clear A250
            by_cases c26 : ((t108) % 4294967296) = t111
            ·rw [if_pos c26] at H
             have c26b0 : (((t108) % 4294967296) == t111) = true := beq_iff_eq.mpr c26
             have c26b1 : (((t108) % 4294967296) != t111) = false := bne_eq_false_iff_eq.mpr c26
             clear c26
             by_cases c27 : 1 < (l0.length : Int)
             ·rw [if_pos c27] at H
              have c27b0 : decide (1 < (l0.length : Int)) = true := decide_eq_true c27
              have c27b1 : decide (1 < l0.length) = true := decide_eq_true (by omega)
              clear c27
              by_cases c28 : 4 ≤ (ji18)
              ·rw [if_pos c28] at H
               have c28b0 := eq_true c28
               have c28b1 : decide (4 ≤ (ji18)) = true := decide_eq_true c28
               clear c28
               have c29b0 := eq_true (of_decide_eq_true (by first | (with_reducible assumption) | assumption) : (ji18) ≤ (l0.length : Int))
               replace H := Option.bind_eq_some_iff.mp H
               obtain ⟨t114, A300, H⟩ := H
               replace H : (some (rd l0 1, t114, wrap64 ((ji18) + 4), 0)) = some (r1, r2, r3, r4) := H
               have A30 := Aside0.mk A300
               clear A300
               simp only [Option.some.injEq, Prod.mk.injEq] at H
               obtain ⟨rfl, rfl, rfl, rfl⟩ := H
               go_enter Try.func103, Try.ntmps103
               try go_wp2_with (first | ((with_reducible refine gate_dst (N := 2) rfl ?_); refine bx_ 2 #[.int .u8 0, .slice none 0 0] 117 ?_; intro gb102 hg w31 hbox hb; have BK102 := Aside0.mk (hbox); have GW102 := bG_ HB hg; have GE102 := bG_ HB hg; replace HB := bS_ HB hb; clear hb hbox hg; obtain ⟨i032, hi032, _, hsz32, _⟩ := info_parts info5; obtain ⟨A32, hcut32, hA32, hC32⟩ := print_mid_of (P := Try.prog) (Value.int .u8) 0 26 5 .i64 .i64 Try.underlying26 hi032 hsz32 A0 c0 l0 2 4 (by omega) (by first | omega | exact of_decide_eq_true (by first | (with_reducible assumption) | assumption)) (of_decide_eq_true (by first | (with_reducible assumption) | assumption)) HC0.out; have HR103 := Aside0.mk (Kd.C_of_reads (h1 := fun _ => rfl) (hA32 _ (Kd.reads_of_C HR0.out))); have HC103 := Aside0.mk hC32; clear hA32 hC32 hi032 hsz32) | ((with_reducible refine gate_callee (f := 83) rfl ?_); refine goesL_ (some 17) rfl rfl Try.func83 (by kernel_rfl) rfl #[.slice A32 ((l0.take 4).drop 2).length (c0 - 2)] rfl (by (try simp only [List.map_toArray, List.map_cons, List.map_nil]); first | done | (rw [show ((l0.take 4).drop 2).length = (4 - 2) from (by rw [List.length_drop, List.length_take]; have h_ : (4 : Int) ≤ (l0.length : Int) := of_decide_eq_true (by first | (with_reducible assumption) | assumption); omega)] <;> rfl) | rfl | (simp only [List.length_drop, List.length_take]; rfl)) ?_; (with_reducible refine (octets_Get.calls k _ _ ((l0.take 4).drop 2) t104 t105 _ ?_ ?_ A7.out).mono ?_); exact cB_ HR103 HB; exact HC103.out; rintro e w' ⟨rfl, ⟨nd, rfl⟩⟩; refine ⟨_, rfl, ?_⟩; (try (rw [drewN_self w31]; generalize hq_ : World.drewN w31 _ = w31; replace BK102 : Aside0 (w31.heap[gb102]? = some (.cells #[.int .u8 0, .slice none 0 0] 117 (0, 0))) := ⟨by rw [← hq_]; exact (bA_ BK102)⟩; replace HB : Aside0 (Below w.heap.size w w31) := ⟨by rw [← hq_]; exact (bl_ HB)⟩; clear hq_)); (try (rw [drewN_self w31]; generalize hq_ : World.drewN w31 _ = w31; replace BK102 : Aside0 (w31.heap[gb102]? = some (.cells #[.int .u8 0, .slice none 0 0] 117 (0, 0))) := ⟨by rw [← hq_]; exact (bA_ BK102)⟩; replace HB : Aside0 (Below w.heap.size w w31) := ⟨by rw [← hq_]; exact (bl_ HB)⟩; clear hq_)); have p106 : 0 ≤ (0 : Int) := (by omega); have q106 : 0 < (l0.length : Int) := of_decide_eq_true (by first | (with_reducible assumption) | assumption); obtain ⟨ad106, e106, hx106_0⟩ := Kd.at_int HR0.out 0 p106 q106; cases e106; have qi106 : (0 < l0.length) = True := eq_true (by omega); (try rw [show ((0 : Int)).toNat = 0 from rfl] at hx106_0); (try rw [Addr.add_zero'] at hx106_0); replace hx106_0 := (HB.out.cell (World.block_lt_of_cell? w _ hx106_0)).trans hx106_0; replace p106 := eq_true p106; replace q106 := eq_true q106; obtain ⟨i033, hi033, _, hsz33, _⟩ := info_parts info5; obtain ⟨A33, hcut33, hA33, hC33⟩ := print_mid_of (P := Try.prog) (Value.int .u8) 0 26 5 .i64 .i64 Try.underlying26 hi033 hsz33 (some ad106) c0 l0 (ji18) (wrap64 ((ji18) + 4)) (of_decide_eq_true (by first | (with_reducible assumption) | assumption)) (by first | omega | exact of_decide_eq_true (by first | (with_reducible assumption) | assumption)) (of_decide_eq_true (by first | (with_reducible assumption) | assumption)) HC0.out; have HR107 := Aside0.mk (Kd.C_of_reads (h1 := fun _ => rfl) (hA33 _ (Kd.reads_of_C HR0.out))); have HC107 := Aside0.mk hC33; clear hA33 hC33 hi033 hsz33) | ((with_reducible refine gate_callee (f := 83) rfl ?_); refine goesL_ (some 46) rfl rfl Try.func83 (by kernel_rfl) rfl #[.slice A33 ((l0.take ((wrap64 ((ji18) + 4)) : Int).toNat).drop ((ji18) : Int).toNat).length (c0 - (ji18).toNat)] rfl (by (try simp only [List.map_toArray, List.map_cons, List.map_nil]); first | done | (rw [show ((l0.take ((wrap64 ((ji18) + 4)) : Int).toNat).drop ((ji18) : Int).toNat).length = ((wrap64 ((ji18) + 4)).toNat - (ji18).toNat) from (by rw [List.length_drop, List.length_take]; have h_ : ((wrap64 ((ji18) + 4)) : Int) ≤ (l0.length : Int) := of_decide_eq_true (by first | (with_reducible assumption) | assumption); omega)] <;> rfl) | (simp only [hji18]; rfl) | rfl | (simp only [List.length_drop, List.length_take]; rfl)) ?_; (with_reducible refine (octets_Get.calls k _ _ ((l0.take ((wrap64 ((ji18) + 4)) : Int).toNat).drop ((ji18) : Int).toNat) t108 t109 _ ?_ ?_ A22.out).mono ?_); exact cB_ HR107 HB; exact HC107.out; rintro e w' ⟨rfl, ⟨nd, rfl⟩⟩; refine ⟨_, rfl, ?_⟩; (try (rw [drewN_self w31]; generalize hq_ : World.drewN w31 _ = w31; replace BK102 : Aside0 (w31.heap[gb102]? = some (.cells #[.int .u8 0, .slice none 0 0] 117 (0, 0))) := ⟨by rw [← hq_]; exact (bA_ BK102)⟩; replace HB : Aside0 (Below w.heap.size w w31) := ⟨by rw [← hq_]; exact (bl_ HB)⟩; clear hq_)); (try (rw [drewN_self w31]; generalize hq_ : World.drewN w31 _ = w31; replace BK102 : Aside0 (w31.heap[gb102]? = some (.cells #[.int .u8 0, .slice none 0 0] 117 (0, 0))) := ⟨by rw [← hq_]; exact (bA_ BK102)⟩; replace HB : Aside0 (Below w.heap.size w w31) := ⟨by rw [← hq_]; exact (bl_ HB)⟩; clear hq_)); obtain ⟨i034, hi034, _, hsz34, _⟩ := info_parts info5; obtain ⟨hcut34, hA34, hC34⟩ := print_take_of (P := Try.prog) (Value.int .u8) 0 26 5 .i64 Try.underlying26 hi034 hsz34 (some ad106) c0 l0 (ji18) (of_decide_eq_true (by first | (with_reducible assumption) | assumption)) (of_decide_eq_true (by first | (with_reducible assumption) | assumption)) HC0.out; have HR110 := Aside0.mk (Kd.C_of_reads (h1 := fun _ => rfl) (hA34 _ (Kd.reads_of_C HR0.out))); have HC110 := Aside0.mk hC34; clear hA34 hC34 hi034 hsz34) | ((with_reducible refine gate_callee (f := 93) rfl ?_); refine goesL_ (some 54) rfl rfl Try.func93 (by kernel_rfl) rfl #[.slice (some ad106) (l0.take ((ji18) : Int).toNat).length c0] rfl (by (try simp only [List.map_toArray, List.map_cons, List.map_nil]); first | done | (rw [show (l0.take ((ji18) : Int).toNat).length = (ji18).toNat from (by rw [List.length_take]; have h_ : ((ji18) : Int) ≤ (l0.length : Int) := of_decide_eq_true (by first | (with_reducible assumption) | assumption); omega)] <;> rfl) | (simp only [hji18]; rfl) | rfl | (simp only [List.length_drop, List.length_take]; rfl)) ?_; (with_reducible refine (crc_Sum.calls _ _ (l0.take ((ji18) : Int).toNat) t111 _ ?_ ?_ A25.out).mono ?_); exact cB_ HR110 HB; exact HC110.out; rintro e w35 ⟨rfl, hb⟩; refine ⟨_, rfl, ?_⟩; replace BK102 := bK_ BK102 hb; replace HB := bS_ HB hb; (try clear hb)))
               replace BK102 := Aside0.mk (blk_drew BK102.out)
               replace HB := Aside0.mk (below_drew1 HB.out)
               have p112 : 0 ≤ (1 : Int) := (by omega)
               have q112 : 1 < (l0.length : Int) := of_decide_eq_true (by first | (with_reducible assumption) | assumption)
               obtain ⟨ad112, e112, hx112_0⟩ := Kd.at_int HR0.out 1 p112 q112
               have hw112_0 := hx112_0
               (try rw [show ((1 : Int)).toNat = 1 from rfl] at hw112_0)
               (try rw [show 1 * 1 = 1 from rfl] at hw112_0)
               (try simp only [Nat.reduceMul, Nat.reduceEqDiff, Go.Addr.add, ↓reduceIte] at hw112_0)
               obtain rfl : ad106 = ad112 := (by injection e112)
               (try simp only [show (1 : Int).toNat = 1 from rfl, Nat.reduceMul, Nat.reduceEqDiff, Go.Addr.add, ↓reduceIte] at hx112_0)
               have qi112 : (1 < l0.length) = True := eq_true (by omega)
               (try rw [show ((1 : Int)).toNat = 1 from rfl] at hx112_0)
               replace hx112_0 := (HB.out.cell (World.block_lt_of_cell? w _ hx112_0)).trans hx112_0
               replace p112 := eq_true p112
               replace q112 := eq_true q112
               obtain ⟨i037, hi037, _, hsz37, _⟩ := info_parts info5
               obtain ⟨A37, hcut37, hA37, hC37⟩ := print_mid_of (P := Try.prog) (Value.int .u8) 0 26 5 .i64 .i64 Try.underlying26 hi037 hsz37 (some ad106) c0 l0 4 (ji18) (by omega) (by first | omega | exact of_decide_eq_true (by first | (with_reducible assumption) | assumption)) (of_decide_eq_true (by first | (with_reducible assumption) | assumption)) HC0.out
               have HR113 := Aside0.mk (Kd.C_of_reads (h1 := fun _ => rfl) (hA37 _ (Kd.reads_of_C HR0.out)))
               have HC113 := Aside0.mk hC37
               clear hA37 hC37 hi037 hsz37
               refine start_ (n := 13) (S := fun w' => w'.cell? ⟨ad106.block, ad106.off + 1, none⟩ = some (.int .u8 (rd l0 1))) (ds := []) #[false, false, false, false, false, false, false, false, false, false, false, false, false] (by kernel_rfl) rfl rfl (((HB.out.cell (World.block_lt_of_cell? w _ hw112_0)).trans hw112_0)) (fun hHeld => ?_); refine with_tabW frames_Open.tab14 frames_Open.bits14 (fun HT_ HW_ => ?_)
               generalize w35.drew = w36 at BK102 HB HR113 hx112_0 hHeld ⊢
               refine pu_ 0 (some 57) HT_ ?_
               refine pu_ 1 (some 58) HT_ ?_
               refine pu_ 3 (some 60) HT_ ?_
               refine pu_ 4 (some 61) HT_ ?_
               refine pu_ 5 (some 62) HT_ ?_
               refine pu_ 8 (some 65) HT_ ?_
               refine pu_ 9 (some 66) HT_ ?_
               refine take_ (i := 2) (N := some 59) (v := ?_) (a' := ?_) #[true, true, true, true, true, true, false, false, true, true, false, false, false] rfl rfl (take_ofW HT_.out HW_.out (by kernel_rfl)) (fun _ _ _ h => h) (Or.inl ⟨by rfl, ?_⟩) hHeld ?_ ?_
               rotate_left
               ·intro w' s0
                go_simp
                with_reducible rfl
               rotate_left
               ·simp only [Act.put, List.setIfInBounds_toArray, List.set_cons_zero, List.set_cons_succ, i64_w, i32_w]
                rfl
               refine on_ 6 (some 63) HT_ (fun K hK => ?_)
               refine goes_ Try.func75 (by kernel_rfl) rfl #[.slice A37 ((l0.take ((ji18) : Int).toNat).drop 4).length (c0 - 4)] (by rfl) rfl rfl (by (try simp only [List.map_toArray, List.map_cons, List.map_nil]); first | done | (rw [show ((l0.take ((ji18) : Int).toNat).drop 4).length = ((ji18).toNat - 4) from (by rw [List.length_drop, List.length_take]; have h_ : ((ji18) : Int) ≤ (l0.length : Int) := of_decide_eq_true (by first | (with_reducible assumption) | assumption); omega)] <;> rfl) | (simp only [hji18]; rfl) | rfl | (simp only [List.length_drop, List.length_take]; rfl)) ?_
               with_reducible refine (bytes_Clone.calls _ _ ((l0.take ((ji18) : Int).toNat).drop 4) t114 _ ?_ ?_ A30.out).mono ?_
               exact cB_ HR113 HB
               exact HC113.out
               rintro e w38 ⟨v115, rfl, ho0, hb⟩
               refine ⟨_, rfl, ?_⟩
               have HO116 := Aside0.mk (Kd.R_lower ho0 (bs_ HB))
               replace BK102 := bK_ BK102 hb
               replace HB := bS_ HB hb
               (try clear hb ho0)
               obtain ⟨Ao39, co39, eo39⟩ := Kd.R_slice HO116.out
               (first | subst eo39 | (injection eo39 with f1_ f2_ f3_; have f4_ := f1_.symm; have f5_ := f3_.symm; clear f1_ f2_ f3_; subst f4_; subst f5_))
               refine hK.out _ _ (((HB.out.cell (World.block_lt_of_cell? w _ hw112_0)).trans hw112_0)) (fun hHeld => ?_)
               clear hK K
               refine norm_ (a' := ?_) ?_ ?_
               rotate_left
               ·show Act.put _ (some 63) _ = _
                simp only [Act.put, List.setIfInBounds_toArray, List.set_cons_zero, List.set_cons_succ, i64_w, i32_w]
                rfl
               refine pu_ 7 (some 64) HT_ ?_
               refine on_ 10 none HT_ (fun K hK => ?_)
               have hs40 : w38.cell? ⟨gb102, 0, none⟩ = some (.int .u8 0) := (blk_cell BK102.out 0).trans rfl
               have hfs40 := blk_frozen BK102.out 0
               have hs41 : w38.cell? ⟨gb102, 1, none⟩ = some (.slice none 0 0) := (blk_cell BK102.out 1).trans rfl
               have hfs41 := blk_frozen BK102.out 1
               refine skip_ (w1 := ?_) (by rfl) rfl ?_ ?_
               rotate_left
               ·go_simp
                rfl
               refine hK.out _ _ (((cell_far (p := ⟨gb102, _, none⟩) (by first | exact Nat.ne_of_lt (Nat.lt_of_lt_of_le (by have := World.block_lt_of_cell? _ _ hw112_0; first | rwa [add_block] at this | exact this) GW102.out) | (rw [add_block]; exact Nat.ne_of_lt (Nat.lt_of_lt_of_le (by have := World.block_lt_of_cell? _ _ hw112_0; first | rwa [add_block] at this | exact this) GW102.out)) | (show (Addr.add _ _).block ≠ _; rw [add_block]; exact Nat.ne_of_lt (Nat.lt_of_lt_of_le (by have := World.block_lt_of_cell? _ _ hw112_0; first | rwa [add_block] at this | exact this) GW102.out)) | (dsimp only; exact Nat.ne_of_lt (Nat.lt_of_lt_of_le (by have := World.block_lt_of_cell? _ _ hw112_0; first | rwa [add_block] at this | exact this) GW102.out))) _).trans (((cell_far (p := ⟨gb102, _, none⟩) (by first | exact Nat.ne_of_lt (Nat.lt_of_lt_of_le (by have := World.block_lt_of_cell? _ _ hw112_0; first | rwa [add_block] at this | exact this) GW102.out) | (rw [add_block]; exact Nat.ne_of_lt (Nat.lt_of_lt_of_le (by have := World.block_lt_of_cell? _ _ hw112_0; first | rwa [add_block] at this | exact this) GW102.out)) | (show (Addr.add _ _).block ≠ _; rw [add_block]; exact Nat.ne_of_lt (Nat.lt_of_lt_of_le (by have := World.block_lt_of_cell? _ _ hw112_0; first | rwa [add_block] at this | exact this) GW102.out)) | (dsimp only; exact Nat.ne_of_lt (Nat.lt_of_lt_of_le (by have := World.block_lt_of_cell? _ _ hw112_0; first | rwa [add_block] at this | exact this) GW102.out))) _).trans (hHeld))))) (fun hHeld => ?_)
               clear hK K
               refine pu_ 11 (some 3) HT_ ?_
               refine pu_ 12 (some 4) HT_ ?_
               refine done_ (done_of HT_.out (by kernel_rfl)) ?_
               try go_wp2
               refine bodyPost_ret (results_ctt rfl _ _ gb102 117 #[.int .u8 (rd l0 1), .slice Ao39 t114.length co39] (0, 0) _ rfl (by (with_reducible repeat (first | refine blk_drewN ?_ _ | refine blk_drew ?_ | refine blk_alloc ?_ _)); refine blk_put (cs := #[.int .u8 (rd l0 1), .slice none 0 0]) ?_ 1 _ rfl; (with_reducible repeat (first | refine blk_drewN ?_ _ | refine blk_drew ?_ | refine blk_alloc ?_ _)); refine blk_put (cs := #[.int .u8 0, .slice none 0 0]) ?_ 0 _ rfl; (with_reducible repeat (first | refine blk_drewN ?_ _ | refine blk_drew ?_ | refine blk_alloc ?_ _)); exact BK102.out) Try.underlying117 rfl (by kernel_rfl)) rfl ?_
               exact ⟨_, by first | rfl | (simp [errW_none, errW_some] <;> rfl) | (simp only [← hji18]; first | rfl | (simp [errW_none, errW_some] <;> rfl)) | (simp [*, errW_none, errW_some] <;> rfl), by (with_reducible repeat (first | apply Kd.R_alloc | apply Kd.R_drewN | apply Kd.R_drew)); exact Kd.R_mono (Kd.R_far (p := ⟨gb102, 1, none⟩) (Kd.R_far (p := ⟨gb102, 0, none⟩) (Kd.R_types HO116.out BK102.out (by decide)) (fun _ hk => hk.2) (.int .u8 (rd l0 1))) (fun _ hk => hk.2) (.slice Ao39 t114.length co39)) (fun _ hk => trivial), bl_ HB⟩
              ·rw [if_neg c28] at H
               exact absurd H (by simp)
             ·rw [if_neg c27] at H
              exact absurd H (by simp)
            ·rw [if_neg c26] at H
             have c26b0 : (((t108) % 4294967296) == t111) = false := beq_eq_false_iff_ne.mpr c26
             have c26b1 : (((t108) % 4294967296) != t111) = true := bne_iff_ne.mpr c26
             simp only [Option.some.injEq, Prod.mk.injEq] at H
             obtain ⟨rfl, rfl, rfl, rfl⟩ := H
             go_enter Try.func103, Try.ntmps103
             go_wp2_with (first | ((with_reducible refine gate_dst (N := 2) rfl ?_); refine bx_ 2 #[.int .u8 0, .slice none 0 0] 117 ?_; intro gb102 hg w42 hbox hb; have BK102 := Aside0.mk (hbox); have GW102 := bG_ HB hg; have GE102 := bG_ HB hg; replace HB := bS_ HB hb; clear hb hbox hg; obtain ⟨i043, hi043, _, hsz43, _⟩ := info_parts info5; obtain ⟨A43, hcut43, hA43, hC43⟩ := print_mid_of (P := Try.prog) (Value.int .u8) 0 26 5 .i64 .i64 Try.underlying26 hi043 hsz43 A0 c0 l0 2 4 (by omega) (by first | omega | exact of_decide_eq_true (by first | (with_reducible assumption) | assumption)) (of_decide_eq_true (by first | (with_reducible assumption) | assumption)) HC0.out; have HR103 := Aside0.mk (Kd.C_of_reads (h1 := fun _ => rfl) (hA43 _ (Kd.reads_of_C HR0.out))); have HC103 := Aside0.mk hC43; clear hA43 hC43 hi043 hsz43) | ((with_reducible refine gate_callee (f := 83) rfl ?_); refine goesL_ (some 17) rfl rfl Try.func83 (by kernel_rfl) rfl #[.slice A43 ((l0.take 4).drop 2).length (c0 - 2)] rfl (by (try simp only [List.map_toArray, List.map_cons, List.map_nil]); first | done | (rw [show ((l0.take 4).drop 2).length = (4 - 2) from (by rw [List.length_drop, List.length_take]; have h_ : (4 : Int) ≤ (l0.length : Int) := of_decide_eq_true (by first | (with_reducible assumption) | assumption); omega)] <;> rfl) | rfl | (simp only [List.length_drop, List.length_take]; rfl)) ?_; (with_reducible refine (octets_Get.calls k _ _ ((l0.take 4).drop 2) t104 t105 _ ?_ ?_ A7.out).mono ?_); exact cB_ HR103 HB; exact HC103.out; rintro e w' ⟨rfl, ⟨nd, rfl⟩⟩; refine ⟨_, rfl, ?_⟩; (try (rw [drewN_self w42]; generalize hq_ : World.drewN w42 _ = w42; replace BK102 : Aside0 (w42.heap[gb102]? = some (.cells #[.int .u8 0, .slice none 0 0] 117 (0, 0))) := ⟨by rw [← hq_]; exact (bA_ BK102)⟩; replace HB : Aside0 (Below w.heap.size w w42) := ⟨by rw [← hq_]; exact (bl_ HB)⟩; clear hq_)); (try (rw [drewN_self w42]; generalize hq_ : World.drewN w42 _ = w42; replace BK102 : Aside0 (w42.heap[gb102]? = some (.cells #[.int .u8 0, .slice none 0 0] 117 (0, 0))) := ⟨by rw [← hq_]; exact (bA_ BK102)⟩; replace HB : Aside0 (Below w.heap.size w w42) := ⟨by rw [← hq_]; exact (bl_ HB)⟩; clear hq_)); have p106 : 0 ≤ (0 : Int) := (by omega); have q106 : 0 < (l0.length : Int) := of_decide_eq_true (by first | (with_reducible assumption) | assumption); obtain ⟨ad106, e106, hx106_0⟩ := Kd.at_int HR0.out 0 p106 q106; cases e106; have qi106 : (0 < l0.length) = True := eq_true (by omega); (try rw [show ((0 : Int)).toNat = 0 from rfl] at hx106_0); (try rw [Addr.add_zero'] at hx106_0); replace hx106_0 := (HB.out.cell (World.block_lt_of_cell? w _ hx106_0)).trans hx106_0; replace p106 := eq_true p106; replace q106 := eq_true q106; obtain ⟨i044, hi044, _, hsz44, _⟩ := info_parts info5; obtain ⟨A44, hcut44, hA44, hC44⟩ := print_mid_of (P := Try.prog) (Value.int .u8) 0 26 5 .i64 .i64 Try.underlying26 hi044 hsz44 (some ad106) c0 l0 (ji18) (wrap64 ((ji18) + 4)) (of_decide_eq_true (by first | (with_reducible assumption) | assumption)) (by first | omega | exact of_decide_eq_true (by first | (with_reducible assumption) | assumption)) (of_decide_eq_true (by first | (with_reducible assumption) | assumption)) HC0.out; have HR107 := Aside0.mk (Kd.C_of_reads (h1 := fun _ => rfl) (hA44 _ (Kd.reads_of_C HR0.out))); have HC107 := Aside0.mk hC44; clear hA44 hC44 hi044 hsz44) | ((with_reducible refine gate_callee (f := 83) rfl ?_); refine goesL_ (some 46) rfl rfl Try.func83 (by kernel_rfl) rfl #[.slice A44 ((l0.take ((wrap64 ((ji18) + 4)) : Int).toNat).drop ((ji18) : Int).toNat).length (c0 - (ji18).toNat)] rfl (by (try simp only [List.map_toArray, List.map_cons, List.map_nil]); first | done | (rw [show ((l0.take ((wrap64 ((ji18) + 4)) : Int).toNat).drop ((ji18) : Int).toNat).length = ((wrap64 ((ji18) + 4)).toNat - (ji18).toNat) from (by rw [List.length_drop, List.length_take]; have h_ : ((wrap64 ((ji18) + 4)) : Int) ≤ (l0.length : Int) := of_decide_eq_true (by first | (with_reducible assumption) | assumption); omega)] <;> rfl) | (simp only [hji18]; rfl) | rfl | (simp only [List.length_drop, List.length_take]; rfl)) ?_; (with_reducible refine (octets_Get.calls k _ _ ((l0.take ((wrap64 ((ji18) + 4)) : Int).toNat).drop ((ji18) : Int).toNat) t108 t109 _ ?_ ?_ A22.out).mono ?_); exact cB_ HR107 HB; exact HC107.out; rintro e w' ⟨rfl, ⟨nd, rfl⟩⟩; refine ⟨_, rfl, ?_⟩; (try (rw [drewN_self w42]; generalize hq_ : World.drewN w42 _ = w42; replace BK102 : Aside0 (w42.heap[gb102]? = some (.cells #[.int .u8 0, .slice none 0 0] 117 (0, 0))) := ⟨by rw [← hq_]; exact (bA_ BK102)⟩; replace HB : Aside0 (Below w.heap.size w w42) := ⟨by rw [← hq_]; exact (bl_ HB)⟩; clear hq_)); (try (rw [drewN_self w42]; generalize hq_ : World.drewN w42 _ = w42; replace BK102 : Aside0 (w42.heap[gb102]? = some (.cells #[.int .u8 0, .slice none 0 0] 117 (0, 0))) := ⟨by rw [← hq_]; exact (bA_ BK102)⟩; replace HB : Aside0 (Below w.heap.size w w42) := ⟨by rw [← hq_]; exact (bl_ HB)⟩; clear hq_)); obtain ⟨i045, hi045, _, hsz45, _⟩ := info_parts info5; obtain ⟨hcut45, hA45, hC45⟩ := print_take_of (P := Try.prog) (Value.int .u8) 0 26 5 .i64 Try.underlying26 hi045 hsz45 (some ad106) c0 l0 (ji18) (of_decide_eq_true (by first | (with_reducible assumption) | assumption)) (of_decide_eq_true (by first | (with_reducible assumption) | assumption)) HC0.out; have HR110 := Aside0.mk (Kd.C_of_reads (h1 := fun _ => rfl) (hA45 _ (Kd.reads_of_C HR0.out))); have HC110 := Aside0.mk hC45; clear hA45 hC45 hi045 hsz45) | ((with_reducible refine gate_callee (f := 93) rfl ?_); refine goesL_ (some 54) rfl rfl Try.func93 (by kernel_rfl) rfl #[.slice (some ad106) (l0.take ((ji18) : Int).toNat).length c0] rfl (by (try simp only [List.map_toArray, List.map_cons, List.map_nil]); first | done | (rw [show (l0.take ((ji18) : Int).toNat).length = (ji18).toNat from (by rw [List.length_take]; have h_ : ((ji18) : Int) ≤ (l0.length : Int) := of_decide_eq_true (by first | (with_reducible assumption) | assumption); omega)] <;> rfl) | (simp only [hji18]; rfl) | rfl | (simp only [List.length_drop, List.length_take]; rfl)) ?_; (with_reducible refine (crc_Sum.calls _ _ (l0.take ((ji18) : Int).toNat) t111 _ ?_ ?_ A25.out).mono ?_); exact cB_ HR110 HB; exact HC110.out; rintro e w46 ⟨rfl, hb⟩; refine ⟨_, rfl, ?_⟩; replace BK102 := bK_ BK102 hb; replace HB := bS_ HB hb; (try clear hb); obtain ⟨hcz47_0, hcz47_1, hfz47_0, hfz47_1⟩ := cz2_ BK102))
             refine bodyPost_ret (results_ctt rfl _ _ gb102 117 #[.int .u8 0, .slice none 0 0] (0, 0) _ rfl (by (with_reducible repeat (first | refine blk_drewN ?_ _ | refine blk_drew ?_ | refine blk_alloc ?_ _)); refine blk_put (cs := #[.int .u8 0, .slice none 0 0]) ?_ 1 _ rfl; (with_reducible repeat (first | refine blk_drewN ?_ _ | refine blk_drew ?_ | refine blk_alloc ?_ _)); refine blk_put (cs := #[.int .u8 0, .slice none 0 0]) ?_ 0 _ rfl; (with_reducible repeat (first | refine blk_drewN ?_ _ | refine blk_drew ?_ | refine blk_alloc ?_ _)); exact BK102.out) Try.underlying117 rfl (by kernel_rfl)) rfl ?_
             exact ⟨_, by first | rfl | (simp [errW_none, errW_some] <;> rfl) | (simp only [← hji18]; first | rfl | (simp [errW_none, errW_some] <;> rfl)) | (simp [*, errW_none, errW_some] <;> rfl), nil_, bl_ HB⟩
           ·rw [if_neg c24] at H
            exact absurd H (by simp)
          ·rw [if_neg c21] at H
           exact absurd H (by simp)
         ·rw [if_neg c20] at H
          exact absurd H (by simp)
        ·rw [if_neg c19] at H
         exact absurd H (by simp)
     ·rw [if_neg c9] at H
      have c9b0 : ((rd l0 0) == 167) = false := beq_eq_false_iff_ne.mpr c9
      have c9b1 : ((rd l0 0) != 167) = true := bne_iff_ne.mpr c9
      simp only [Option.some.injEq, Prod.mk.injEq] at H
      obtain ⟨rfl, rfl, rfl, rfl⟩ := H
      go_enter Try.func103, Try.ntmps103
      go_wp2_with (first | ((with_reducible refine gate_dst (N := 2) rfl ?_); refine bx_ 2 #[.int .u8 0, .slice none 0 0] 117 ?_; intro gb102 hg w48 hbox hb; have BK102 := Aside0.mk (hbox); have GW102 := bG_ HB hg; have GE102 := bG_ HB hg; replace HB := bS_ HB hb; clear hb hbox hg; obtain ⟨i049, hi049, _, hsz49, _⟩ := info_parts info5; obtain ⟨A49, hcut49, hA49, hC49⟩ := print_mid_of (P := Try.prog) (Value.int .u8) 0 26 5 .i64 .i64 Try.underlying26 hi049 hsz49 A0 c0 l0 2 4 (by omega) (by first | omega | exact of_decide_eq_true (by first | (with_reducible assumption) | assumption)) (of_decide_eq_true (by first | (with_reducible assumption) | assumption)) HC0.out; have HR103 := Aside0.mk (Kd.C_of_reads (h1 := fun _ => rfl) (hA49 _ (Kd.reads_of_C HR0.out))); have HC103 := Aside0.mk hC49; clear hA49 hC49 hi049 hsz49) | ((with_reducible refine gate_callee (f := 83) rfl ?_); refine goesL_ (some 17) rfl rfl Try.func83 (by kernel_rfl) rfl #[.slice A49 ((l0.take 4).drop 2).length (c0 - 2)] rfl (by (try simp only [List.map_toArray, List.map_cons, List.map_nil]); first | done | (rw [show ((l0.take 4).drop 2).length = (4 - 2) from (by rw [List.length_drop, List.length_take]; have h_ : (4 : Int) ≤ (l0.length : Int) := of_decide_eq_true (by first | (with_reducible assumption) | assumption); omega)] <;> rfl) | rfl | (simp only [List.length_drop, List.length_take]; rfl)) ?_; (with_reducible refine (octets_Get.calls k _ _ ((l0.take 4).drop 2) t104 t105 _ ?_ ?_ A7.out).mono ?_); exact cB_ HR103 HB; exact HC103.out; rintro e w' ⟨rfl, ⟨nd, rfl⟩⟩; refine ⟨_, rfl, ?_⟩; (try (rw [drewN_self w48]; generalize hq_ : World.drewN w48 _ = w48; replace BK102 : Aside0 (w48.heap[gb102]? = some (.cells #[.int .u8 0, .slice none 0 0] 117 (0, 0))) := ⟨by rw [← hq_]; exact (bA_ BK102)⟩; replace HB : Aside0 (Below w.heap.size w w48) := ⟨by rw [← hq_]; exact (bl_ HB)⟩; clear hq_)); (try (rw [drewN_self w48]; generalize hq_ : World.drewN w48 _ = w48; replace BK102 : Aside0 (w48.heap[gb102]? = some (.cells #[.int .u8 0, .slice none 0 0] 117 (0, 0))) := ⟨by rw [← hq_]; exact (bA_ BK102)⟩; replace HB : Aside0 (Below w.heap.size w w48) := ⟨by rw [← hq_]; exact (bl_ HB)⟩; clear hq_)); have p106 : 0 ≤ (0 : Int) := (by omega); have q106 : 0 < (l0.length : Int) := of_decide_eq_true (by first | (with_reducible assumption) | assumption); obtain ⟨ad106, e106, hx106_0⟩ := Kd.at_int HR0.out 0 p106 q106; cases e106; have qi106 : (0 < l0.length) = True := eq_true (by omega); (try rw [show ((0 : Int)).toNat = 0 from rfl] at hx106_0); (try rw [Addr.add_zero'] at hx106_0); replace hx106_0 := (HB.out.cell (World.block_lt_of_cell? w _ hx106_0)).trans hx106_0; replace p106 := eq_true p106; replace q106 := eq_true q106; obtain ⟨hcz50_0, hcz50_1, hfz50_0, hfz50_1⟩ := cz2_ BK102))
      refine bodyPost_ret (results_ctt rfl _ _ gb102 117 #[.int .u8 0, .slice none 0 0] (0, 0) _ rfl (by (with_reducible repeat (first | refine blk_drewN ?_ _ | refine blk_drew ?_ | refine blk_alloc ?_ _)); refine blk_put (cs := #[.int .u8 0, .slice none 0 0]) ?_ 1 _ rfl; (with_reducible repeat (first | refine blk_drewN ?_ _ | refine blk_drew ?_ | refine blk_alloc ?_ _)); refine blk_put (cs := #[.int .u8 0, .slice none 0 0]) ?_ 0 _ rfl; (with_reducible repeat (first | refine blk_drewN ?_ _ | refine blk_drew ?_ | refine blk_alloc ?_ _)); exact BK102.out) Try.underlying117 rfl (by kernel_rfl)) rfl ?_
      exact ⟨_, fin_, nil_, bl_ HB⟩
    ·rw [if_neg c8] at H
     exact absurd H (by simp)
   ·rw [if_neg c6] at H
    exact absurd H (by simp)
  ·rw [if_neg c5] at H
   exact absurd H (by simp)
end Go.Proofs.Ytooabchnbmnchaa.Q
