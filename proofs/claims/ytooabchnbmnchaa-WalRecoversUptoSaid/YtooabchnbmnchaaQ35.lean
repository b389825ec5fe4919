-- Laid by this session's own program (wip/tools) out of the translation; Lean checks it. Thinned, shortened and merged for this claim.
import Derived.Test.YtooabchnbmnchaaQ0
import Derived.Test.YtooabchnbmnchaaSq
import Derived.Test.YtooabchnbmnchaaQ27
namespace Go.Proofs.Ytooabchnbmnchaa.Q
open Go.RowKit Go.Proofs.YtooabchnbmnchaaW.PrintWords Go.Proofs.YtooabchnbmnchaaW.PrintLast Go.Proofs.YtooabchnbmnchaaW.PrintMore
attribute [local go_sem] max2_int min2_int max_two min_two max_three min_three max_four min_four binOp_string_leq binOp_string_geq binOp_string_gtr   -- for this text's walks alone
set_option linter.unusedVariables false
set_option linter.unusedSimpArgs false
def transeptref02_turn.l0 : Nat → Int → Int → Option (Int)
 | 0, _, _ => none
 | k + 1, x0, x5 => if x5 < 8 then (if (Go.bits .and .u32 x0 1) = 1 then (transeptref02_turn.l0 k (Go.bits .xor .u32 (x0 / 2) 2197175160) (wrap64 (x5 + 1))) else (transeptref02_turn.l0 k (x0 / 2) (wrap64 (x5 + 1)))) else (some x0)
def transeptref02_turn.f (k : Nat) (a0 : Int) (a1 : Int) : Option (Int) := transeptref02_turn.l0 k (Go.bits .xor .u32 a0 ((a1) % 4294967296)) 0
theorem transeptref02_turn.mono_l : ∀ k, (∀ y0 y1, LeO (transeptref02_turn.l0 k y0 y1) (transeptref02_turn.l0 (k + 1) y0 y1))
 | 0 => fun _ _ r h => by simp [transeptref02_turn.l0] at h
 | k + 1 => by
  have ih0 := transeptref02_turn.mono_l k
  ·intro y0 y1
   unfold transeptref02_turn.l0
   repeat' first
   | (with_reducible exact ih0 _ _)
   | (with_reducible exact LeO.refl _)
   | (with_reducible exact LeO.none _)
   | (with_reducible refine LeO.ite ?_ ?_)
   | (with_reducible refine LeO.bind ?_ (fun _ => ?_))
   | exact ih0 _ _
   | exact LeO.none _
   | refine LeO.ite ?_ ?_
   | refine LeO.bind ?_ (fun _ => ?_)
theorem transeptref02_turn.mono : ∀ a0 a1 k, LeO (transeptref02_turn.f k a0 a1) (transeptref02_turn.f (k + 1) a0 a1) := by
 intro a0 a1 k
 have ih0 := transeptref02_turn.mono_l k
 unfold transeptref02_turn.f
 repeat' first
   | (with_reducible exact ih0 _ _)
   | (with_reducible exact LeO.refl _)
   | (with_reducible exact LeO.none _)
   | (with_reducible refine LeO.ite ?_ ?_)
   | (with_reducible refine LeO.bind ?_ (fun _ => ?_))
   | exact ih0 _ _
   | exact LeO.none _
   | refine LeO.ite ?_ ?_
   | refine LeO.bind ?_ (fun _ => ?_)
set_option maxHeartbeats 8000000 in
set_option maxRecDepth 100000 in
theorem transeptref02_turn.calls (k : Nat) (a0 : Int) (a1 : Int) (r : Int) (w : World) (h : transeptref02_turn.f k a0 a1 = some r) :
  Calls Try.prog 109 #[.int .u32 a0, .int .u8 a1] w fun e w' => e = .returned (.int .u32 r) ∧ Drawn0 w w' := by
 have H : (transeptref02_turn.l0 k (Go.bits .xor .u32 a0 ((a1) % 4294967296)) 0) = some r := h
 clear h
 have H' := Aside0.mk H
 clear H
 go_enter Try.func109, Try.ntmps109
 go_wp2
 go_loopg [0, 5] k (fun kq v0 v5 w' => ∃ (x0_1 : Int) (x5_1 : Int), v0 = .int .u32 x0_1 ∧ v5 = .int .i64 x5_1 ∧ Aside0 (transeptref02_turn.l0 kq x0_1 x5_1 = some r) ∧ Aside0 (kq ≤ k) ∧ Drawn0 w w')
 case atStart => exact ⟨(Go.bits .xor .u32 a0 ((a1) % 4294967296)), (0), (by first | rfl | (simp; done) | (simp [*]; done)), (by first | rfl | (simp; done) | (simp [*]; done)), H', ⟨Nat.le_refl _⟩, by repeat (first | exact Drawn0.refl _ | apply Drawn0.step)⟩
 case round =>
  clear H'
  try clear c1
  try clear p2
  obtain ⟨x0_1, x5_1, rfl, rfl, HA, HK1, ⟨m1, rfl⟩⟩ := hrel
  cases gk with
  | zero => exact absurd HA.out (by simp [transeptref02_turn.l0])
  | succ k1 =>
   have H := HA.out
   clear HA
   simp only [transeptref02_turn.l0] at H
   by_cases c3 : x5_1 < 8
   ·rw [if_pos c3] at H
    have c3b0 : decide (x5_1 < 8) = true := decide_eq_true c3
    clear c3
    by_cases c4 : (Go.bits .and .u32 x0_1 1) = 1
    ·rw [if_pos c4] at H
     have c4b0 : ((Go.bits .and .u32 x0_1 1) == 1) = true := beq_iff_eq.mpr c4
     have c4b1 : ((Go.bits .and .u32 x0_1 1) != 1) = false := bne_eq_false_iff_eq.mpr c4
     clear c4
     have H' := Aside0.mk H
     clear H
     go_wp2
     go_roundg k1
     case measure => have := HK1.out; omega
     case rel => exact ⟨(Go.bits .xor .u32 (x0_1 / 2) 2197175160), (wrap64 (x5_1 + 1)), (by first | rfl | (simp; done) | (simp [*]; done)), (by first | rfl | (simp; done) | (simp [*]; done)), H', ⟨by have := HK1.out; omega⟩, by repeat (first | exact Drawn0.refl _ | apply Drawn0.step)⟩
    ·rw [if_neg c4] at H
     have c4b0 : ((Go.bits .and .u32 x0_1 1) == 1) = false := beq_eq_false_iff_ne.mpr c4
     have c4b1 : ((Go.bits .and .u32 x0_1 1) != 1) = true := bne_iff_ne.mpr c4
     have H' := Aside0.mk H
     clear H
     go_wp2
     go_roundg k1
     case measure => have := HK1.out; omega
     case rel => exact ⟨(x0_1 / 2), (wrap64 (x5_1 + 1)), (by first | rfl | (simp; done) | (simp [*]; done)), (by first | rfl | (simp; done) | (simp [*]; done)), H', ⟨by have := HK1.out; omega⟩, by repeat (first | exact Drawn0.refl _ | apply Drawn0.step)⟩
   ·rw [if_neg c3] at H
    have c3b0 : decide (x5_1 < 8) = false := decide_eq_false c3
    clear c3
    obtain rfl := Option.some.inj H
    go_wp2
    go_ret
    exact ⟨by first | rfl | (simp; done) | (simp [*]; done), by repeat (first | exact Drawn0.refl _ | apply Drawn0.step)⟩
end Go.Proofs.Ytooabchnbmnchaa.Q
namespace Go.Proofs.Ytooabchnbmnchaa.Q
open Go.RowKit Go.Proofs.YtooabchnbmnchaaW.PrintWords Go.Proofs.YtooabchnbmnchaaW.PrintLast Go.Proofs.YtooabchnbmnchaaW.PrintMore
attribute [local go_sem] max2_int min2_int max_two min_two max_three min_three max_four min_four binOp_string_leq binOp_string_geq binOp_string_gtr   -- for this text's walks alone
set_option linter.unusedVariables false
set_option linter.unusedSimpArgs false
def transeptref02_Extend.l0 : Nat → Int → List Int → Int → Option (Int)
 | 0, _, _, _ => none
 | k + 1, x0, x1, x5 => if x5 < (x1.length : Int) then (if 0 ≤ x5 then ((transeptref02_turn.f k x0 (rd x1 x5)).bind fun t219 => (transeptref02_Extend.l0 k t219 x1 (wrap64 (x5 + 1)))) else (none)) else (some (Go.bits .xor .u32 4294967295 x0))
def transeptref02_Extend.f (k : Nat) (a0 : Int) (l1 : List Int) : Option (Int) := transeptref02_Extend.l0 k (Go.bits .xor .u32 4294967295 a0) l1 0
theorem transeptref02_Extend.mono_l : ∀ k, (∀ y0 y1 y2, LeO (transeptref02_Extend.l0 k y0 y1 y2) (transeptref02_Extend.l0 (k + 1) y0 y1 y2))
 | 0 => fun _ _ _ r h => by simp [transeptref02_Extend.l0] at h
 | k + 1 => by
  have ih0 := transeptref02_Extend.mono_l k
  ·intro y0 y1 y2
   unfold transeptref02_Extend.l0
   repeat' first
   | (with_reducible exact ih0 _ _ _)
   | (with_reducible exact transeptref02_turn.mono _ _ _)
   | (with_reducible exact LeO.refl _)
   | (with_reducible exact LeO.none _)
   | (with_reducible refine LeO.ite ?_ ?_)
   | (with_reducible refine LeO.bind ?_ (fun _ => ?_))
   | exact ih0 _ _ _
   | exact transeptref02_turn.mono _ _ _
   | exact LeO.none _
   | refine LeO.ite ?_ ?_
   | refine LeO.bind ?_ (fun _ => ?_)
theorem transeptref02_Extend.mono : ∀ a0 a1 k, LeO (transeptref02_Extend.f k a0 a1) (transeptref02_Extend.f (k + 1) a0 a1) := by
 intro a0 a1 k
 have ih0 := transeptref02_Extend.mono_l k
 unfold transeptref02_Extend.f
 repeat' first
   | (with_reducible exact ih0 _ _ _)
   | (with_reducible exact transeptref02_turn.mono _ _ _)
   | (with_reducible exact LeO.refl _)
   | (with_reducible exact LeO.none _)
   | (with_reducible refine LeO.ite ?_ ?_)
   | (with_reducible refine LeO.bind ?_ (fun _ => ?_))
   | exact ih0 _ _ _
   | exact transeptref02_turn.mono _ _ _
   | exact LeO.none _
   | refine LeO.ite ?_ ?_
   | refine LeO.bind ?_ (fun _ => ?_)
set_option maxHeartbeats 8000000 in
set_option maxRecDepth 100000 in
theorem transeptref02_Extend.calls (k : Nat) (a0 : Int) (A1 : Option Addr) (c1 : Nat) (l1 : List Int) (r : Int) (w : World) (hr1 : Kd.C (Kd.int .u8) w A1 l1.length l1) (hc1 : l1.length ≤ c1) (h : transeptref02_Extend.f k a0 l1 = some r) :
  Calls Try.prog 107 #[.int .u32 a0, .slice A1 l1.length c1] w fun e w' => e = .returned (.int .u32 r) ∧ Drawn0 w w' := by
 have HR1 := Aside0.mk hr1
 have HC1 := Aside0.mk hc1
 clear hr1 hc1
 have H : (transeptref02_Extend.l0 k (Go.bits .xor .u32 4294967295 a0) l1 0) = some r := h
 clear h
 have H' := Aside0.mk H
 clear H
 go_enter Try.func107, Try.ntmps107
 go_wp2
 go_loopg [0, 5] k (fun kq v0 v5 w' => ∃ (x0_1 : Int) (x5_1 : Int), v0 = .int .u32 x0_1 ∧ v5 = .int .i64 x5_1 ∧ Aside0 (transeptref02_Extend.l0 kq x0_1 l1 x5_1 = some r) ∧ Aside0 (kq ≤ k) ∧ Drawn0 w w')
 case atStart => exact ⟨(Go.bits .xor .u32 4294967295 a0), (0), (by first | rfl | (simp; done) | (simp [*]; done)), (by first | rfl | (simp; done) | (simp [*]; done)), H', ⟨Nat.le_refl _⟩, by repeat (first | exact Drawn0.refl _ | apply Drawn0.step)⟩
 case round =>
  clear H'
  try clear c1
  try clear p2
  obtain ⟨x0_1, x5_1, rfl, rfl, HA, HK1, ⟨m1, rfl⟩⟩ := hrel
  cases gk with
  | zero => exact absurd HA.out (by simp [transeptref02_Extend.l0])
  | succ k1 =>
   have H := HA.out
   clear HA
   simp only [transeptref02_Extend.l0] at H
   by_cases c3 : x5_1 < (l1.length : Int)
   ·rw [if_pos c3] at H
    have c3b0 : decide (x5_1 < (l1.length : Int)) = true := decide_eq_true c3
    clear c3
    by_cases c4 : 0 ≤ x5_1
    ·rw [if_pos c4] at H
     have c4b0 : decide (0 ≤ x5_1) = true := decide_eq_true c4
     clear c4
     replace H := Option.bind_eq_some_iff.mp H
     obtain ⟨t219, A50, H⟩ := H
     replace H : (transeptref02_Extend.l0 k1 t219 l1 (wrap64 (x5_1 + 1))) = some r := H
     have A5 := Aside0.mk A50
     clear A50
     have H' := Aside0.mk H
     clear H
     have p218 : 0 ≤ (x5_1 : Int) := of_decide_eq_true (by first | (with_reducible assumption) | assumption)
     have q218 : x5_1 < (l1.length : Int) := of_decide_eq_true (by first | (with_reducible assumption) | assumption)
     obtain ⟨ad218, e218, hx218_0⟩ := Kd.at_int HR1.out x5_1 p218 q218
     cases e218
     replace p218 := eq_true p218
     replace q218 := eq_true q218
     go_wp2_with (first | ((with_reducible refine gate_callee (f := 109) rfl ?_); refine gL_ (some 19) Try.func109 #[.int .u32 x0_1, .int .u8 (rd l1 x5_1)] ?_; (with_reducible refine (transeptref02_turn.calls k1 x0_1 (rd l1 x5_1) t219 _ A5.out).mono ?_); rintro e w' ⟨rfl, ⟨nd, rfl⟩⟩; refine ⟨_, rfl, ?_⟩))
     go_roundg k1
     case measure => have := HK1.out; omega
     case rel => exact ⟨(t219), (wrap64 (x5_1 + 1)), (by first | rfl | (simp; done) | (simp [*]; done)), (by first | rfl | (simp; done) | (simp [*]; done)), H', ⟨by have := HK1.out; omega⟩, by repeat (first | exact Drawn0.refl _ | apply Drawn0.step)⟩
    ·rw [if_neg c4] at H
     exact absurd H (by simp)
   ·rw [if_neg c3] at H
    have c3b0 : decide (x5_1 < (l1.length : Int)) = false := decide_eq_false c3
    clear c3
    obtain rfl := Option.some.inj H
    go_wp2
    go_ret
    exact ⟨by first | rfl | (simp; done) | (simp [*]; done), by repeat (first | exact Drawn0.refl _ | apply Drawn0.step)⟩
end Go.Proofs.Ytooabchnbmnchaa.Q
namespace Go.Proofs.Ytooabchnbmnchaa.Q
open Go.RowKit Go.Proofs.YtooabchnbmnchaaW.PrintWords Go.Proofs.YtooabchnbmnchaaW.PrintLast Go.Proofs.YtooabchnbmnchaaW.PrintMore
attribute [local go_sem] max2_int min2_int max_two min_two max_three min_three max_four min_four binOp_string_leq binOp_string_geq binOp_string_gtr   -- for this text's walks alone
set_option linter.unusedVariables false
set_option linter.unusedSimpArgs false
def transeptref02_Sum.f (k : Nat) (l0 : List Int) : Option (Int) := (transeptref02_Extend.f k 0 l0).bind fun t220 => (some t220)
theorem transeptref02_Sum.mono : ∀ a0 k, LeO (transeptref02_Sum.f k a0) (transeptref02_Sum.f (k + 1) a0) := by
 intro a0 k
 unfold transeptref02_Sum.f
 repeat' first
   | (with_reducible exact transeptref02_Extend.mono _ _ _)
   | (with_reducible exact LeO.refl _)
   | (with_reducible exact LeO.none _)
   | (with_reducible refine LeO.ite ?_ ?_)
   | (with_reducible refine LeO.bind ?_ (fun _ => ?_))
   | exact transeptref02_Extend.mono _ _ _
   | exact LeO.none _
   | refine LeO.ite ?_ ?_
   | refine LeO.bind ?_ (fun _ => ?_)
set_option maxHeartbeats 8000000 in
set_option maxRecDepth 100000 in
theorem transeptref02_Sum.calls (k : Nat) (A0 : Option Addr) (c0 : Nat) (l0 : List Int) (r : Int) (w : World) (hr0 : Kd.C (Kd.int .u8) w A0 l0.length l0) (hc0 : l0.length ≤ c0) (h : transeptref02_Sum.f k l0 = some r) :
  Calls Try.prog 105 #[.slice A0 l0.length c0] w fun e w' => e = .returned (.int .u32 r) ∧ Drawn0 w w' := by
 have HR0 := Aside0.mk hr0
 have HC0 := Aside0.mk hc0
 clear hr0 hc0
 have H : ((transeptref02_Extend.f k 0 l0).bind fun t220 => (some t220)) = some r := h
 clear h
 replace H := Option.bind_eq_some_iff.mp H
 obtain ⟨t220, A20, H⟩ := H
 replace H : (some t220) = some r := H
 have A2 := Aside0.mk A20
 clear A20
 obtain rfl := Option.some.inj H
 go_enter Try.func105, Try.ntmps105
 go_wp2_with (first | ((with_reducible refine gate_callee (f := 107) rfl ?_); refine gL_ (some 4) Try.func107 #[.int .u32 0, .slice A0 l0.length c0] ?_; (with_reducible refine (transeptref02_Extend.calls k 0 _ _ l0 t220 _ ?_ ?_ A2.out).mono ?_); exact cO_ HR0.out; exact HC0.out; rintro e w' ⟨rfl, ⟨nd, rfl⟩⟩; refine ⟨_, rfl, ?_⟩))
 go_ret
 exact ⟨by first | rfl | (simp; done) | (simp [*]; done), by repeat (first | exact Drawn0.refl _ | apply Drawn0.step)⟩
end Go.Proofs.Ytooabchnbmnchaa.Q
namespace Go.Proofs.Ytooabchnbmnchaa.Q
open Go.RowKit Go.Proofs.YtooabchnbmnchaaW.PrintWords Go.Proofs.YtooabchnbmnchaaW.PrintLast Go.Proofs.YtooabchnbmnchaaW.PrintMore
attribute [local go_sem] max2_int min2_int max_two min_two max_three min_three max_four min_four binOp_string_leq binOp_string_geq binOp_string_gtr   -- for this text's walks alone
set_option linter.unusedVariables false
set_option linter.unusedSimpArgs false
def transeptref03_Open.f (k : Nat) (l0 : List Int) : Option (Int × List Int × Int × Int) := if (l0.length : Int) < 8 then (some (0, ([] : List Int), 0, 8)) else (if 2 < (l0.length : Int) then (if 3 < (l0.length : Int) then (if 0 < (l0.length : Int) then (if (rd l0 0) = 167 then (if (Go.bits .or .i64 (wrap64 ((wrap64 (rd l0 2)) * 256)) (wrap64 (rd l0 3))) > 4096 then (some (0, ([] : List Int), 0, 5)) else (if (l0.length : Int) < (wrap64 ((Go.bits .or .i64 (wrap64 ((wrap64 (rd l0 2)) * 256)) (wrap64 (rd l0 3))) + 8)) then (some (0, ([] : List Int), 0, 8)) else (if 0 ≤ (wrap64 ((Go.bits .or .i64 (wrap64 ((wrap64 (rd l0 2)) * 256)) (wrap64 (rd l0 3))) + 4)) then (if (wrap64 ((Go.bits .or .i64 (wrap64 ((wrap64 (rd l0 2)) * 256)) (wrap64 (rd l0 3))) + 4)) ≤ (wrap64 ((Go.bits .or .i64 (wrap64 ((wrap64 (rd l0 2)) * 256)) (wrap64 (rd l0 3))) + 8)) then (if (wrap64 ((Go.bits .or .i64 (wrap64 ((wrap64 (rd l0 2)) * 256)) (wrap64 (rd l0 3))) + 8)) ≤ (l0.length : Int) then ((transeptref01_Number.f k ((l0.take ((wrap64 ((Go.bits .or .i64 (wrap64 ((wrap64 (rd l0 2)) * 256)) (wrap64 (rd l0 3))) + 8)) : Int).toNat).drop ((wrap64 ((Go.bits .or .i64 (wrap64 ((wrap64 (rd l0 2)) * 256)) (wrap64 (rd l0 3))) + 4)) : Int).toNat)).bind fun t226 => (if (wrap64 ((Go.bits .or .i64 (wrap64 ((wrap64 (rd l0 2)) * 256)) (wrap64 (rd l0 3))) + 4)) ≤ (l0.length : Int) then ((transeptref02_Sum.f k (l0.take ((wrap64 ((Go.bits .or .i64 (wrap64 ((wrap64 (rd l0 2)) * 256)) (wrap64 (rd l0 3))) + 4)) : Int).toNat)).bind fun t228 => (if t226 = (IntKind.u64.wrap (t228)) then (if 1 < (l0.length : Int) then (if 4 ≤ (wrap64 ((Go.bits .or .i64 (wrap64 ((wrap64 (rd l0 2)) * 256)) (wrap64 (rd l0 3))) + 4)) then ((transeptref03_Copied.f ((l0.take ((wrap64 ((Go.bits .or .i64 (wrap64 ((wrap64 (rd l0 2)) * 256)) (wrap64 (rd l0 3))) + 4)) : Int).toNat).drop 4)).bind fun t231 => (some (rd l0 1, t231, wrap64 ((Go.bits .or .i64 (wrap64 ((wrap64 (rd l0 2)) * 256)) (wrap64 (rd l0 3))) + 8), 0))) else (none)) else (none)) else (some (0, ([] : List Int), 0, 21)))) else (none))) else (none)) else (none)) else (none)))) else (some (0, ([] : List Int), 0, 22))) else (none)) else (none)) else (none))
theorem transeptref03_Open.mono : ∀ a0 k, LeO (transeptref03_Open.f k a0) (transeptref03_Open.f (k + 1) a0) := by
 intro a0 k
 unfold transeptref03_Open.f
 repeat' first
   | (with_reducible exact transeptref01_Number.mono _ _)
   | (with_reducible exact transeptref02_Sum.mono _ _)
   | (with_reducible exact LeO.refl _)
   | (with_reducible exact LeO.none _)
   | (with_reducible refine LeO.ite ?_ ?_)
   | (with_reducible refine LeO.bind ?_ (fun _ => ?_))
   | exact transeptref01_Number.mono _ _
   | exact transeptref02_Sum.mono _ _
   | exact LeO.none _
   | refine LeO.ite ?_ ?_
   | refine LeO.bind ?_ (fun _ => ?_)
def transeptref03_Open.T3 : Bool × List (List Nat × List Nat) := (true, [([], []), ([0], [0]), ([1], [1]), ([2], [2]), ([3], [3]), ([], []), ([5], [5]), ([6], [6]), ([7], [7]), ([4, 8], [4, 8]), ([9, 0, 1, 2, 3, 4, 5, 6, 7, 8, 9], [9])])
def transeptref03_Open.B3 : List Nat := [0, 1, 3, 7, 15, 0, 32, 96, 224, 511, 1023]
theorem transeptref03_Open.tab3 : rtab .any (opsOf Try.f98 3) = transeptref03_Open.T3 := by kernel_rfl
theorem transeptref03_Open.bits3 : waitsOk transeptref03_Open.T3.2 transeptref03_Open.B3 = true := by kernel_rfl
def transeptref03_Open.T10 : Bool × List (List Nat × List Nat) := (true, [([], []), ([], []), ([1], [1]), ([], []), ([3], [3]), ([0, 2, 4], [0, 2, 4]), ([5], [5]), ([], []), ([], []), ([8], [8]), ([7, 9], [7, 9]), ([10, 6], [10]), ([11], [11]), ([6, 12], [6, 12]), ([13, 11], [13])])
def transeptref03_Open.B10 : List Nat := [0, 0, 2, 0, 8, 31, 63, 0, 0, 256, 896, 2047, 4095, 8191, 16383]
theorem transeptref03_Open.tab10 : rtab .any (opsOf Try.f98 10) = transeptref03_Open.T10 := by kernel_rfl
theorem transeptref03_Open.bits10 : waitsOk transeptref03_Open.T10.2 transeptref03_Open.B10 = true := by kernel_rfl
def transeptref03_Open.T12 : Bool × List (List Nat × List Nat) := (true, [([], []), ([0], [0]), ([1], [1]), ([], []), ([], []), ([4], [4]), ([3, 5], [3, 5]), ([6], [6]), ([2, 7], [2, 7]), ([], []), ([9], [9]), ([8, 7, 0, 1, 2, 3, 4, 5, 6, 7, 8], [8]), ([10, 11, 0, 1, 2, 3, 4, 5, 6, 7, 8, 9, 10, 11], [10]), ([12, 0, 1, 2, 3, 4, 5, 6, 7, 8, 9, 10, 11, 12], [])])
def transeptref03_Open.B12 : List Nat := [0, 1, 3, 0, 0, 16, 56, 120, 255, 0, 512, 511, 4095, 8191]
theorem transeptref03_Open.tab12 : rtab .any (opsOf Try.f98 12) = transeptref03_Open.T12 := by kernel_rfl
theorem transeptref03_Open.bits12 : waitsOk transeptref03_Open.T12.2 transeptref03_Open.B12 = true := by kernel_rfl
set_option maxHeartbeats 8000000 in
set_option maxRecDepth 100000 in
theorem transeptref03_Open.calls (k : Nat) (A0 : Option Addr) (c0 : Nat) (l0 : List Int) (r1 : Int) (r2 : List Int) (r3 : Int) (r4 : Int) (w : World) (hr0 : Kd.C (Kd.int .u8) w A0 l0.length l0) (hc0 : l0.length ≤ c0) (h : transeptref03_Open.f k l0 = some (r1, r2, r3, r4)) :
  Calls Try.prog 98 #[.slice A0 l0.length c0] w fun e w' => ∃ v1_ : Value, e = .returned (.tuple #[.agg #[.int .u8 r1, v1_], .int .i64 r3, .int .i64 r4]) ∧ Kd.R (Kd.int .u8) 5 w' w.heap.size (fun _ => True) v1_ r2 ∧ Below w.heap.size w w' := by
 have hu134 := Try.underlying134
 have HR0 := Aside0.mk hr0
 have HC0 := Aside0.mk hc0
 clear hr0 hc0
 have HB := Aside0.mk (Below.refl w.heap.size w)
 have H : (if (l0.length : Int) < 8 then (some (0, ([] : List Int), 0, 8)) else (if 2 < (l0.length : Int) then (if 3 < (l0.length : Int) then (if 0 < (l0.length : Int) then (if (rd l0 0) = 167 then (if (Go.bits .or .i64 (wrap64 ((wrap64 (rd l0 2)) * 256)) (wrap64 (rd l0 3))) > 4096 then (some (0, ([] : List Int), 0, 5)) else (if (l0.length : Int) < (wrap64 ((Go.bits .or .i64 (wrap64 ((wrap64 (rd l0 2)) * 256)) (wrap64 (rd l0 3))) + 8)) then (some (0, ([] : List Int), 0, 8)) else (if 0 ≤ (wrap64 ((Go.bits .or .i64 (wrap64 ((wrap64 (rd l0 2)) * 256)) (wrap64 (rd l0 3))) + 4)) then (if (wrap64 ((Go.bits .or .i64 (wrap64 ((wrap64 (rd l0 2)) * 256)) (wrap64 (rd l0 3))) + 4)) ≤ (wrap64 ((Go.bits .or .i64 (wrap64 ((wrap64 (rd l0 2)) * 256)) (wrap64 (rd l0 3))) + 8)) then (if (wrap64 ((Go.bits .or .i64 (wrap64 ((wrap64 (rd l0 2)) * 256)) (wrap64 (rd l0 3))) + 8)) ≤ (l0.length : Int) then ((transeptref01_Number.f k ((l0.take ((wrap64 ((Go.bits .or .i64 (wrap64 ((wrap64 (rd l0 2)) * 256)) (wrap64 (rd l0 3))) + 8)) : Int).toNat).drop ((wrap64 ((Go.bits .or .i64 (wrap64 ((wrap64 (rd l0 2)) * 256)) (wrap64 (rd l0 3))) + 4)) : Int).toNat)).bind fun t226 => (if (wrap64 ((Go.bits .or .i64 (wrap64 ((wrap64 (rd l0 2)) * 256)) (wrap64 (rd l0 3))) + 4)) ≤ (l0.length : Int) then ((transeptref02_Sum.f k (l0.take ((wrap64 ((Go.bits .or .i64 (wrap64 ((wrap64 (rd l0 2)) * 256)) (wrap64 (rd l0 3))) + 4)) : Int).toNat)).bind fun t228 => (if t226 = (IntKind.u64.wrap (t228)) then (if 1 < (l0.length : Int) then (if 4 ≤ (wrap64 ((Go.bits .or .i64 (wrap64 ((wrap64 (rd l0 2)) * 256)) (wrap64 (rd l0 3))) + 4)) then ((transeptref03_Copied.f ((l0.take ((wrap64 ((Go.bits .or .i64 (wrap64 ((wrap64 (rd l0 2)) * 256)) (wrap64 (rd l0 3))) + 4)) : Int).toNat).drop 4)).bind fun t231 => (some (rd l0 1, t231, wrap64 ((Go.bits .or .i64 (wrap64 ((wrap64 (rd l0 2)) * 256)) (wrap64 (rd l0 3))) + 8), 0))) else (none)) else (none)) else (some (0, ([] : List Int), 0, 21)))) else (none))) else (none)) else (none)) else (none)))) else (some (0, ([] : List Int), 0, 22))) else (none)) else (none)) else (none))) = some (r1, r2, r3, r4) := h
 clear h
 by_cases c2 : (l0.length : Int) < 8
 ·rw [if_pos c2] at H
  have c2b0 : decide ((l0.length : Int) < 8) = true := decide_eq_true c2
  have c2b1 : decide (l0.length < 8) = true := decide_eq_true (by omega)
  clear c2
  simp only [Option.some.injEq, Prod.mk.injEq] at H
  obtain ⟨rfl, rfl, rfl, rfl⟩ := H
  go_enter Try.func98, Try.ntmps98
  go_wp2_with (first | ((with_reducible refine gate_dst (N := 2) rfl ?_); refine bx_ 2 #[.int .u8 0, .slice none 0 0] 134 ?_; intro gb221 hg w3 hbox hb; have BK221 := Aside0.mk (hbox); have GW221 := bG_ HB hg; have GE221 := bG_ HB hg; replace HB := bS_ HB hb; clear hb hbox hg; obtain ⟨hcz4_0, hcz4_1, hfz4_0, hfz4_1⟩ := cz2_ BK221))
  refine bodyPost_ret (results_ctt rfl _ _ gb221 134 #[.int .u8 0, .slice none 0 0] (0, 0) _ rfl (by (with_reducible repeat (first | refine blk_drewN ?_ _ | refine blk_drew ?_ | refine blk_alloc ?_ _)); refine blk_put (cs := #[.int .u8 0, .slice none 0 0]) ?_ 1 _ rfl; (with_reducible repeat (first | refine blk_drewN ?_ _ | refine blk_drew ?_ | refine blk_alloc ?_ _)); refine blk_put (cs := #[.int .u8 0, .slice none 0 0]) ?_ 0 _ rfl; (with_reducible repeat (first | refine blk_drewN ?_ _ | refine blk_drew ?_ | refine blk_alloc ?_ _)); exact BK221.out) Try.underlying134 rfl (by kernel_rfl)) rfl ?_
  exact ⟨_, fin_, nil_, bl_ HB⟩
 ·rw [if_neg c2] at H
  have c2b0 : decide ((l0.length : Int) < 8) = false := decide_eq_false c2
  have c2b1 : decide (l0.length < 8) = false := decide_eq_false (by omega)
  clear c2
  by_cases c5 : 2 < (l0.length : Int)
  ·rw [if_pos c5] at H
   have c5b0 : decide (2 < (l0.length : Int)) = true := decide_eq_true c5
   have c5b1 : decide (2 < l0.length) = true := decide_eq_true (by omega)
   clear c5
   by_cases c6 : 3 < (l0.length : Int)
   ·rw [if_pos c6] at H
    have c6b0 : decide (3 < (l0.length : Int)) = true := decide_eq_true c6
    have c6b1 : decide (3 < l0.length) = true := decide_eq_true (by omega)
    clear c6
    by_cases c7 : 0 < (l0.length : Int)
    ·rw [if_pos c7] at H
     have c7b0 : decide (0 < (l0.length : Int)) = true := decide_eq_true c7
     have c7b1 : decide (0 < l0.length) = true := decide_eq_true (by omega)
     clear c7
     by_cases c8 : (rd l0 0) = 167
     ·rw [if_pos c8] at H
      have c8b0 : ((rd l0 0) == 167) = true := beq_iff_eq.mpr c8
      have c8b1 : ((rd l0 0) != 167) = false := bne_eq_false_iff_eq.mpr c8
      clear c8
      by_cases c9 : (Go.bits .or .i64 (wrap64 ((wrap64 (rd l0 2)) * 256)) (wrap64 (rd l0 3))) > 4096
      ·rw [if_pos c9] at H
       have c9b0 : decide (4096 < (Go.bits .or .i64 (wrap64 ((wrap64 (rd l0 2)) * 256)) (wrap64 (rd l0 3)))) = true := decide_eq_true c9
       clear c9
       simp only [Option.some.injEq, Prod.mk.injEq] at H
       obtain ⟨rfl, rfl, rfl, rfl⟩ := H
       go_enter Try.func98, Try.ntmps98
       try go_wp2_with (first | ((with_reducible refine gate_dst (N := 2) rfl ?_); refine bx_ 2 #[.int .u8 0, .slice none 0 0] 134 ?_; intro gb221 hg w10 hbox hb; have BK221 := Aside0.mk (hbox); have GW221 := bG_ HB hg; have GE221 := bG_ HB hg; replace HB := bS_ HB hb; clear hb hbox hg))
       replace BK221 := Aside0.mk (blk_drew BK221.out)
       replace HB := Aside0.mk (below_drew1 HB.out)
       have p222 : 0 ≤ (2 : Int) := (by omega)
       have q222 : 2 < (l0.length : Int) := of_decide_eq_true (by first | (with_reducible assumption) | assumption)
       obtain ⟨ad222, e222, hx222_0⟩ := Kd.at_int HR0.out 2 p222 q222
       have hw222_0 := hx222_0
       (try rw [show ((2 : Int)).toNat = 2 from rfl] at hw222_0)
       (try rw [show 2 * 1 = 2 from rfl] at hw222_0)
       (try simp only [Nat.reduceMul, Nat.reduceEqDiff, Go.Addr.add, ↓reduceIte] at hw222_0)
       cases e222
       (try simp only [show (2 : Int).toNat = 2 from rfl, Nat.reduceMul, Nat.reduceEqDiff, Go.Addr.add, ↓reduceIte] at hx222_0)
       have qi222 : (2 < l0.length) = True := eq_true (by omega)
       (try rw [show ((2 : Int)).toNat = 2 from rfl] at hx222_0)
       replace hx222_0 := (HB.out.cell (World.block_lt_of_cell? w _ hx222_0)).trans hx222_0
       replace p222 := eq_true p222
       replace q222 := eq_true q222
       have p223 : 0 ≤ (3 : Int) := (by omega)
       have q223 : 3 < (l0.length : Int) := of_decide_eq_true (by first | (with_reducible assumption) | assumption)
       obtain ⟨ad223, e223, hx223_0⟩ := Kd.at_int HR0.out 3 p223 q223
       have hw223_0 := hx223_0
       (try rw [show ((3 : Int)).toNat = 3 from rfl] at hw223_0)
       (try rw [show 3 * 1 = 3 from rfl] at hw223_0)
       (try simp only [Nat.reduceMul, Nat.reduceEqDiff, Go.Addr.add, ↓reduceIte] at hw223_0)
       obtain rfl : ad222 = ad223 := (by injection e223)
       (try simp only [show (3 : Int).toNat = 3 from rfl, Nat.reduceMul, Nat.reduceEqDiff, Go.Addr.add, ↓reduceIte] at hx223_0)
       have qi223 : (3 < l0.length) = True := eq_true (by omega)
       (try rw [show ((3 : Int)).toNat = 3 from rfl] at hx223_0)
       replace hx223_0 := (HB.out.cell (World.block_lt_of_cell? w _ hx223_0)).trans hx223_0
       replace p223 := eq_true p223
       replace q223 := eq_true q223
       refine start_ (n := 11) (S := fun w' => w'.cell? ⟨ad222.block, ad222.off + 2, none⟩ = some (.int .u8 (rd l0 2)) ∧ w'.cell? ⟨ad222.block, ad222.off + 3, none⟩ = some (.int .u8 (rd l0 3))) (ds := []) #[false, false, false, false, false, false, false, false, false, false, false] (by kernel_rfl) rfl rfl ⟨((HB.out.cell (World.block_lt_of_cell? w _ hw222_0)).trans hw222_0), ((HB.out.cell (World.block_lt_of_cell? w _ hw223_0)).trans hw223_0)⟩ (fun hHeld => ?_); refine with_tabW transeptref03_Open.tab3 transeptref03_Open.bits3 (fun HT_ HW_ => ?_)
       generalize w10.drew = w11 at BK221 HB hx222_0 hx223_0 hHeld ⊢
       refine pu_ 0 (some 10) HT_ ?_
       refine pu_ 1 (some 11) HT_ ?_
       refine pu_ 5 (some 15) HT_ ?_
       refine pu_ 6 (some 16) HT_ ?_
       refine tk_ 2 (some 12) HT_ HW_ hHeld ?_
       refine pu_ 3 (some 13) HT_ ?_
       refine pu_ 4 (some 14) HT_ ?_
       refine tk_ 7 (some 17) HT_ HW_ hHeld ?_
       refine pu_ 8 (some 18) HT_ ?_
       refine pu_ 9 (some 19) HT_ ?_
       refine pu_ 10 (some 5) HT_ ?_
       refine done_ (done_of HT_.out (by kernel_rfl)) ?_
       have p224 : 0 ≤ (0 : Int) := (by omega)
       have q224 : 0 < (l0.length : Int) := of_decide_eq_true (by first | (with_reducible assumption) | assumption)
       obtain ⟨ad224, e224, hx224_0⟩ := Kd.at_int HR0.out 0 p224 q224
       obtain rfl : ad222 = ad224 := (by injection e224)
       have qi224 : (0 < l0.length) = True := eq_true (by omega)
       (try rw [show ((0 : Int)).toNat = 0 from rfl] at hx224_0)
       (try rw [Addr.add_zero'] at hx224_0)
       replace hx224_0 := (HB.out.cell (World.block_lt_of_cell? w _ hx224_0)).trans hx224_0
       replace p224 := eq_true p224
       replace q224 := eq_true q224
       obtain ⟨hcz12_0, hcz12_1, hfz12_0, hfz12_1⟩ := cz2_ BK221
       try go_wp2
       refine bodyPost_ret (results_ctt rfl _ _ gb221 134 #[.int .u8 0, .slice none 0 0] (0, 0) _ rfl (by (with_reducible repeat (first | refine blk_drewN ?_ _ | refine blk_drew ?_ | refine blk_alloc ?_ _)); refine blk_put (cs := #[.int .u8 0, .slice none 0 0]) ?_ 1 _ rfl; (with_reducible repeat (first | refine blk_drewN ?_ _ | refine blk_drew ?_ | refine blk_alloc ?_ _)); refine blk_put (cs := #[.int .u8 0, .slice none 0 0]) ?_ 0 _ rfl; (with_reducible repeat (first | refine blk_drewN ?_ _ | refine blk_drew ?_ | refine blk_alloc ?_ _)); exact BK221.out) Try.underlying134 rfl (by kernel_rfl)) rfl ?_
       exact ⟨_, fin_, nil_, bl_ HB⟩
      ·rw [if_neg c9] at H
       have c9b0 : decide (4096 < (Go.bits .or .i64 (wrap64 ((wrap64 (rd l0 2)) * 256)) (wrap64 (rd l0 3)))) = false := decide_eq_false c9
       clear c9
       by_cases c13 : (l0.length : Int) < (wrap64 ((Go.bits .or .i64 (wrap64 ((wrap64 (rd l0 2)) * 256)) (wrap64 (rd l0 3))) + 8))
       ·rw [if_pos c13] at H
        have c13b0 : decide ((l0.length : Int) < (wrap64 ((Go.bits .or .i64 (wrap64 ((wrap64 (rd l0 2)) * 256)) (wrap64 (rd l0 3))) + 8))) = true := decide_eq_true c13
        clear c13
        simp only [Option.some.injEq, Prod.mk.injEq] at H
        obtain ⟨rfl, rfl, rfl, rfl⟩ := H
        go_enter Try.func98, Try.ntmps98
        try go_wp2_with (first | ((with_reducible refine gate_dst (N := 2) rfl ?_); refine bx_ 2 #[.int .u8 0, .slice none 0 0] 134 ?_; intro gb221 hg w14 hbox hb; have BK221 := Aside0.mk (hbox); have GW221 := bG_ HB hg; have GE221 := bG_ HB hg; replace HB := bS_ HB hb; clear hb hbox hg))
        replace BK221 := Aside0.mk (blk_drew BK221.out)
        replace HB := Aside0.mk (below_drew1 HB.out)
        have p222 : 0 ≤ (2 : Int) := (by omega)
        have q222 : 2 < (l0.length : Int) := of_decide_eq_true (by first | (with_reducible assumption) | assumption)
        obtain ⟨ad222, e222, hx222_0⟩ := Kd.at_int HR0.out 2 p222 q222
        have hw222_0 := hx222_0
        (try rw [show ((2 : Int)).toNat = 2 from rfl] at hw222_0)
        (try rw [show 2 * 1 = 2 from rfl] at hw222_0)
        (try simp only [Nat.reduceMul, Nat.reduceEqDiff, Go.Addr.add, ↓reduceIte] at hw222_0)
        cases e222
        (try simp only [show (2 : Int).toNat = 2 from rfl, Nat.reduceMul, Nat.reduceEqDiff, Go.Addr.add, ↓reduceIte] at hx222_0)
        have qi222 : (2 < l0.length) = True := eq_true (by omega)
        (try rw [show ((2 : Int)).toNat = 2 from rfl] at hx222_0)
        replace hx222_0 := (HB.out.cell (World.block_lt_of_cell? w _ hx222_0)).trans hx222_0
        replace p222 := eq_true p222
        replace q222 := eq_true q222
        have p223 : 0 ≤ (3 : Int) := (by omega)
        have q223 : 3 < (l0.length : Int) := of_decide_eq_true (by first | (with_reducible assumption) | assumption)
        obtain ⟨ad223, e223, hx223_0⟩ := Kd.at_int HR0.out 3 p223 q223
        have hw223_0 := hx223_0
        (try rw [show ((3 : Int)).toNat = 3 from rfl] at hw223_0)
        (try rw [show 3 * 1 = 3 from rfl] at hw223_0)
        (try simp only [Nat.reduceMul, Nat.reduceEqDiff, Go.Addr.add, ↓reduceIte] at hw223_0)
        obtain rfl : ad222 = ad223 := (by injection e223)
        (try simp only [show (3 : Int).toNat = 3 from rfl, Nat.reduceMul, Nat.reduceEqDiff, Go.Addr.add, ↓reduceIte] at hx223_0)
        have qi223 : (3 < l0.length) = True := eq_true (by omega)
        (try rw [show ((3 : Int)).toNat = 3 from rfl] at hx223_0)
        replace hx223_0 := (HB.out.cell (World.block_lt_of_cell? w _ hx223_0)).trans hx223_0
        replace p223 := eq_true p223
        replace q223 := eq_true q223
        refine start_ (n := 11) (S := fun w' => w'.cell? ⟨ad222.block, ad222.off + 2, none⟩ = some (.int .u8 (rd l0 2)) ∧ w'.cell? ⟨ad222.block, ad222.off + 3, none⟩ = some (.int .u8 (rd l0 3))) (ds := []) #[false, false, false, false, false, false, false, false, false, false, false] (by kernel_rfl) rfl rfl ⟨((HB.out.cell (World.block_lt_of_cell? w _ hw222_0)).trans hw222_0), ((HB.out.cell (World.block_lt_of_cell? w _ hw223_0)).trans hw223_0)⟩ (fun hHeld => ?_); refine with_tabW transeptref03_Open.tab3 transeptref03_Open.bits3 (fun HT_ HW_ => ?_)
        generalize w14.drew = w15 at BK221 HB hx222_0 hx223_0 hHeld ⊢
        refine pu_ 0 (some 10) HT_ ?_
        refine pu_ 1 (some 11) HT_ ?_
        refine pu_ 5 (some 15) HT_ ?_
        refine pu_ 6 (some 16) HT_ ?_
        refine tk_ 2 (some 12) HT_ HW_ hHeld ?_
        refine pu_ 3 (some 13) HT_ ?_
        refine pu_ 4 (some 14) HT_ ?_
        refine tk_ 7 (some 17) HT_ HW_ hHeld ?_
        refine pu_ 8 (some 18) HT_ ?_
        refine pu_ 9 (some 19) HT_ ?_
        refine pu_ 10 (some 5) HT_ ?_
        refine done_ (done_of HT_.out (by kernel_rfl)) ?_
        have p224 : 0 ≤ (0 : Int) := (by omega)
        have q224 : 0 < (l0.length : Int) := of_decide_eq_true (by first | (with_reducible assumption) | assumption)
        obtain ⟨ad224, e224, hx224_0⟩ := Kd.at_int HR0.out 0 p224 q224
        obtain rfl : ad222 = ad224 := (by injection e224)
        have qi224 : (0 < l0.length) = True := eq_true (by omega)
        (try rw [show ((0 : Int)).toNat = 0 from rfl] at hx224_0)
        (try rw [Addr.add_zero'] at hx224_0)
        replace hx224_0 := (HB.out.cell (World.block_lt_of_cell? w _ hx224_0)).trans hx224_0
        replace p224 := eq_true p224
        replace q224 := eq_true q224
        obtain ⟨hcz16_0, hcz16_1, hfz16_0, hfz16_1⟩ := cz2_ BK221
        try go_wp2
        refine bodyPost_ret (results_ctt rfl _ _ gb221 134 #[.int .u8 0, .slice none 0 0] (0, 0) _ rfl (by (with_reducible repeat (first | refine blk_drewN ?_ _ | refine blk_drew ?_ | refine blk_alloc ?_ _)); refine blk_put (cs := #[.int .u8 0, .slice none 0 0]) ?_ 1 _ rfl; (with_reducible repeat (first | refine blk_drewN ?_ _ | refine blk_drew ?_ | refine blk_alloc ?_ _)); refine blk_put (cs := #[.int .u8 0, .slice none 0 0]) ?_ 0 _ rfl; (with_reducible repeat (first | refine blk_drewN ?_ _ | refine blk_drew ?_ | refine blk_alloc ?_ _)); exact BK221.out) Try.underlying134 rfl (by kernel_rfl)) rfl ?_
        exact ⟨_, fin_, nil_, bl_ HB⟩
       ·rw [if_neg c13] at H
        have c13b0 : decide ((l0.length : Int) < (wrap64 ((Go.bits .or .i64 (wrap64 ((wrap64 (rd l0 2)) * 256)) (wrap64 (rd l0 3))) + 8))) = false := decide_eq_false c13
        clear c13
        obtain ⟨ji17, hji17⟩ : ∃ j_ : Int, (wrap64 ((Go.bits .or .i64 (wrap64 ((wrap64 (rd l0 2)) * 256)) (wrap64 (rd l0 3))) + 4)) = j_ := ⟨_, rfl⟩
        replace H : (if 0 ≤ (ji17) then (if (ji17) ≤ (wrap64 ((Go.bits .or .i64 (wrap64 ((wrap64 (rd l0 2)) * 256)) (wrap64 (rd l0 3))) + 8)) then (if (wrap64 ((Go.bits .or .i64 (wrap64 ((wrap64 (rd l0 2)) * 256)) (wrap64 (rd l0 3))) + 8)) ≤ (l0.length : Int) then ((transeptref01_Number.f k ((l0.take ((wrap64 ((Go.bits .or .i64 (wrap64 ((wrap64 (rd l0 2)) * 256)) (wrap64 (rd l0 3))) + 8)) : Int).toNat).drop ((ji17) : Int).toNat)).bind fun t226 => (if (ji17) ≤ (l0.length : Int) then ((transeptref02_Sum.f k (l0.take ((ji17) : Int).toNat)).bind fun t228 => (if t226 = (IntKind.u64.wrap (t228)) then (if 1 < (l0.length : Int) then (if 4 ≤ (ji17) then ((transeptref03_Copied.f ((l0.take ((ji17) : Int).toNat).drop 4)).bind fun t231 => (some (rd l0 1, t231, wrap64 ((Go.bits .or .i64 (wrap64 ((wrap64 (rd l0 2)) * 256)) (wrap64 (rd l0 3))) + 8), 0))) else (none)) else (none)) else (some (0, ([] : List Int), 0, 21)))) else (none))) else (none)) else (none)) else (none)) = some (r1, r2, r3, r4) := by first | (rw [hji17] at H; exact H) | (simp only [hji17] at H ⊢; exact H)
        have hji17w : (IntKind.i64.wrap ((Go.bits .or .i64 (wrap64 ((wrap64 (rd l0 2)) * 256)) (wrap64 (rd l0 3))) + 4)) = ji17 := (i64_w _).trans hji17
        by_cases c18 : 0 ≤ (ji17)
        ·rw [if_pos c18] at H
         have c18b0 := eq_true c18
         have c18b1 : decide (0 ≤ (ji17)) = true := decide_eq_true c18
         clear c18
         by_cases c19 : (ji17) ≤ (wrap64 ((Go.bits .or .i64 (wrap64 ((wrap64 (rd l0 2)) * 256)) (wrap64 (rd l0 3))) + 8))
         ·rw [if_pos c19] at H
          have c19b0 := eq_true c19
          have c19b1 : decide ((ji17) ≤ (wrap64 ((Go.bits .or .i64 (wrap64 ((wrap64 (rd l0 2)) * 256)) (wrap64 (rd l0 3))) + 8))) = true := decide_eq_true c19
          by_cases c20 : (wrap64 ((Go.bits .or .i64 (wrap64 ((wrap64 (rd l0 2)) * 256)) (wrap64 (rd l0 3))) + 8)) ≤ (l0.length : Int)
          ·rw [if_pos c20] at H
           have c20b0 := eq_true c20
           have c20b1 : decide ((wrap64 ((Go.bits .or .i64 (wrap64 ((wrap64 (rd l0 2)) * 256)) (wrap64 (rd l0 3))) + 8)) ≤ (l0.length : Int)) = true := decide_eq_true c20
           replace H := Option.bind_eq_some_iff.mp H
           obtain ⟨t226, A210, H⟩ := H
           try dsimp only at H
           have A21 := Aside0.mk A210
           clear A210
           have c22b0 := eq_true (of_decide_eq_true (by first | (with_reducible assumption) | assumption) : 0 ≤ (ji17))
           by_cases c23 : (ji17) ≤ (l0.length : Int)
           ·rw [if_pos c23] at H
            have c23b0 := eq_true c23
            have c23b1 : decide ((ji17) ≤ (l0.length : Int)) = true := decide_eq_true c23
            clear c23
            replace H := Option.bind_eq_some_iff.mp H
            obtain ⟨t228, A240, H⟩ := H
            try dsimp only at H
            have A24 := Aside0.mk A240
            clear A240
            by_cases c25 : t226 = (IntKind.u64.wrap (t228))
            ·rw [if_pos c25] at H
             have c25b0 : (t226 == (IntKind.u64.wrap (t228))) = true := beq_iff_eq.mpr c25
             have c25b1 : (t226 != (IntKind.u64.wrap (t228))) = false := bne_eq_false_iff_eq.mpr c25
             clear c25
             by_cases c26 : 1 < (l0.length : Int)
             ·rw [if_pos c26] at H
              have c26b0 : decide (1 < (l0.length : Int)) = true := decide_eq_true c26
              have c26b1 : decide (1 < l0.length) = true := decide_eq_true (by omega)
              clear c26
              by_cases c27 : 4 ≤ (ji17)
              ·rw [if_pos c27] at H
               have c27b0 := eq_true c27
               have c27b1 : decide (4 ≤ (ji17)) = true := decide_eq_true c27
               clear c27
               have c28b0 := eq_true (of_decide_eq_true (by first | (with_reducible assumption) | assumption) : (ji17) ≤ (l0.length : Int))
               replace H := Option.bind_eq_some_iff.mp H
               obtain ⟨t231, A290, H⟩ := H
               try dsimp only at H
               have A29 := Aside0.mk A290
               clear A290
               simp only [Option.some.injEq, Prod.mk.injEq] at H
               obtain ⟨rfl, rfl, rfl, rfl⟩ := H
               go_enter Try.func98, Try.ntmps98
               try go_wp2_with (first | ((with_reducible refine gate_dst (N := 2) rfl ?_); refine bx_ 2 #[.int .u8 0, .slice none 0 0] 134 ?_; intro gb221 hg w30 hbox hb; have BK221 := Aside0.mk (hbox); have GW221 := bG_ HB hg; have GE221 := bG_ HB hg; replace HB := bS_ HB hb; clear hb hbox hg))
               replace BK221 := Aside0.mk (blk_drew BK221.out)
               replace HB := Aside0.mk (below_drew1 HB.out)
               have p222 : 0 ≤ (2 : Int) := (by omega)
               have q222 : 2 < (l0.length : Int) := of_decide_eq_true (by first | (with_reducible assumption) | assumption)
               obtain ⟨ad222, e222, hx222_0⟩ := Kd.at_int HR0.out 2 p222 q222
               have hw222_0 := hx222_0
               (try rw [show ((2 : Int)).toNat = 2 from rfl] at hw222_0)
               (try rw [show 2 * 1 = 2 from rfl] at hw222_0)
               (try simp only [Nat.reduceMul, Nat.reduceEqDiff, Go.Addr.add, ↓reduceIte] at hw222_0)
               cases e222
               (try simp only [show (2 : Int).toNat = 2 from rfl, Nat.reduceMul, Nat.reduceEqDiff, Go.Addr.add, ↓reduceIte] at hx222_0)
               have qi222 : (2 < l0.length) = True := eq_true (by omega)
               (try rw [show ((2 : Int)).toNat = 2 from rfl] at hx222_0)
               replace hx222_0 := (HB.out.cell (World.block_lt_of_cell? w _ hx222_0)).trans hx222_0
               replace p222 := eq_true p222
               replace q222 := eq_true q222
               have p223 : 0 ≤ (3 : Int) := (by omega)
               have q223 : 3 < (l0.length : Int) := of_decide_eq_true (by first | (with_reducible assumption) | assumption)
               obtain ⟨ad223, e223, hx223_0⟩ := Kd.at_int HR0.out 3 p223 q223
               have hw223_0 := hx223_0
               (try rw [show ((3 : Int)).toNat = 3 from rfl] at hw223_0)
               (try rw [show 3 * 1 = 3 from rfl] at hw223_0)
               (try simp only [Nat.reduceMul, Nat.reduceEqDiff, Go.Addr.add, ↓reduceIte] at hw223_0)
               obtain rfl : ad222 = ad223 := (by injection e223)
               (try simp only [show (3 : Int).toNat = 3 from rfl, Nat.reduceMul, Nat.reduceEqDiff, Go.Addr.add, ↓reduceIte] at hx223_0)
               have qi223 : (3 < l0.length) = True := eq_true (by omega)
               (try rw [show ((3 : Int)).toNat = 3 from rfl] at hx223_0)
               replace hx223_0 := (HB.out.cell (World.block_lt_of_cell? w _ hx223_0)).trans hx223_0
               replace p223 := eq_true p223
               replace q223 := eq_true q223
               refine start_ (n := 11) (S := fun w' => w'.cell? ⟨ad222.block, ad222.off + 2, none⟩ = some (.int .u8 (rd l0 2)) ∧ w'.cell? ⟨ad222.block, ad222.off + 3, none⟩ = some (.int .u8 (rd l0 3))) (ds := []) #[false, false, false, false, false, false, false, false, false, false, false] (by kernel_rfl) rfl rfl ⟨((HB.out.cell (World.block_lt_of_cell? w _ hw222_0)).trans hw222_0), ((HB.out.cell (World.block_lt_of_cell? w _ hw223_0)).trans hw223_0)⟩ (fun hHeld => ?_); refine with_tabW transeptref03_Open.tab3 transeptref03_Open.bits3 (fun HT_ HW_ => ?_)
               generalize w30.drew = w31 at BK221 HB hx222_0 hx223_0 hHeld ⊢
               refine pu_ 0 (some 10) HT_ ?_
               refine pu_ 1 (some 11) HT_ ?_
               refine pu_ 5 (some 15) HT_ ?_
               refine pu_ 6 (some 16) HT_ ?_
               refine tk_ 2 (some 12) HT_ HW_ hHeld ?_
               refine pu_ 3 (some 13) HT_ ?_
               refine pu_ 4 (some 14) HT_ ?_
               refine tk_ 7 (some 17) HT_ HW_ hHeld ?_
               refine pu_ 8 (some 18) HT_ ?_
               refine pu_ 9 (some 19) HT_ ?_
               refine pu_ 10 (some 5) HT_ ?_
               refine done_ (done_of HT_.out (by kernel_rfl)) ?_
               have p224 : 0 ≤ (0 : Int) := (by omega)
               have q224 : 0 < (l0.length : Int) := of_decide_eq_true (by first | (with_reducible assumption) | assumption)
               obtain ⟨ad224, e224, hx224_0⟩ := Kd.at_int HR0.out 0 p224 q224
               obtain rfl : ad222 = ad224 := (by injection e224)
               have qi224 : (0 < l0.length) = True := eq_true (by omega)
               (try rw [show ((0 : Int)).toNat = 0 from rfl] at hx224_0)
               (try rw [Addr.add_zero'] at hx224_0)
               replace hx224_0 := (HB.out.cell (World.block_lt_of_cell? w _ hx224_0)).trans hx224_0
               replace p224 := eq_true p224
               replace q224 := eq_true q224
               try go_wp2
               replace BK221 := Aside0.mk (blk_drew BK221.out)
               replace HB := Aside0.mk (below_drew1 HB.out)
               obtain ⟨i033, hi033, _, hsz33, _⟩ := info_parts info5
               obtain ⟨A33, hcut33, hA33, hC33⟩ := print_mid_of (P := Try.prog) (Value.int .u8) 0 26 5 .i64 .i64 Try.underlying26 hi033 hsz33 (some ad222) c0 l0 (ji17) (wrap64 ((Go.bits .or .i64 (wrap64 ((wrap64 (rd l0 2)) * 256)) (wrap64 (rd l0 3))) + 8)) (of_decide_eq_true (by first | (with_reducible assumption) | assumption)) (by first | omega | exact of_decide_eq_true (by first | (with_reducible assumption) | assumption)) (of_decide_eq_true (by first | (with_reducible assumption) | assumption)) HC0.out
               have HR225 := Aside0.mk (Kd.C_of_reads (h1 := fun _ => rfl) (hA33 _ (Kd.reads_of_C HR0.out)))
               have HC225 := Aside0.mk hC33
               clear hA33 hC33 hi033 hsz33
               obtain ⟨i034, hi034, _, hsz34, _⟩ := info_parts info5
               obtain ⟨hcut34, hA34, hC34⟩ := print_take_of (P := Try.prog) (Value.int .u8) 0 26 5 .i64 Try.underlying26 hi034 hsz34 (some ad222) c0 l0 (ji17) (of_decide_eq_true (by first | (with_reducible assumption) | assumption)) (of_decide_eq_true (by first | (with_reducible assumption) | assumption)) HC0.out
               have HR227 := Aside0.mk (Kd.C_of_reads (h1 := fun _ => rfl) (hA34 _ (Kd.reads_of_C HR0.out)))
               have HC227 := Aside0.mk hC34
               clear hA34 hC34 hi034 hsz34
               refine start_ (n := 15) (S := fun w' => True) (ds := []) #[false, false, false, false, false, false, false, false, false, false, false, false, false, false, false] (by kernel_rfl) rfl rfl trivial (fun hHeld => ?_); refine with_tabW transeptref03_Open.tab10 transeptref03_Open.bits10 (fun HT_ HW_ => ?_)
               generalize w31.drew = w32 at BK221 HB HR225 HR227 hHeld ⊢
               refine pu_ 0 (some 38) HT_ ?_
               refine pu_ 1 (some 39) HT_ ?_
               refine pu_ 2 (some 40) HT_ ?_
               refine pu_ 3 (some 41) HT_ ?_
               refine pu_ 4 (some 42) HT_ ?_
               refine pu_ 5 (some 43) HT_ ?_
               refine pu_ 7 (some 45) HT_ ?_
               refine pu_ 8 (some 46) HT_ ?_
               refine pu_ 9 (some 47) HT_ ?_
               refine pu_ 10 (some 48) HT_ ?_
               refine on_ 6 (some 44) HT_ (fun K hK => ?_)
               refine goes_ Try.func104 (by kernel_rfl) rfl #[.slice A33 ((l0.take ((wrap64 ((Go.bits .or .i64 (wrap64 ((wrap64 (rd l0 2)) * 256)) (wrap64 (rd l0 3))) + 8)) : Int).toNat).drop ((ji17) : Int).toNat).length (c0 - (ji17).toNat)] (by rfl) rfl rfl (by (try simp only [List.map_toArray, List.map_cons, List.map_nil]); first | done | (rw [show ((l0.take ((wrap64 ((Go.bits .or .i64 (wrap64 ((wrap64 (rd l0 2)) * 256)) (wrap64 (rd l0 3))) + 8)) : Int).toNat).drop ((ji17) : Int).toNat).length = ((wrap64 ((Go.bits .or .i64 (wrap64 ((wrap64 (rd l0 2)) * 256)) (wrap64 (rd l0 3))) + 8)).toNat - (ji17).toNat) from (by rw [List.length_drop, List.length_take]; have h_ : ((wrap64 ((Go.bits .or .i64 (wrap64 ((wrap64 (rd l0 2)) * 256)) (wrap64 (rd l0 3))) + 8)) : Int) ≤ (l0.length : Int) := of_decide_eq_true (by first | (with_reducible assumption) | assumption); omega)] <;> rfl) | (simp only [hji17]; rfl) | rfl | (simp only [List.length_drop, List.length_take]; rfl)) ?_
               with_reducible refine (transeptref01_Number.calls k _ _ ((l0.take ((wrap64 ((Go.bits .or .i64 (wrap64 ((wrap64 (rd l0 2)) * 256)) (wrap64 (rd l0 3))) + 8)) : Int).toNat).drop ((ji17) : Int).toNat) t226 _ ?_ ?_ A21.out).mono ?_
               exact cB_ HR225 HB
               exact HC225.out
               rintro e w' ⟨rfl, ⟨nd, rfl⟩⟩
               refine ⟨_, rfl, ?_⟩
               refine hK.out _ _ trivial (fun hHeld => ?_)
               clear hK K
               refine norm_ (a' := ?_) ?_ ?_
               rotate_left
               ·show Act.put _ (some 44) _ = _
                simp only [Act.put, List.setIfInBounds_toArray, List.set_cons_zero, List.set_cons_succ, i64_w, i32_w]
                rfl
               refine on_ 11 (some 49) HT_ (fun K hK => ?_)
               refine goes_ Try.func105 (by kernel_rfl) rfl #[.slice (some ad222) (l0.take ((ji17) : Int).toNat).length c0] (by rfl) rfl rfl (by (try simp only [List.map_toArray, List.map_cons, List.map_nil]); first | done | (rw [show (l0.take ((ji17) : Int).toNat).length = (ji17).toNat from (by rw [List.length_take]; have h_ : ((ji17) : Int) ≤ (l0.length : Int) := of_decide_eq_true (by first | (with_reducible assumption) | assumption); omega)] <;> rfl) | (simp only [hji17]; rfl) | rfl | (simp only [List.length_drop, List.length_take]; rfl)) ?_
               with_reducible refine (transeptref02_Sum.calls k _ _ (l0.take ((ji17) : Int).toNat) t228 _ ?side1 ?side2 A24.out).mono ?_
               (case side1 => repeat (first | exact (Kd.C_below HR227.out (bl_ HB)) | (with_reducible refine Kd.C_alloc ?_ _) | (with_reducible refine Kd.C_drewN ?_ _) | (with_reducible refine Kd.C_drew ?_)))
               (case side2 => exact HC227.out)
               rintro e w' ⟨rfl, ⟨nd, rfl⟩⟩
               refine ⟨_, rfl, ?_⟩
               refine hK.out _ _ trivial (fun hHeld => ?_)
               clear hK K
               refine norm_ (a' := ?_) ?_ ?_
               rotate_left
               ·show Act.put _ (some 49) _ = _
                simp only [Act.put, List.setIfInBounds_toArray, List.set_cons_zero, List.set_cons_succ, i64_w, i32_w]
                rfl
               refine pu_ 12 (some 50) HT_ ?_
               refine pu_ 13 (some 51) HT_ ?_
               refine pu_ 14 (some 37) HT_ ?_
               refine done_ (done_of HT_.out (by kernel_rfl)) ?_
               try go_wp2
               (try (rw [drewN_self w32]; generalize hq_ : World.drewN w32 _ = w32; replace BK221 : Aside0 (w32.heap[gb221]? = some (.cells #[.int .u8 0, .slice none 0 0] 134 (0, 0))) := ⟨by rw [← hq_]; exact (bA_ BK221)⟩; replace HB : Aside0 (Below w.heap.size w w32) := ⟨by rw [← hq_]; exact (bl_ HB)⟩; clear hq_))
               (try (rw [drewN_self w32]; generalize hq_ : World.drewN w32 _ = w32; replace BK221 : Aside0 (w32.heap[gb221]? = some (.cells #[.int .u8 0, .slice none 0 0] 134 (0, 0))) := ⟨by rw [← hq_]; exact (bA_ BK221)⟩; replace HB : Aside0 (Below w.heap.size w w32) := ⟨by rw [← hq_]; exact (bl_ HB)⟩; clear hq_))
               replace BK221 := Aside0.mk (blk_drew BK221.out)
               replace HB := Aside0.mk (below_drew1 HB.out)
               have p229 : 0 ≤ (1 : Int) := (by omega)
               have q229 : 1 < (l0.length : Int) := of_decide_eq_true (by first | (with_reducible assumption) | assumption)
               obtain ⟨ad229, e229, hx229_0⟩ := Kd.at_int HR0.out 1 p229 q229
               have hw229_0 := hx229_0
               (try rw [show ((1 : Int)).toNat = 1 from rfl] at hw229_0)
               (try rw [show 1 * 1 = 1 from rfl] at hw229_0)
               (try simp only [Nat.reduceMul, Nat.reduceEqDiff, Go.Addr.add, ↓reduceIte] at hw229_0)
               obtain rfl : ad222 = ad229 := (by injection e229)
               (try simp only [show (1 : Int).toNat = 1 from rfl, Nat.reduceMul, Nat.reduceEqDiff, Go.Addr.add, ↓reduceIte] at hx229_0)
               have qi229 : (1 < l0.length) = True := eq_true (by omega)
               (try rw [show ((1 : Int)).toNat = 1 from rfl] at hx229_0)
               replace hx229_0 := (HB.out.cell (World.block_lt_of_cell? w _ hx229_0)).trans hx229_0
               replace p229 := eq_true p229
               replace q229 := eq_true q229
               obtain ⟨i036, hi036, _, hsz36, _⟩ := info_parts info5
               obtain ⟨A36, hcut36, hA36, hC36⟩ := print_mid_of (P := Try.prog) (Value.int .u8) 0 26 5 .i64 .i64 Try.underlying26 hi036 hsz36 (some ad222) c0 l0 4 (ji17) (by omega) (by first | omega | exact of_decide_eq_true (by first | (with_reducible assumption) | assumption)) (of_decide_eq_true (by first | (with_reducible assumption) | assumption)) HC0.out
               have HR230 := Aside0.mk (Kd.C_of_reads (h1 := fun _ => rfl) (hA36 _ (Kd.reads_of_C HR0.out)))
               have HC230 := Aside0.mk hC36
               clear hA36 hC36 hi036 hsz36
               refine start_ (n := 14) (S := fun w' => w'.cell? ⟨ad222.block, ad222.off + 1, none⟩ = some (.int .u8 (rd l0 1))) (ds := []) #[false, false, false, false, false, false, false, false, false, false, false, false, false, false] (by kernel_rfl) rfl rfl (((HB.out.cell (World.block_lt_of_cell? w _ hw229_0)).trans hw229_0)) (fun hHeld => ?_); refine with_tabW transeptref03_Open.tab12 transeptref03_Open.bits12 (fun HT_ HW_ => ?_)
               generalize w32.drew = w35 at BK221 HB HR230 hx229_0 hHeld ⊢
               refine pu_ 0 (some 53) HT_ ?_
               refine pu_ 1 (some 54) HT_ ?_
               refine pu_ 3 (some 56) HT_ ?_
               refine pu_ 4 (some 57) HT_ ?_
               refine pu_ 5 (some 58) HT_ ?_
               refine pu_ 6 (some 59) HT_ ?_
               refine pu_ 9 (some 62) HT_ ?_
               refine pu_ 10 (some 63) HT_ ?_
               refine take_ (i := 2) (N := some 55) (v := ?_) (a' := ?_) #[true, true, true, true, true, true, true, false, false, true, true, false, false, false] rfl rfl (take_ofW HT_.out HW_.out (by kernel_rfl)) (fun _ _ _ h => h) (Or.inl ⟨by rfl, ?_⟩) hHeld ?_ ?_
               rotate_left
               ·intro w' s0
                go_simp
                with_reducible rfl
               rotate_left
               ·simp only [Act.put, List.setIfInBounds_toArray, List.set_cons_zero, List.set_cons_succ, i64_w, i32_w]
                rfl
               refine on_ 7 (some 60) HT_ (fun K hK => ?_)
               refine goes_ Try.func72 (by kernel_rfl) rfl #[.slice A36 ((l0.take ((ji17) : Int).toNat).drop 4).length (c0 - 4)] (by rfl) rfl rfl (by (try simp only [List.map_toArray, List.map_cons, List.map_nil]); first | done | (rw [show ((l0.take ((ji17) : Int).toNat).drop 4).length = ((ji17).toNat - 4) from (by rw [List.length_drop, List.length_take]; have h_ : ((ji17) : Int) ≤ (l0.length : Int) := of_decide_eq_true (by first | (with_reducible assumption) | assumption); omega)] <;> rfl) | (simp only [hji17]; rfl) | rfl | (simp only [List.length_drop, List.length_take]; rfl)) ?_
               with_reducible refine (transeptref03_Copied.calls _ _ ((l0.take ((ji17) : Int).toNat).drop 4) t231 _ ?_ ?_ A29.out).mono ?_
               exact cB_ HR230 HB
               exact HC230.out
               rintro e w37 ⟨v232, rfl, ho0, hb⟩
               refine ⟨_, rfl, ?_⟩
               have HO233 := Aside0.mk (Kd.R_lower ho0 (bs_ HB))
               replace BK221 := bK_ BK221 hb
               replace HB := bS_ HB hb
               (try clear hb ho0)
               obtain ⟨Ao38, co38, eo38⟩ := Kd.R_slice HO233.out
               (first | subst eo38 | (injection eo38 with f1_ f2_ f3_; have f4_ := f1_.symm; have f5_ := f3_.symm; clear f1_ f2_ f3_; subst f4_; subst f5_))
               refine hK.out _ _ (((HB.out.cell (World.block_lt_of_cell? w _ hw229_0)).trans hw229_0)) (fun hHeld => ?_)
               clear hK K
               refine norm_ (a' := ?_) ?_ ?_
               rotate_left
               ·show Act.put _ (some 60) _ = _
                simp only [Act.put, List.setIfInBounds_toArray, List.set_cons_zero, List.set_cons_succ, i64_w, i32_w]
                rfl
               refine pu_ 8 (some 61) HT_ ?_
               refine on_ 11 none HT_ (fun K hK => ?_)
               have hs39 : w37.cell? ⟨gb221, 0, none⟩ = some (.int .u8 0) := (blk_cell BK221.out 0).trans rfl
               have hfs39 := blk_frozen BK221.out 0
               have hs40 : w37.cell? ⟨gb221, 1, none⟩ = some (.slice none 0 0) := (blk_cell BK221.out 1).trans rfl
               have hfs40 := blk_frozen BK221.out 1
               refine skip_ (w1 := ?_) (by rfl) rfl ?_ ?_
               rotate_left
               ·go_simp
                rfl
               refine hK.out _ _ (((cell_far (p := ⟨gb221, _, none⟩) (by first | exact Nat.ne_of_lt (Nat.lt_of_lt_of_le (by have := World.block_lt_of_cell? _ _ hw229_0; first | rwa [add_block] at this | exact this) GW221.out) | (rw [add_block]; exact Nat.ne_of_lt (Nat.lt_of_lt_of_le (by have := World.block_lt_of_cell? _ _ hw229_0; first | rwa [add_block] at this | exact this) GW221.out)) | (show (Addr.add _ _).block ≠ _; rw [add_block]; exact Nat.ne_of_lt (Nat.lt_of_lt_of_le (by have := World.block_lt_of_cell? _ _ hw229_0; first | rwa [add_block] at this | exact this) GW221.out)) | (dsimp only; exact Nat.ne_of_lt (Nat.lt_of_lt_of_le (by have := World.block_lt_of_cell? _ _ hw229_0; first | rwa [add_block] at this | exact this) GW221.out))) _).trans (((cell_far (p := ⟨gb221, _, none⟩) (by first | exact Nat.ne_of_lt (Nat.lt_of_lt_of_le (by have := World.block_lt_of_cell? _ _ hw229_0; first | rwa [add_block] at this | exact this) GW221.out) | (rw [add_block]; exact Nat.ne_of_lt (Nat.lt_of_lt_of_le (by have := World.block_lt_of_cell? _ _ hw229_0; first | rwa [add_block] at this | exact this) GW221.out)) | (show (Addr.add _ _).block ≠ _; rw [add_block]; exact Nat.ne_of_lt (Nat.lt_of_lt_of_le (by have := World.block_lt_of_cell? _ _ hw229_0; first | rwa [add_block] at this | exact this) GW221.out)) | (dsimp only; exact Nat.ne_of_lt (Nat.lt_of_lt_of_le (by have := World.block_lt_of_cell? _ _ hw229_0; first | rwa [add_block] at this | exact this) GW221.out))) _).trans (hHeld))))) (fun hHeld => ?_)
               clear hK K
               refine pu_ 12 (some 3) HT_ ?_
               refine pu_ 13 (some 4) HT_ ?_
               refine done_ (done_of HT_.out (by kernel_rfl)) ?_
               try go_wp2
               refine bodyPost_ret (results_ctt rfl _ _ gb221 134 #[.int .u8 (rd l0 1), .slice Ao38 t231.length co38] (0, 0) _ rfl (by (with_reducible repeat (first | refine blk_drewN ?_ _ | refine blk_drew ?_ | refine blk_alloc ?_ _)); refine blk_put (cs := #[.int .u8 (rd l0 1), .slice none 0 0]) ?_ 1 _ rfl; (with_reducible repeat (first | refine blk_drewN ?_ _ | refine blk_drew ?_ | refine blk_alloc ?_ _)); refine blk_put (cs := #[.int .u8 0, .slice none 0 0]) ?_ 0 _ rfl; (with_reducible repeat (first | refine blk_drewN ?_ _ | refine blk_drew ?_ | refine blk_alloc ?_ _)); exact BK221.out) Try.underlying134 rfl (by kernel_rfl)) rfl ?_
               exact ⟨_, by first | rfl | (simp [errW_none, errW_some] <;> rfl) | (simp only [← hji17]; first | rfl | (simp [errW_none, errW_some] <;> rfl)) | (simp [*, errW_none, errW_some] <;> rfl), by (with_reducible repeat (first | apply Kd.R_alloc | apply Kd.R_drewN | apply Kd.R_drew)); exact Kd.R_mono (Kd.R_far (p := ⟨gb221, 1, none⟩) (Kd.R_far (p := ⟨gb221, 0, none⟩) (Kd.R_types HO233.out BK221.out (by decide)) (fun _ hk => hk.2) (.int .u8 (rd l0 1))) (fun _ hk => hk.2) (.slice Ao38 t231.length co38)) (fun _ hk => trivial), bl_ HB⟩
              ·rw [if_neg c27] at H
               exact absurd H (by simp)
             ·rw [if_neg c26] at H
              exact absurd H (by simp)
            ·rw [if_neg c25] at H
             have c25b0 : (t226 == (IntKind.u64.wrap (t228))) = false := beq_eq_false_iff_ne.mpr c25
             have c25b1 : (t226 != (IntKind.u64.wrap (t228))) = true := bne_iff_ne.mpr c25
             simp only [Option.some.injEq, Prod.mk.injEq] at H
             obtain ⟨rfl, rfl, rfl, rfl⟩ := H
             go_enter Try.func98, Try.ntmps98
             try go_wp2_with (first | ((with_reducible refine gate_dst (N := 2) rfl ?_); refine bx_ 2 #[.int .u8 0, .slice none 0 0] 134 ?_; intro gb221 hg w41 hbox hb; have BK221 := Aside0.mk (hbox); have GW221 := bG_ HB hg; have GE221 := bG_ HB hg; replace HB := bS_ HB hb; clear hb hbox hg))
             replace BK221 := Aside0.mk (blk_drew BK221.out)
             replace HB := Aside0.mk (below_drew1 HB.out)
             have p222 : 0 ≤ (2 : Int) := (by omega)
             have q222 : 2 < (l0.length : Int) := of_decide_eq_true (by first | (with_reducible assumption) | assumption)
             obtain ⟨ad222, e222, hx222_0⟩ := Kd.at_int HR0.out 2 p222 q222
             have hw222_0 := hx222_0
             (try rw [show ((2 : Int)).toNat = 2 from rfl] at hw222_0)
             (try rw [show 2 * 1 = 2 from rfl] at hw222_0)
             (try simp only [Nat.reduceMul, Nat.reduceEqDiff, Go.Addr.add, ↓reduceIte] at hw222_0)
             cases e222
             (try simp only [show (2 : Int).toNat = 2 from rfl, Nat.reduceMul, Nat.reduceEqDiff, Go.Addr.add, ↓reduceIte] at hx222_0)
             have qi222 : (2 < l0.length) = True := eq_true (by omega)
             (try rw [show ((2 : Int)).toNat = 2 from rfl] at hx222_0)
             replace hx222_0 := (HB.out.cell (World.block_lt_of_cell? w _ hx222_0)).trans hx222_0
             replace p222 := eq_true p222
             replace q222 := eq_true q222
             have p223 : 0 ≤ (3 : Int) := (by omega)
             have q223 : 3 < (l0.length : Int) := of_decide_eq_true (by first | (with_reducible assumption) | assumption)
             obtain ⟨ad223, e223, hx223_0⟩ := Kd.at_int HR0.out 3 p223 q223
             have hw223_0 := hx223_0
             (try rw [show ((3 : Int)).toNat = 3 from rfl] at hw223_0)
             (try rw [show 3 * 1 = 3 from rfl] at hw223_0)
             (try simp only [Nat.reduceMul, Nat.reduceEqDiff, Go.Addr.add, ↓reduceIte] at hw223_0)
             obtain rfl : ad222 = ad223 := (by injection e223)
             (try simp only [show (3 : Int).toNat = 3 from rfl, Nat.reduceMul, Nat.reduceEqDiff, Go.Addr.add, ↓reduceIte] at hx223_0)
             have qi223 : (3 < l0.length) = True := eq_true (by omega)
             (try rw [show ((3 : Int)).toNat = 3 from rfl] at hx223_0)
             replace hx223_0 := (HB.out.cell (World.block_lt_of_cell? w _ hx223_0)).trans hx223_0
             replace p223 := eq_true p223
             replace q223 := eq_true q223
             refine start_ (n := 11) (S := fun w' => w'.cell? ⟨ad222.block, ad222.off + 2, none⟩ = some (.int .u8 (rd l0 2)) ∧ w'.cell? ⟨ad222.block, ad222.off + 3, none⟩ = some (.int .u8 (rd l0 3))) (ds := []) #[false, false, false, false, false, false, false, false, false, false, false] (by kernel_rfl) rfl rfl ⟨((HB.out.cell (World.block_lt_of_cell? w _ hw222_0)).trans hw222_0), ((HB.out.cell (World.block_lt_of_cell? w _ hw223_0)).trans hw223_0)⟩ (fun hHeld => ?_); refine with_tabW transeptref03_Open.tab3 transeptref03_Open.bits3 (fun HT_ HW_ => ?_)
             generalize w41.drew = w42 at BK221 HB hx222_0 hx223_0 hHeld ⊢
             refine pu_ 0 (some 10) HT_ ?_
             refine pu_ 1 (some 11) HT_ ?_
             refine pu_ 5 (some 15) HT_ ?_
             refine pu_ 6 (some 16) HT_ ?_
             refine tk_ 2 (some 12) HT_ HW_ hHeld ?_
             refine pu_ 3 (some 13) HT_ ?_
             refine pu_ 4 (some 14) HT_ ?_
             refine tk_ 7 (some 17) HT_ HW_ hHeld ?_
             refine pu_ 8 (some 18) HT_ ?_
             refine pu_ 9 (some 19) HT_ ?_
             refine pu_ 10 (some 5) HT_ ?_
             refine done_ (done_of HT_.out (by kernel_rfl)) ?_
             have p224 : 0 ≤ (0 : Int) := (by omega)
             have q224 : 0 < (l0.length : Int) := of_decide_eq_true (by first | (with_reducible assumption) | assumption)
             obtain ⟨ad224, e224, hx224_0⟩ := Kd.at_int HR0.out 0 p224 q224
             obtain rfl : ad222 = ad224 := (by injection e224)
             have qi224 : (0 < l0.length) = True := eq_true (by omega)
             (try rw [show ((0 : Int)).toNat = 0 from rfl] at hx224_0)
             (try rw [Addr.add_zero'] at hx224_0)
             replace hx224_0 := (HB.out.cell (World.block_lt_of_cell? w _ hx224_0)).trans hx224_0
             replace p224 := eq_true p224
             replace q224 := eq_true q224
             try go_wp2
             replace BK221 := Aside0.mk (blk_drew BK221.out)
             replace HB := Aside0.mk (below_drew1 HB.out)
             obtain ⟨i044, hi044, _, hsz44, _⟩ := info_parts info5
             obtain ⟨A44, hcut44, hA44, hC44⟩ := print_mid_of (P := Try.prog) (Value.int .u8) 0 26 5 .i64 .i64 Try.underlying26 hi044 hsz44 (some ad222) c0 l0 (ji17) (wrap64 ((Go.bits .or .i64 (wrap64 ((wrap64 (rd l0 2)) * 256)) (wrap64 (rd l0 3))) + 8)) (of_decide_eq_true (by first | (with_reducible assumption) | assumption)) (by first | omega | exact of_decide_eq_true (by first | (with_reducible assumption) | assumption)) (of_decide_eq_true (by first | (with_reducible assumption) | assumption)) HC0.out
             have HR225 := Aside0.mk (Kd.C_of_reads (h1 := fun _ => rfl) (hA44 _ (Kd.reads_of_C HR0.out)))
             have HC225 := Aside0.mk hC44
             clear hA44 hC44 hi044 hsz44
             obtain ⟨i045, hi045, _, hsz45, _⟩ := info_parts info5
             obtain ⟨hcut45, hA45, hC45⟩ := print_take_of (P := Try.prog) (Value.int .u8) 0 26 5 .i64 Try.underlying26 hi045 hsz45 (some ad222) c0 l0 (ji17) (of_decide_eq_true (by first | (with_reducible assumption) | assumption)) (of_decide_eq_true (by first | (with_reducible assumption) | assumption)) HC0.out
             have HR227 := Aside0.mk (Kd.C_of_reads (h1 := fun _ => rfl) (hA45 _ (Kd.reads_of_C HR0.out)))
             have HC227 := Aside0.mk hC45
             clear hA45 hC45 hi045 hsz45
             refine start_ (n := 15) (S := fun w' => True) (ds := []) #[false, false, false, false, false, false, false, false, false, false, false, false, false, false, false] (by kernel_rfl) rfl rfl trivial (fun hHeld => ?_); refine with_tabW transeptref03_Open.tab10 transeptref03_Open.bits10 (fun HT_ HW_ => ?_)
             generalize w42.drew = w43 at BK221 HB HR225 HR227 hHeld ⊢
             refine pu_ 0 (some 38) HT_ ?_
             refine pu_ 1 (some 39) HT_ ?_
             refine pu_ 2 (some 40) HT_ ?_
             refine pu_ 3 (some 41) HT_ ?_
             refine pu_ 4 (some 42) HT_ ?_
             refine pu_ 5 (some 43) HT_ ?_
             refine pu_ 7 (some 45) HT_ ?_
             refine pu_ 8 (some 46) HT_ ?_
             refine pu_ 9 (some 47) HT_ ?_
             refine pu_ 10 (some 48) HT_ ?_
             refine on_ 6 (some 44) HT_ (fun K hK => ?_)
             refine goes_ Try.func104 (by kernel_rfl) rfl #[.slice A44 ((l0.take ((wrap64 ((Go.bits .or .i64 (wrap64 ((wrap64 (rd l0 2)) * 256)) (wrap64 (rd l0 3))) + 8)) : Int).toNat).drop ((ji17) : Int).toNat).length (c0 - (ji17).toNat)] (by rfl) rfl rfl (by (try simp only [List.map_toArray, List.map_cons, List.map_nil]); first | done | (rw [show ((l0.take ((wrap64 ((Go.bits .or .i64 (wrap64 ((wrap64 (rd l0 2)) * 256)) (wrap64 (rd l0 3))) + 8)) : Int).toNat).drop ((ji17) : Int).toNat).length = ((wrap64 ((Go.bits .or .i64 (wrap64 ((wrap64 (rd l0 2)) * 256)) (wrap64 (rd l0 3))) + 8)).toNat - (ji17).toNat) from (by rw [List.length_drop, List.length_take]; have h_ : ((wrap64 ((Go.bits .or .i64 (wrap64 ((wrap64 (rd l0 2)) * 256)) (wrap64 (rd l0 3))) + 8)) : Int) ≤ (l0.length : Int) := of_decide_eq_true (by first | (with_reducible assumption) | assumption); omega)] <;> rfl) | (simp only [hji17]; rfl) | rfl | (simp only [List.length_drop, List.length_take]; rfl)) ?_
             with_reducible refine (transeptref01_Number.calls k _ _ ((l0.take ((wrap64 ((Go.bits .or .i64 (wrap64 ((wrap64 (rd l0 2)) * 256)) (wrap64 (rd l0 3))) + 8)) : Int).toNat).drop ((ji17) : Int).toNat) t226 _ ?_ ?_ A21.out).mono ?_
             exact cB_ HR225 HB
             exact HC225.out
             rintro e w' ⟨rfl, ⟨nd, rfl⟩⟩
             refine ⟨_, rfl, ?_⟩
             refine hK.out _ _ trivial (fun hHeld => ?_)
             clear hK K
             refine norm_ (a' := ?_) ?_ ?_
             rotate_left
             ·show Act.put _ (some 44) _ = _
              simp only [Act.put, List.setIfInBounds_toArray, List.set_cons_zero, List.set_cons_succ, i64_w, i32_w]
              rfl
             refine on_ 11 (some 49) HT_ (fun K hK => ?_)
             refine goes_ Try.func105 (by kernel_rfl) rfl #[.slice (some ad222) (l0.take ((ji17) : Int).toNat).length c0] (by rfl) rfl rfl (by (try simp only [List.map_toArray, List.map_cons, List.map_nil]); first | done | (rw [show (l0.take ((ji17) : Int).toNat).length = (ji17).toNat from (by rw [List.length_take]; have h_ : ((ji17) : Int) ≤ (l0.length : Int) := of_decide_eq_true (by first | (with_reducible assumption) | assumption); omega)] <;> rfl) | (simp only [hji17]; rfl) | rfl | (simp only [List.length_drop, List.length_take]; rfl)) ?_
             with_reducible refine (transeptref02_Sum.calls k _ _ (l0.take ((ji17) : Int).toNat) t228 _ ?side1 ?side2 A24.out).mono ?_
             (case side1 => repeat (first | exact (Kd.C_below HR227.out (bl_ HB)) | (with_reducible refine Kd.C_alloc ?_ _) | (with_reducible refine Kd.C_drewN ?_ _) | (with_reducible refine Kd.C_drew ?_)))
             (case side2 => exact HC227.out)
             rintro e w' ⟨rfl, ⟨nd, rfl⟩⟩
             refine ⟨_, rfl, ?_⟩
             refine hK.out _ _ trivial (fun hHeld => ?_)
             clear hK K
             refine norm_ (a' := ?_) ?_ ?_
             rotate_left
             ·show Act.put _ (some 49) _ = _
              simp only [Act.put, List.setIfInBounds_toArray, List.set_cons_zero, List.set_cons_succ, i64_w, i32_w]
              rfl
             refine pu_ 12 (some 50) HT_ ?_
             refine pu_ 13 (some 51) HT_ ?_
             refine pu_ 14 (some 37) HT_ ?_
             refine done_ (done_of HT_.out (by kernel_rfl)) ?_
             obtain ⟨hcz46_0, hcz46_1, hfz46_0, hfz46_1⟩ := cz2_ BK221
             try go_wp2
             refine bodyPost_ret (results_ctt rfl _ _ gb221 134 #[.int .u8 0, .slice none 0 0] (0, 0) _ rfl (by (with_reducible repeat (first | refine blk_drewN ?_ _ | refine blk_drew ?_ | refine blk_alloc ?_ _)); refine blk_put (cs := #[.int .u8 0, .slice none 0 0]) ?_ 1 _ rfl; (with_reducible repeat (first | refine blk_drewN ?_ _ | refine blk_drew ?_ | refine blk_alloc ?_ _)); refine blk_put (cs := #[.int .u8 0, .slice none 0 0]) ?_ 0 _ rfl; (with_reducible repeat (first | refine blk_drewN ?_ _ | refine blk_drew ?_ | refine blk_alloc ?_ _)); exact BK221.out) Try.underlying134 rfl (by kernel_rfl)) rfl ?_
             exact ⟨_, by first | rfl | (simp [errW_none, errW_some] <;> rfl) | (simp only [← hji17]; first | rfl | (simp [errW_none, errW_some] <;> rfl)) | (simp [*, errW_none, errW_some] <;> rfl), nil_, bl_ HB⟩
           ·rw [if_neg c23] at H
            exact absurd H (by simp)
          ·rw [if_neg c20] at H
           exact absurd H (by simp)
         ·rw [if_neg c19] at H
          exact absurd H (by simp)
        ·rw [if_neg c18] at H
         exact absurd H (by simp)
     ·rw [if_neg c8] at H
      have c8b0 : ((rd l0 0) == 167) = false := beq_eq_false_iff_ne.mpr c8
      have c8b1 : ((rd l0 0) != 167) = true := bne_iff_ne.mpr c8
      simp only [Option.some.injEq, Prod.mk.injEq] at H
      obtain ⟨rfl, rfl, rfl, rfl⟩ := H
      go_enter Try.func98, Try.ntmps98
      try go_wp2_with (first | ((with_reducible refine gate_dst (N := 2) rfl ?_); refine bx_ 2 #[.int .u8 0, .slice none 0 0] 134 ?_; intro gb221 hg w47 hbox hb; have BK221 := Aside0.mk (hbox); have GW221 := bG_ HB hg; have GE221 := bG_ HB hg; replace HB := bS_ HB hb; clear hb hbox hg))
      replace BK221 := Aside0.mk (blk_drew BK221.out)
      replace HB := Aside0.mk (below_drew1 HB.out)
      have p222 : 0 ≤ (2 : Int) := (by omega)
      have q222 : 2 < (l0.length : Int) := of_decide_eq_true (by first | (with_reducible assumption) | assumption)
      obtain ⟨ad222, e222, hx222_0⟩ := Kd.at_int HR0.out 2 p222 q222
      have hw222_0 := hx222_0
      (try rw [show ((2 : Int)).toNat = 2 from rfl] at hw222_0)
      (try rw [show 2 * 1 = 2 from rfl] at hw222_0)
      (try simp only [Nat.reduceMul, Nat.reduceEqDiff, Go.Addr.add, ↓reduceIte] at hw222_0)
      cases e222
      (try simp only [show (2 : Int).toNat = 2 from rfl, Nat.reduceMul, Nat.reduceEqDiff, Go.Addr.add, ↓reduceIte] at hx222_0)
      have qi222 : (2 < l0.length) = True := eq_true (by omega)
      (try rw [show ((2 : Int)).toNat = 2 from rfl] at hx222_0)
      replace hx222_0 := (HB.out.cell (World.block_lt_of_cell? w _ hx222_0)).trans hx222_0
      replace p222 := eq_true p222
      replace q222 := eq_true q222
      have p223 : 0 ≤ (3 : Int) := (by omega)
      have q223 : 3 < (l0.length : Int) := of_decide_eq_true (by first | (with_reducible assumption) | assumption)
      obtain ⟨ad223, e223, hx223_0⟩ := Kd.at_int HR0.out 3 p223 q223
      have hw223_0 := hx223_0
      (try rw [show ((3 : Int)).toNat = 3 from rfl] at hw223_0)
      (try rw [show 3 * 1 = 3 from rfl] at hw223_0)
      (try simp only [Nat.reduceMul, Nat.reduceEqDiff, Go.Addr.add, ↓reduceIte] at hw223_0)
      obtain rfl : ad222 = ad223 := (by injection e223)
      (try simp only [show (3 : Int).toNat = 3 from rfl, Nat.reduceMul, Nat.reduceEqDiff, Go.Addr.add, ↓reduceIte] at hx223_0)
      have qi223 : (3 < l0.length) = True := eq_true (by omega)
      (try rw [show ((3 : Int)).toNat = 3 from rfl] at hx223_0)
      replace hx223_0 := (HB.out.cell (World.block_lt_of_cell? w _ hx223_0)).trans hx223_0
      replace p223 := eq_true p223
      replace q223 := eq_true q223
      refine start_ (n := 11) (S := fun w' => w'.cell? ⟨ad222.block, ad222.off + 2, none⟩ = some (.int .u8 (rd l0 2)) ∧ w'.cell? ⟨ad222.block, ad222.off + 3, none⟩ = some (.int .u8 (rd l0 3))) (ds := []) #[false, false, false, false, false, false, false, false, false, false, false] (by kernel_rfl) rfl rfl ⟨((HB.out.cell (World.block_lt_of_cell? w _ hw222_0)).trans hw222_0), ((HB.out.cell (World.block_lt_of_cell? w _ hw223_0)).trans hw223_0)⟩ (fun hHeld => ?_); refine with_tabW transeptref03_Open.tab3 transeptref03_Open.bits3 (fun HT_ HW_ => ?_)
      generalize w47.drew = w48 at BK221 HB hx222_0 hx223_0 hHeld ⊢
      refine pu_ 0 (some 10) HT_ ?_
      refine pu_ 1 (some 11) HT_ ?_
      refine pu_ 5 (some 15) HT_ ?_
      refine pu_ 6 (some 16) HT_ ?_
      refine tk_ 2 (some 12) HT_ HW_ hHeld ?_
      refine pu_ 3 (some 13) HT_ ?_
      refine pu_ 4 (some 14) HT_ ?_
      refine tk_ 7 (some 17) HT_ HW_ hHeld ?_
      refine pu_ 8 (some 18) HT_ ?_
      refine pu_ 9 (some 19) HT_ ?_
      refine pu_ 10 (some 5) HT_ ?_
      refine done_ (done_of HT_.out (by kernel_rfl)) ?_
      have p224 : 0 ≤ (0 : Int) := (by omega)
      have q224 : 0 < (l0.length : Int) := of_decide_eq_true (by first | (with_reducible assumption) | assumption)
      obtain ⟨ad224, e224, hx224_0⟩ := Kd.at_int HR0.out 0 p224 q224
      obtain rfl : ad222 = ad224 := (by injection e224)
      have qi224 : (0 < l0.length) = True := eq_true (by omega)
      (try rw [show ((0 : Int)).toNat = 0 from rfl] at hx224_0)
      (try rw [Addr.add_zero'] at hx224_0)
      replace hx224_0 := (HB.out.cell (World.block_lt_of_cell? w _ hx224_0)).trans hx224_0
      replace p224 := eq_true p224
      replace q224 := eq_true q224
      obtain ⟨hcz49_0, hcz49_1, hfz49_0, hfz49_1⟩ := cz2_ BK221
      try go_wp2
      refine bodyPost_ret (results_ctt rfl _ _ gb221 134 #[.int .u8 0, .slice none 0 0] (0, 0) _ rfl (by (with_reducible repeat (first | refine blk_drewN ?_ _ | refine blk_drew ?_ | refine blk_alloc ?_ _)); refine blk_put (cs := #[.int .u8 0, .slice none 0 0]) ?_ 1 _ rfl; (with_reducible repeat (first | refine blk_drewN ?_ _ | refine blk_drew ?_ | refine blk_alloc ?_ _)); refine blk_put (cs := #[.int .u8 0, .slice none 0 0]) ?_ 0 _ rfl; (with_reducible repeat (first | refine blk_drewN ?_ _ | refine blk_drew ?_ | refine blk_alloc ?_ _)); exact BK221.out) Try.underlying134 rfl (by kernel_rfl)) rfl ?_
      exact ⟨_, fin_, nil_, bl_ HB⟩
    ·rw [if_neg c7] at H
     exact absurd H (by simp)
   ·rw [if_neg c6] at H
    exact absurd H (by simp)
  ·rw [if_neg c5] at H
   exact absurd H (by simp)
end Go.Proofs.Ytooabchnbmnchaa.Q
