-- Laid by this session's own program (wip/tools) out of the translation; Lean checks it.
import Derived.Test.YthphelbkfgbejaaQ0
import Derived.Test.YthphelbkfgbejaaQ1
import Derived.Test.YthphelbkfgbejaaQ2
import Derived.Test.YthphelbkfgbejaaQ12
import Derived.Test.YthphelbkfgbejaaQ13
import Derived.Test.YthphelbkfgbejaaQ16
import Derived.Test.YthphelbkfgbejaaQ17
import Derived.Test.YthphelbkfgbejaaQ18
import Derived.Test.YthphelbkfgbejaaQ23
import Derived.Test.YthphelbkfgbejaaQ26
import Derived.Test.YthphelbkfgbejaaQ28
import Derived.Test.YthphelbkfgbejaaQ29
namespace Go.Proofs.Ythphelbkfgbejaa.Q
open Go.RowKit Go.Proofs.YthphelbkfgbejaaW.PrintWords Go.Proofs.YthphelbkfgbejaaW.PrintLast Go.Proofs.YthphelbkfgbejaaW.PrintMore
attribute [local go_sem] max2_int min2_int max_two min_two max_three min_three max_four min_four   -- for this text's walks alone
set_option linter.unusedVariables false
set_option linter.unusedSimpArgs false

/-! ### transeptlaw03_FramesTells: function 11 -/
mutual
def transeptlaw03_FramesTells.j0 : Nat → List Int → List Int → List Int → List (S58) → List (S56) → Bool → Int → List Int → Option (Bool)
  | 0, _, _, _, _, _, _, _, _ => none
  | k + 1, x1, x5, x6, x17, x19, x100, x202000, x202001 => if x100 = true then (some false) else (transeptlaw03_FramesTells.l0 k x1 x5 x6 x17 x19 0 x202000 x202001)
def transeptlaw03_FramesTells.l0 : Nat → List Int → List Int → List Int → List (S58) → List (S56) → Int → Int → List Int → Option (Bool)
  | 0, _, _, _, _, _, _, _, _ => none
  | k + 1, x1, x5, x6, x17, x19, x21, x202000, x202001 => if x21 < (x17.length : Int) then (if 0 ≤ x21 then (if x21 < (x19.length : Int) then ((transeptlaw03_same.f k ((rd_T58 x17 x21).f0) ((rd_T58 x17 x21).f1) ((rd_T56 x19 x21).f0) ((rd_T56 x19 x21).f1)).bind fun t244 => (if t244 = true then (transeptlaw03_FramesTells.l0 k x1 x5 x6 x17 x19 (wrap64 (x21 + 1)) x202000 x202001) else (some false))) else (none)) else (none)) else ((transeptplain_SameBytes.f k x6 x1).bind fun t245 => (if t245 = true then ((transeptplain_SameBytes.f k x5 x202001).bind fun t246 => (if t246 = true then ((transeptlaw03_alive.f).bind fun t247 => (some t247)) else (some false))) else (some false)))
end
def transeptlaw03_FramesTells.f (k : Nat) (a0_0 : Int) (l0_1 : List Int) (l1 : List Int) : Option (Bool) := (transeptplain_CopyBytes.f l0_1).bind fun t202 => ((transeptplain_CopyBytes.f l1).bind fun t205 => ((frames_Seal.f a0_0 t202).bind fun bt208 => ((transeptref03_Seal.f k a0_0 l0_1).bind fun bt212 => ((frames_Open.f k t205).bind fun bt216 => ((transeptref03_Open.f k l1).bind fun bt223 => ((frames_Scan.f k t205).bind fun bt230 => ((transeptref03_Scan.f k l1).bind fun bt234 => ((transeptplain_SameBytes.f k bt208.1 bt212.1).bind fun t238 => (if t238 = true then ((transeptlaw03_num.f bt208.2).bind fun t239 => (if t239 = bt212.2 then ((transeptlaw03_same.f k bt216.1 bt216.2.1 bt223.1 bt223.2.1).bind fun t240 => (if t240 = true then (if bt216.2.2.1 = bt223.2.2.1 then ((transeptlaw03_num.f bt216.2.2.2).bind fun t241 => (if t241 = bt223.2.2.2 then (if bt230.2 = bt234.2 then (transeptlaw03_FramesTells.j0 k l1 t202 t205 bt230.1 bt234.1 ((bt230.1.length : Int) != (bt234.1.length : Int)) a0_0 l0_1) else (transeptlaw03_FramesTells.j0 k l1 t202 t205 bt230.1 bt234.1 true a0_0 l0_1)) else (transeptlaw03_FramesTells.j0 k l1 t202 t205 bt230.1 bt234.1 true a0_0 l0_1))) else (transeptlaw03_FramesTells.j0 k l1 t202 t205 bt230.1 bt234.1 true a0_0 l0_1)) else (transeptlaw03_FramesTells.j0 k l1 t202 t205 bt230.1 bt234.1 true a0_0 l0_1))) else (transeptlaw03_FramesTells.j0 k l1 t202 t205 bt230.1 bt234.1 true a0_0 l0_1))) else (transeptlaw03_FramesTells.j0 k l1 t202 t205 bt230.1 bt234.1 true a0_0 l0_1))))))))))
theorem transeptlaw03_FramesTells.mono_l : ∀ k, (∀ y0 y1 y2 y3 y4 y5 y6 y7, LeO (transeptlaw03_FramesTells.j0 k y0 y1 y2 y3 y4 y5 y6 y7) (transeptlaw03_FramesTells.j0 (k + 1) y0 y1 y2 y3 y4 y5 y6 y7)) ∧ (∀ y0 y1 y2 y3 y4 y5 y6 y7, LeO (transeptlaw03_FramesTells.l0 k y0 y1 y2 y3 y4 y5 y6 y7) (transeptlaw03_FramesTells.l0 (k + 1) y0 y1 y2 y3 y4 y5 y6 y7))
  | 0 => ⟨fun _ _ _ _ _ _ _ _ r h => by simp [transeptlaw03_FramesTells.j0] at h, fun _ _ _ _ _ _ _ _ r h => by simp [transeptlaw03_FramesTells.l0] at h⟩
  | k + 1 => by
    obtain ⟨ih0, ih1⟩ := transeptlaw03_FramesTells.mono_l k
    refine ⟨?_, ?_⟩
    · intro y0 y1 y2 y3 y4 y5 y6 y7
      unfold transeptlaw03_FramesTells.j0
      repeat' first
      | (with_reducible exact ih0 _ _ _ _ _ _ _ _)
      | (with_reducible exact ih1 _ _ _ _ _ _ _ _)
      | (with_reducible exact frames_Open.mono _ _)
      | (with_reducible exact frames_Scan.mono _ _)
      | (with_reducible exact transeptlaw03_same.mono _ _ _ _ _)
      | (with_reducible exact transeptplain_SameBytes.mono _ _ _)
      | (with_reducible exact transeptref03_Open.mono _ _)
      | (with_reducible exact transeptref03_Scan.mono _ _)
      | (with_reducible exact transeptref03_Seal.mono _ _ _)
      | (with_reducible exact LeO.refl _)
      | (with_reducible exact LeO.none _)
      | (with_reducible refine LeO.ite ?_ ?_)
      | (with_reducible refine LeO.bind ?_ (fun _ => ?_))
      | exact ih0 _ _ _ _ _ _ _ _
      | exact ih1 _ _ _ _ _ _ _ _
      | exact frames_Open.mono _ _
      | exact frames_Scan.mono _ _
      | exact transeptlaw03_same.mono _ _ _ _ _
      | exact transeptplain_SameBytes.mono _ _ _
      | exact transeptref03_Open.mono _ _
      | exact transeptref03_Scan.mono _ _
      | exact transeptref03_Seal.mono _ _ _
      | exact LeO.none _
      | refine LeO.ite ?_ ?_
      | refine LeO.bind ?_ (fun _ => ?_)
    · intro y0 y1 y2 y3 y4 y5 y6 y7
      unfold transeptlaw03_FramesTells.l0
      repeat' first
      | (with_reducible exact ih0 _ _ _ _ _ _ _ _)
      | (with_reducible exact ih1 _ _ _ _ _ _ _ _)
      | (with_reducible exact frames_Open.mono _ _)
      | (with_reducible exact frames_Scan.mono _ _)
      | (with_reducible exact transeptlaw03_same.mono _ _ _ _ _)
      | (with_reducible exact transeptplain_SameBytes.mono _ _ _)
      | (with_reducible exact transeptref03_Open.mono _ _)
      | (with_reducible exact transeptref03_Scan.mono _ _)
      | (with_reducible exact transeptref03_Seal.mono _ _ _)
      | (with_reducible exact LeO.refl _)
      | (with_reducible exact LeO.none _)
      | (with_reducible refine LeO.ite ?_ ?_)
      | (with_reducible refine LeO.bind ?_ (fun _ => ?_))
      | exact ih0 _ _ _ _ _ _ _ _
      | exact ih1 _ _ _ _ _ _ _ _
      | exact frames_Open.mono _ _
      | exact frames_Scan.mono _ _
      | exact transeptlaw03_same.mono _ _ _ _ _
      | exact transeptplain_SameBytes.mono _ _ _
      | exact transeptref03_Open.mono _ _
      | exact transeptref03_Scan.mono _ _
      | exact transeptref03_Seal.mono _ _ _
      | exact LeO.none _
      | refine LeO.ite ?_ ?_
      | refine LeO.bind ?_ (fun _ => ?_)
theorem transeptlaw03_FramesTells.mono : ∀ a0 a1 a2 k, LeO (transeptlaw03_FramesTells.f k a0 a1 a2) (transeptlaw03_FramesTells.f (k + 1) a0 a1 a2) := by
  intro a0 a1 a2 k
  obtain ⟨ih0, ih1⟩ := transeptlaw03_FramesTells.mono_l k
  unfold transeptlaw03_FramesTells.f
  repeat' first
      | (with_reducible exact ih0 _ _ _ _ _ _ _ _)
      | (with_reducible exact ih1 _ _ _ _ _ _ _ _)
      | (with_reducible exact frames_Open.mono _ _)
      | (with_reducible exact frames_Scan.mono _ _)
      | (with_reducible exact transeptlaw03_same.mono _ _ _ _ _)
      | (with_reducible exact transeptplain_SameBytes.mono _ _ _)
      | (with_reducible exact transeptref03_Open.mono _ _)
      | (with_reducible exact transeptref03_Scan.mono _ _)
      | (with_reducible exact transeptref03_Seal.mono _ _ _)
      | (with_reducible exact LeO.refl _)
      | (with_reducible exact LeO.none _)
      | (with_reducible refine LeO.ite ?_ ?_)
      | (with_reducible refine LeO.bind ?_ (fun _ => ?_))
      | exact ih0 _ _ _ _ _ _ _ _
      | exact ih1 _ _ _ _ _ _ _ _
      | exact frames_Open.mono _ _
      | exact frames_Scan.mono _ _
      | exact transeptlaw03_same.mono _ _ _ _ _
      | exact transeptplain_SameBytes.mono _ _ _
      | exact transeptref03_Open.mono _ _
      | exact transeptref03_Scan.mono _ _
      | exact transeptref03_Seal.mono _ _ _
      | exact LeO.none _
      | refine LeO.ite ?_ ?_
      | refine LeO.bind ?_ (fun _ => ?_)
def transeptlaw03_FramesTells.T13 : Bool × List (List Nat × List Nat) := (true, [([], []), ([], []), ([0, 1], [0, 1]), ([2], [2]), ([], []), ([], []), ([4, 5], [4, 5]), ([6], [6]), ([3, 7], [3, 7]), ([8], [8])])
def transeptlaw03_FramesTells.B13 : List Nat := [0, 0, 3, 7, 0, 0, 48, 112, 255, 511]
theorem transeptlaw03_FramesTells.tab13 : rtab .any (opsOf Try.f11 13) = transeptlaw03_FramesTells.T13 := by kernel_rfl
theorem transeptlaw03_FramesTells.bits13 : waitsOk transeptlaw03_FramesTells.T13.2 transeptlaw03_FramesTells.B13 = true := by kernel_rfl
set_option maxHeartbeats 8000000 in
set_option maxRecDepth 100000 in
theorem transeptlaw03_FramesTells.calls (k : Nat) (a0_0 : Int) (A0_1 : Option Addr) (c0_1 : Nat) (l0_1 : List Int) (A1 : Option Addr) (c1 : Nat) (l1 : List Int) (r : Bool) (w : World) (hr0_1 : Kd.C (Kd.int .u8) w A0_1 l0_1.length l0_1) (hc0_1 : l0_1.length ≤ c0_1) (hr1 : Kd.C (Kd.int .u8) w A1 l1.length l1) (hc1 : l1.length ≤ c1) (h : transeptlaw03_FramesTells.f k a0_0 l0_1 l1 = some r) :
    Calls Try.prog 11 #[.agg #[.int .u8 a0_0, .slice A0_1 l0_1.length c0_1], .slice A1 l1.length c1] w fun e w' => e = .returned (.bool r) ∧ Below w.heap.size w w' := by
  have hu56 := Try.underlying56
  have hu58 := Try.underlying58
  have HR0_1 := Aside0.mk hr0_1
  have HC0_1 := Aside0.mk hc0_1
  clear hr0_1 hc0_1
  have HR1 := Aside0.mk hr1
  have HC1 := Aside0.mk hc1
  clear hr1 hc1
  have HB := Aside0.mk (Below.refl w.heap.size w)
  have H : ((transeptplain_CopyBytes.f l0_1).bind fun t202 => ((transeptplain_CopyBytes.f l1).bind fun t205 => ((frames_Seal.f a0_0 t202).bind fun bt208 => ((transeptref03_Seal.f k a0_0 l0_1).bind fun bt212 => ((frames_Open.f k t205).bind fun bt216 => ((transeptref03_Open.f k l1).bind fun bt223 => ((frames_Scan.f k t205).bind fun bt230 => ((transeptref03_Scan.f k l1).bind fun bt234 => ((transeptplain_SameBytes.f k bt208.1 bt212.1).bind fun t238 => (if t238 = true then ((transeptlaw03_num.f bt208.2).bind fun t239 => (if t239 = bt212.2 then ((transeptlaw03_same.f k bt216.1 bt216.2.1 bt223.1 bt223.2.1).bind fun t240 => (if t240 = true then (if bt216.2.2.1 = bt223.2.2.1 then ((transeptlaw03_num.f bt216.2.2.2).bind fun t241 => (if t241 = bt223.2.2.2 then (if bt230.2 = bt234.2 then (transeptlaw03_FramesTells.j0 k l1 t202 t205 bt230.1 bt234.1 ((bt230.1.length : Int) != (bt234.1.length : Int)) a0_0 l0_1) else (transeptlaw03_FramesTells.j0 k l1 t202 t205 bt230.1 bt234.1 true a0_0 l0_1)) else (transeptlaw03_FramesTells.j0 k l1 t202 t205 bt230.1 bt234.1 true a0_0 l0_1))) else (transeptlaw03_FramesTells.j0 k l1 t202 t205 bt230.1 bt234.1 true a0_0 l0_1)) else (transeptlaw03_FramesTells.j0 k l1 t202 t205 bt230.1 bt234.1 true a0_0 l0_1))) else (transeptlaw03_FramesTells.j0 k l1 t202 t205 bt230.1 bt234.1 true a0_0 l0_1))) else (transeptlaw03_FramesTells.j0 k l1 t202 t205 bt230.1 bt234.1 true a0_0 l0_1))))))))))) = some r := h
  clear h
  replace H := Option.bind_eq_some_iff.mp H
  obtain ⟨t202, A30, H⟩ := H
  replace H : ((transeptplain_CopyBytes.f l1).bind fun t205 => ((frames_Seal.f a0_0 t202).bind fun bt208 => ((transeptref03_Seal.f k a0_0 l0_1).bind fun bt212 => ((frames_Open.f k t205).bind fun bt216 => ((transeptref03_Open.f k l1).bind fun bt223 => ((frames_Scan.f k t205).bind fun bt230 => ((transeptref03_Scan.f k l1).bind fun bt234 => ((transeptplain_SameBytes.f k bt208.1 bt212.1).bind fun t238 => (if t238 = true then ((transeptlaw03_num.f bt208.2).bind fun t239 => (if t239 = bt212.2 then ((transeptlaw03_same.f k bt216.1 bt216.2.1 bt223.1 bt223.2.1).bind fun t240 => (if t240 = true then (if bt216.2.2.1 = bt223.2.2.1 then ((transeptlaw03_num.f bt216.2.2.2).bind fun t241 => (if t241 = bt223.2.2.2 then (if bt230.2 = bt234.2 then (transeptlaw03_FramesTells.j0 k l1 t202 t205 bt230.1 bt234.1 ((bt230.1.length : Int) != (bt234.1.length : Int)) a0_0 l0_1) else (transeptlaw03_FramesTells.j0 k l1 t202 t205 bt230.1 bt234.1 true a0_0 l0_1)) else (transeptlaw03_FramesTells.j0 k l1 t202 t205 bt230.1 bt234.1 true a0_0 l0_1))) else (transeptlaw03_FramesTells.j0 k l1 t202 t205 bt230.1 bt234.1 true a0_0 l0_1)) else (transeptlaw03_FramesTells.j0 k l1 t202 t205 bt230.1 bt234.1 true a0_0 l0_1))) else (transeptlaw03_FramesTells.j0 k l1 t202 t205 bt230.1 bt234.1 true a0_0 l0_1))) else (transeptlaw03_FramesTells.j0 k l1 t202 t205 bt230.1 bt234.1 true a0_0 l0_1)))))))))) = some r := H
  have A3 := Aside0.mk A30
  clear A30
  replace H := Option.bind_eq_some_iff.mp H
  obtain ⟨t205, A40, H⟩ := H
  replace H : ((frames_Seal.f a0_0 t202).bind fun bt208 => ((transeptref03_Seal.f k a0_0 l0_1).bind fun bt212 => ((frames_Open.f k t205).bind fun bt216 => ((transeptref03_Open.f k l1).bind fun bt223 => ((frames_Scan.f k t205).bind fun bt230 => ((transeptref03_Scan.f k l1).bind fun bt234 => ((transeptplain_SameBytes.f k bt208.1 bt212.1).bind fun t238 => (if t238 = true then ((transeptlaw03_num.f bt208.2).bind fun t239 => (if t239 = bt212.2 then ((transeptlaw03_same.f k bt216.1 bt216.2.1 bt223.1 bt223.2.1).bind fun t240 => (if t240 = true then (if bt216.2.2.1 = bt223.2.2.1 then ((transeptlaw03_num.f bt216.2.2.2).bind fun t241 => (if t241 = bt223.2.2.2 then (if bt230.2 = bt234.2 then (transeptlaw03_FramesTells.j0 k l1 t202 t205 bt230.1 bt234.1 ((bt230.1.length : Int) != (bt234.1.length : Int)) a0_0 l0_1) else (transeptlaw03_FramesTells.j0 k l1 t202 t205 bt230.1 bt234.1 true a0_0 l0_1)) else (transeptlaw03_FramesTells.j0 k l1 t202 t205 bt230.1 bt234.1 true a0_0 l0_1))) else (transeptlaw03_FramesTells.j0 k l1 t202 t205 bt230.1 bt234.1 true a0_0 l0_1)) else (transeptlaw03_FramesTells.j0 k l1 t202 t205 bt230.1 bt234.1 true a0_0 l0_1))) else (transeptlaw03_FramesTells.j0 k l1 t202 t205 bt230.1 bt234.1 true a0_0 l0_1))) else (transeptlaw03_FramesTells.j0 k l1 t202 t205 bt230.1 bt234.1 true a0_0 l0_1))))))))) = some r := H
  have A4 := Aside0.mk A40
  clear A40
  replace H := Option.bind_eq_some_iff.mp H
  obtain ⟨⟨t208, t211⟩, A50, H⟩ := H
  replace H : ((transeptref03_Seal.f k a0_0 l0_1).bind fun bt212 => ((frames_Open.f k t205).bind fun bt216 => ((transeptref03_Open.f k l1).bind fun bt223 => ((frames_Scan.f k t205).bind fun bt230 => ((transeptref03_Scan.f k l1).bind fun bt234 => ((transeptplain_SameBytes.f k t208 bt212.1).bind fun t238 => (if t238 = true then ((transeptlaw03_num.f t211).bind fun t239 => (if t239 = bt212.2 then ((transeptlaw03_same.f k bt216.1 bt216.2.1 bt223.1 bt223.2.1).bind fun t240 => (if t240 = true then (if bt216.2.2.1 = bt223.2.2.1 then ((transeptlaw03_num.f bt216.2.2.2).bind fun t241 => (if t241 = bt223.2.2.2 then (if bt230.2 = bt234.2 then (transeptlaw03_FramesTells.j0 k l1 t202 t205 bt230.1 bt234.1 ((bt230.1.length : Int) != (bt234.1.length : Int)) a0_0 l0_1) else (transeptlaw03_FramesTells.j0 k l1 t202 t205 bt230.1 bt234.1 true a0_0 l0_1)) else (transeptlaw03_FramesTells.j0 k l1 t202 t205 bt230.1 bt234.1 true a0_0 l0_1))) else (transeptlaw03_FramesTells.j0 k l1 t202 t205 bt230.1 bt234.1 true a0_0 l0_1)) else (transeptlaw03_FramesTells.j0 k l1 t202 t205 bt230.1 bt234.1 true a0_0 l0_1))) else (transeptlaw03_FramesTells.j0 k l1 t202 t205 bt230.1 bt234.1 true a0_0 l0_1))) else (transeptlaw03_FramesTells.j0 k l1 t202 t205 bt230.1 bt234.1 true a0_0 l0_1)))))))) = some r := H
  have A5 := Aside0.mk A50
  clear A50
  replace H := Option.bind_eq_some_iff.mp H
  obtain ⟨⟨t212, t215⟩, A60, H⟩ := H
  replace H : ((frames_Open.f k t205).bind fun bt216 => ((transeptref03_Open.f k l1).bind fun bt223 => ((frames_Scan.f k t205).bind fun bt230 => ((transeptref03_Scan.f k l1).bind fun bt234 => ((transeptplain_SameBytes.f k t208 t212).bind fun t238 => (if t238 = true then ((transeptlaw03_num.f t211).bind fun t239 => (if t239 = t215 then ((transeptlaw03_same.f k bt216.1 bt216.2.1 bt223.1 bt223.2.1).bind fun t240 => (if t240 = true then (if bt216.2.2.1 = bt223.2.2.1 then ((transeptlaw03_num.f bt216.2.2.2).bind fun t241 => (if t241 = bt223.2.2.2 then (if bt230.2 = bt234.2 then (transeptlaw03_FramesTells.j0 k l1 t202 t205 bt230.1 bt234.1 ((bt230.1.length : Int) != (bt234.1.length : Int)) a0_0 l0_1) else (transeptlaw03_FramesTells.j0 k l1 t202 t205 bt230.1 bt234.1 true a0_0 l0_1)) else (transeptlaw03_FramesTells.j0 k l1 t202 t205 bt230.1 bt234.1 true a0_0 l0_1))) else (transeptlaw03_FramesTells.j0 k l1 t202 t205 bt230.1 bt234.1 true a0_0 l0_1)) else (transeptlaw03_FramesTells.j0 k l1 t202 t205 bt230.1 bt234.1 true a0_0 l0_1))) else (transeptlaw03_FramesTells.j0 k l1 t202 t205 bt230.1 bt234.1 true a0_0 l0_1))) else (transeptlaw03_FramesTells.j0 k l1 t202 t205 bt230.1 bt234.1 true a0_0 l0_1))))))) = some r := H
  have A6 := Aside0.mk A60
  clear A60
  replace H := Option.bind_eq_some_iff.mp H
  obtain ⟨⟨t216, t217, t220, t221⟩, A70, H⟩ := H
  replace H : ((transeptref03_Open.f k l1).bind fun bt223 => ((frames_Scan.f k t205).bind fun bt230 => ((transeptref03_Scan.f k l1).bind fun bt234 => ((transeptplain_SameBytes.f k t208 t212).bind fun t238 => (if t238 = true then ((transeptlaw03_num.f t211).bind fun t239 => (if t239 = t215 then ((transeptlaw03_same.f k t216 t217 bt223.1 bt223.2.1).bind fun t240 => (if t240 = true then (if t220 = bt223.2.2.1 then ((transeptlaw03_num.f t221).bind fun t241 => (if t241 = bt223.2.2.2 then (if bt230.2 = bt234.2 then (transeptlaw03_FramesTells.j0 k l1 t202 t205 bt230.1 bt234.1 ((bt230.1.length : Int) != (bt234.1.length : Int)) a0_0 l0_1) else (transeptlaw03_FramesTells.j0 k l1 t202 t205 bt230.1 bt234.1 true a0_0 l0_1)) else (transeptlaw03_FramesTells.j0 k l1 t202 t205 bt230.1 bt234.1 true a0_0 l0_1))) else (transeptlaw03_FramesTells.j0 k l1 t202 t205 bt230.1 bt234.1 true a0_0 l0_1)) else (transeptlaw03_FramesTells.j0 k l1 t202 t205 bt230.1 bt234.1 true a0_0 l0_1))) else (transeptlaw03_FramesTells.j0 k l1 t202 t205 bt230.1 bt234.1 true a0_0 l0_1))) else (transeptlaw03_FramesTells.j0 k l1 t202 t205 bt230.1 bt234.1 true a0_0 l0_1)))))) = some r := H
  have A7 := Aside0.mk A70
  clear A70
  replace H := Option.bind_eq_some_iff.mp H
  obtain ⟨⟨t223, t224, t227, t228⟩, A80, H⟩ := H
  replace H : ((frames_Scan.f k t205).bind fun bt230 => ((transeptref03_Scan.f k l1).bind fun bt234 => ((transeptplain_SameBytes.f k t208 t212).bind fun t238 => (if t238 = true then ((transeptlaw03_num.f t211).bind fun t239 => (if t239 = t215 then ((transeptlaw03_same.f k t216 t217 t223 t224).bind fun t240 => (if t240 = true then (if t220 = t227 then ((transeptlaw03_num.f t221).bind fun t241 => (if t241 = t228 then (if bt230.2 = bt234.2 then (transeptlaw03_FramesTells.j0 k l1 t202 t205 bt230.1 bt234.1 ((bt230.1.length : Int) != (bt234.1.length : Int)) a0_0 l0_1) else (transeptlaw03_FramesTells.j0 k l1 t202 t205 bt230.1 bt234.1 true a0_0 l0_1)) else (transeptlaw03_FramesTells.j0 k l1 t202 t205 bt230.1 bt234.1 true a0_0 l0_1))) else (transeptlaw03_FramesTells.j0 k l1 t202 t205 bt230.1 bt234.1 true a0_0 l0_1)) else (transeptlaw03_FramesTells.j0 k l1 t202 t205 bt230.1 bt234.1 true a0_0 l0_1))) else (transeptlaw03_FramesTells.j0 k l1 t202 t205 bt230.1 bt234.1 true a0_0 l0_1))) else (transeptlaw03_FramesTells.j0 k l1 t202 t205 bt230.1 bt234.1 true a0_0 l0_1))))) = some r := H
  have A8 := Aside0.mk A80
  clear A80
  replace H := Option.bind_eq_some_iff.mp H
  obtain ⟨⟨t230, t231⟩, A90, H⟩ := H
  replace H : ((transeptref03_Scan.f k l1).bind fun bt234 => ((transeptplain_SameBytes.f k t208 t212).bind fun t238 => (if t238 = true then ((transeptlaw03_num.f t211).bind fun t239 => (if t239 = t215 then ((transeptlaw03_same.f k t216 t217 t223 t224).bind fun t240 => (if t240 = true then (if t220 = t227 then ((transeptlaw03_num.f t221).bind fun t241 => (if t241 = t228 then (if t231 = bt234.2 then (transeptlaw03_FramesTells.j0 k l1 t202 t205 t230 bt234.1 ((t230.length : Int) != (bt234.1.length : Int)) a0_0 l0_1) else (transeptlaw03_FramesTells.j0 k l1 t202 t205 t230 bt234.1 true a0_0 l0_1)) else (transeptlaw03_FramesTells.j0 k l1 t202 t205 t230 bt234.1 true a0_0 l0_1))) else (transeptlaw03_FramesTells.j0 k l1 t202 t205 t230 bt234.1 true a0_0 l0_1)) else (transeptlaw03_FramesTells.j0 k l1 t202 t205 t230 bt234.1 true a0_0 l0_1))) else (transeptlaw03_FramesTells.j0 k l1 t202 t205 t230 bt234.1 true a0_0 l0_1))) else (transeptlaw03_FramesTells.j0 k l1 t202 t205 t230 bt234.1 true a0_0 l0_1)))) = some r := H
  have A9 := Aside0.mk A90
  clear A90
  replace H := Option.bind_eq_some_iff.mp H
  obtain ⟨⟨t234, t235⟩, A100, H⟩ := H
  replace H : ((transeptplain_SameBytes.f k t208 t212).bind fun t238 => (if t238 = true then ((transeptlaw03_num.f t211).bind fun t239 => (if t239 = t215 then ((transeptlaw03_same.f k t216 t217 t223 t224).bind fun t240 => (if t240 = true then (if t220 = t227 then ((transeptlaw03_num.f t221).bind fun t241 => (if t241 = t228 then (if t231 = t235 then (transeptlaw03_FramesTells.j0 k l1 t202 t205 t230 t234 ((t230.length : Int) != (t234.length : Int)) a0_0 l0_1) else (transeptlaw03_FramesTells.j0 k l1 t202 t205 t230 t234 true a0_0 l0_1)) else (transeptlaw03_FramesTells.j0 k l1 t202 t205 t230 t234 true a0_0 l0_1))) else (transeptlaw03_FramesTells.j0 k l1 t202 t205 t230 t234 true a0_0 l0_1)) else (transeptlaw03_FramesTells.j0 k l1 t202 t205 t230 t234 true a0_0 l0_1))) else (transeptlaw03_FramesTells.j0 k l1 t202 t205 t230 t234 true a0_0 l0_1))) else (transeptlaw03_FramesTells.j0 k l1 t202 t205 t230 t234 true a0_0 l0_1))) = some r := H
  have A10 := Aside0.mk A100
  clear A100
  have HC11 := Aside0.mk H
  clear H
  go_enter Try.func11, Try.ntmps11
  go_upto_region 8 with (first | ((with_reducible refine gate_dst (N := 2) rfl ?_); (try (refine gate_guard (by rfl) ?_; dsimp only)); refine box_event ?hg (N := 2) ?hd (cs := #[.int .u8 a0_0, .slice A0_1 l0_1.length c0_1]) (t := 56) ?hr ?_; (case hd => rfl); (case hg => rfl); (case hr => first | (go_simp; done) | (go_simp; rfl)); intro gb201 hg w12 hbox hb; have n0_ := Aside0.mk (below_step (by repeat (first | (with_reducible first | exact HB.out | apply below_alloc | apply pw_below_drewN | apply below_drew1) | exact HB.out)) hb); have n1_ := Aside0.mk (hbox); have n2_ := Aside0.mk ((by rw [hg]; exact (below_size (by repeat (first | (with_reducible first | exact HB.out | apply below_alloc | apply pw_below_drewN | apply below_drew1) | exact HB.out))) : w.heap.size ≤ gb201)); have n3_ := Aside0.mk ((by rw [hg]; exact (below_size (by repeat (first | (with_reducible first | exact HB.out | apply below_alloc | apply pw_below_drewN | apply below_drew1) | exact HB.out))) : w.heap.size ≤ gb201)); clear HB; have HB := n0_; have BK201 := n1_; have GW201 := n2_; have GE201 := n3_; clear n0_ n1_ n2_ n3_; clear hb hbox hg; have hcz13_0 : w12.cell? ⟨gb201, 0, none⟩ = some (.int .u8 a0_0) := (blk_cell BK201.out 0).trans rfl; have hcz13_1 : w12.cell? ⟨gb201, 1, none⟩ = some (.slice A0_1 l0_1.length c0_1) := (blk_cell BK201.out 1).trans rfl; have hfz13_0 := blk_frozen BK201.out 0; have hfz13_1 := blk_frozen BK201.out 1) | ((with_reducible refine gate_callee (f := 21) rfl ?_); refine goesL_ (some 24) rfl rfl Try.func21 (by kernel_rfl) rfl #[.slice A0_1 l0_1.length c0_1] rfl (by (try simp only [List.map_toArray, List.map_cons, List.map_nil]); first | done | rfl | (simp only [List.length_drop, List.length_take]; rfl)) ?_; (with_reducible refine (transeptplain_CopyBytes.calls _ _ l0_1 t202 _ ?side1 ?side2 A3.out).mono ?_); (case side1 => repeat (first | exact (Kd.C_below HR0_1.out HB.out) | (with_reducible refine Kd.C_alloc ?_ _) | (with_reducible refine Kd.C_drewN ?_ _) | (with_reducible refine Kd.C_drew ?_))); (case side2 => exact HC0_1.out); rintro e w14 ⟨v203, rfl, ho0, hb⟩; refine ⟨_, rfl, ?_⟩; have n0_ := Aside0.mk (Kd.R_lower ho0 (below_size (by repeat (first | (with_reducible first | exact HB.out | apply below_alloc | apply pw_below_drewN | apply below_drew1 | refine below_set ?_ GE201.out) | exact HB.out)))); have n1_ := Aside0.mk (blk_below (g := gb201) (o := .cells #[.int .u8 a0_0, .slice A0_1 l0_1.length c0_1] 56 (0, 0)) (by (with_reducible repeat (first | refine blk_drewN ?_ _ | refine blk_drew ?_ | refine blk_alloc ?_ _)); exact BK201.out) hb); have n2_ := Aside0.mk (below_step (by repeat (first | (with_reducible first | exact HB.out | apply below_alloc | apply pw_below_drewN | apply below_drew1 | refine below_set ?_ GE201.out) | exact HB.out)) hb); clear BK201; clear HB; have HO204 := n0_; have BK201 := n1_; have HB := n2_; clear n0_ n1_ n2_; (try clear hb); (try clear hb2); (try clear hk); (try clear hi); (try clear ho0)) | ((with_reducible refine gate_callee (f := 21) rfl ?_); refine goesL_ (some 26) rfl rfl Try.func21 (by kernel_rfl) rfl #[.slice A1 l1.length c1] rfl (by (try simp only [List.map_toArray, List.map_cons, List.map_nil]); first | done | rfl | (simp only [List.length_drop, List.length_take]; rfl)) ?_; (with_reducible refine (transeptplain_CopyBytes.calls _ _ l1 t205 _ ?side1 ?side2 A4.out).mono ?_); (case side1 => repeat (first | exact (Kd.C_below HR1.out HB.out) | (with_reducible refine Kd.C_alloc ?_ _) | (with_reducible refine Kd.C_drewN ?_ _) | (with_reducible refine Kd.C_drew ?_))); (case side2 => exact HC1.out); rintro e w15 ⟨v206, rfl, ho0, hb⟩; refine ⟨_, rfl, ?_⟩; have n0_ := Aside0.mk (Kd.R_elder' (by (with_reducible repeat (first | apply Kd.R_alloc | apply Kd.R_drewN | apply Kd.R_drew)); exact HO204.out) (Kd.R_base ho0) hb); have n1_ := Aside0.mk (Kd.R_lower (Kd.R_new' ho0 (Kd.R_lt (by (with_reducible repeat (first | apply Kd.R_alloc | apply Kd.R_drewN | apply Kd.R_drew)); exact HO204.out))) (below_size (by repeat (first | (with_reducible first | exact HB.out | apply below_alloc | apply pw_below_drewN | apply below_drew1 | refine below_set ?_ GE201.out) | exact HB.out)))); have n2_ := Aside0.mk (blk_below (g := gb201) (o := .cells #[.int .u8 a0_0, .slice A0_1 l0_1.length c0_1] 56 (0, 0)) (by (with_reducible repeat (first | refine blk_drewN ?_ _ | refine blk_drew ?_ | refine blk_alloc ?_ _)); exact BK201.out) hb); have n3_ := Aside0.mk (below_step (by repeat (first | (with_reducible first | exact HB.out | apply below_alloc | apply pw_below_drewN | apply below_drew1 | refine below_set ?_ GE201.out) | exact HB.out)) hb); clear HO204; clear BK201; clear HB; have HO204 := n0_; have HO207 := n1_; have BK201 := n2_; have HB := n3_; clear n0_ n1_ n2_ n3_; (try clear hb); (try clear hb2); (try clear hk); (try clear hi); (try clear ho0); have hcz16_0 : w15.cell? ⟨gb201, 0, none⟩ = some (.int .u8 a0_0) := (blk_cell BK201.out 0).trans rfl; have hcz16_1 : w15.cell? ⟨gb201, 1, none⟩ = some (.slice A0_1 l0_1.length c0_1) := (blk_cell BK201.out 1).trans rfl; have hfz16_0 := blk_frozen BK201.out 0; have hfz16_1 := blk_frozen BK201.out 1; obtain ⟨Ao17, co17, eo17⟩ := Kd.R_slice HO204.out; subst eo17) | ((with_reducible refine gate_callee (f := 36) rfl ?_); refine goesL_ (some 32) rfl rfl Try.func36 (by kernel_rfl) rfl #[.agg #[.int .u8 a0_0, .slice Ao17 t202.length co17]] rfl (by (try simp only [List.map_toArray, List.map_cons, List.map_nil]); first | done | rfl | (simp only [List.length_drop, List.length_take]; rfl)) ?_; (with_reducible refine (frames_Seal.calls a0_0 (fun k_ => some k_ = (.slice Ao17 t202.length co17 : Value).ownBlock) _ _ t202 t208 t211 _ ?side1 A5.out).mono ?_); (case side1 => exact Kd.R_V (Kd.R_tight rfl (Kd.R_types (HO204.out) BK201.out (by decide)))); rintro e w18 ⟨v209, rfl, ho0, hb⟩; refine ⟨_, rfl, ?_⟩; have n0_ := Aside0.mk (Kd.R_elder' (by (with_reducible repeat (first | apply Kd.R_alloc | apply Kd.R_drewN | apply Kd.R_drew)); exact HO204.out) (Kd.R_base ho0) hb); have n1_ := Aside0.mk (Kd.R_elder' (by (with_reducible repeat (first | apply Kd.R_alloc | apply Kd.R_drewN | apply Kd.R_drew)); exact HO207.out) (Kd.R_base ho0) hb); have n2_ := Aside0.mk (Kd.R_lower (Kd.R_new' (Kd.R_new' (Kd.R_mono (ok' := fun k_ => True) ho0 (fun _ hk_ => trivial)) (Kd.R_lt (by (with_reducible repeat (first | apply Kd.R_alloc | apply Kd.R_drewN | apply Kd.R_drew)); exact HO204.out))) (Kd.R_lt (by (with_reducible repeat (first | apply Kd.R_alloc | apply Kd.R_drewN | apply Kd.R_drew)); exact HO207.out))) (below_size (by repeat (first | (with_reducible first | exact HB.out | apply below_alloc | apply pw_below_drewN | apply below_drew1 | refine below_set ?_ GE201.out) | exact HB.out)))); have n3_ := Aside0.mk (blk_below (g := gb201) (o := .cells #[.int .u8 a0_0, .slice A0_1 l0_1.length c0_1] 56 (0, 0)) (by (with_reducible repeat (first | refine blk_drewN ?_ _ | refine blk_drew ?_ | refine blk_alloc ?_ _)); exact BK201.out) hb); have n4_ := Aside0.mk (below_step (by repeat (first | (with_reducible first | exact HB.out | apply below_alloc | apply pw_below_drewN | apply below_drew1 | refine below_set ?_ GE201.out) | exact HB.out)) hb); clear HO204; clear HO207; clear BK201; clear HB; have HO204 := n0_; have HO207 := n1_; have HO210 := n2_; have BK201 := n3_; have HB := n4_; clear n0_ n1_ n2_ n3_ n4_; (try clear hb); (try clear hb2); (try clear hk); (try clear hi); (try clear ho0); have hcz19_0 : w18.cell? ⟨gb201, 0, none⟩ = some (.int .u8 a0_0) := (blk_cell BK201.out 0).trans rfl; have hcz19_1 : w18.cell? ⟨gb201, 1, none⟩ = some (.slice A0_1 l0_1.length c0_1) := (blk_cell BK201.out 1).trans rfl; have hfz19_0 := blk_frozen BK201.out 0; have hfz19_1 := blk_frozen BK201.out 1) | ((with_reducible refine gate_callee (f := 40) rfl ?_); refine goesL_ (some 37) rfl rfl Try.func40 (by kernel_rfl) rfl #[.agg #[.int .u8 a0_0, .slice A0_1 l0_1.length c0_1]] rfl (by (try simp only [List.map_toArray, List.map_cons, List.map_nil]); first | done | rfl | (simp only [List.length_drop, List.length_take]; rfl)) ?_; (with_reducible refine (transeptref03_Seal.calls k a0_0 _ _ l0_1 t212 t215 _ ?side1 ?side2 A6.out).mono ?_); (case side1 => repeat (first | exact (Kd.C_below HR0_1.out HB.out) | (with_reducible refine Kd.C_alloc ?_ _) | (with_reducible refine Kd.C_drewN ?_ _) | (with_reducible refine Kd.C_drew ?_))); (case side2 => exact HC0_1.out); rintro e w20 ⟨v213, rfl, ho0, hb⟩; refine ⟨_, rfl, ?_⟩; have n0_ := Aside0.mk (Kd.R_elder' (by (with_reducible repeat (first | apply Kd.R_alloc | apply Kd.R_drewN | apply Kd.R_drew)); exact HO204.out) (Kd.R_base ho0) hb); have n1_ := Aside0.mk (Kd.R_elder' (by (with_reducible repeat (first | apply Kd.R_alloc | apply Kd.R_drewN | apply Kd.R_drew)); exact HO207.out) (Kd.R_base ho0) hb); have n2_ := Aside0.mk (Kd.R_elder' (by (with_reducible repeat (first | apply Kd.R_alloc | apply Kd.R_drewN | apply Kd.R_drew)); exact HO210.out) (Kd.R_base ho0) hb); have n3_ := Aside0.mk (Kd.R_lower (Kd.R_new' (Kd.R_new' (Kd.R_new' ho0 (Kd.R_lt (by (with_reducible repeat (first | apply Kd.R_alloc | apply Kd.R_drewN | apply Kd.R_drew)); exact HO204.out))) (Kd.R_lt (by (with_reducible repeat (first | apply Kd.R_alloc | apply Kd.R_drewN | apply Kd.R_drew)); exact HO207.out))) (Kd.R_lt (by (with_reducible repeat (first | apply Kd.R_alloc | apply Kd.R_drewN | apply Kd.R_drew)); exact HO210.out))) (below_size (by repeat (first | (with_reducible first | exact HB.out | apply below_alloc | apply pw_below_drewN | apply below_drew1 | refine below_set ?_ GE201.out) | exact HB.out)))); have n4_ := Aside0.mk (blk_below (g := gb201) (o := .cells #[.int .u8 a0_0, .slice A0_1 l0_1.length c0_1] 56 (0, 0)) (by (with_reducible repeat (first | refine blk_drewN ?_ _ | refine blk_drew ?_ | refine blk_alloc ?_ _)); exact BK201.out) hb); have n5_ := Aside0.mk (below_step (by repeat (first | (with_reducible first | exact HB.out | apply below_alloc | apply pw_below_drewN | apply below_drew1 | refine below_set ?_ GE201.out) | exact HB.out)) hb); clear HO204; clear HO207; clear HO210; clear BK201; clear HB; have HO204 := n0_; have HO207 := n1_; have HO210 := n2_; have HO214 := n3_; have BK201 := n4_; have HB := n5_; clear n0_ n1_ n2_ n3_ n4_ n5_; (try clear hb); (try clear hb2); (try clear hk); (try clear hi); (try clear ho0); obtain ⟨Ao21, co21, eo21⟩ := Kd.R_slice HO207.out; subst eo21) | ((with_reducible refine gate_callee (f := 38) rfl ?_); refine goesL_ (some 42) rfl rfl Try.func38 (by kernel_rfl) rfl #[.slice Ao21 t205.length co21] rfl (by (try simp only [List.map_toArray, List.map_cons, List.map_nil]); first | done | rfl | (simp only [List.length_drop, List.length_take]; rfl)) ?_; (with_reducible refine (frames_Open.calls k _ _ t205 t216 t217 t220 t221 _ ?side1 ?side2 A7.out).mono ?_); (case side1 => repeat (first | exact (Kd.R_reads' HO207.out).2.2 | (with_reducible refine Kd.C_alloc ?_ _) | (with_reducible refine Kd.C_drewN ?_ _) | (with_reducible refine Kd.C_drew ?_))); (case side2 => exact (Kd.R_reads' HO207.out).2.1); rintro e w22 ⟨v218, rfl, ho0, hb⟩; refine ⟨_, rfl, ?_⟩; have n0_ := Aside0.mk (Kd.R_elder' (by (with_reducible repeat (first | apply Kd.R_alloc | apply Kd.R_drewN | apply Kd.R_drew)); exact HO204.out) (Kd.R_base ho0) hb); have n1_ := Aside0.mk (Kd.R_elder' (by (with_reducible repeat (first | apply Kd.R_alloc | apply Kd.R_drewN | apply Kd.R_drew)); exact HO207.out) (Kd.R_base ho0) hb); have n2_ := Aside0.mk (Kd.R_elder' (by (with_reducible repeat (first | apply Kd.R_alloc | apply Kd.R_drewN | apply Kd.R_drew)); exact HO210.out) (Kd.R_base ho0) hb); have n3_ := Aside0.mk (Kd.R_elder' (by (with_reducible repeat (first | apply Kd.R_alloc | apply Kd.R_drewN | apply Kd.R_drew)); exact HO214.out) (Kd.R_base ho0) hb); have n4_ := Aside0.mk (Kd.R_lower (Kd.R_new' (Kd.R_new' (Kd.R_new' (Kd.R_new' ho0 (Kd.R_lt (by (with_reducible repeat (first | apply Kd.R_alloc | apply Kd.R_drewN | apply Kd.R_drew)); exact HO204.out))) (Kd.R_lt (by (with_reducible repeat (first | apply Kd.R_alloc | apply Kd.R_drewN | apply Kd.R_drew)); exact HO207.out))) (Kd.R_lt (by (with_reducible repeat (first | apply Kd.R_alloc | apply Kd.R_drewN | apply Kd.R_drew)); exact HO210.out))) (Kd.R_lt (by (with_reducible repeat (first | apply Kd.R_alloc | apply Kd.R_drewN | apply Kd.R_drew)); exact HO214.out))) (below_size (by repeat (first | (with_reducible first | exact HB.out | apply below_alloc | apply pw_below_drewN | apply below_drew1 | refine below_set ?_ GE201.out) | exact HB.out)))); have n5_ := Aside0.mk (blk_below (g := gb201) (o := .cells #[.int .u8 a0_0, .slice A0_1 l0_1.length c0_1] 56 (0, 0)) (by (with_reducible repeat (first | refine blk_drewN ?_ _ | refine blk_drew ?_ | refine blk_alloc ?_ _)); exact BK201.out) hb); have n6_ := Aside0.mk (below_step (by repeat (first | (with_reducible first | exact HB.out | apply below_alloc | apply pw_below_drewN | apply below_drew1 | refine below_set ?_ GE201.out) | exact HB.out)) hb); clear HO204; clear HO207; clear HO210; clear HO214; clear BK201; clear HB; have HO204 := n0_; have HO207 := n1_; have HO210 := n2_; have HO214 := n3_; have HO219 := n4_; have BK201 := n5_; have HB := n6_; clear n0_ n1_ n2_ n3_ n4_ n5_ n6_; (try clear hb); (try clear hb2); (try clear hk); (try clear hi); (try clear ho0)) | ((with_reducible refine gate_dst (N := 11) rfl ?_); (try (refine gate_guard (by rfl) ?_; dsimp only)); refine box_event ?hg (N := 11) ?hd (cs := #[.int .u8 0, .slice none 0 0]) (t := 58) ?hr ?_; (case hd => rfl); (case hg => rfl); (case hr => first | (go_simp; done) | (go_simp; rfl)); intro gb222 hg w23 hbox hb; have n0_ := Aside0.mk (Kd.R_below (by (with_reducible repeat (first | apply Kd.R_alloc | apply Kd.R_drewN | apply Kd.R_drew)); exact HO204.out) hb); have n1_ := Aside0.mk (Kd.R_below (by (with_reducible repeat (first | apply Kd.R_alloc | apply Kd.R_drewN | apply Kd.R_drew)); exact HO207.out) hb); have n2_ := Aside0.mk (Kd.R_below (by (with_reducible repeat (first | apply Kd.R_alloc | apply Kd.R_drewN | apply Kd.R_drew)); exact HO210.out) hb); have n3_ := Aside0.mk (Kd.R_below (by (with_reducible repeat (first | apply Kd.R_alloc | apply Kd.R_drewN | apply Kd.R_drew)); exact HO214.out) hb); have n4_ := Aside0.mk (Kd.R_below (by (with_reducible repeat (first | apply Kd.R_alloc | apply Kd.R_drewN | apply Kd.R_drew)); exact HO219.out) hb); have n5_ := Aside0.mk (blk_below (g := gb201) (o := .cells #[.int .u8 a0_0, .slice A0_1 l0_1.length c0_1] 56 (0, 0)) (by (with_reducible repeat (first | refine blk_drewN ?_ _ | refine blk_drew ?_ | refine blk_alloc ?_ _)); exact BK201.out) hb); have n6_ := Aside0.mk (below_step (by repeat (first | (with_reducible first | exact HB.out | apply below_alloc | apply pw_below_drewN | apply below_drew1 | refine below_set ?_ GE201.out) | exact HB.out)) hb); have n7_ := Aside0.mk (hbox); have n8_ := Aside0.mk ((by rw [hg]; exact (below_size (by repeat (first | (with_reducible first | exact HB.out | apply below_alloc | apply pw_below_drewN | apply below_drew1 | refine below_set ?_ GE201.out) | exact HB.out))) : w.heap.size ≤ gb222)); have n9_ := Aside0.mk ((by rw [hg]; exact (below_size (by repeat (first | (with_reducible first | exact HB.out | apply below_alloc | apply pw_below_drewN | apply below_drew1 | refine below_set ?_ GE201.out) | exact HB.out))) : w.heap.size ≤ gb222)); have n10_ := Aside0.mk ((by rw [hg]; exact Nat.ne_of_lt (blk_lt (g := gb201) (o := .cells #[.int .u8 a0_0, .slice A0_1 l0_1.length c0_1] 56 (0, 0)) (by (with_reducible repeat (first | refine blk_drewN ?_ _ | refine blk_drew ?_ | refine blk_alloc ?_ _)); exact BK201.out)) : gb201 ≠ gb222)); have n11_ := Aside0.mk ((by rw [hg]; exact Nat.ne_of_gt (blk_lt (g := gb201) (o := .cells #[.int .u8 a0_0, .slice A0_1 l0_1.length c0_1] 56 (0, 0)) (by (with_reducible repeat (first | refine blk_drewN ?_ _ | refine blk_drew ?_ | refine blk_alloc ?_ _)); exact BK201.out)) : gb222 ≠ gb201)); clear HO204; clear HO207; clear HO210; clear HO214; clear HO219; clear BK201; clear HB; have HO204 := n0_; have HO207 := n1_; have HO210 := n2_; have HO214 := n3_; have HO219 := n4_; have BK201 := n5_; have HB := n6_; have BK222 := n7_; have GW222 := n8_; have GE222 := n9_; have NB201_222 := n10_; have NB222_201 := n11_; clear n0_ n1_ n2_ n3_ n4_ n5_ n6_ n7_ n8_ n9_ n10_ n11_; clear hb hbox hg; have hnb24 := NB222_201.out; have hnc24 := NB201_222.out; have hcz25_0 : w23.cell? ⟨gb222, 0, none⟩ = some (.int .u8 0) := (blk_cell BK222.out 0).trans rfl; have hcz25_1 : w23.cell? ⟨gb222, 1, none⟩ = some (.slice none 0 0) := (blk_cell BK222.out 1).trans rfl; have hfz25_0 := blk_frozen BK222.out 0; have hfz25_1 := blk_frozen BK222.out 1; obtain ⟨Ao26, co26, eo26⟩ := Kd.R_slice HO219.out; subst eo26) | ((with_reducible refine gate_callee (f := 41) rfl ?_); refine goesL_ (some 48) rfl rfl Try.func41 (by kernel_rfl) rfl #[.slice A1 l1.length c1] rfl (by (try simp only [List.map_toArray, List.map_cons, List.map_nil]); first | done | rfl | (simp only [List.length_drop, List.length_take]; rfl)) ?_; (with_reducible refine (transeptref03_Open.calls k _ _ l1 t223 t224 t227 t228 _ ?side1 ?side2 A8.out).mono ?_); (case side1 => exact Kd.C_below HR1.out (by repeat (first | (with_reducible first | exact HB.out | apply below_alloc | apply pw_below_drewN | apply below_drew1 | refine below_set ?_ GE201.out | refine below_set ?_ GE222.out) | exact HB.out))); (case side2 => exact HC1.out); rintro e w27 ⟨v225, rfl, ho0, hb⟩; refine ⟨_, rfl, ?_⟩; have n0_ := Aside0.mk (Kd.R_elder' (by (with_reducible repeat (first | apply Kd.R_alloc | apply Kd.R_drewN | apply Kd.R_drew)); exact (Kd.R_mono (Kd.R_far (p := ⟨gb222, 1, none⟩) (Kd.R_far (p := ⟨gb222, 0, none⟩) (Kd.R_types HO204.out BK222.out (by decide)) (fun _ hk => hk.2) (.int .u8 t216)) (fun _ hk => hk.2) (.slice Ao26 t217.length co26)) (fun _ h_ => h_.1))) (Kd.R_base ho0) hb); have n1_ := Aside0.mk (Kd.R_elder' (by (with_reducible repeat (first | apply Kd.R_alloc | apply Kd.R_drewN | apply Kd.R_drew)); exact (Kd.R_mono (Kd.R_far (p := ⟨gb222, 1, none⟩) (Kd.R_far (p := ⟨gb222, 0, none⟩) (Kd.R_types HO207.out BK222.out (by decide)) (fun _ hk => hk.2) (.int .u8 t216)) (fun _ hk => hk.2) (.slice Ao26 t217.length co26)) (fun _ h_ => h_.1))) (Kd.R_base ho0) hb); have n2_ := Aside0.mk (Kd.R_elder' (by (with_reducible repeat (first | apply Kd.R_alloc | apply Kd.R_drewN | apply Kd.R_drew)); exact (Kd.R_mono (Kd.R_far (p := ⟨gb222, 1, none⟩) (Kd.R_far (p := ⟨gb222, 0, none⟩) (Kd.R_types HO210.out BK222.out (by decide)) (fun _ hk => hk.2) (.int .u8 t216)) (fun _ hk => hk.2) (.slice Ao26 t217.length co26)) (fun _ h_ => h_.1))) (Kd.R_base ho0) hb); have n3_ := Aside0.mk (Kd.R_elder' (by (with_reducible repeat (first | apply Kd.R_alloc | apply Kd.R_drewN | apply Kd.R_drew)); exact (Kd.R_mono (Kd.R_far (p := ⟨gb222, 1, none⟩) (Kd.R_far (p := ⟨gb222, 0, none⟩) (Kd.R_types HO214.out BK222.out (by decide)) (fun _ hk => hk.2) (.int .u8 t216)) (fun _ hk => hk.2) (.slice Ao26 t217.length co26)) (fun _ h_ => h_.1))) (Kd.R_base ho0) hb); have n4_ := Aside0.mk (Kd.R_elder' (by (with_reducible repeat (first | apply Kd.R_alloc | apply Kd.R_drewN | apply Kd.R_drew)); exact (Kd.R_mono (Kd.R_far (p := ⟨gb222, 1, none⟩) (Kd.R_far (p := ⟨gb222, 0, none⟩) (Kd.R_types HO219.out BK222.out (by decide)) (fun _ hk => hk.2) (.int .u8 t216)) (fun _ hk => hk.2) (.slice Ao26 t217.length co26)) (fun _ h_ => h_.1))) (Kd.R_base ho0) hb); have n5_ := Aside0.mk (Kd.R_lower (Kd.R_new' (Kd.R_new' (Kd.R_new' (Kd.R_new' (Kd.R_new' ho0 (Kd.R_lt (by (with_reducible repeat (first | apply Kd.R_alloc | apply Kd.R_drewN | apply Kd.R_drew)); exact (Kd.R_mono (Kd.R_far (p := ⟨gb222, 1, none⟩) (Kd.R_far (p := ⟨gb222, 0, none⟩) (Kd.R_types HO204.out BK222.out (by decide)) (fun _ hk => hk.2) (.int .u8 t216)) (fun _ hk => hk.2) (.slice Ao26 t217.length co26)) (fun _ h_ => h_.1))))) (Kd.R_lt (by (with_reducible repeat (first | apply Kd.R_alloc | apply Kd.R_drewN | apply Kd.R_drew)); exact (Kd.R_mono (Kd.R_far (p := ⟨gb222, 1, none⟩) (Kd.R_far (p := ⟨gb222, 0, none⟩) (Kd.R_types HO207.out BK222.out (by decide)) (fun _ hk => hk.2) (.int .u8 t216)) (fun _ hk => hk.2) (.slice Ao26 t217.length co26)) (fun _ h_ => h_.1))))) (Kd.R_lt (by (with_reducible repeat (first | apply Kd.R_alloc | apply Kd.R_drewN | apply Kd.R_drew)); exact (Kd.R_mono (Kd.R_far (p := ⟨gb222, 1, none⟩) (Kd.R_far (p := ⟨gb222, 0, none⟩) (Kd.R_types HO210.out BK222.out (by decide)) (fun _ hk => hk.2) (.int .u8 t216)) (fun _ hk => hk.2) (.slice Ao26 t217.length co26)) (fun _ h_ => h_.1))))) (Kd.R_lt (by (with_reducible repeat (first | apply Kd.R_alloc | apply Kd.R_drewN | apply Kd.R_drew)); exact (Kd.R_mono (Kd.R_far (p := ⟨gb222, 1, none⟩) (Kd.R_far (p := ⟨gb222, 0, none⟩) (Kd.R_types HO214.out BK222.out (by decide)) (fun _ hk => hk.2) (.int .u8 t216)) (fun _ hk => hk.2) (.slice Ao26 t217.length co26)) (fun _ h_ => h_.1))))) (Kd.R_lt (by (with_reducible repeat (first | apply Kd.R_alloc | apply Kd.R_drewN | apply Kd.R_drew)); exact (Kd.R_mono (Kd.R_far (p := ⟨gb222, 1, none⟩) (Kd.R_far (p := ⟨gb222, 0, none⟩) (Kd.R_types HO219.out BK222.out (by decide)) (fun _ hk => hk.2) (.int .u8 t216)) (fun _ hk => hk.2) (.slice Ao26 t217.length co26)) (fun _ h_ => h_.1))))) (below_size (by repeat (first | (with_reducible first | exact HB.out | apply below_alloc | apply pw_below_drewN | apply below_drew1 | refine below_set ?_ GE201.out | refine below_set ?_ GE222.out) | exact HB.out)))); have n6_ := Aside0.mk (blk_below (g := gb201) (o := .cells #[.int .u8 a0_0, .slice A0_1 l0_1.length c0_1] 56 (0, 0)) (by (with_reducible repeat (first | refine blk_drewN ?_ _ | refine blk_drew ?_ | refine blk_alloc ?_ _)); refine blk_far ?_ NB201_222.out _; (with_reducible repeat (first | refine blk_drewN ?_ _ | refine blk_drew ?_ | refine blk_alloc ?_ _)); refine blk_far ?_ NB201_222.out _; (with_reducible repeat (first | refine blk_drewN ?_ _ | refine blk_drew ?_ | refine blk_alloc ?_ _)); exact BK201.out) hb); have n7_ := Aside0.mk (blk_below (g := gb222) (o := .cells #[.int .u8 t216, .slice Ao26 t217.length co26] 58 (0, 0)) (by (with_reducible repeat (first | refine blk_drewN ?_ _ | refine blk_drew ?_ | refine blk_alloc ?_ _)); refine blk_put (cs := #[.int .u8 t216, .slice none 0 0]) ?_ 1 _ rfl; (with_reducible repeat (first | refine blk_drewN ?_ _ | refine blk_drew ?_ | refine blk_alloc ?_ _)); refine blk_put (cs := #[.int .u8 0, .slice none 0 0]) ?_ 0 _ rfl; (with_reducible repeat (first | refine blk_drewN ?_ _ | refine blk_drew ?_ | refine blk_alloc ?_ _)); exact BK222.out) hb); have n8_ := Aside0.mk (below_step (by repeat (first | (with_reducible first | exact HB.out | apply below_alloc | apply pw_below_drewN | apply below_drew1 | refine below_set ?_ GE201.out | refine below_set ?_ GE222.out) | exact HB.out)) hb); clear HO204; clear HO207; clear HO210; clear HO214; clear HO219; clear BK201; clear BK222; clear HB; have HO204 := n0_; have HO207 := n1_; have HO210 := n2_; have HO214 := n3_; have HO219 := n4_; have HO226 := n5_; have BK201 := n6_; have BK222 := n7_; have HB := n8_; clear n0_ n1_ n2_ n3_ n4_ n5_ n6_ n7_ n8_; (try clear hb); (try clear hb2); (try clear hk); (try clear hi); (try clear ho0)) | ((with_reducible refine gate_dst (N := 14) rfl ?_); (try (refine gate_guard (by rfl) ?_; dsimp only)); refine box_event ?hg (N := 14) ?hd (cs := #[.int .u8 0, .slice none 0 0]) (t := 56) ?hr ?_; (case hd => rfl); (case hg => rfl); (case hr => first | (go_simp; done) | (go_simp; rfl)); intro gb229 hg w28 hbox hb; have n0_ := Aside0.mk (Kd.R_below (by (with_reducible repeat (first | apply Kd.R_alloc | apply Kd.R_drewN | apply Kd.R_drew)); exact HO204.out) hb); have n1_ := Aside0.mk (Kd.R_below (by (with_reducible repeat (first | apply Kd.R_alloc | apply Kd.R_drewN | apply Kd.R_drew)); exact HO207.out) hb); have n2_ := Aside0.mk (Kd.R_below (by (with_reducible repeat (first | apply Kd.R_alloc | apply Kd.R_drewN | apply Kd.R_drew)); exact HO210.out) hb); have n3_ := Aside0.mk (Kd.R_below (by (with_reducible repeat (first | apply Kd.R_alloc | apply Kd.R_drewN | apply Kd.R_drew)); exact HO214.out) hb); have n4_ := Aside0.mk (Kd.R_below (by (with_reducible repeat (first | apply Kd.R_alloc | apply Kd.R_drewN | apply Kd.R_drew)); exact HO219.out) hb); have n5_ := Aside0.mk (Kd.R_below (by (with_reducible repeat (first | apply Kd.R_alloc | apply Kd.R_drewN | apply Kd.R_drew)); exact HO226.out) hb); have n6_ := Aside0.mk (blk_below (g := gb201) (o := .cells #[.int .u8 a0_0, .slice A0_1 l0_1.length c0_1] 56 (0, 0)) (by (with_reducible repeat (first | refine blk_drewN ?_ _ | refine blk_drew ?_ | refine blk_alloc ?_ _)); exact BK201.out) hb); have n7_ := Aside0.mk (blk_below (g := gb222) (o := .cells #[.int .u8 t216, .slice Ao26 t217.length co26] 58 (0, 0)) (by (with_reducible repeat (first | refine blk_drewN ?_ _ | refine blk_drew ?_ | refine blk_alloc ?_ _)); exact BK222.out) hb); have n8_ := Aside0.mk (below_step (by repeat (first | (with_reducible first | exact HB.out | apply below_alloc | apply pw_below_drewN | apply below_drew1 | refine below_set ?_ GE201.out | refine below_set ?_ GE222.out) | exact HB.out)) hb); have n9_ := Aside0.mk (hbox); have n10_ := Aside0.mk ((by rw [hg]; exact (below_size (by repeat (first | (with_reducible first | exact HB.out | apply below_alloc | apply pw_below_drewN | apply below_drew1 | refine below_set ?_ GE201.out | refine below_set ?_ GE222.out) | exact HB.out))) : w.heap.size ≤ gb229)); have n11_ := Aside0.mk ((by rw [hg]; exact (below_size (by repeat (first | (with_reducible first | exact HB.out | apply below_alloc | apply pw_below_drewN | apply below_drew1 | refine below_set ?_ GE201.out | refine below_set ?_ GE222.out) | exact HB.out))) : w.heap.size ≤ gb229)); have n12_ := Aside0.mk ((by rw [hg]; exact Nat.ne_of_lt (blk_lt (g := gb201) (o := .cells #[.int .u8 a0_0, .slice A0_1 l0_1.length c0_1] 56 (0, 0)) (by (with_reducible repeat (first | refine blk_drewN ?_ _ | refine blk_drew ?_ | refine blk_alloc ?_ _)); exact BK201.out)) : gb201 ≠ gb229)); have n13_ := Aside0.mk ((by rw [hg]; exact Nat.ne_of_gt (blk_lt (g := gb201) (o := .cells #[.int .u8 a0_0, .slice A0_1 l0_1.length c0_1] 56 (0, 0)) (by (with_reducible repeat (first | refine blk_drewN ?_ _ | refine blk_drew ?_ | refine blk_alloc ?_ _)); exact BK201.out)) : gb229 ≠ gb201)); have n14_ := Aside0.mk ((by rw [hg]; exact Nat.ne_of_lt (blk_lt (g := gb222) (o := .cells #[.int .u8 t216, .slice Ao26 t217.length co26] 58 (0, 0)) (by (with_reducible repeat (first | refine blk_drewN ?_ _ | refine blk_drew ?_ | refine blk_alloc ?_ _)); exact BK222.out)) : gb222 ≠ gb229)); have n15_ := Aside0.mk ((by rw [hg]; exact Nat.ne_of_gt (blk_lt (g := gb222) (o := .cells #[.int .u8 t216, .slice Ao26 t217.length co26] 58 (0, 0)) (by (with_reducible repeat (first | refine blk_drewN ?_ _ | refine blk_drew ?_ | refine blk_alloc ?_ _)); exact BK222.out)) : gb229 ≠ gb222)); clear HO204; clear HO207; clear HO210; clear HO214; clear HO219; clear HO226; clear BK201; clear BK222; clear HB; have HO204 := n0_; have HO207 := n1_; have HO210 := n2_; have HO214 := n3_; have HO219 := n4_; have HO226 := n5_; have BK201 := n6_; have BK222 := n7_; have HB := n8_; have BK229 := n9_; have GW229 := n10_; have GE229 := n11_; have NB201_229 := n12_; have NB229_201 := n13_; have NB222_229 := n14_; have NB229_222 := n15_; clear n0_ n1_ n2_ n3_ n4_ n5_ n6_ n7_ n8_ n9_ n10_ n11_ n12_ n13_ n14_ n15_; clear hb hbox hg; have hnb29 := NB229_201.out; have hnc29 := NB201_229.out; have hnb30 := NB229_222.out; have hnc30 := NB222_229.out; have hcz31_0 : w28.cell? ⟨gb229, 0, none⟩ = some (.int .u8 0) := (blk_cell BK229.out 0).trans rfl; have hcz31_1 : w28.cell? ⟨gb229, 1, none⟩ = some (.slice none 0 0) := (blk_cell BK229.out 1).trans rfl; have hfz31_0 := blk_frozen BK229.out 0; have hfz31_1 := blk_frozen BK229.out 1; obtain ⟨Ao32, co32, eo32⟩ := Kd.R_slice HO226.out; subst eo32) | ((with_reducible refine gate_callee (f := 42) rfl ?_); refine goesL_ (some 54) rfl rfl Try.func42 (by kernel_rfl) rfl #[.slice Ao21 t205.length co21] rfl (by (try simp only [List.map_toArray, List.map_cons, List.map_nil]); first | done | rfl | (simp only [List.length_drop, List.length_take]; rfl)) ?_; (with_reducible refine (frames_Scan.calls k _ _ t205 t230 t231 _ ?side1 ?side2 A9.out).mono ?_); (case side1 => refine (Kd.R_reads' (e := 5) (base := w.heap.size) (ok := fun k_ => (((((True ∧ some k_ ≠ (.slice Ao17 t202.length co17 : Value).ownBlock) ∧ some k_ ≠ (v209 : Value).ownBlock) ∧ some k_ ≠ (v213 : Value).ownBlock) ∧ some k_ ≠ (.slice Ao26 t217.length co26 : Value).ownBlock) ∧ some k_ ≠ (.slice Ao32 t224.length co32 : Value).ownBlock)) (n := t205.length) (c := co21) ?_).2.2; exact (by (with_reducible repeat (first | apply Kd.R_alloc | apply Kd.R_drewN | apply Kd.R_drew)); exact (Kd.R_mono (Kd.R_far (p := ⟨gb229, 1, none⟩) (Kd.R_far (p := ⟨gb229, 0, none⟩) (Kd.R_types HO207.out BK229.out (by decide)) (fun _ hk => hk.2) (.int .u8 t223)) (fun _ hk => hk.2) (.slice Ao32 t224.length co32)) (fun _ h_ => h_.1)))); (case side2 => exact (Kd.R_reads' HO207.out).2.1); rintro e w33 ⟨v232, rfl, ho0, hb⟩; refine ⟨_, rfl, ?_⟩; have n0_ := Aside0.mk (Kd.R_below (by (with_reducible repeat (first | apply Kd.R_alloc | apply Kd.R_drewN | apply Kd.R_drew)); exact (Kd.R_mono (Kd.R_far (p := ⟨gb229, 1, none⟩) (Kd.R_far (p := ⟨gb229, 0, none⟩) (Kd.R_types HO204.out BK229.out (by decide)) (fun _ hk => hk.2) (.int .u8 t223)) (fun _ hk => hk.2) (.slice Ao32 t224.length co32)) (fun _ h_ => h_.1))) hb); have n1_ := Aside0.mk (Kd.R_below (by (with_reducible repeat (first | apply Kd.R_alloc | apply Kd.R_drewN | apply Kd.R_drew)); exact (Kd.R_mono (Kd.R_far (p := ⟨gb229, 1, none⟩) (Kd.R_far (p := ⟨gb229, 0, none⟩) (Kd.R_types HO207.out BK229.out (by decide)) (fun _ hk => hk.2) (.int .u8 t223)) (fun _ hk => hk.2) (.slice Ao32 t224.length co32)) (fun _ h_ => h_.1))) hb); have n2_ := Aside0.mk (Kd.R_below (by (with_reducible repeat (first | apply Kd.R_alloc | apply Kd.R_drewN | apply Kd.R_drew)); exact (Kd.R_mono (Kd.R_far (p := ⟨gb229, 1, none⟩) (Kd.R_far (p := ⟨gb229, 0, none⟩) (Kd.R_types HO210.out BK229.out (by decide)) (fun _ hk => hk.2) (.int .u8 t223)) (fun _ hk => hk.2) (.slice Ao32 t224.length co32)) (fun _ h_ => h_.1))) hb); have n3_ := Aside0.mk (Kd.R_below (by (with_reducible repeat (first | apply Kd.R_alloc | apply Kd.R_drewN | apply Kd.R_drew)); exact (Kd.R_mono (Kd.R_far (p := ⟨gb229, 1, none⟩) (Kd.R_far (p := ⟨gb229, 0, none⟩) (Kd.R_types HO214.out BK229.out (by decide)) (fun _ hk => hk.2) (.int .u8 t223)) (fun _ hk => hk.2) (.slice Ao32 t224.length co32)) (fun _ h_ => h_.1))) hb); have n4_ := Aside0.mk (Kd.R_below (by (with_reducible repeat (first | apply Kd.R_alloc | apply Kd.R_drewN | apply Kd.R_drew)); exact (Kd.R_mono (Kd.R_far (p := ⟨gb229, 1, none⟩) (Kd.R_far (p := ⟨gb229, 0, none⟩) (Kd.R_types HO219.out BK229.out (by decide)) (fun _ hk => hk.2) (.int .u8 t223)) (fun _ hk => hk.2) (.slice Ao32 t224.length co32)) (fun _ h_ => h_.1))) hb); have n5_ := Aside0.mk (Kd.R_below (by (with_reducible repeat (first | apply Kd.R_alloc | apply Kd.R_drewN | apply Kd.R_drew)); exact (Kd.R_mono (Kd.R_far (p := ⟨gb229, 1, none⟩) (Kd.R_far (p := ⟨gb229, 0, none⟩) (Kd.R_types HO226.out BK229.out (by decide)) (fun _ hk => hk.2) (.int .u8 t223)) (fun _ hk => hk.2) (.slice Ao32 t224.length co32)) (fun _ h_ => h_.1))) hb); have n6_ := Aside0.mk (Kd.S_lower (Kd.S_newB (Kd.S_new' (Kd.S_new' (Kd.S_new' (Kd.S_new' (Kd.S_new' (Kd.S_new' ho0 (Kd.R_lt (by (with_reducible repeat (first | apply Kd.R_alloc | apply Kd.R_drewN | apply Kd.R_drew)); exact (Kd.R_mono (Kd.R_far (p := ⟨gb229, 1, none⟩) (Kd.R_far (p := ⟨gb229, 0, none⟩) (Kd.R_types HO204.out BK229.out (by decide)) (fun _ hk => hk.2) (.int .u8 t223)) (fun _ hk => hk.2) (.slice Ao32 t224.length co32)) (fun _ h_ => h_.1))))) (Kd.R_lt (by (with_reducible repeat (first | apply Kd.R_alloc | apply Kd.R_drewN | apply Kd.R_drew)); exact (Kd.R_mono (Kd.R_far (p := ⟨gb229, 1, none⟩) (Kd.R_far (p := ⟨gb229, 0, none⟩) (Kd.R_types HO207.out BK229.out (by decide)) (fun _ hk => hk.2) (.int .u8 t223)) (fun _ hk => hk.2) (.slice Ao32 t224.length co32)) (fun _ h_ => h_.1))))) (Kd.R_lt (by (with_reducible repeat (first | apply Kd.R_alloc | apply Kd.R_drewN | apply Kd.R_drew)); exact (Kd.R_mono (Kd.R_far (p := ⟨gb229, 1, none⟩) (Kd.R_far (p := ⟨gb229, 0, none⟩) (Kd.R_types HO210.out BK229.out (by decide)) (fun _ hk => hk.2) (.int .u8 t223)) (fun _ hk => hk.2) (.slice Ao32 t224.length co32)) (fun _ h_ => h_.1))))) (Kd.R_lt (by (with_reducible repeat (first | apply Kd.R_alloc | apply Kd.R_drewN | apply Kd.R_drew)); exact (Kd.R_mono (Kd.R_far (p := ⟨gb229, 1, none⟩) (Kd.R_far (p := ⟨gb229, 0, none⟩) (Kd.R_types HO214.out BK229.out (by decide)) (fun _ hk => hk.2) (.int .u8 t223)) (fun _ hk => hk.2) (.slice Ao32 t224.length co32)) (fun _ h_ => h_.1))))) (Kd.R_lt (by (with_reducible repeat (first | apply Kd.R_alloc | apply Kd.R_drewN | apply Kd.R_drew)); exact (Kd.R_mono (Kd.R_far (p := ⟨gb229, 1, none⟩) (Kd.R_far (p := ⟨gb229, 0, none⟩) (Kd.R_types HO219.out BK229.out (by decide)) (fun _ hk => hk.2) (.int .u8 t223)) (fun _ hk => hk.2) (.slice Ao32 t224.length co32)) (fun _ h_ => h_.1))))) (Kd.R_lt (by (with_reducible repeat (first | apply Kd.R_alloc | apply Kd.R_drewN | apply Kd.R_drew)); exact (Kd.R_mono (Kd.R_far (p := ⟨gb229, 1, none⟩) (Kd.R_far (p := ⟨gb229, 0, none⟩) (Kd.R_types HO226.out BK229.out (by decide)) (fun _ hk => hk.2) (.int .u8 t223)) (fun _ hk => hk.2) (.slice Ao32 t224.length co32)) (fun _ h_ => h_.1))))) (g := gb222) (o := .cells #[.int .u8 t216, .slice Ao26 t217.length co26] 58 (0, 0)) (by (with_reducible repeat (first | refine blk_drewN ?_ _ | refine blk_drew ?_ | refine blk_alloc ?_ _)); refine blk_far ?_ NB222_229.out _; (with_reducible repeat (first | refine blk_drewN ?_ _ | refine blk_drew ?_ | refine blk_alloc ?_ _)); refine blk_far ?_ NB222_229.out _; (with_reducible repeat (first | refine blk_drewN ?_ _ | refine blk_drew ?_ | refine blk_alloc ?_ _)); exact BK222.out)) (below_size (by repeat (first | (with_reducible first | exact HB.out | apply below_alloc | apply pw_below_drewN | apply below_drew1 | refine below_set ?_ GE201.out | refine below_set ?_ GE222.out | refine below_set ?_ GE229.out) | exact HB.out)))); have n7_ := Aside0.mk (blk_below (g := gb201) (o := .cells #[.int .u8 a0_0, .slice A0_1 l0_1.length c0_1] 56 (0, 0)) (by (with_reducible repeat (first | refine blk_drewN ?_ _ | refine blk_drew ?_ | refine blk_alloc ?_ _)); refine blk_far ?_ NB201_229.out _; (with_reducible repeat (first | refine blk_drewN ?_ _ | refine blk_drew ?_ | refine blk_alloc ?_ _)); refine blk_far ?_ NB201_229.out _; (with_reducible repeat (first | refine blk_drewN ?_ _ | refine blk_drew ?_ | refine blk_alloc ?_ _)); exact BK201.out) hb); have n8_ := Aside0.mk (blk_below (g := gb222) (o := .cells #[.int .u8 t216, .slice Ao26 t217.length co26] 58 (0, 0)) (by (with_reducible repeat (first | refine blk_drewN ?_ _ | refine blk_drew ?_ | refine blk_alloc ?_ _)); refine blk_far ?_ NB222_229.out _; (with_reducible repeat (first | refine blk_drewN ?_ _ | refine blk_drew ?_ | refine blk_alloc ?_ _)); refine blk_far ?_ NB222_229.out _; (with_reducible repeat (first | refine blk_drewN ?_ _ | refine blk_drew ?_ | refine blk_alloc ?_ _)); exact BK222.out) hb); have n9_ := Aside0.mk (blk_below (g := gb229) (o := .cells #[.int .u8 t223, .slice Ao32 t224.length co32] 56 (0, 0)) (by (with_reducible repeat (first | refine blk_drewN ?_ _ | refine blk_drew ?_ | refine blk_alloc ?_ _)); refine blk_put (cs := #[.int .u8 t223, .slice none 0 0]) ?_ 1 _ rfl; (with_reducible repeat (first | refine blk_drewN ?_ _ | refine blk_drew ?_ | refine blk_alloc ?_ _)); refine blk_put (cs := #[.int .u8 0, .slice none 0 0]) ?_ 0 _ rfl; (with_reducible repeat (first | refine blk_drewN ?_ _ | refine blk_drew ?_ | refine blk_alloc ?_ _)); exact BK229.out) hb); have n10_ := Aside0.mk (below_step (by repeat (first | (with_reducible first | exact HB.out | apply below_alloc | apply pw_below_drewN | apply below_drew1 | refine below_set ?_ GE201.out | refine below_set ?_ GE222.out | refine below_set ?_ GE229.out) | exact HB.out)) hb); clear HO204; clear HO207; clear HO210; clear HO214; clear HO219; clear HO226; clear BK201; clear BK222; clear BK229; clear HB; have HO204 := n0_; have HO207 := n1_; have HO210 := n2_; have HO214 := n3_; have HO219 := n4_; have HO226 := n5_; have HO233 := n6_; have BK201 := n7_; have BK222 := n8_; have BK229 := n9_; have HB := n10_; clear n0_ n1_ n2_ n3_ n4_ n5_ n6_ n7_ n8_ n9_ n10_; (try clear hb); (try clear hb2); (try clear hk); (try clear hi); (try clear ho0)) | ((with_reducible refine gate_callee (f := 43) rfl ?_); refine goesL_ (some 59) rfl rfl Try.func43 (by kernel_rfl) rfl #[.slice A1 l1.length c1] rfl (by (try simp only [List.map_toArray, List.map_cons, List.map_nil]); first | done | rfl | (simp only [List.length_drop, List.length_take]; rfl)) ?_; (with_reducible refine (transeptref03_Scan.calls k _ _ l1 t234 t235 _ ?side1 ?side2 A10.out).mono ?_); (case side1 => repeat (first | exact (Kd.C_below HR1.out HB.out) | (with_reducible refine Kd.C_alloc ?_ _) | (with_reducible refine Kd.C_drewN ?_ _) | (with_reducible refine Kd.C_drew ?_))); (case side2 => exact HC1.out); rintro e w34 ⟨v236, rfl, ho0, hb⟩; refine ⟨_, rfl, ?_⟩; have n0_ := Aside0.mk (Kd.R_below (by (with_reducible repeat (first | apply Kd.R_alloc | apply Kd.R_drewN | apply Kd.R_drew)); exact HO204.out) hb); have n1_ := Aside0.mk (Kd.R_below (by (with_reducible repeat (first | apply Kd.R_alloc | apply Kd.R_drewN | apply Kd.R_drew)); exact HO207.out) hb); have n2_ := Aside0.mk (Kd.R_below (by (with_reducible repeat (first | apply Kd.R_alloc | apply Kd.R_drewN | apply Kd.R_drew)); exact HO210.out) hb); have n3_ := Aside0.mk (Kd.R_below (by (with_reducible repeat (first | apply Kd.R_alloc | apply Kd.R_drewN | apply Kd.R_drew)); exact HO214.out) hb); have n4_ := Aside0.mk (Kd.R_below (by (with_reducible repeat (first | apply Kd.R_alloc | apply Kd.R_drewN | apply Kd.R_drew)); exact HO219.out) hb); have n5_ := Aside0.mk (Kd.R_below (by (with_reducible repeat (first | apply Kd.R_alloc | apply Kd.R_drewN | apply Kd.R_drew)); exact HO226.out) hb); have n6_ := Aside0.mk (Kd.S_below (by (with_reducible repeat (first | apply Kd.S_alloc | apply Kd.S_drewN | apply Kd.S_drew)); exact HO233.out) hb); have n7_ := Aside0.mk (Kd.S_lower (Kd.S_newB (Kd.S_newB (Kd.S_new' (Kd.S_new' (Kd.S_new' (Kd.S_new' (Kd.S_new' (Kd.S_new' ho0 (Kd.R_lt (by (with_reducible repeat (first | apply Kd.R_alloc | apply Kd.R_drewN | apply Kd.R_drew)); exact HO204.out))) (Kd.R_lt (by (with_reducible repeat (first | apply Kd.R_alloc | apply Kd.R_drewN | apply Kd.R_drew)); exact HO207.out))) (Kd.R_lt (by (with_reducible repeat (first | apply Kd.R_alloc | apply Kd.R_drewN | apply Kd.R_drew)); exact HO210.out))) (Kd.R_lt (by (with_reducible repeat (first | apply Kd.R_alloc | apply Kd.R_drewN | apply Kd.R_drew)); exact HO214.out))) (Kd.R_lt (by (with_reducible repeat (first | apply Kd.R_alloc | apply Kd.R_drewN | apply Kd.R_drew)); exact HO219.out))) (Kd.R_lt (by (with_reducible repeat (first | apply Kd.R_alloc | apply Kd.R_drewN | apply Kd.R_drew)); exact HO226.out))) (g := gb201) (o := .cells #[.int .u8 a0_0, .slice A0_1 l0_1.length c0_1] 56 (0, 0)) (by (with_reducible repeat (first | refine blk_drewN ?_ _ | refine blk_drew ?_ | refine blk_alloc ?_ _)); exact BK201.out)) (g := gb229) (o := .cells #[.int .u8 t223, .slice Ao32 t224.length co32] 56 (0, 0)) (by (with_reducible repeat (first | refine blk_drewN ?_ _ | refine blk_drew ?_ | refine blk_alloc ?_ _)); exact BK229.out)) (below_size (by repeat (first | (with_reducible first | exact HB.out | apply below_alloc | apply pw_below_drewN | apply below_drew1 | refine below_set ?_ GE201.out | refine below_set ?_ GE222.out | refine below_set ?_ GE229.out) | exact HB.out)))); have n8_ := Aside0.mk (blk_below (g := gb201) (o := .cells #[.int .u8 a0_0, .slice A0_1 l0_1.length c0_1] 56 (0, 0)) (by (with_reducible repeat (first | refine blk_drewN ?_ _ | refine blk_drew ?_ | refine blk_alloc ?_ _)); exact BK201.out) hb); have n9_ := Aside0.mk (blk_below (g := gb222) (o := .cells #[.int .u8 t216, .slice Ao26 t217.length co26] 58 (0, 0)) (by (with_reducible repeat (first | refine blk_drewN ?_ _ | refine blk_drew ?_ | refine blk_alloc ?_ _)); exact BK222.out) hb); have n10_ := Aside0.mk (blk_below (g := gb229) (o := .cells #[.int .u8 t223, .slice Ao32 t224.length co32] 56 (0, 0)) (by (with_reducible repeat (first | refine blk_drewN ?_ _ | refine blk_drew ?_ | refine blk_alloc ?_ _)); exact BK229.out) hb); have n11_ := Aside0.mk (below_step (by repeat (first | (with_reducible first | exact HB.out | apply below_alloc | apply pw_below_drewN | apply below_drew1 | refine below_set ?_ GE201.out | refine below_set ?_ GE222.out | refine below_set ?_ GE229.out) | exact HB.out)) hb); clear HO204; clear HO207; clear HO210; clear HO214; clear HO219; clear HO226; clear HO233; clear BK201; clear BK222; clear BK229; clear HB; have HO204 := n0_; have HO207 := n1_; have HO210 := n2_; have HO214 := n3_; have HO219 := n4_; have HO226 := n5_; have HO233 := n6_; have HO237 := n7_; have BK201 := n8_; have BK222 := n9_; have BK229 := n10_; have HB := n11_; clear n0_ n1_ n2_ n3_ n4_ n5_ n6_ n7_ n8_ n9_ n10_ n11_; (try clear hb); (try clear hb2); (try clear hk); (try clear hi); (try clear ho0)))
  (try simp only [Act.put, List.setIfInBounds_toArray, List.set_cons_zero, List.set_cons_succ])
  go_cut [100] (fun v100 wc => ∃ (kq : Nat) (x100_10 : Bool), v100 = .bool x100_10 ∧ Aside0 (transeptlaw03_FramesTells.j0 kq l1 t202 t205 t230 t234 x100_10 a0_0 l0_1 = some r) ∧ Aside0 (kq ≤ k) ∧ Aside0 (Kd.R (Kd.int .u8) 5 wc w.heap.size (fun k_ => some k_ ≠ ((.slice Ao21 t205.length co21) : Value).ownBlock ∧ some k_ ≠ ((.slice Ao26 t217.length co26) : Value).ownBlock ∧ some k_ ≠ ((.slice Ao32 t224.length co32) : Value).ownBlock) (.slice Ao17 t202.length co17) t202) ∧ Aside0 (Kd.R (Kd.int .u8) 5 wc w.heap.size (fun k_ => some k_ ≠ ((.slice Ao17 t202.length co17) : Value).ownBlock ∧ some k_ ≠ ((.slice Ao26 t217.length co26) : Value).ownBlock ∧ some k_ ≠ ((.slice Ao32 t224.length co32) : Value).ownBlock) (.slice Ao21 t205.length co21) t205) ∧ Aside0 (Kd.S k58 58 wc w.heap.size (fun k_ => some k_ ≠ ((.slice Ao17 t202.length co17) : Value).ownBlock ∧ some k_ ≠ ((.slice Ao21 t205.length co21) : Value).ownBlock ∧ some k_ ≠ ((.slice Ao26 t217.length co26) : Value).ownBlock ∧ some k_ ≠ ((.slice Ao32 t224.length co32) : Value).ownBlock ∧ k_ ≠ gb222) v232 t230) ∧ Aside0 (Kd.S k56 56 wc w.heap.size (fun k_ => some k_ ≠ ((.slice Ao17 t202.length co17) : Value).ownBlock ∧ some k_ ≠ ((.slice Ao21 t205.length co21) : Value).ownBlock ∧ some k_ ≠ ((.slice Ao26 t217.length co26) : Value).ownBlock ∧ some k_ ≠ ((.slice Ao32 t224.length co32) : Value).ownBlock ∧ k_ ≠ gb201 ∧ k_ ≠ gb229) v236 t234) ∧ Aside0 (Kd.R (Kd.int .u8) 5 wc w.heap.size (fun k_ => some k_ ≠ ((.slice Ao17 t202.length co17) : Value).ownBlock ∧ some k_ ≠ ((.slice Ao21 t205.length co21) : Value).ownBlock ∧ some k_ ≠ ((.slice Ao32 t224.length co32) : Value).ownBlock) (.slice Ao26 t217.length co26) t217) ∧ Aside0 (Kd.R (Kd.int .u8) 5 wc w.heap.size (fun k_ => some k_ ≠ ((.slice Ao17 t202.length co17) : Value).ownBlock ∧ some k_ ≠ ((.slice Ao21 t205.length co21) : Value).ownBlock ∧ some k_ ≠ ((.slice Ao26 t217.length co26) : Value).ownBlock) (.slice Ao32 t224.length co32) t224) ∧ Aside0 (wc.heap[gb201]? = some (.cells #[.int .u8 a0_0, (.slice A0_1 l0_1.length c0_1)] 56 (0, 0))) ∧ Aside0 (wc.heap[gb222]? = some (.cells #[.int .u8 t216, (.slice Ao26 t217.length co26)] 58 (0, 0))) ∧ Aside0 (wc.heap[gb229]? = some (.cells #[.int .u8 t223, (.slice Ao32 t224.length co32)] 56 (0, 0))) ∧ Aside0 (Below w.heap.size w wc))
  case first =>
    have H := HC11.out
    clear HC11
    replace H := Option.bind_eq_some_iff.mp H
    obtain ⟨t238, A350, H⟩ := H
    replace H : (if t238 = true then ((transeptlaw03_num.f t211).bind fun t239 => (if t239 = t215 then ((transeptlaw03_same.f k t216 t217 t223 t224).bind fun t240 => (if t240 = true then (if t220 = t227 then ((transeptlaw03_num.f t221).bind fun t241 => (if t241 = t228 then (if t231 = t235 then (transeptlaw03_FramesTells.j0 k l1 t202 t205 t230 t234 ((t230.length : Int) != (t234.length : Int)) a0_0 l0_1) else (transeptlaw03_FramesTells.j0 k l1 t202 t205 t230 t234 true a0_0 l0_1)) else (transeptlaw03_FramesTells.j0 k l1 t202 t205 t230 t234 true a0_0 l0_1))) else (transeptlaw03_FramesTells.j0 k l1 t202 t205 t230 t234 true a0_0 l0_1)) else (transeptlaw03_FramesTells.j0 k l1 t202 t205 t230 t234 true a0_0 l0_1))) else (transeptlaw03_FramesTells.j0 k l1 t202 t205 t230 t234 true a0_0 l0_1))) else (transeptlaw03_FramesTells.j0 k l1 t202 t205 t230 t234 true a0_0 l0_1)) = some r := H
    have A35 := Aside0.mk A350
    clear A350
    by_cases c36 : t238 = true
    · subst c36
      have H1 : ((transeptlaw03_num.f t211).bind fun t239 => (if t239 = t215 then ((transeptlaw03_same.f k t216 t217 t223 t224).bind fun t240 => (if t240 = true then (if t220 = t227 then ((transeptlaw03_num.f t221).bind fun t241 => (if t241 = t228 then (if t231 = t235 then (transeptlaw03_FramesTells.j0 k l1 t202 t205 t230 t234 ((t230.length : Int) != (t234.length : Int)) a0_0 l0_1) else (transeptlaw03_FramesTells.j0 k l1 t202 t205 t230 t234 true a0_0 l0_1)) else (transeptlaw03_FramesTells.j0 k l1 t202 t205 t230 t234 true a0_0 l0_1))) else (transeptlaw03_FramesTells.j0 k l1 t202 t205 t230 t234 true a0_0 l0_1)) else (transeptlaw03_FramesTells.j0 k l1 t202 t205 t230 t234 true a0_0 l0_1))) else (transeptlaw03_FramesTells.j0 k l1 t202 t205 t230 t234 true a0_0 l0_1))) = some r := by rw [if_pos rfl] at H; exact H
      clear H
      have H := H1
      clear H1
      replace H := Option.bind_eq_some_iff.mp H
      obtain ⟨t239, A370, H⟩ := H
      replace H : (if t239 = t215 then ((transeptlaw03_same.f k t216 t217 t223 t224).bind fun t240 => (if t240 = true then (if t220 = t227 then ((transeptlaw03_num.f t221).bind fun t241 => (if t241 = t228 then (if t231 = t235 then (transeptlaw03_FramesTells.j0 k l1 t202 t205 t230 t234 ((t230.length : Int) != (t234.length : Int)) a0_0 l0_1) else (transeptlaw03_FramesTells.j0 k l1 t202 t205 t230 t234 true a0_0 l0_1)) else (transeptlaw03_FramesTells.j0 k l1 t202 t205 t230 t234 true a0_0 l0_1))) else (transeptlaw03_FramesTells.j0 k l1 t202 t205 t230 t234 true a0_0 l0_1)) else (transeptlaw03_FramesTells.j0 k l1 t202 t205 t230 t234 true a0_0 l0_1))) else (transeptlaw03_FramesTells.j0 k l1 t202 t205 t230 t234 true a0_0 l0_1)) = some r := H
      have A37 := Aside0.mk A370
      clear A370
      by_cases c38 : t239 = t215
      · rw [if_pos c38] at H
        have c38b0 : (t239 == t215) = true := beq_iff_eq.mpr c38
        have c38b1 : (t239 != t215) = false := bne_eq_false_iff_eq.mpr c38
        clear c38
        (first | rw [c38b0] | (simp only [i64_w, i32_w]; rw [c38b0]) | skip)
        replace H := Option.bind_eq_some_iff.mp H
        obtain ⟨t240, A390, H⟩ := H
        replace H : (if t240 = true then (if t220 = t227 then ((transeptlaw03_num.f t221).bind fun t241 => (if t241 = t228 then (if t231 = t235 then (transeptlaw03_FramesTells.j0 k l1 t202 t205 t230 t234 ((t230.length : Int) != (t234.length : Int)) a0_0 l0_1) else (transeptlaw03_FramesTells.j0 k l1 t202 t205 t230 t234 true a0_0 l0_1)) else (transeptlaw03_FramesTells.j0 k l1 t202 t205 t230 t234 true a0_0 l0_1))) else (transeptlaw03_FramesTells.j0 k l1 t202 t205 t230 t234 true a0_0 l0_1)) else (transeptlaw03_FramesTells.j0 k l1 t202 t205 t230 t234 true a0_0 l0_1)) = some r := H
        have A39 := Aside0.mk A390
        clear A390
        by_cases c40 : t240 = true
        · subst c40
          have H1 : (if t220 = t227 then ((transeptlaw03_num.f t221).bind fun t241 => (if t241 = t228 then (if t231 = t235 then (transeptlaw03_FramesTells.j0 k l1 t202 t205 t230 t234 ((t230.length : Int) != (t234.length : Int)) a0_0 l0_1) else (transeptlaw03_FramesTells.j0 k l1 t202 t205 t230 t234 true a0_0 l0_1)) else (transeptlaw03_FramesTells.j0 k l1 t202 t205 t230 t234 true a0_0 l0_1))) else (transeptlaw03_FramesTells.j0 k l1 t202 t205 t230 t234 true a0_0 l0_1)) = some r := by rw [if_pos rfl] at H; exact H
          clear H
          have H := H1
          clear H1
          by_cases c41 : t220 = t227
          · rw [if_pos c41] at H
            have c41b0 : (t220 == t227) = true := beq_iff_eq.mpr c41
            have c41b1 : (t220 != t227) = false := bne_eq_false_iff_eq.mpr c41
            clear c41
            replace H := Option.bind_eq_some_iff.mp H
            obtain ⟨t241, A420, H⟩ := H
            replace H : (if t241 = t228 then (if t231 = t235 then (transeptlaw03_FramesTells.j0 k l1 t202 t205 t230 t234 ((t230.length : Int) != (t234.length : Int)) a0_0 l0_1) else (transeptlaw03_FramesTells.j0 k l1 t202 t205 t230 t234 true a0_0 l0_1)) else (transeptlaw03_FramesTells.j0 k l1 t202 t205 t230 t234 true a0_0 l0_1)) = some r := H
            have A42 := Aside0.mk A420
            clear A420
            by_cases c43 : t241 = t228
            · rw [if_pos c43] at H
              have c43b0 : (t241 == t228) = true := beq_iff_eq.mpr c43
              have c43b1 : (t241 != t228) = false := bne_eq_false_iff_eq.mpr c43
              clear c43
              by_cases c44 : t231 = t235
              · rw [if_pos c44] at H
                have c44b0 : (t231 == t235) = true := beq_iff_eq.mpr c44
                have c44b1 : (t231 != t235) = false := bne_eq_false_iff_eq.mpr c44
                clear c44
                have H' := Aside0.mk H
                clear H
                obtain ⟨Ao45, co45, eo45⟩ := Kd.R_slice HO210.out
                subst eo45
                obtain ⟨Ao46, co46, eo46⟩ := Kd.R_slice HO214.out
                subst eo46
                go_wp2_with (first | ((with_reducible refine gate_callee (f := 18) rfl ?_); refine goesL_ (some 64) rfl rfl Try.func18 (by kernel_rfl) rfl #[.slice Ao45 t208.length co45, .slice Ao46 t212.length co46] rfl (by (try simp only [List.map_toArray, List.map_cons, List.map_nil]); first | done | rfl | (simp only [List.length_drop, List.length_take]; rfl)) ?_; (with_reducible refine (transeptplain_SameBytes.calls k _ _ t208 _ _ t212 true _ ?side1 ?side2 ?side3 ?side4 A35.out).mono ?_); (case side1 => repeat (first | exact (Kd.R_reads' HO210.out).2.2 | (with_reducible refine Kd.C_alloc ?_ _) | (with_reducible refine Kd.C_drewN ?_ _) | (with_reducible refine Kd.C_drew ?_))); (case side2 => exact (Kd.R_reads' HO210.out).2.1); (case side3 => repeat (first | exact (Kd.R_reads' HO214.out).2.2 | (with_reducible refine Kd.C_alloc ?_ _) | (with_reducible refine Kd.C_drewN ?_ _) | (with_reducible refine Kd.C_drew ?_))); (case side4 => exact (Kd.R_reads' HO214.out).2.1); rintro e w' ⟨rfl, ⟨nd, rfl⟩⟩; refine ⟨_, rfl, ?_⟩) | (go_at_call 37; (with_reducible refine (transeptlaw03_num.calls t211 t239 _ A37.out).mono ?_); rintro e w' ⟨rfl, ⟨nd, rfl⟩⟩; have hnb47 := NB222_201.out; have hnc47 := NB201_222.out; have hnb48 := NB222_229.out; have hnc48 := NB229_222.out; have hcz49_0 : w34.cell? ⟨gb222, 0, none⟩ = some (.int .u8 t216) := (blk_cell BK222.out 0).trans rfl; have hcz49_1 : w34.cell? ⟨gb222, 1, none⟩ = some (.slice Ao26 t217.length co26) := (blk_cell BK222.out 1).trans rfl; have hfz49_0 := blk_frozen BK222.out 0; have hfz49_1 := blk_frozen BK222.out 1; have hnb50 := NB229_201.out; have hnc50 := NB201_229.out; have hcz51_0 : w34.cell? ⟨gb229, 0, none⟩ = some (.int .u8 t223) := (blk_cell BK229.out 0).trans rfl; have hcz51_1 : w34.cell? ⟨gb229, 1, none⟩ = some (.slice Ao32 t224.length co32) := (blk_cell BK229.out 1).trans rfl; have hfz51_0 := blk_frozen BK229.out 0; have hfz51_1 := blk_frozen BK229.out 1) | (go_at_call 39; (with_reducible refine (transeptlaw03_same.calls k t216 _ _ t217 t223 _ _ t224 true _ ?side1 ?side2 ?side3 ?side4 A39.out).mono ?_); (case side1 => repeat (first | exact (Kd.R_reads' HO219.out).2.2 | (with_reducible refine Kd.C_alloc ?_ _) | (with_reducible refine Kd.C_drewN ?_ _) | (with_reducible refine Kd.C_drew ?_))); (case side2 => exact (Kd.R_reads' HO219.out).2.1); (case side3 => repeat (first | exact (Kd.R_reads' HO226.out).2.2 | (with_reducible refine Kd.C_alloc ?_ _) | (with_reducible refine Kd.C_drewN ?_ _) | (with_reducible refine Kd.C_drew ?_))); (case side4 => exact (Kd.R_reads' HO226.out).2.1); rintro e w52 ⟨rfl, hb⟩; have n0_ := Aside0.mk (Kd.R_below (by (with_reducible repeat (first | apply Kd.R_alloc | apply Kd.R_drewN | apply Kd.R_drew)); exact HO204.out) hb); have n1_ := Aside0.mk (Kd.R_below (by (with_reducible repeat (first | apply Kd.R_alloc | apply Kd.R_drewN | apply Kd.R_drew)); exact HO207.out) hb); have n2_ := Aside0.mk (Kd.R_below (by (with_reducible repeat (first | apply Kd.R_alloc | apply Kd.R_drewN | apply Kd.R_drew)); exact HO210.out) hb); have n3_ := Aside0.mk (Kd.R_below (by (with_reducible repeat (first | apply Kd.R_alloc | apply Kd.R_drewN | apply Kd.R_drew)); exact HO214.out) hb); have n4_ := Aside0.mk (Kd.R_below (by (with_reducible repeat (first | apply Kd.R_alloc | apply Kd.R_drewN | apply Kd.R_drew)); exact HO219.out) hb); have n5_ := Aside0.mk (Kd.R_below (by (with_reducible repeat (first | apply Kd.R_alloc | apply Kd.R_drewN | apply Kd.R_drew)); exact HO226.out) hb); have n6_ := Aside0.mk (Kd.S_below (by (with_reducible repeat (first | apply Kd.S_alloc | apply Kd.S_drewN | apply Kd.S_drew)); exact HO233.out) hb); have n7_ := Aside0.mk (Kd.S_below (by (with_reducible repeat (first | apply Kd.S_alloc | apply Kd.S_drewN | apply Kd.S_drew)); exact HO237.out) hb); have n8_ := Aside0.mk (blk_below (g := gb201) (o := .cells #[.int .u8 a0_0, .slice A0_1 l0_1.length c0_1] 56 (0, 0)) (by (with_reducible repeat (first | refine blk_drewN ?_ _ | refine blk_drew ?_ | refine blk_alloc ?_ _)); exact BK201.out) hb); have n9_ := Aside0.mk (blk_below (g := gb222) (o := .cells #[.int .u8 t216, .slice Ao26 t217.length co26] 58 (0, 0)) (by (with_reducible repeat (first | refine blk_drewN ?_ _ | refine blk_drew ?_ | refine blk_alloc ?_ _)); exact BK222.out) hb); have n10_ := Aside0.mk (blk_below (g := gb229) (o := .cells #[.int .u8 t223, .slice Ao32 t224.length co32] 56 (0, 0)) (by (with_reducible repeat (first | refine blk_drewN ?_ _ | refine blk_drew ?_ | refine blk_alloc ?_ _)); exact BK229.out) hb); have n11_ := Aside0.mk (below_step (by repeat (first | (with_reducible first | exact HB.out | apply below_alloc | apply pw_below_drewN | apply below_drew1 | refine below_set ?_ GE201.out | refine below_set ?_ GE222.out | refine below_set ?_ GE229.out) | exact HB.out)) hb); clear HO204; clear HO207; clear HO210; clear HO214; clear HO219; clear HO226; clear HO233; clear HO237; clear BK201; clear BK222; clear BK229; clear HB; have HO204 := n0_; have HO207 := n1_; have HO210 := n2_; have HO214 := n3_; have HO219 := n4_; have HO226 := n5_; have HO233 := n6_; have HO237 := n7_; have BK201 := n8_; have BK222 := n9_; have BK229 := n10_; have HB := n11_; clear n0_ n1_ n2_ n3_ n4_ n5_ n6_ n7_ n8_ n9_ n10_ n11_; (try clear hb); (try clear hb2); (try clear hk); (try clear hi)) | (go_at_call 37; (with_reducible refine (transeptlaw03_num.calls t221 t241 _ A42.out).mono ?_); rintro e w' ⟨rfl, ⟨nd, rfl⟩⟩; obtain ⟨Ao53, co53, eo53⟩ := Kd.S_slice HO233.out; subst eo53; obtain ⟨Ao54, co54, eo54⟩ := Kd.S_slice HO237.out; subst eo54))
                go_meet
                case rel => exact ⟨_, (((t230.length : Int) != (t234.length : Int))), (by first | rfl | (simp; done) | (simp [*]; done)), H', ⟨by first | omega | exact Nat.le_refl _⟩, ⟨by (with_reducible repeat (first | apply Kd.R_alloc | apply Kd.R_drewN | apply Kd.R_drew)); exact Kd.R_mono HO204.out (fun _ hk => ⟨hk.1.1.1.1.2, ⟨hk.1.2, hk.2⟩⟩)⟩, ⟨by (with_reducible repeat (first | apply Kd.R_alloc | apply Kd.R_drewN | apply Kd.R_drew)); exact Kd.R_mono HO207.out (fun _ hk => ⟨hk.1.1.1.1.2, ⟨hk.1.2, hk.2⟩⟩)⟩, ⟨by (with_reducible repeat (first | apply Kd.S_alloc | apply Kd.S_drewN | apply Kd.S_drew)); exact Kd.S_mono HO233.out (fun _ hk => ⟨hk.1.1.1.1.1.1.2, ⟨hk.1.1.1.1.1.2, ⟨hk.1.1.2, ⟨hk.1.2, hk.2⟩⟩⟩⟩)⟩, ⟨by (with_reducible repeat (first | apply Kd.S_alloc | apply Kd.S_drewN | apply Kd.S_drew)); exact Kd.S_mono HO237.out (fun _ hk => ⟨hk.1.1.1.1.1.1.1.2, ⟨hk.1.1.1.1.1.1.2, ⟨hk.1.1.1.2, ⟨hk.1.1.2, ⟨hk.1.2, hk.2⟩⟩⟩⟩⟩)⟩, ⟨by (with_reducible repeat (first | apply Kd.R_alloc | apply Kd.R_drewN | apply Kd.R_drew)); exact Kd.R_mono HO219.out (fun _ hk => ⟨hk.1.1.1.1.2, ⟨hk.1.1.1.2, hk.2⟩⟩)⟩, ⟨by (with_reducible repeat (first | apply Kd.R_alloc | apply Kd.R_drewN | apply Kd.R_drew)); exact Kd.R_mono HO226.out (fun _ hk => ⟨hk.1.1.1.1.2, ⟨hk.1.1.1.2, hk.2⟩⟩)⟩, ⟨by (with_reducible repeat (first | refine blk_drewN ?_ _ | refine blk_drew ?_ | refine blk_alloc ?_ _)); exact BK201.out⟩, ⟨by (with_reducible repeat (first | refine blk_drewN ?_ _ | refine blk_drew ?_ | refine blk_alloc ?_ _)); exact BK222.out⟩, ⟨by (with_reducible repeat (first | refine blk_drewN ?_ _ | refine blk_drew ?_ | refine blk_alloc ?_ _)); exact BK229.out⟩, ⟨by repeat (first | (with_reducible first | exact HB.out | apply below_alloc | apply pw_below_drewN | apply below_drew1 | refine below_set ?_ GE201.out | refine below_set ?_ GE222.out | refine below_set ?_ GE229.out) | exact HB.out)⟩⟩
              · rw [if_neg c44] at H
                have c44b0 : (t231 == t235) = false := beq_eq_false_iff_ne.mpr c44
                have c44b1 : (t231 != t235) = true := bne_iff_ne.mpr c44
                have H' := Aside0.mk H
                clear H
                obtain ⟨Ao55, co55, eo55⟩ := Kd.R_slice HO210.out
                subst eo55
                obtain ⟨Ao56, co56, eo56⟩ := Kd.R_slice HO214.out
                subst eo56
                go_wp2_with (first | ((with_reducible refine gate_callee (f := 18) rfl ?_); refine goesL_ (some 64) rfl rfl Try.func18 (by kernel_rfl) rfl #[.slice Ao55 t208.length co55, .slice Ao56 t212.length co56] rfl (by (try simp only [List.map_toArray, List.map_cons, List.map_nil]); first | done | rfl | (simp only [List.length_drop, List.length_take]; rfl)) ?_; (with_reducible refine (transeptplain_SameBytes.calls k _ _ t208 _ _ t212 true _ ?side1 ?side2 ?side3 ?side4 A35.out).mono ?_); (case side1 => repeat (first | exact (Kd.R_reads' HO210.out).2.2 | (with_reducible refine Kd.C_alloc ?_ _) | (with_reducible refine Kd.C_drewN ?_ _) | (with_reducible refine Kd.C_drew ?_))); (case side2 => exact (Kd.R_reads' HO210.out).2.1); (case side3 => repeat (first | exact (Kd.R_reads' HO214.out).2.2 | (with_reducible refine Kd.C_alloc ?_ _) | (with_reducible refine Kd.C_drewN ?_ _) | (with_reducible refine Kd.C_drew ?_))); (case side4 => exact (Kd.R_reads' HO214.out).2.1); rintro e w' ⟨rfl, ⟨nd, rfl⟩⟩; refine ⟨_, rfl, ?_⟩) | (go_at_call 37; (with_reducible refine (transeptlaw03_num.calls t211 t239 _ A37.out).mono ?_); rintro e w' ⟨rfl, ⟨nd, rfl⟩⟩; have hnb57 := NB222_201.out; have hnc57 := NB201_222.out; have hnb58 := NB222_229.out; have hnc58 := NB229_222.out; have hcz59_0 : w34.cell? ⟨gb222, 0, none⟩ = some (.int .u8 t216) := (blk_cell BK222.out 0).trans rfl; have hcz59_1 : w34.cell? ⟨gb222, 1, none⟩ = some (.slice Ao26 t217.length co26) := (blk_cell BK222.out 1).trans rfl; have hfz59_0 := blk_frozen BK222.out 0; have hfz59_1 := blk_frozen BK222.out 1; have hnb60 := NB229_201.out; have hnc60 := NB201_229.out; have hcz61_0 : w34.cell? ⟨gb229, 0, none⟩ = some (.int .u8 t223) := (blk_cell BK229.out 0).trans rfl; have hcz61_1 : w34.cell? ⟨gb229, 1, none⟩ = some (.slice Ao32 t224.length co32) := (blk_cell BK229.out 1).trans rfl; have hfz61_0 := blk_frozen BK229.out 0; have hfz61_1 := blk_frozen BK229.out 1) | (go_at_call 39; (with_reducible refine (transeptlaw03_same.calls k t216 _ _ t217 t223 _ _ t224 true _ ?side1 ?side2 ?side3 ?side4 A39.out).mono ?_); (case side1 => repeat (first | exact (Kd.R_reads' HO219.out).2.2 | (with_reducible refine Kd.C_alloc ?_ _) | (with_reducible refine Kd.C_drewN ?_ _) | (with_reducible refine Kd.C_drew ?_))); (case side2 => exact (Kd.R_reads' HO219.out).2.1); (case side3 => repeat (first | exact (Kd.R_reads' HO226.out).2.2 | (with_reducible refine Kd.C_alloc ?_ _) | (with_reducible refine Kd.C_drewN ?_ _) | (with_reducible refine Kd.C_drew ?_))); (case side4 => exact (Kd.R_reads' HO226.out).2.1); rintro e w62 ⟨rfl, hb⟩; have n0_ := Aside0.mk (Kd.R_below (by (with_reducible repeat (first | apply Kd.R_alloc | apply Kd.R_drewN | apply Kd.R_drew)); exact HO204.out) hb); have n1_ := Aside0.mk (Kd.R_below (by (with_reducible repeat (first | apply Kd.R_alloc | apply Kd.R_drewN | apply Kd.R_drew)); exact HO207.out) hb); have n2_ := Aside0.mk (Kd.R_below (by (with_reducible repeat (first | apply Kd.R_alloc | apply Kd.R_drewN | apply Kd.R_drew)); exact HO210.out) hb); have n3_ := Aside0.mk (Kd.R_below (by (with_reducible repeat (first | apply Kd.R_alloc | apply Kd.R_drewN | apply Kd.R_drew)); exact HO214.out) hb); have n4_ := Aside0.mk (Kd.R_below (by (with_reducible repeat (first | apply Kd.R_alloc | apply Kd.R_drewN | apply Kd.R_drew)); exact HO219.out) hb); have n5_ := Aside0.mk (Kd.R_below (by (with_reducible repeat (first | apply Kd.R_alloc | apply Kd.R_drewN | apply Kd.R_drew)); exact HO226.out) hb); have n6_ := Aside0.mk (Kd.S_below (by (with_reducible repeat (first | apply Kd.S_alloc | apply Kd.S_drewN | apply Kd.S_drew)); exact HO233.out) hb); have n7_ := Aside0.mk (Kd.S_below (by (with_reducible repeat (first | apply Kd.S_alloc | apply Kd.S_drewN | apply Kd.S_drew)); exact HO237.out) hb); have n8_ := Aside0.mk (blk_below (g := gb201) (o := .cells #[.int .u8 a0_0, .slice A0_1 l0_1.length c0_1] 56 (0, 0)) (by (with_reducible repeat (first | refine blk_drewN ?_ _ | refine blk_drew ?_ | refine blk_alloc ?_ _)); exact BK201.out) hb); have n9_ := Aside0.mk (blk_below (g := gb222) (o := .cells #[.int .u8 t216, .slice Ao26 t217.length co26] 58 (0, 0)) (by (with_reducible repeat (first | refine blk_drewN ?_ _ | refine blk_drew ?_ | refine blk_alloc ?_ _)); exact BK222.out) hb); have n10_ := Aside0.mk (blk_below (g := gb229) (o := .cells #[.int .u8 t223, .slice Ao32 t224.length co32] 56 (0, 0)) (by (with_reducible repeat (first | refine blk_drewN ?_ _ | refine blk_drew ?_ | refine blk_alloc ?_ _)); exact BK229.out) hb); have n11_ := Aside0.mk (below_step (by repeat (first | (with_reducible first | exact HB.out | apply below_alloc | apply pw_below_drewN | apply below_drew1 | refine below_set ?_ GE201.out | refine below_set ?_ GE222.out | refine below_set ?_ GE229.out) | exact HB.out)) hb); clear HO204; clear HO207; clear HO210; clear HO214; clear HO219; clear HO226; clear HO233; clear HO237; clear BK201; clear BK222; clear BK229; clear HB; have HO204 := n0_; have HO207 := n1_; have HO210 := n2_; have HO214 := n3_; have HO219 := n4_; have HO226 := n5_; have HO233 := n6_; have HO237 := n7_; have BK201 := n8_; have BK222 := n9_; have BK229 := n10_; have HB := n11_; clear n0_ n1_ n2_ n3_ n4_ n5_ n6_ n7_ n8_ n9_ n10_ n11_; (try clear hb); (try clear hb2); (try clear hk); (try clear hi)) | (go_at_call 37; (with_reducible refine (transeptlaw03_num.calls t221 t241 _ A42.out).mono ?_); rintro e w' ⟨rfl, ⟨nd, rfl⟩⟩))
                go_meet
                case rel => exact ⟨_, (true), (by first | rfl | (simp; done) | (simp [*]; done)), H', ⟨by first | omega | exact Nat.le_refl _⟩, ⟨by (with_reducible repeat (first | apply Kd.R_alloc | apply Kd.R_drewN | apply Kd.R_drew)); exact Kd.R_mono HO204.out (fun _ hk => ⟨hk.1.1.1.1.2, ⟨hk.1.2, hk.2⟩⟩)⟩, ⟨by (with_reducible repeat (first | apply Kd.R_alloc | apply Kd.R_drewN | apply Kd.R_drew)); exact Kd.R_mono HO207.out (fun _ hk => ⟨hk.1.1.1.1.2, ⟨hk.1.2, hk.2⟩⟩)⟩, ⟨by (with_reducible repeat (first | apply Kd.S_alloc | apply Kd.S_drewN | apply Kd.S_drew)); exact Kd.S_mono HO233.out (fun _ hk => ⟨hk.1.1.1.1.1.1.2, ⟨hk.1.1.1.1.1.2, ⟨hk.1.1.2, ⟨hk.1.2, hk.2⟩⟩⟩⟩)⟩, ⟨by (with_reducible repeat (first | apply Kd.S_alloc | apply Kd.S_drewN | apply Kd.S_drew)); exact Kd.S_mono HO237.out (fun _ hk => ⟨hk.1.1.1.1.1.1.1.2, ⟨hk.1.1.1.1.1.1.2, ⟨hk.1.1.1.2, ⟨hk.1.1.2, ⟨hk.1.2, hk.2⟩⟩⟩⟩⟩)⟩, ⟨by (with_reducible repeat (first | apply Kd.R_alloc | apply Kd.R_drewN | apply Kd.R_drew)); exact Kd.R_mono HO219.out (fun _ hk => ⟨hk.1.1.1.1.2, ⟨hk.1.1.1.2, hk.2⟩⟩)⟩, ⟨by (with_reducible repeat (first | apply Kd.R_alloc | apply Kd.R_drewN | apply Kd.R_drew)); exact Kd.R_mono HO226.out (fun _ hk => ⟨hk.1.1.1.1.2, ⟨hk.1.1.1.2, hk.2⟩⟩)⟩, ⟨by (with_reducible repeat (first | refine blk_drewN ?_ _ | refine blk_drew ?_ | refine blk_alloc ?_ _)); exact BK201.out⟩, ⟨by (with_reducible repeat (first | refine blk_drewN ?_ _ | refine blk_drew ?_ | refine blk_alloc ?_ _)); exact BK222.out⟩, ⟨by (with_reducible repeat (first | refine blk_drewN ?_ _ | refine blk_drew ?_ | refine blk_alloc ?_ _)); exact BK229.out⟩, ⟨by repeat (first | (with_reducible first | exact HB.out | apply below_alloc | apply pw_below_drewN | apply below_drew1 | refine below_set ?_ GE201.out | refine below_set ?_ GE222.out | refine below_set ?_ GE229.out) | exact HB.out)⟩⟩
            · rw [if_neg c43] at H
              have c43b0 : (t241 == t228) = false := beq_eq_false_iff_ne.mpr c43
              have c43b1 : (t241 != t228) = true := bne_iff_ne.mpr c43
              have H' := Aside0.mk H
              clear H
              obtain ⟨Ao63, co63, eo63⟩ := Kd.R_slice HO210.out
              subst eo63
              obtain ⟨Ao64, co64, eo64⟩ := Kd.R_slice HO214.out
              subst eo64
              go_wp2_with (first | ((with_reducible refine gate_callee (f := 18) rfl ?_); refine goesL_ (some 64) rfl rfl Try.func18 (by kernel_rfl) rfl #[.slice Ao63 t208.length co63, .slice Ao64 t212.length co64] rfl (by (try simp only [List.map_toArray, List.map_cons, List.map_nil]); first | done | rfl | (simp only [List.length_drop, List.length_take]; rfl)) ?_; (with_reducible refine (transeptplain_SameBytes.calls k _ _ t208 _ _ t212 true _ ?side1 ?side2 ?side3 ?side4 A35.out).mono ?_); (case side1 => repeat (first | exact (Kd.R_reads' HO210.out).2.2 | (with_reducible refine Kd.C_alloc ?_ _) | (with_reducible refine Kd.C_drewN ?_ _) | (with_reducible refine Kd.C_drew ?_))); (case side2 => exact (Kd.R_reads' HO210.out).2.1); (case side3 => repeat (first | exact (Kd.R_reads' HO214.out).2.2 | (with_reducible refine Kd.C_alloc ?_ _) | (with_reducible refine Kd.C_drewN ?_ _) | (with_reducible refine Kd.C_drew ?_))); (case side4 => exact (Kd.R_reads' HO214.out).2.1); rintro e w' ⟨rfl, ⟨nd, rfl⟩⟩; refine ⟨_, rfl, ?_⟩) | (go_at_call 37; (with_reducible refine (transeptlaw03_num.calls t211 t239 _ A37.out).mono ?_); rintro e w' ⟨rfl, ⟨nd, rfl⟩⟩; have hnb65 := NB222_201.out; have hnc65 := NB201_222.out; have hnb66 := NB222_229.out; have hnc66 := NB229_222.out; have hcz67_0 : w34.cell? ⟨gb222, 0, none⟩ = some (.int .u8 t216) := (blk_cell BK222.out 0).trans rfl; have hcz67_1 : w34.cell? ⟨gb222, 1, none⟩ = some (.slice Ao26 t217.length co26) := (blk_cell BK222.out 1).trans rfl; have hfz67_0 := blk_frozen BK222.out 0; have hfz67_1 := blk_frozen BK222.out 1; have hnb68 := NB229_201.out; have hnc68 := NB201_229.out; have hcz69_0 : w34.cell? ⟨gb229, 0, none⟩ = some (.int .u8 t223) := (blk_cell BK229.out 0).trans rfl; have hcz69_1 : w34.cell? ⟨gb229, 1, none⟩ = some (.slice Ao32 t224.length co32) := (blk_cell BK229.out 1).trans rfl; have hfz69_0 := blk_frozen BK229.out 0; have hfz69_1 := blk_frozen BK229.out 1) | (go_at_call 39; (with_reducible refine (transeptlaw03_same.calls k t216 _ _ t217 t223 _ _ t224 true _ ?side1 ?side2 ?side3 ?side4 A39.out).mono ?_); (case side1 => repeat (first | exact (Kd.R_reads' HO219.out).2.2 | (with_reducible refine Kd.C_alloc ?_ _) | (with_reducible refine Kd.C_drewN ?_ _) | (with_reducible refine Kd.C_drew ?_))); (case side2 => exact (Kd.R_reads' HO219.out).2.1); (case side3 => repeat (first | exact (Kd.R_reads' HO226.out).2.2 | (with_reducible refine Kd.C_alloc ?_ _) | (with_reducible refine Kd.C_drewN ?_ _) | (with_reducible refine Kd.C_drew ?_))); (case side4 => exact (Kd.R_reads' HO226.out).2.1); rintro e w70 ⟨rfl, hb⟩; have n0_ := Aside0.mk (Kd.R_below (by (with_reducible repeat (first | apply Kd.R_alloc | apply Kd.R_drewN | apply Kd.R_drew)); exact HO204.out) hb); have n1_ := Aside0.mk (Kd.R_below (by (with_reducible repeat (first | apply Kd.R_alloc | apply Kd.R_drewN | apply Kd.R_drew)); exact HO207.out) hb); have n2_ := Aside0.mk (Kd.R_below (by (with_reducible repeat (first | apply Kd.R_alloc | apply Kd.R_drewN | apply Kd.R_drew)); exact HO210.out) hb); have n3_ := Aside0.mk (Kd.R_below (by (with_reducible repeat (first | apply Kd.R_alloc | apply Kd.R_drewN | apply Kd.R_drew)); exact HO214.out) hb); have n4_ := Aside0.mk (Kd.R_below (by (with_reducible repeat (first | apply Kd.R_alloc | apply Kd.R_drewN | apply Kd.R_drew)); exact HO219.out) hb); have n5_ := Aside0.mk (Kd.R_below (by (with_reducible repeat (first | apply Kd.R_alloc | apply Kd.R_drewN | apply Kd.R_drew)); exact HO226.out) hb); have n6_ := Aside0.mk (Kd.S_below (by (with_reducible repeat (first | apply Kd.S_alloc | apply Kd.S_drewN | apply Kd.S_drew)); exact HO233.out) hb); have n7_ := Aside0.mk (Kd.S_below (by (with_reducible repeat (first | apply Kd.S_alloc | apply Kd.S_drewN | apply Kd.S_drew)); exact HO237.out) hb); have n8_ := Aside0.mk (blk_below (g := gb201) (o := .cells #[.int .u8 a0_0, .slice A0_1 l0_1.length c0_1] 56 (0, 0)) (by (with_reducible repeat (first | refine blk_drewN ?_ _ | refine blk_drew ?_ | refine blk_alloc ?_ _)); exact BK201.out) hb); have n9_ := Aside0.mk (blk_below (g := gb222) (o := .cells #[.int .u8 t216, .slice Ao26 t217.length co26] 58 (0, 0)) (by (with_reducible repeat (first | refine blk_drewN ?_ _ | refine blk_drew ?_ | refine blk_alloc ?_ _)); exact BK222.out) hb); have n10_ := Aside0.mk (blk_below (g := gb229) (o := .cells #[.int .u8 t223, .slice Ao32 t224.length co32] 56 (0, 0)) (by (with_reducible repeat (first | refine blk_drewN ?_ _ | refine blk_drew ?_ | refine blk_alloc ?_ _)); exact BK229.out) hb); have n11_ := Aside0.mk (below_step (by repeat (first | (with_reducible first | exact HB.out | apply below_alloc | apply pw_below_drewN | apply below_drew1 | refine below_set ?_ GE201.out | refine below_set ?_ GE222.out | refine below_set ?_ GE229.out) | exact HB.out)) hb); clear HO204; clear HO207; clear HO210; clear HO214; clear HO219; clear HO226; clear HO233; clear HO237; clear BK201; clear BK222; clear BK229; clear HB; have HO204 := n0_; have HO207 := n1_; have HO210 := n2_; have HO214 := n3_; have HO219 := n4_; have HO226 := n5_; have HO233 := n6_; have HO237 := n7_; have BK201 := n8_; have BK222 := n9_; have BK229 := n10_; have HB := n11_; clear n0_ n1_ n2_ n3_ n4_ n5_ n6_ n7_ n8_ n9_ n10_ n11_; (try clear hb); (try clear hb2); (try clear hk); (try clear hi)) | (go_at_call 37; (with_reducible refine (transeptlaw03_num.calls t221 t241 _ A42.out).mono ?_); rintro e w' ⟨rfl, ⟨nd, rfl⟩⟩))
              go_meet
              case rel => exact ⟨_, (true), (by first | rfl | (simp; done) | (simp [*]; done)), H', ⟨by first | omega | exact Nat.le_refl _⟩, ⟨by (with_reducible repeat (first | apply Kd.R_alloc | apply Kd.R_drewN | apply Kd.R_drew)); exact Kd.R_mono HO204.out (fun _ hk => ⟨hk.1.1.1.1.2, ⟨hk.1.2, hk.2⟩⟩)⟩, ⟨by (with_reducible repeat (first | apply Kd.R_alloc | apply Kd.R_drewN | apply Kd.R_drew)); exact Kd.R_mono HO207.out (fun _ hk => ⟨hk.1.1.1.1.2, ⟨hk.1.2, hk.2⟩⟩)⟩, ⟨by (with_reducible repeat (first | apply Kd.S_alloc | apply Kd.S_drewN | apply Kd.S_drew)); exact Kd.S_mono HO233.out (fun _ hk => ⟨hk.1.1.1.1.1.1.2, ⟨hk.1.1.1.1.1.2, ⟨hk.1.1.2, ⟨hk.1.2, hk.2⟩⟩⟩⟩)⟩, ⟨by (with_reducible repeat (first | apply Kd.S_alloc | apply Kd.S_drewN | apply Kd.S_drew)); exact Kd.S_mono HO237.out (fun _ hk => ⟨hk.1.1.1.1.1.1.1.2, ⟨hk.1.1.1.1.1.1.2, ⟨hk.1.1.1.2, ⟨hk.1.1.2, ⟨hk.1.2, hk.2⟩⟩⟩⟩⟩)⟩, ⟨by (with_reducible repeat (first | apply Kd.R_alloc | apply Kd.R_drewN | apply Kd.R_drew)); exact Kd.R_mono HO219.out (fun _ hk => ⟨hk.1.1.1.1.2, ⟨hk.1.1.1.2, hk.2⟩⟩)⟩, ⟨by (with_reducible repeat (first | apply Kd.R_alloc | apply Kd.R_drewN | apply Kd.R_drew)); exact Kd.R_mono HO226.out (fun _ hk => ⟨hk.1.1.1.1.2, ⟨hk.1.1.1.2, hk.2⟩⟩)⟩, ⟨by (with_reducible repeat (first | refine blk_drewN ?_ _ | refine blk_drew ?_ | refine blk_alloc ?_ _)); exact BK201.out⟩, ⟨by (with_reducible repeat (first | refine blk_drewN ?_ _ | refine blk_drew ?_ | refine blk_alloc ?_ _)); exact BK222.out⟩, ⟨by (with_reducible repeat (first | refine blk_drewN ?_ _ | refine blk_drew ?_ | refine blk_alloc ?_ _)); exact BK229.out⟩, ⟨by repeat (first | (with_reducible first | exact HB.out | apply below_alloc | apply pw_below_drewN | apply below_drew1 | refine below_set ?_ GE201.out | refine below_set ?_ GE222.out | refine below_set ?_ GE229.out) | exact HB.out)⟩⟩
          · rw [if_neg c41] at H
            have c41b0 : (t220 == t227) = false := beq_eq_false_iff_ne.mpr c41
            have c41b1 : (t220 != t227) = true := bne_iff_ne.mpr c41
            have H' := Aside0.mk H
            clear H
            obtain ⟨Ao71, co71, eo71⟩ := Kd.R_slice HO210.out
            subst eo71
            obtain ⟨Ao72, co72, eo72⟩ := Kd.R_slice HO214.out
            subst eo72
            go_wp2_with (first | ((with_reducible refine gate_callee (f := 18) rfl ?_); refine goesL_ (some 64) rfl rfl Try.func18 (by kernel_rfl) rfl #[.slice Ao71 t208.length co71, .slice Ao72 t212.length co72] rfl (by (try simp only [List.map_toArray, List.map_cons, List.map_nil]); first | done | rfl | (simp only [List.length_drop, List.length_take]; rfl)) ?_; (with_reducible refine (transeptplain_SameBytes.calls k _ _ t208 _ _ t212 true _ ?side1 ?side2 ?side3 ?side4 A35.out).mono ?_); (case side1 => repeat (first | exact (Kd.R_reads' HO210.out).2.2 | (with_reducible refine Kd.C_alloc ?_ _) | (with_reducible refine Kd.C_drewN ?_ _) | (with_reducible refine Kd.C_drew ?_))); (case side2 => exact (Kd.R_reads' HO210.out).2.1); (case side3 => repeat (first | exact (Kd.R_reads' HO214.out).2.2 | (with_reducible refine Kd.C_alloc ?_ _) | (with_reducible refine Kd.C_drewN ?_ _) | (with_reducible refine Kd.C_drew ?_))); (case side4 => exact (Kd.R_reads' HO214.out).2.1); rintro e w' ⟨rfl, ⟨nd, rfl⟩⟩; refine ⟨_, rfl, ?_⟩) | (go_at_call 37; (with_reducible refine (transeptlaw03_num.calls t211 t239 _ A37.out).mono ?_); rintro e w' ⟨rfl, ⟨nd, rfl⟩⟩; have hnb73 := NB222_201.out; have hnc73 := NB201_222.out; have hnb74 := NB222_229.out; have hnc74 := NB229_222.out; have hcz75_0 : w34.cell? ⟨gb222, 0, none⟩ = some (.int .u8 t216) := (blk_cell BK222.out 0).trans rfl; have hcz75_1 : w34.cell? ⟨gb222, 1, none⟩ = some (.slice Ao26 t217.length co26) := (blk_cell BK222.out 1).trans rfl; have hfz75_0 := blk_frozen BK222.out 0; have hfz75_1 := blk_frozen BK222.out 1; have hnb76 := NB229_201.out; have hnc76 := NB201_229.out; have hcz77_0 : w34.cell? ⟨gb229, 0, none⟩ = some (.int .u8 t223) := (blk_cell BK229.out 0).trans rfl; have hcz77_1 : w34.cell? ⟨gb229, 1, none⟩ = some (.slice Ao32 t224.length co32) := (blk_cell BK229.out 1).trans rfl; have hfz77_0 := blk_frozen BK229.out 0; have hfz77_1 := blk_frozen BK229.out 1) | (go_at_call 39; (with_reducible refine (transeptlaw03_same.calls k t216 _ _ t217 t223 _ _ t224 true _ ?side1 ?side2 ?side3 ?side4 A39.out).mono ?_); (case side1 => repeat (first | exact (Kd.R_reads' HO219.out).2.2 | (with_reducible refine Kd.C_alloc ?_ _) | (with_reducible refine Kd.C_drewN ?_ _) | (with_reducible refine Kd.C_drew ?_))); (case side2 => exact (Kd.R_reads' HO219.out).2.1); (case side3 => repeat (first | exact (Kd.R_reads' HO226.out).2.2 | (with_reducible refine Kd.C_alloc ?_ _) | (with_reducible refine Kd.C_drewN ?_ _) | (with_reducible refine Kd.C_drew ?_))); (case side4 => exact (Kd.R_reads' HO226.out).2.1); rintro e w78 ⟨rfl, hb⟩; have n0_ := Aside0.mk (Kd.R_below (by (with_reducible repeat (first | apply Kd.R_alloc | apply Kd.R_drewN | apply Kd.R_drew)); exact HO204.out) hb); have n1_ := Aside0.mk (Kd.R_below (by (with_reducible repeat (first | apply Kd.R_alloc | apply Kd.R_drewN | apply Kd.R_drew)); exact HO207.out) hb); have n2_ := Aside0.mk (Kd.R_below (by (with_reducible repeat (first | apply Kd.R_alloc | apply Kd.R_drewN | apply Kd.R_drew)); exact HO210.out) hb); have n3_ := Aside0.mk (Kd.R_below (by (with_reducible repeat (first | apply Kd.R_alloc | apply Kd.R_drewN | apply Kd.R_drew)); exact HO214.out) hb); have n4_ := Aside0.mk (Kd.R_below (by (with_reducible repeat (first | apply Kd.R_alloc | apply Kd.R_drewN | apply Kd.R_drew)); exact HO219.out) hb); have n5_ := Aside0.mk (Kd.R_below (by (with_reducible repeat (first | apply Kd.R_alloc | apply Kd.R_drewN | apply Kd.R_drew)); exact HO226.out) hb); have n6_ := Aside0.mk (Kd.S_below (by (with_reducible repeat (first | apply Kd.S_alloc | apply Kd.S_drewN | apply Kd.S_drew)); exact HO233.out) hb); have n7_ := Aside0.mk (Kd.S_below (by (with_reducible repeat (first | apply Kd.S_alloc | apply Kd.S_drewN | apply Kd.S_drew)); exact HO237.out) hb); have n8_ := Aside0.mk (blk_below (g := gb201) (o := .cells #[.int .u8 a0_0, .slice A0_1 l0_1.length c0_1] 56 (0, 0)) (by (with_reducible repeat (first | refine blk_drewN ?_ _ | refine blk_drew ?_ | refine blk_alloc ?_ _)); exact BK201.out) hb); have n9_ := Aside0.mk (blk_below (g := gb222) (o := .cells #[.int .u8 t216, .slice Ao26 t217.length co26] 58 (0, 0)) (by (with_reducible repeat (first | refine blk_drewN ?_ _ | refine blk_drew ?_ | refine blk_alloc ?_ _)); exact BK222.out) hb); have n10_ := Aside0.mk (blk_below (g := gb229) (o := .cells #[.int .u8 t223, .slice Ao32 t224.length co32] 56 (0, 0)) (by (with_reducible repeat (first | refine blk_drewN ?_ _ | refine blk_drew ?_ | refine blk_alloc ?_ _)); exact BK229.out) hb); have n11_ := Aside0.mk (below_step (by repeat (first | (with_reducible first | exact HB.out | apply below_alloc | apply pw_below_drewN | apply below_drew1 | refine below_set ?_ GE201.out | refine below_set ?_ GE222.out | refine below_set ?_ GE229.out) | exact HB.out)) hb); clear HO204; clear HO207; clear HO210; clear HO214; clear HO219; clear HO226; clear HO233; clear HO237; clear BK201; clear BK222; clear BK229; clear HB; have HO204 := n0_; have HO207 := n1_; have HO210 := n2_; have HO214 := n3_; have HO219 := n4_; have HO226 := n5_; have HO233 := n6_; have HO237 := n7_; have BK201 := n8_; have BK222 := n9_; have BK229 := n10_; have HB := n11_; clear n0_ n1_ n2_ n3_ n4_ n5_ n6_ n7_ n8_ n9_ n10_ n11_; (try clear hb); (try clear hb2); (try clear hk); (try clear hi)))
            go_meet
            case rel => exact ⟨_, (true), (by first | rfl | (simp; done) | (simp [*]; done)), H', ⟨by first | omega | exact Nat.le_refl _⟩, ⟨by (with_reducible repeat (first | apply Kd.R_alloc | apply Kd.R_drewN | apply Kd.R_drew)); exact Kd.R_mono HO204.out (fun _ hk => ⟨hk.1.1.1.1.2, ⟨hk.1.2, hk.2⟩⟩)⟩, ⟨by (with_reducible repeat (first | apply Kd.R_alloc | apply Kd.R_drewN | apply Kd.R_drew)); exact Kd.R_mono HO207.out (fun _ hk => ⟨hk.1.1.1.1.2, ⟨hk.1.2, hk.2⟩⟩)⟩, ⟨by (with_reducible repeat (first | apply Kd.S_alloc | apply Kd.S_drewN | apply Kd.S_drew)); exact Kd.S_mono HO233.out (fun _ hk => ⟨hk.1.1.1.1.1.1.2, ⟨hk.1.1.1.1.1.2, ⟨hk.1.1.2, ⟨hk.1.2, hk.2⟩⟩⟩⟩)⟩, ⟨by (with_reducible repeat (first | apply Kd.S_alloc | apply Kd.S_drewN | apply Kd.S_drew)); exact Kd.S_mono HO237.out (fun _ hk => ⟨hk.1.1.1.1.1.1.1.2, ⟨hk.1.1.1.1.1.1.2, ⟨hk.1.1.1.2, ⟨hk.1.1.2, ⟨hk.1.2, hk.2⟩⟩⟩⟩⟩)⟩, ⟨by (with_reducible repeat (first | apply Kd.R_alloc | apply Kd.R_drewN | apply Kd.R_drew)); exact Kd.R_mono HO219.out (fun _ hk => ⟨hk.1.1.1.1.2, ⟨hk.1.1.1.2, hk.2⟩⟩)⟩, ⟨by (with_reducible repeat (first | apply Kd.R_alloc | apply Kd.R_drewN | apply Kd.R_drew)); exact Kd.R_mono HO226.out (fun _ hk => ⟨hk.1.1.1.1.2, ⟨hk.1.1.1.2, hk.2⟩⟩)⟩, ⟨by (with_reducible repeat (first | refine blk_drewN ?_ _ | refine blk_drew ?_ | refine blk_alloc ?_ _)); exact BK201.out⟩, ⟨by (with_reducible repeat (first | refine blk_drewN ?_ _ | refine blk_drew ?_ | refine blk_alloc ?_ _)); exact BK222.out⟩, ⟨by (with_reducible repeat (first | refine blk_drewN ?_ _ | refine blk_drew ?_ | refine blk_alloc ?_ _)); exact BK229.out⟩, ⟨by repeat (first | (with_reducible first | exact HB.out | apply below_alloc | apply pw_below_drewN | apply below_drew1 | refine below_set ?_ GE201.out | refine below_set ?_ GE222.out | refine below_set ?_ GE229.out) | exact HB.out)⟩⟩
        · replace c40 := Bool.eq_false_iff.mpr c40
          subst c40
          have H1 : (transeptlaw03_FramesTells.j0 k l1 t202 t205 t230 t234 true a0_0 l0_1) = some r := by rw [if_neg (show ¬ (false = true) by decide)] at H; exact H
          clear H
          have H := H1
          clear H1
          have H' := Aside0.mk H
          clear H
          obtain ⟨Ao79, co79, eo79⟩ := Kd.R_slice HO210.out
          subst eo79
          obtain ⟨Ao80, co80, eo80⟩ := Kd.R_slice HO214.out
          subst eo80
          go_wp2_with (first | ((with_reducible refine gate_callee (f := 18) rfl ?_); refine goesL_ (some 64) rfl rfl Try.func18 (by kernel_rfl) rfl #[.slice Ao79 t208.length co79, .slice Ao80 t212.length co80] rfl (by (try simp only [List.map_toArray, List.map_cons, List.map_nil]); first | done | rfl | (simp only [List.length_drop, List.length_take]; rfl)) ?_; (with_reducible refine (transeptplain_SameBytes.calls k _ _ t208 _ _ t212 true _ ?side1 ?side2 ?side3 ?side4 A35.out).mono ?_); (case side1 => repeat (first | exact (Kd.R_reads' HO210.out).2.2 | (with_reducible refine Kd.C_alloc ?_ _) | (with_reducible refine Kd.C_drewN ?_ _) | (with_reducible refine Kd.C_drew ?_))); (case side2 => exact (Kd.R_reads' HO210.out).2.1); (case side3 => repeat (first | exact (Kd.R_reads' HO214.out).2.2 | (with_reducible refine Kd.C_alloc ?_ _) | (with_reducible refine Kd.C_drewN ?_ _) | (with_reducible refine Kd.C_drew ?_))); (case side4 => exact (Kd.R_reads' HO214.out).2.1); rintro e w' ⟨rfl, ⟨nd, rfl⟩⟩; refine ⟨_, rfl, ?_⟩) | (go_at_call 37; (with_reducible refine (transeptlaw03_num.calls t211 t239 _ A37.out).mono ?_); rintro e w' ⟨rfl, ⟨nd, rfl⟩⟩; have hnb81 := NB222_201.out; have hnc81 := NB201_222.out; have hnb82 := NB222_229.out; have hnc82 := NB229_222.out; have hcz83_0 : w34.cell? ⟨gb222, 0, none⟩ = some (.int .u8 t216) := (blk_cell BK222.out 0).trans rfl; have hcz83_1 : w34.cell? ⟨gb222, 1, none⟩ = some (.slice Ao26 t217.length co26) := (blk_cell BK222.out 1).trans rfl; have hfz83_0 := blk_frozen BK222.out 0; have hfz83_1 := blk_frozen BK222.out 1; have hnb84 := NB229_201.out; have hnc84 := NB201_229.out; have hcz85_0 : w34.cell? ⟨gb229, 0, none⟩ = some (.int .u8 t223) := (blk_cell BK229.out 0).trans rfl; have hcz85_1 : w34.cell? ⟨gb229, 1, none⟩ = some (.slice Ao32 t224.length co32) := (blk_cell BK229.out 1).trans rfl; have hfz85_0 := blk_frozen BK229.out 0; have hfz85_1 := blk_frozen BK229.out 1) | (go_at_call 39; (with_reducible refine (transeptlaw03_same.calls k t216 _ _ t217 t223 _ _ t224 false _ ?side1 ?side2 ?side3 ?side4 A39.out).mono ?_); (case side1 => repeat (first | exact (Kd.R_reads' HO219.out).2.2 | (with_reducible refine Kd.C_alloc ?_ _) | (with_reducible refine Kd.C_drewN ?_ _) | (with_reducible refine Kd.C_drew ?_))); (case side2 => exact (Kd.R_reads' HO219.out).2.1); (case side3 => repeat (first | exact (Kd.R_reads' HO226.out).2.2 | (with_reducible refine Kd.C_alloc ?_ _) | (with_reducible refine Kd.C_drewN ?_ _) | (with_reducible refine Kd.C_drew ?_))); (case side4 => exact (Kd.R_reads' HO226.out).2.1); rintro e w86 ⟨rfl, hb⟩; have n0_ := Aside0.mk (Kd.R_below (by (with_reducible repeat (first | apply Kd.R_alloc | apply Kd.R_drewN | apply Kd.R_drew)); exact HO204.out) hb); have n1_ := Aside0.mk (Kd.R_below (by (with_reducible repeat (first | apply Kd.R_alloc | apply Kd.R_drewN | apply Kd.R_drew)); exact HO207.out) hb); have n2_ := Aside0.mk (Kd.R_below (by (with_reducible repeat (first | apply Kd.R_alloc | apply Kd.R_drewN | apply Kd.R_drew)); exact HO210.out) hb); have n3_ := Aside0.mk (Kd.R_below (by (with_reducible repeat (first | apply Kd.R_alloc | apply Kd.R_drewN | apply Kd.R_drew)); exact HO214.out) hb); have n4_ := Aside0.mk (Kd.R_below (by (with_reducible repeat (first | apply Kd.R_alloc | apply Kd.R_drewN | apply Kd.R_drew)); exact HO219.out) hb); have n5_ := Aside0.mk (Kd.R_below (by (with_reducible repeat (first | apply Kd.R_alloc | apply Kd.R_drewN | apply Kd.R_drew)); exact HO226.out) hb); have n6_ := Aside0.mk (Kd.S_below (by (with_reducible repeat (first | apply Kd.S_alloc | apply Kd.S_drewN | apply Kd.S_drew)); exact HO233.out) hb); have n7_ := Aside0.mk (Kd.S_below (by (with_reducible repeat (first | apply Kd.S_alloc | apply Kd.S_drewN | apply Kd.S_drew)); exact HO237.out) hb); have n8_ := Aside0.mk (blk_below (g := gb201) (o := .cells #[.int .u8 a0_0, .slice A0_1 l0_1.length c0_1] 56 (0, 0)) (by (with_reducible repeat (first | refine blk_drewN ?_ _ | refine blk_drew ?_ | refine blk_alloc ?_ _)); exact BK201.out) hb); have n9_ := Aside0.mk (blk_below (g := gb222) (o := .cells #[.int .u8 t216, .slice Ao26 t217.length co26] 58 (0, 0)) (by (with_reducible repeat (first | refine blk_drewN ?_ _ | refine blk_drew ?_ | refine blk_alloc ?_ _)); exact BK222.out) hb); have n10_ := Aside0.mk (blk_below (g := gb229) (o := .cells #[.int .u8 t223, .slice Ao32 t224.length co32] 56 (0, 0)) (by (with_reducible repeat (first | refine blk_drewN ?_ _ | refine blk_drew ?_ | refine blk_alloc ?_ _)); exact BK229.out) hb); have n11_ := Aside0.mk (below_step (by repeat (first | (with_reducible first | exact HB.out | apply below_alloc | apply pw_below_drewN | apply below_drew1 | refine below_set ?_ GE201.out | refine below_set ?_ GE222.out | refine below_set ?_ GE229.out) | exact HB.out)) hb); clear HO204; clear HO207; clear HO210; clear HO214; clear HO219; clear HO226; clear HO233; clear HO237; clear BK201; clear BK222; clear BK229; clear HB; have HO204 := n0_; have HO207 := n1_; have HO210 := n2_; have HO214 := n3_; have HO219 := n4_; have HO226 := n5_; have HO233 := n6_; have HO237 := n7_; have BK201 := n8_; have BK222 := n9_; have BK229 := n10_; have HB := n11_; clear n0_ n1_ n2_ n3_ n4_ n5_ n6_ n7_ n8_ n9_ n10_ n11_; (try clear hb); (try clear hb2); (try clear hk); (try clear hi)))
          go_meet
          case rel => exact ⟨_, (true), (by first | rfl | (simp; done) | (simp [*]; done)), H', ⟨by first | omega | exact Nat.le_refl _⟩, ⟨by (with_reducible repeat (first | apply Kd.R_alloc | apply Kd.R_drewN | apply Kd.R_drew)); exact Kd.R_mono HO204.out (fun _ hk => ⟨hk.1.1.1.1.2, ⟨hk.1.2, hk.2⟩⟩)⟩, ⟨by (with_reducible repeat (first | apply Kd.R_alloc | apply Kd.R_drewN | apply Kd.R_drew)); exact Kd.R_mono HO207.out (fun _ hk => ⟨hk.1.1.1.1.2, ⟨hk.1.2, hk.2⟩⟩)⟩, ⟨by (with_reducible repeat (first | apply Kd.S_alloc | apply Kd.S_drewN | apply Kd.S_drew)); exact Kd.S_mono HO233.out (fun _ hk => ⟨hk.1.1.1.1.1.1.2, ⟨hk.1.1.1.1.1.2, ⟨hk.1.1.2, ⟨hk.1.2, hk.2⟩⟩⟩⟩)⟩, ⟨by (with_reducible repeat (first | apply Kd.S_alloc | apply Kd.S_drewN | apply Kd.S_drew)); exact Kd.S_mono HO237.out (fun _ hk => ⟨hk.1.1.1.1.1.1.1.2, ⟨hk.1.1.1.1.1.1.2, ⟨hk.1.1.1.2, ⟨hk.1.1.2, ⟨hk.1.2, hk.2⟩⟩⟩⟩⟩)⟩, ⟨by (with_reducible repeat (first | apply Kd.R_alloc | apply Kd.R_drewN | apply Kd.R_drew)); exact Kd.R_mono HO219.out (fun _ hk => ⟨hk.1.1.1.1.2, ⟨hk.1.1.1.2, hk.2⟩⟩)⟩, ⟨by (with_reducible repeat (first | apply Kd.R_alloc | apply Kd.R_drewN | apply Kd.R_drew)); exact Kd.R_mono HO226.out (fun _ hk => ⟨hk.1.1.1.1.2, ⟨hk.1.1.1.2, hk.2⟩⟩)⟩, ⟨by (with_reducible repeat (first | refine blk_drewN ?_ _ | refine blk_drew ?_ | refine blk_alloc ?_ _)); exact BK201.out⟩, ⟨by (with_reducible repeat (first | refine blk_drewN ?_ _ | refine blk_drew ?_ | refine blk_alloc ?_ _)); exact BK222.out⟩, ⟨by (with_reducible repeat (first | refine blk_drewN ?_ _ | refine blk_drew ?_ | refine blk_alloc ?_ _)); exact BK229.out⟩, ⟨by repeat (first | (with_reducible first | exact HB.out | apply below_alloc | apply pw_below_drewN | apply below_drew1 | refine below_set ?_ GE201.out | refine below_set ?_ GE222.out | refine below_set ?_ GE229.out) | exact HB.out)⟩⟩
      · rw [if_neg c38] at H
        have c38b0 : (t239 == t215) = false := beq_eq_false_iff_ne.mpr c38
        have c38b1 : (t239 != t215) = true := bne_iff_ne.mpr c38
        (first | rw [c38b0] | (simp only [i64_w, i32_w]; rw [c38b0]) | skip)
        have H' := Aside0.mk H
        clear H
        obtain ⟨Ao87, co87, eo87⟩ := Kd.R_slice HO210.out
        subst eo87
        obtain ⟨Ao88, co88, eo88⟩ := Kd.R_slice HO214.out
        subst eo88
        go_wp2_with (first | ((with_reducible refine gate_callee (f := 18) rfl ?_); refine goesL_ (some 64) rfl rfl Try.func18 (by kernel_rfl) rfl #[.slice Ao87 t208.length co87, .slice Ao88 t212.length co88] rfl (by (try simp only [List.map_toArray, List.map_cons, List.map_nil]); first | done | rfl | (simp only [List.length_drop, List.length_take]; rfl)) ?_; (with_reducible refine (transeptplain_SameBytes.calls k _ _ t208 _ _ t212 true _ ?side1 ?side2 ?side3 ?side4 A35.out).mono ?_); (case side1 => repeat (first | exact (Kd.R_reads' HO210.out).2.2 | (with_reducible refine Kd.C_alloc ?_ _) | (with_reducible refine Kd.C_drewN ?_ _) | (with_reducible refine Kd.C_drew ?_))); (case side2 => exact (Kd.R_reads' HO210.out).2.1); (case side3 => repeat (first | exact (Kd.R_reads' HO214.out).2.2 | (with_reducible refine Kd.C_alloc ?_ _) | (with_reducible refine Kd.C_drewN ?_ _) | (with_reducible refine Kd.C_drew ?_))); (case side4 => exact (Kd.R_reads' HO214.out).2.1); rintro e w' ⟨rfl, ⟨nd, rfl⟩⟩; refine ⟨_, rfl, ?_⟩) | (go_at_call 37; (with_reducible refine (transeptlaw03_num.calls t211 t239 _ A37.out).mono ?_); rintro e w' ⟨rfl, ⟨nd, rfl⟩⟩))
        go_meet
        case rel => exact ⟨_, (true), (by first | rfl | (simp; done) | (simp [*]; done)), H', ⟨by first | omega | exact Nat.le_refl _⟩, ⟨by (with_reducible repeat (first | apply Kd.R_alloc | apply Kd.R_drewN | apply Kd.R_drew)); exact Kd.R_mono HO204.out (fun _ hk => ⟨hk.1.1.1.1.2, ⟨hk.1.2, hk.2⟩⟩)⟩, ⟨by (with_reducible repeat (first | apply Kd.R_alloc | apply Kd.R_drewN | apply Kd.R_drew)); exact Kd.R_mono HO207.out (fun _ hk => ⟨hk.1.1.1.1.2, ⟨hk.1.2, hk.2⟩⟩)⟩, ⟨by (with_reducible repeat (first | apply Kd.S_alloc | apply Kd.S_drewN | apply Kd.S_drew)); exact Kd.S_mono HO233.out (fun _ hk => ⟨hk.1.1.1.1.1.1.2, ⟨hk.1.1.1.1.1.2, ⟨hk.1.1.2, ⟨hk.1.2, hk.2⟩⟩⟩⟩)⟩, ⟨by (with_reducible repeat (first | apply Kd.S_alloc | apply Kd.S_drewN | apply Kd.S_drew)); exact Kd.S_mono HO237.out (fun _ hk => ⟨hk.1.1.1.1.1.1.1.2, ⟨hk.1.1.1.1.1.1.2, ⟨hk.1.1.1.2, ⟨hk.1.1.2, ⟨hk.1.2, hk.2⟩⟩⟩⟩⟩)⟩, ⟨by (with_reducible repeat (first | apply Kd.R_alloc | apply Kd.R_drewN | apply Kd.R_drew)); exact Kd.R_mono HO219.out (fun _ hk => ⟨hk.1.1.1.1.2, ⟨hk.1.1.1.2, hk.2⟩⟩)⟩, ⟨by (with_reducible repeat (first | apply Kd.R_alloc | apply Kd.R_drewN | apply Kd.R_drew)); exact Kd.R_mono HO226.out (fun _ hk => ⟨hk.1.1.1.1.2, ⟨hk.1.1.1.2, hk.2⟩⟩)⟩, ⟨by (with_reducible repeat (first | refine blk_drewN ?_ _ | refine blk_drew ?_ | refine blk_alloc ?_ _)); exact BK201.out⟩, ⟨by (with_reducible repeat (first | refine blk_drewN ?_ _ | refine blk_drew ?_ | refine blk_alloc ?_ _)); exact BK222.out⟩, ⟨by (with_reducible repeat (first | refine blk_drewN ?_ _ | refine blk_drew ?_ | refine blk_alloc ?_ _)); exact BK229.out⟩, ⟨by repeat (first | (with_reducible first | exact HB.out | apply below_alloc | apply pw_below_drewN | apply below_drew1 | refine below_set ?_ GE201.out | refine below_set ?_ GE222.out | refine below_set ?_ GE229.out) | exact HB.out)⟩⟩
    · replace c36 := Bool.eq_false_iff.mpr c36
      subst c36
      have H1 : (transeptlaw03_FramesTells.j0 k l1 t202 t205 t230 t234 true a0_0 l0_1) = some r := by rw [if_neg (show ¬ (false = true) by decide)] at H; exact H
      clear H
      have H := H1
      clear H1
      have H' := Aside0.mk H
      clear H
      obtain ⟨Ao89, co89, eo89⟩ := Kd.R_slice HO210.out
      subst eo89
      obtain ⟨Ao90, co90, eo90⟩ := Kd.R_slice HO214.out
      subst eo90
      go_wp2_with (first | ((with_reducible refine gate_callee (f := 18) rfl ?_); refine goesL_ (some 64) rfl rfl Try.func18 (by kernel_rfl) rfl #[.slice Ao89 t208.length co89, .slice Ao90 t212.length co90] rfl (by (try simp only [List.map_toArray, List.map_cons, List.map_nil]); first | done | rfl | (simp only [List.length_drop, List.length_take]; rfl)) ?_; (with_reducible refine (transeptplain_SameBytes.calls k _ _ t208 _ _ t212 false _ ?side1 ?side2 ?side3 ?side4 A35.out).mono ?_); (case side1 => repeat (first | exact (Kd.R_reads' HO210.out).2.2 | (with_reducible refine Kd.C_alloc ?_ _) | (with_reducible refine Kd.C_drewN ?_ _) | (with_reducible refine Kd.C_drew ?_))); (case side2 => exact (Kd.R_reads' HO210.out).2.1); (case side3 => repeat (first | exact (Kd.R_reads' HO214.out).2.2 | (with_reducible refine Kd.C_alloc ?_ _) | (with_reducible refine Kd.C_drewN ?_ _) | (with_reducible refine Kd.C_drew ?_))); (case side4 => exact (Kd.R_reads' HO214.out).2.1); rintro e w' ⟨rfl, ⟨nd, rfl⟩⟩; refine ⟨_, rfl, ?_⟩))
      go_meet
      case rel => exact ⟨_, (true), (by first | rfl | (simp; done) | (simp [*]; done)), H', ⟨by first | omega | exact Nat.le_refl _⟩, ⟨by (with_reducible repeat (first | apply Kd.R_alloc | apply Kd.R_drewN | apply Kd.R_drew)); exact Kd.R_mono HO204.out (fun _ hk => ⟨hk.1.1.1.1.2, ⟨hk.1.2, hk.2⟩⟩)⟩, ⟨by (with_reducible repeat (first | apply Kd.R_alloc | apply Kd.R_drewN | apply Kd.R_drew)); exact Kd.R_mono HO207.out (fun _ hk => ⟨hk.1.1.1.1.2, ⟨hk.1.2, hk.2⟩⟩)⟩, ⟨by (with_reducible repeat (first | apply Kd.S_alloc | apply Kd.S_drewN | apply Kd.S_drew)); exact Kd.S_mono HO233.out (fun _ hk => ⟨hk.1.1.1.1.1.1.2, ⟨hk.1.1.1.1.1.2, ⟨hk.1.1.2, ⟨hk.1.2, hk.2⟩⟩⟩⟩)⟩, ⟨by (with_reducible repeat (first | apply Kd.S_alloc | apply Kd.S_drewN | apply Kd.S_drew)); exact Kd.S_mono HO237.out (fun _ hk => ⟨hk.1.1.1.1.1.1.1.2, ⟨hk.1.1.1.1.1.1.2, ⟨hk.1.1.1.2, ⟨hk.1.1.2, ⟨hk.1.2, hk.2⟩⟩⟩⟩⟩)⟩, ⟨by (with_reducible repeat (first | apply Kd.R_alloc | apply Kd.R_drewN | apply Kd.R_drew)); exact Kd.R_mono HO219.out (fun _ hk => ⟨hk.1.1.1.1.2, ⟨hk.1.1.1.2, hk.2⟩⟩)⟩, ⟨by (with_reducible repeat (first | apply Kd.R_alloc | apply Kd.R_drewN | apply Kd.R_drew)); exact Kd.R_mono HO226.out (fun _ hk => ⟨hk.1.1.1.1.2, ⟨hk.1.1.1.2, hk.2⟩⟩)⟩, ⟨by (with_reducible repeat (first | refine blk_drewN ?_ _ | refine blk_drew ?_ | refine blk_alloc ?_ _)); exact BK201.out⟩, ⟨by (with_reducible repeat (first | refine blk_drewN ?_ _ | refine blk_drew ?_ | refine blk_alloc ?_ _)); exact BK222.out⟩, ⟨by (with_reducible repeat (first | refine blk_drewN ?_ _ | refine blk_drew ?_ | refine blk_alloc ?_ _)); exact BK229.out⟩, ⟨by repeat (first | (with_reducible first | exact HB.out | apply below_alloc | apply pw_below_drewN | apply below_drew1 | refine below_set ?_ GE201.out | refine below_set ?_ GE222.out | refine below_set ?_ GE229.out) | exact HB.out)⟩⟩
  case rest =>
    clear HC11
    try clear c1
    try clear c2
    try clear p2
    try clear c3
    try clear c4
    try clear c5
    try clear c6
    try clear c7
    try clear c8
    try clear c11
    try clear c18
    try clear c21
    try clear c24
    try clear c29
    try clear c30
    try clear c36
    try clear c38
    try clear c38b0
    try clear c38b1
    try clear c40
    try clear c41
    try clear c41b0
    try clear c41b1
    try clear c42
    try clear c43
    try clear c43b0
    try clear c43b1
    try clear c44
    try clear c44b0
    try clear c44b1
    try clear c47
    try clear c48
    try clear c50
    try clear c57
    try clear c58
    try clear c60
    try clear c65
    try clear c66
    try clear c68
    try clear c73
    try clear c74
    try clear c76
    try clear c81
    try clear c82
    try clear c84
    try clear hcz13_0
    try clear hcz13_1
    try clear hcz16_0
    try clear hcz16_1
    try clear hcz19_0
    try clear hcz19_1
    try clear hcz25_0
    try clear hcz25_1
    try clear hcz31_0
    try clear hcz31_1
    try clear hcz49_0
    try clear hcz49_1
    try clear hcz51_0
    try clear hcz51_1
    try clear hcz59_0
    try clear hcz59_1
    try clear hcz61_0
    try clear hcz61_1
    try clear hcz67_0
    try clear hcz67_1
    try clear hcz69_0
    try clear hcz69_1
    try clear hcz75_0
    try clear hcz75_1
    try clear hcz77_0
    try clear hcz77_1
    try clear hcz83_0
    try clear hcz83_1
    try clear hcz85_0
    try clear hcz85_1
    try clear hfz13_0
    try clear hfz13_1
    try clear hfz16_0
    try clear hfz16_1
    try clear hfz19_0
    try clear hfz19_1
    try clear hfz25_0
    try clear hfz25_1
    try clear hfz31_0
    try clear hfz31_1
    try clear hfz49_0
    try clear hfz49_1
    try clear hfz51_0
    try clear hfz51_1
    try clear hfz59_0
    try clear hfz59_1
    try clear hfz61_0
    try clear hfz61_1
    try clear hfz67_0
    try clear hfz67_1
    try clear hfz69_0
    try clear hfz69_1
    try clear hfz75_0
    try clear hfz75_1
    try clear hfz77_0
    try clear hfz77_1
    try clear hfz83_0
    try clear hfz83_1
    try clear hfz85_0
    try clear hfz85_1
    obtain ⟨kq, x100_10, rfl, HA, HJ10, HO_5, HO_6, HO_17, HO_19, HO_223001, HO_230001, BK201, BK222, BK229, HB⟩ := hcut
    cases kq with
    | zero => exact absurd HA.out (by simp [transeptlaw03_FramesTells.j0])
    | succ kj10 =>
      have H := HA.out
      clear HA
      simp only [transeptlaw03_FramesTells.j0] at H
      by_cases c91 : x100_10 = true
      · subst c91
        have H1 : (some false) = some r := by rw [if_pos rfl] at H; exact H
        clear H
        have H := H1
        clear H1
        obtain rfl := Option.some.inj H
        go_wp2
        go_ret
        exact ⟨by first | rfl | (simp [errW_none, errW_some] <;> rfl) | (simp [*, errW_none, errW_some] <;> rfl), by repeat (first | (with_reducible first | exact HB.out | apply below_alloc | apply pw_below_drewN | apply below_drew1 | refine below_set ?_ GE201.out | refine below_set ?_ GE222.out | refine below_set ?_ GE229.out) | exact HB.out)⟩
      · replace c91 := Bool.eq_false_iff.mpr c91
        subst c91
        have H1 : (transeptlaw03_FramesTells.l0 kj10 l1 t202 t205 t230 t234 0 a0_0 l0_1) = some r := by rw [if_neg (show ¬ (false = true) by decide)] at H; exact H
        clear H
        have H := H1
        clear H1
        have H' := Aside0.mk H
        clear H
        go_wp2
        go_loopg [21] kj10 (fun kq v21 w' => ∃ (x21_2 : Int), v21 = .int .i64 x21_2 ∧ Aside0 (transeptlaw03_FramesTells.l0 kq l1 t202 t205 t230 t234 x21_2 a0_0 l0_1 = some r) ∧ Aside0 (kq ≤ kj10) ∧ Aside0 (Kd.R (Kd.int .u8) 5 w' w.heap.size (fun k_ => some k_ ≠ ((.slice Ao21 t205.length co21) : Value).ownBlock ∧ some k_ ≠ ((.slice Ao26 t217.length co26) : Value).ownBlock ∧ some k_ ≠ ((.slice Ao32 t224.length co32) : Value).ownBlock) (.slice Ao17 t202.length co17) t202) ∧ Aside0 (Kd.R (Kd.int .u8) 5 w' w.heap.size (fun k_ => some k_ ≠ ((.slice Ao17 t202.length co17) : Value).ownBlock ∧ some k_ ≠ ((.slice Ao26 t217.length co26) : Value).ownBlock ∧ some k_ ≠ ((.slice Ao32 t224.length co32) : Value).ownBlock) (.slice Ao21 t205.length co21) t205) ∧ Aside0 (Kd.S k58 58 w' w.heap.size (fun k_ => some k_ ≠ ((.slice Ao17 t202.length co17) : Value).ownBlock ∧ some k_ ≠ ((.slice Ao21 t205.length co21) : Value).ownBlock ∧ some k_ ≠ ((.slice Ao26 t217.length co26) : Value).ownBlock ∧ some k_ ≠ ((.slice Ao32 t224.length co32) : Value).ownBlock ∧ k_ ≠ gb222) v232 t230) ∧ Aside0 (Kd.S k56 56 w' w.heap.size (fun k_ => some k_ ≠ ((.slice Ao17 t202.length co17) : Value).ownBlock ∧ some k_ ≠ ((.slice Ao21 t205.length co21) : Value).ownBlock ∧ some k_ ≠ ((.slice Ao26 t217.length co26) : Value).ownBlock ∧ some k_ ≠ ((.slice Ao32 t224.length co32) : Value).ownBlock ∧ k_ ≠ gb201 ∧ k_ ≠ gb229) v236 t234) ∧ Aside0 (Kd.R (Kd.int .u8) 5 w' w.heap.size (fun k_ => some k_ ≠ ((.slice Ao17 t202.length co17) : Value).ownBlock ∧ some k_ ≠ ((.slice Ao21 t205.length co21) : Value).ownBlock ∧ some k_ ≠ ((.slice Ao32 t224.length co32) : Value).ownBlock) (.slice Ao26 t217.length co26) t217) ∧ Aside0 (Kd.R (Kd.int .u8) 5 w' w.heap.size (fun k_ => some k_ ≠ ((.slice Ao17 t202.length co17) : Value).ownBlock ∧ some k_ ≠ ((.slice Ao21 t205.length co21) : Value).ownBlock ∧ some k_ ≠ ((.slice Ao26 t217.length co26) : Value).ownBlock) (.slice Ao32 t224.length co32) t224) ∧ Aside0 (w'.heap[gb201]? = some (.cells #[.int .u8 a0_0, (.slice A0_1 l0_1.length c0_1)] 56 (0, 0))) ∧ Aside0 (w'.heap[gb222]? = some (.cells #[.int .u8 t216, (.slice Ao26 t217.length co26)] 58 (0, 0))) ∧ Aside0 (w'.heap[gb229]? = some (.cells #[.int .u8 t223, (.slice Ao32 t224.length co32)] 56 (0, 0))) ∧ Aside0 (Below w.heap.size w w'))
        case atStart => exact ⟨(0), (by first | rfl | (simp; done) | (simp [*]; done)), H', ⟨Nat.le_refl _⟩, ⟨by (with_reducible repeat (first | apply Kd.R_alloc | apply Kd.R_drewN | apply Kd.R_drew)); exact HO_5.out⟩, ⟨by (with_reducible repeat (first | apply Kd.R_alloc | apply Kd.R_drewN | apply Kd.R_drew)); exact HO_6.out⟩, ⟨by (with_reducible repeat (first | apply Kd.S_alloc | apply Kd.S_drewN | apply Kd.S_drew)); exact HO_17.out⟩, ⟨by (with_reducible repeat (first | apply Kd.S_alloc | apply Kd.S_drewN | apply Kd.S_drew)); exact HO_19.out⟩, ⟨by (with_reducible repeat (first | apply Kd.R_alloc | apply Kd.R_drewN | apply Kd.R_drew)); exact HO_223001.out⟩, ⟨by (with_reducible repeat (first | apply Kd.R_alloc | apply Kd.R_drewN | apply Kd.R_drew)); exact HO_230001.out⟩, ⟨by (with_reducible repeat (first | refine blk_drewN ?_ _ | refine blk_drew ?_ | refine blk_alloc ?_ _)); exact BK201.out⟩, ⟨by (with_reducible repeat (first | refine blk_drewN ?_ _ | refine blk_drew ?_ | refine blk_alloc ?_ _)); exact BK222.out⟩, ⟨by (with_reducible repeat (first | refine blk_drewN ?_ _ | refine blk_drew ?_ | refine blk_alloc ?_ _)); exact BK229.out⟩, ⟨by repeat (first | (with_reducible first | exact HB.out | apply below_alloc | apply pw_below_drewN | apply below_drew1 | refine below_set ?_ GE201.out | refine below_set ?_ GE222.out | refine below_set ?_ GE229.out) | exact HB.out)⟩⟩
        case round =>
          clear H'
          try clear c1
          try clear c2
          try clear p2
          try clear c3
          try clear c4
          try clear c5
          try clear c6
          try clear c7
          try clear c8
          try clear c9
          try clear c11
          try clear c18
          try clear c21
          try clear c24
          try clear c29
          try clear c30
          try clear c36
          try clear c38
          try clear c38b0
          try clear c38b1
          try clear c40
          try clear c41
          try clear c41b0
          try clear c41b1
          try clear c42
          try clear c43
          try clear c43b0
          try clear c43b1
          try clear c44
          try clear c44b0
          try clear c44b1
          try clear c47
          try clear c48
          try clear c50
          try clear c57
          try clear c58
          try clear c60
          try clear c65
          try clear c66
          try clear c68
          try clear c73
          try clear c74
          try clear c76
          try clear c81
          try clear c82
          try clear c84
          try clear c91
          try clear hcz13_0
          try clear hcz13_1
          try clear hcz16_0
          try clear hcz16_1
          try clear hcz19_0
          try clear hcz19_1
          try clear hcz25_0
          try clear hcz25_1
          try clear hcz31_0
          try clear hcz31_1
          try clear hcz49_0
          try clear hcz49_1
          try clear hcz51_0
          try clear hcz51_1
          try clear hcz59_0
          try clear hcz59_1
          try clear hcz61_0
          try clear hcz61_1
          try clear hcz67_0
          try clear hcz67_1
          try clear hcz69_0
          try clear hcz69_1
          try clear hcz75_0
          try clear hcz75_1
          try clear hcz77_0
          try clear hcz77_1
          try clear hcz83_0
          try clear hcz83_1
          try clear hcz85_0
          try clear hcz85_1
          try clear hfz13_0
          try clear hfz13_1
          try clear hfz16_0
          try clear hfz16_1
          try clear hfz19_0
          try clear hfz19_1
          try clear hfz25_0
          try clear hfz25_1
          try clear hfz31_0
          try clear hfz31_1
          try clear hfz49_0
          try clear hfz49_1
          try clear hfz51_0
          try clear hfz51_1
          try clear hfz59_0
          try clear hfz59_1
          try clear hfz61_0
          try clear hfz61_1
          try clear hfz67_0
          try clear hfz67_1
          try clear hfz69_0
          try clear hfz69_1
          try clear hfz75_0
          try clear hfz75_1
          try clear hfz77_0
          try clear hfz77_1
          try clear hfz83_0
          try clear hfz83_1
          try clear hfz85_0
          try clear hfz85_1
          try clear p2
          obtain ⟨x21_2, rfl, HA, HK2, HO_5, HO_6, HO_17, HO_19, HO_223001, HO_230001, BK201, BK222, BK229, HB⟩ := hrel
          cases gk with
          | zero => exact absurd HA.out (by simp [transeptlaw03_FramesTells.l0])
          | succ k2 =>
            have H := HA.out
            clear HA
            simp only [transeptlaw03_FramesTells.l0] at H
            by_cases c92 : x21_2 < (t230.length : Int)
            · rw [if_pos c92] at H
              have c92b0 : decide (x21_2 < (t230.length : Int)) = true := decide_eq_true c92
              clear c92
              by_cases c93 : 0 ≤ x21_2
              · rw [if_pos c93] at H
                have c93b0 : decide (0 ≤ x21_2) = true := decide_eq_true c93
                clear c93
                by_cases c94 : x21_2 < (t234.length : Int)
                · rw [if_pos c94] at H
                  have c94b0 : decide (x21_2 < (t234.length : Int)) = true := decide_eq_true c94
                  clear c94
                  replace H := Option.bind_eq_some_iff.mp H
                  obtain ⟨t244, A950, H⟩ := H
                  replace H : (if t244 = true then (transeptlaw03_FramesTells.l0 k2 l1 t202 t205 t230 t234 (wrap64 (x21_2 + 1)) a0_0 l0_1) else (some false)) = some r := H
                  have A95 := Aside0.mk A950
                  clear A950
                  by_cases c96 : t244 = true
                  · subst c96
                    have H1 : (transeptlaw03_FramesTells.l0 k2 l1 t202 t205 t230 t234 (wrap64 (x21_2 + 1)) a0_0 l0_1) = some r := by rw [if_pos rfl] at H; exact H
                    clear H
                    have H := H1
                    clear H1
                    have H' := Aside0.mk H
                    clear H
                    obtain ⟨Ao97, co97, eo97⟩ := Kd.S_slice HO_17.out
                    subst eo97
                    try go_wp2
                    have n0_ := Aside0.mk (Kd.R_drew HO_5.out)
                    have n1_ := Aside0.mk (Kd.R_drew HO_6.out)
                    have n2_ := Aside0.mk (Kd.S_drew HO_17.out)
                    have n3_ := Aside0.mk (Kd.S_drew HO_19.out)
                    have n4_ := Aside0.mk (Kd.R_drew HO_223001.out)
                    have n5_ := Aside0.mk (Kd.R_drew HO_230001.out)
                    have n6_ := Aside0.mk (blk_drew BK201.out)
                    have n7_ := Aside0.mk (blk_drew BK222.out)
                    have n8_ := Aside0.mk (blk_drew BK229.out)
                    have n9_ := Aside0.mk (below_drew1 HB.out)
                    clear HO_5
                    clear HO_6
                    clear HO_17
                    clear HO_19
                    clear HO_223001
                    clear HO_230001
                    clear BK201
                    clear BK222
                    clear BK229
                    clear HB
                    have HO_5 := n0_
                    have HO_6 := n1_
                    have HO_17 := n2_
                    have HO_19 := n3_
                    have HO_223001 := n4_
                    have HO_230001 := n5_
                    have BK201 := n6_
                    have BK222 := n7_
                    have BK229 := n8_
                    have HB := n9_
                    clear n0_ n1_ n2_ n3_ n4_ n5_ n6_ n7_ n8_ n9_
                    have p242 : 0 ≤ (x21_2 : Int) := of_decide_eq_true (by first | (with_reducible assumption) | assumption)
                    have q242 : x21_2 < (t230.length : Int) := of_decide_eq_true (by first | (with_reducible assumption) | assumption)
                    obtain ⟨ad242, A242_1, c242_1, e242, hx242_0, hx242_1, hl242_1, hi242_1⟩ := at_T58 (Kd.S_reads' HO_17.out).2.2 x21_2 p242 q242
                    cases e242
                    obtain ⟨ce242, hce242, hMe242, hcc242⟩ := Kd.S_get HO_17.out z58 x21_2 p242 (by first | exact q242 | exact of_decide_eq_true (by first | (with_reducible assumption) | assumption) | (have e_ := (Kd.S_reads' HO_17.out).1; omega))
                    obtain ⟨ve242_1, rfl, ge242_1⟩ := k58_openM hMe242
                    have hv242_1 := hcc242 1 _ rfl
                    rw [add_field _ _ 1 (by omega)] at hv242_1
                    replace hv242_1 := Option.some.inj (hv242_1.symm.trans hx242_1)
                    rw [hv242_1] at ge242_1
                    have HL242_1 := Aside0.mk (show Kd.R (Kd.int .u8) 5 _ _ _ _ ((rd_T58 t230 x21_2).f1) from ge242_1)
                    clear hv242_1 ge242_1
                    clear hcc242 hce242
                    have HR242_1 := Aside0.mk hi242_1
                    have HC242_1 := Aside0.mk hl242_1
                    clear hi242_1 hl242_1
                    replace p242 := eq_true p242
                    replace q242 := eq_true q242
                    obtain ⟨Ao99, co99, eo99⟩ := Kd.S_slice HO_19.out
                    (first | subst eo99 | (injection eo99 with f1_ f2_ f3_; have f4_ := f1_.symm; have f5_ := f3_.symm; clear f1_ f2_ f3_; subst f4_; subst f5_))
                    have p243 : 0 ≤ (x21_2 : Int) := of_decide_eq_true (by first | (with_reducible assumption) | assumption)
                    have q243 : x21_2 < (t234.length : Int) := of_decide_eq_true (by first | (with_reducible assumption) | assumption)
                    obtain ⟨ad243, A243_1, c243_1, e243, hx243_0, hx243_1, hl243_1, hi243_1⟩ := at_T56 (Kd.S_reads' HO_19.out).2.2 x21_2 p243 q243
                    cases e243
                    obtain ⟨ce243, hce243, hMe243, hcc243⟩ := Kd.S_get HO_19.out z56 x21_2 p243 (by first | exact q243 | exact of_decide_eq_true (by first | (with_reducible assumption) | assumption) | (have e_ := (Kd.S_reads' HO_19.out).1; omega))
                    obtain ⟨ve243_1, rfl, ge243_1⟩ := k56_openM hMe243
                    have hv243_1 := hcc243 1 _ rfl
                    rw [add_field _ _ 1 (by omega)] at hv243_1
                    replace hv243_1 := Option.some.inj (hv243_1.symm.trans hx243_1)
                    rw [hv243_1] at ge243_1
                    have HL243_1 := Aside0.mk (show Kd.R (Kd.int .u8) 5 _ _ _ _ ((rd_T56 t234 x21_2).f1) from ge243_1)
                    clear hv243_1 ge243_1
                    clear hcc243 hce243
                    have HR243_1 := Aside0.mk hi243_1
                    have HC243_1 := Aside0.mk hl243_1
                    clear hi243_1 hl243_1
                    replace p243 := eq_true p243
                    replace q243 := eq_true q243
                    refine start_ (n := 10) (S := fun w' => w'.cell? (ad242.add ((x21_2).toNat * 2)) = some (.int .u8 ((rd_T58 t230 x21_2).f0)) ∧ w'.cell? ⟨(ad242.add ((x21_2).toNat * 2)).block, (ad242.add ((x21_2).toNat * 2)).off + 1, none⟩ = some (.slice A242_1 ((rd_T58 t230 x21_2).f1).length c242_1) ∧ w'.cell? (ad243.add ((x21_2).toNat * 2)) = some (.int .u8 ((rd_T56 t234 x21_2).f0)) ∧ w'.cell? ⟨(ad243.add ((x21_2).toNat * 2)).block, (ad243.add ((x21_2).toNat * 2)).off + 1, none⟩ = some (.slice A243_1 ((rd_T56 t234 x21_2).f1).length c243_1)) (ds := []) #[false, false, false, false, false, false, false, false, false, false] (by kernel_rfl) rfl rfl ⟨hx242_0, hx242_1, hx243_0, hx243_1⟩ (fun hHeld => ?_); refine with_tabW transeptlaw03_FramesTells.tab13 transeptlaw03_FramesTells.bits13 (fun HT_ HW_ => ?_)
                    generalize wr.drew = w98 at HO_5 HO_6 HO_17 HO_19 HO_223001 HO_230001 BK201 BK222 BK229 HB HL242_1 HL243_1 HR242_1 HR243_1 hx242_0 hx242_1 hx243_0 hx243_1 hHeld ⊢
                    refine pure_ (i := 0) (N := some 107) (v := ?_) (a' := ?_) #[true, false, false, false, false, false, false, false, false, false] rfl rfl (any_of HT_.out (by kernel_rfl)) (fun _ _ _ h => h) (Or.inl ⟨by rfl, ?_⟩) ?_ ?_
                    rotate_left
                    · intro w'
                      go_simp
                      with_reducible rfl
                    rotate_left
                    · simp only [Act.put, List.setIfInBounds_toArray, List.set_cons_zero, List.set_cons_succ, i64_w, i32_w]
                      rfl
                    refine pure_ (i := 1) (N := some 108) (v := ?_) (a' := ?_) #[true, true, false, false, false, false, false, false, false, false] rfl rfl (any_of HT_.out (by kernel_rfl)) (fun _ _ _ h => h) (Or.inl ⟨by rfl, ?_⟩) ?_ ?_
                    rotate_left
                    · intro w'
                      go_simp
                      with_reducible rfl
                    rotate_left
                    · simp only [Act.put, List.setIfInBounds_toArray, List.set_cons_zero, List.set_cons_succ, i64_w, i32_w]
                      rfl
                    refine pure_ (i := 2) (N := some 109) (v := ?_) (a' := ?_) #[true, true, true, false, false, false, false, false, false, false] rfl rfl (any_of HT_.out (by kernel_rfl)) (fun _ _ _ h => h) (Or.inl ⟨by rfl, ?_⟩) ?_ ?_
                    rotate_left
                    · intro w'
                      go_simp
                      with_reducible rfl
                    rotate_left
                    · simp only [Act.put, List.setIfInBounds_toArray, List.set_cons_zero, List.set_cons_succ, i64_w, i32_w]
                      rfl
                    refine pure_ (i := 4) (N := some 111) (v := ?_) (a' := ?_) #[true, true, true, false, true, false, false, false, false, false] rfl rfl (any_of HT_.out (by kernel_rfl)) (fun _ _ _ h => h) (Or.inl ⟨by rfl, ?_⟩) ?_ ?_
                    rotate_left
                    · intro w'
                      go_simp
                      with_reducible rfl
                    rotate_left
                    · simp only [Act.put, List.setIfInBounds_toArray, List.set_cons_zero, List.set_cons_succ, i64_w, i32_w]
                      rfl
                    refine pure_ (i := 5) (N := some 112) (v := ?_) (a' := ?_) #[true, true, true, false, true, true, false, false, false, false] rfl rfl (any_of HT_.out (by kernel_rfl)) (fun _ _ _ h => h) (Or.inl ⟨by rfl, ?_⟩) ?_ ?_
                    rotate_left
                    · intro w'
                      go_simp
                      with_reducible rfl
                    rotate_left
                    · simp only [Act.put, List.setIfInBounds_toArray, List.set_cons_zero, List.set_cons_succ, i64_w, i32_w]
                      rfl
                    refine pure_ (i := 6) (N := some 113) (v := ?_) (a' := ?_) #[true, true, true, false, true, true, true, false, false, false] rfl rfl (any_of HT_.out (by kernel_rfl)) (fun _ _ _ h => h) (Or.inl ⟨by rfl, ?_⟩) ?_ ?_
                    rotate_left
                    · intro w'
                      go_simp
                      with_reducible rfl
                    rotate_left
                    · simp only [Act.put, List.setIfInBounds_toArray, List.set_cons_zero, List.set_cons_succ, i64_w, i32_w]
                      rfl
                    refine take_ (i := 3) (N := some 110) (v := ?_) (a' := ?_) #[true, true, true, true, true, true, true, false, false, false] rfl rfl (take_ofW HT_.out HW_.out (by kernel_rfl)) (fun _ _ _ h => h) (Or.inl ⟨by rfl, ?_⟩) hHeld ?_ ?_
                    rotate_left
                    · rintro w' ⟨s0, s1, s2, s3⟩
                      go_simp
                      with_reducible rfl
                    rotate_left
                    · simp only [Act.put, List.setIfInBounds_toArray, List.set_cons_zero, List.set_cons_succ, i64_w, i32_w]
                      rfl
                    refine take_ (i := 7) (N := some 114) (v := ?_) (a' := ?_) #[true, true, true, true, true, true, true, true, false, false] rfl rfl (take_ofW HT_.out HW_.out (by kernel_rfl)) (fun _ _ _ h => h) (Or.inl ⟨by rfl, ?_⟩) hHeld ?_ ?_
                    rotate_left
                    · rintro w' ⟨s0, s1, s2, s3⟩
                      go_simp
                      with_reducible rfl
                    rotate_left
                    · simp only [Act.put, List.setIfInBounds_toArray, List.set_cons_zero, List.set_cons_succ, i64_w, i32_w]
                      rfl
                    refine one_ (i := 8) (N := some 115) #[true, true, true, true, true, true, true, true, true, false] rfl rfl (one_of HT_.out (by kernel_rfl)) (by decide) (fun K hK => ?_)
                    refine goes_ Try.func39 (by kernel_rfl) rfl #[.agg #[.int .u8 ((rd_T58 t230 x21_2).f0), .slice A242_1 ((rd_T58 t230 x21_2).f1).length c242_1], .agg #[.int .u8 ((rd_T56 t234 x21_2).f0), .slice A243_1 ((rd_T56 t234 x21_2).f1).length c243_1]] (by rfl) rfl rfl (by (try simp only [List.map_toArray, List.map_cons, List.map_nil]); first | done | rfl | (simp only [List.length_drop, List.length_take]; rfl)) ?_
                    with_reducible refine (transeptlaw03_same.calls k2 ((rd_T58 t230 x21_2).f0) _ _ ((rd_T58 t230 x21_2).f1) ((rd_T56 t234 x21_2).f0) _ _ ((rd_T56 t234 x21_2).f1) true _ ?side1 ?side2 ?side3 ?side4 A95.out).mono ?_
                    (case side1 => repeat (first | exact (by repeat (first | (with_reducible exact HR242_1.out) | (with_reducible refine Kd.C_alloc ?_ _) | (with_reducible refine Kd.C_drewN ?_ _) | (with_reducible refine Kd.C_drew ?_) | exact HR242_1.out)) | (with_reducible refine Kd.C_alloc ?_ _) | (with_reducible refine Kd.C_drewN ?_ _) | (with_reducible refine Kd.C_drew ?_)))
                    (case side2 => exact HC242_1.out)
                    (case side3 => repeat (first | exact (by repeat (first | (with_reducible exact HR243_1.out) | (with_reducible refine Kd.C_alloc ?_ _) | (with_reducible refine Kd.C_drewN ?_ _) | (with_reducible refine Kd.C_drew ?_) | exact HR243_1.out)) | (with_reducible refine Kd.C_alloc ?_ _) | (with_reducible refine Kd.C_drewN ?_ _) | (with_reducible refine Kd.C_drew ?_)))
                    (case side4 => exact HC243_1.out)
                    rintro e w100 ⟨rfl, hb⟩
                    have HS0_ := (hb.cell (World.block_lt_of_cell? _ _ (hHeld.1))).trans (hHeld.1)
                    have HS1_ := (hb.cell (World.block_lt_of_cell? _ _ (hHeld.2.1))).trans (hHeld.2.1)
                    have HS2_ := (hb.cell (World.block_lt_of_cell? _ _ (hHeld.2.2.1))).trans (hHeld.2.2.1)
                    have HS3_ := (hb.cell (World.block_lt_of_cell? _ _ (hHeld.2.2.2))).trans (hHeld.2.2.2)
                    refine ⟨_, rfl, ?_⟩
                    have n0_ := Aside0.mk (Kd.R_below (by (with_reducible repeat (first | apply Kd.R_alloc | apply Kd.R_drewN | apply Kd.R_drew)); exact HO_5.out) hb)
                    have n1_ := Aside0.mk (Kd.R_below (by (with_reducible repeat (first | apply Kd.R_alloc | apply Kd.R_drewN | apply Kd.R_drew)); exact HO_6.out) hb)
                    have n2_ := Aside0.mk (Kd.S_below (by (with_reducible repeat (first | apply Kd.S_alloc | apply Kd.S_drewN | apply Kd.S_drew)); exact HO_17.out) hb)
                    have n3_ := Aside0.mk (Kd.S_below (by (with_reducible repeat (first | apply Kd.S_alloc | apply Kd.S_drewN | apply Kd.S_drew)); exact HO_19.out) hb)
                    have n4_ := Aside0.mk (Kd.R_below (by (with_reducible repeat (first | apply Kd.R_alloc | apply Kd.R_drewN | apply Kd.R_drew)); exact HO_223001.out) hb)
                    have n5_ := Aside0.mk (Kd.R_below (by (with_reducible repeat (first | apply Kd.R_alloc | apply Kd.R_drewN | apply Kd.R_drew)); exact HO_230001.out) hb)
                    have n6_ := Aside0.mk (Kd.R_below (by (with_reducible repeat (first | apply Kd.R_alloc | apply Kd.R_drewN | apply Kd.R_drew)); exact HL242_1.out) hb)
                    have n7_ := Aside0.mk (Kd.R_below (by (with_reducible repeat (first | apply Kd.R_alloc | apply Kd.R_drewN | apply Kd.R_drew)); exact HL243_1.out) hb)
                    have n8_ := Aside0.mk (blk_below (g := gb201) (o := .cells #[.int .u8 a0_0, .slice A0_1 l0_1.length c0_1] 56 (0, 0)) (by (with_reducible repeat (first | refine blk_drewN ?_ _ | refine blk_drew ?_ | refine blk_alloc ?_ _)); exact BK201.out) hb)
                    have n9_ := Aside0.mk (blk_below (g := gb222) (o := .cells #[.int .u8 t216, .slice Ao26 t217.length co26] 58 (0, 0)) (by (with_reducible repeat (first | refine blk_drewN ?_ _ | refine blk_drew ?_ | refine blk_alloc ?_ _)); exact BK222.out) hb)
                    have n10_ := Aside0.mk (blk_below (g := gb229) (o := .cells #[.int .u8 t223, .slice Ao32 t224.length co32] 56 (0, 0)) (by (with_reducible repeat (first | refine blk_drewN ?_ _ | refine blk_drew ?_ | refine blk_alloc ?_ _)); exact BK229.out) hb)
                    have n11_ := Aside0.mk (Kd.C_below (by repeat (first | (with_reducible exact HR242_1.out) | (with_reducible refine Kd.C_alloc ?_ _) | (with_reducible refine Kd.C_drewN ?_ _) | (with_reducible refine Kd.C_drew ?_) | exact HR242_1.out)) hb)
                    have n12_ := Aside0.mk (Kd.C_below (by repeat (first | (with_reducible exact HR243_1.out) | (with_reducible refine Kd.C_alloc ?_ _) | (with_reducible refine Kd.C_drewN ?_ _) | (with_reducible refine Kd.C_drew ?_) | exact HR243_1.out)) hb)
                    have n13_ := Aside0.mk (below_step (by repeat (first | (with_reducible first | exact HB.out | apply below_alloc | apply pw_below_drewN | apply below_drew1 | refine below_set ?_ GE201.out | refine below_set ?_ GE222.out | refine below_set ?_ GE229.out) | exact HB.out)) hb)
                    clear HO_5
                    clear HO_6
                    clear HO_17
                    clear HO_19
                    clear HO_223001
                    clear HO_230001
                    clear HL242_1
                    clear HL243_1
                    clear BK201
                    clear BK222
                    clear BK229
                    clear HR242_1
                    clear HR243_1
                    clear HB
                    have HO_5 := n0_
                    have HO_6 := n1_
                    have HO_17 := n2_
                    have HO_19 := n3_
                    have HO_223001 := n4_
                    have HO_230001 := n5_
                    have HL242_1 := n6_
                    have HL243_1 := n7_
                    have BK201 := n8_
                    have BK222 := n9_
                    have BK229 := n10_
                    have HR242_1 := n11_
                    have HR243_1 := n12_
                    have HB := n13_
                    clear n0_ n1_ n2_ n3_ n4_ n5_ n6_ n7_ n8_ n9_ n10_ n11_ n12_ n13_
                    (try clear hb)
                    (try clear hb2)
                    (try clear hk)
                    (try clear hi)
                    refine hK.out _ _ ⟨HS0_, HS1_, HS2_, HS3_⟩ (fun hHeld => ?_)
                    clear hK K
                    refine norm_ (a' := ?_) ?_ ?_
                    rotate_left
                    · show Act.put _ (some 115) _ = _
                      simp only [Act.put, List.setIfInBounds_toArray, List.set_cons_zero, List.set_cons_succ, i64_w, i32_w]
                      rfl
                    refine pure_ (i := 9) (N := some 116) (v := ?_) (a' := ?_) #[true, true, true, true, true, true, true, true, true, true] rfl rfl (any_of HT_.out (by kernel_rfl)) (fun _ _ _ h => h) (Or.inl ⟨by rfl, ?_⟩) ?_ ?_
                    rotate_left
                    · intro w'
                      go_simp
                      with_reducible rfl
                    rotate_left
                    · simp only [Act.put, List.setIfInBounds_toArray, List.set_cons_zero, List.set_cons_succ, i64_w, i32_w]
                      rfl
                    refine done_ (done_of HT_.out (by kernel_rfl)) ?_
                    try go_wp2
                    go_roundg k2
                    case measure => have := HJ10.out; have := HK2.out; omega
                    case rel => exact ⟨(wrap64 (x21_2 + 1)), (by first | rfl | (simp; done) | (simp [*]; done)), H', ⟨by have := HJ10.out; have := HK2.out; omega⟩, ⟨by (with_reducible repeat (first | apply Kd.R_alloc | apply Kd.R_drewN | apply Kd.R_drew)); exact HO_5.out⟩, ⟨by (with_reducible repeat (first | apply Kd.R_alloc | apply Kd.R_drewN | apply Kd.R_drew)); exact HO_6.out⟩, ⟨by (with_reducible repeat (first | apply Kd.S_alloc | apply Kd.S_drewN | apply Kd.S_drew)); exact HO_17.out⟩, ⟨by (with_reducible repeat (first | apply Kd.S_alloc | apply Kd.S_drewN | apply Kd.S_drew)); exact HO_19.out⟩, ⟨by (with_reducible repeat (first | apply Kd.R_alloc | apply Kd.R_drewN | apply Kd.R_drew)); exact HO_223001.out⟩, ⟨by (with_reducible repeat (first | apply Kd.R_alloc | apply Kd.R_drewN | apply Kd.R_drew)); exact HO_230001.out⟩, ⟨by (with_reducible repeat (first | refine blk_drewN ?_ _ | refine blk_drew ?_ | refine blk_alloc ?_ _)); exact BK201.out⟩, ⟨by (with_reducible repeat (first | refine blk_drewN ?_ _ | refine blk_drew ?_ | refine blk_alloc ?_ _)); exact BK222.out⟩, ⟨by (with_reducible repeat (first | refine blk_drewN ?_ _ | refine blk_drew ?_ | refine blk_alloc ?_ _)); exact BK229.out⟩, ⟨by repeat (first | (with_reducible first | exact HB.out | apply below_alloc | apply pw_below_drewN | apply below_drew1 | refine below_set ?_ GE201.out | refine below_set ?_ GE222.out | refine below_set ?_ GE229.out) | exact HB.out)⟩⟩
                  · replace c96 := Bool.eq_false_iff.mpr c96
                    subst c96
                    have H1 : (some false) = some r := by rw [if_neg (show ¬ (false = true) by decide)] at H; exact H
                    clear H
                    have H := H1
                    clear H1
                    obtain rfl := Option.some.inj H
                    obtain ⟨Ao101, co101, eo101⟩ := Kd.S_slice HO_17.out
                    subst eo101
                    try go_wp2
                    have n0_ := Aside0.mk (Kd.R_drew HO_5.out)
                    have n1_ := Aside0.mk (Kd.R_drew HO_6.out)
                    have n2_ := Aside0.mk (Kd.S_drew HO_17.out)
                    have n3_ := Aside0.mk (Kd.S_drew HO_19.out)
                    have n4_ := Aside0.mk (Kd.R_drew HO_223001.out)
                    have n5_ := Aside0.mk (Kd.R_drew HO_230001.out)
                    have n6_ := Aside0.mk (blk_drew BK201.out)
                    have n7_ := Aside0.mk (blk_drew BK222.out)
                    have n8_ := Aside0.mk (blk_drew BK229.out)
                    have n9_ := Aside0.mk (below_drew1 HB.out)
                    clear HO_5
                    clear HO_6
                    clear HO_17
                    clear HO_19
                    clear HO_223001
                    clear HO_230001
                    clear BK201
                    clear BK222
                    clear BK229
                    clear HB
                    have HO_5 := n0_
                    have HO_6 := n1_
                    have HO_17 := n2_
                    have HO_19 := n3_
                    have HO_223001 := n4_
                    have HO_230001 := n5_
                    have BK201 := n6_
                    have BK222 := n7_
                    have BK229 := n8_
                    have HB := n9_
                    clear n0_ n1_ n2_ n3_ n4_ n5_ n6_ n7_ n8_ n9_
                    have p242 : 0 ≤ (x21_2 : Int) := of_decide_eq_true (by first | (with_reducible assumption) | assumption)
                    have q242 : x21_2 < (t230.length : Int) := of_decide_eq_true (by first | (with_reducible assumption) | assumption)
                    obtain ⟨ad242, A242_1, c242_1, e242, hx242_0, hx242_1, hl242_1, hi242_1⟩ := at_T58 (Kd.S_reads' HO_17.out).2.2 x21_2 p242 q242
                    cases e242
                    obtain ⟨ce242, hce242, hMe242, hcc242⟩ := Kd.S_get HO_17.out z58 x21_2 p242 (by first | exact q242 | exact of_decide_eq_true (by first | (with_reducible assumption) | assumption) | (have e_ := (Kd.S_reads' HO_17.out).1; omega))
                    obtain ⟨ve242_1, rfl, ge242_1⟩ := k58_openM hMe242
                    have hv242_1 := hcc242 1 _ rfl
                    rw [add_field _ _ 1 (by omega)] at hv242_1
                    replace hv242_1 := Option.some.inj (hv242_1.symm.trans hx242_1)
                    rw [hv242_1] at ge242_1
                    have HL242_1 := Aside0.mk (show Kd.R (Kd.int .u8) 5 _ _ _ _ ((rd_T58 t230 x21_2).f1) from ge242_1)
                    clear hv242_1 ge242_1
                    clear hcc242 hce242
                    have HR242_1 := Aside0.mk hi242_1
                    have HC242_1 := Aside0.mk hl242_1
                    clear hi242_1 hl242_1
                    replace p242 := eq_true p242
                    replace q242 := eq_true q242
                    obtain ⟨Ao103, co103, eo103⟩ := Kd.S_slice HO_19.out
                    (first | subst eo103 | (injection eo103 with f1_ f2_ f3_; have f4_ := f1_.symm; have f5_ := f3_.symm; clear f1_ f2_ f3_; subst f4_; subst f5_))
                    have p243 : 0 ≤ (x21_2 : Int) := of_decide_eq_true (by first | (with_reducible assumption) | assumption)
                    have q243 : x21_2 < (t234.length : Int) := of_decide_eq_true (by first | (with_reducible assumption) | assumption)
                    obtain ⟨ad243, A243_1, c243_1, e243, hx243_0, hx243_1, hl243_1, hi243_1⟩ := at_T56 (Kd.S_reads' HO_19.out).2.2 x21_2 p243 q243
                    cases e243
                    obtain ⟨ce243, hce243, hMe243, hcc243⟩ := Kd.S_get HO_19.out z56 x21_2 p243 (by first | exact q243 | exact of_decide_eq_true (by first | (with_reducible assumption) | assumption) | (have e_ := (Kd.S_reads' HO_19.out).1; omega))
                    obtain ⟨ve243_1, rfl, ge243_1⟩ := k56_openM hMe243
                    have hv243_1 := hcc243 1 _ rfl
                    rw [add_field _ _ 1 (by omega)] at hv243_1
                    replace hv243_1 := Option.some.inj (hv243_1.symm.trans hx243_1)
                    rw [hv243_1] at ge243_1
                    have HL243_1 := Aside0.mk (show Kd.R (Kd.int .u8) 5 _ _ _ _ ((rd_T56 t234 x21_2).f1) from ge243_1)
                    clear hv243_1 ge243_1
                    clear hcc243 hce243
                    have HR243_1 := Aside0.mk hi243_1
                    have HC243_1 := Aside0.mk hl243_1
                    clear hi243_1 hl243_1
                    replace p243 := eq_true p243
                    replace q243 := eq_true q243
                    refine start_ (n := 10) (S := fun w' => w'.cell? (ad242.add ((x21_2).toNat * 2)) = some (.int .u8 ((rd_T58 t230 x21_2).f0)) ∧ w'.cell? ⟨(ad242.add ((x21_2).toNat * 2)).block, (ad242.add ((x21_2).toNat * 2)).off + 1, none⟩ = some (.slice A242_1 ((rd_T58 t230 x21_2).f1).length c242_1) ∧ w'.cell? (ad243.add ((x21_2).toNat * 2)) = some (.int .u8 ((rd_T56 t234 x21_2).f0)) ∧ w'.cell? ⟨(ad243.add ((x21_2).toNat * 2)).block, (ad243.add ((x21_2).toNat * 2)).off + 1, none⟩ = some (.slice A243_1 ((rd_T56 t234 x21_2).f1).length c243_1)) (ds := []) #[false, false, false, false, false, false, false, false, false, false] (by kernel_rfl) rfl rfl ⟨hx242_0, hx242_1, hx243_0, hx243_1⟩ (fun hHeld => ?_); refine with_tabW transeptlaw03_FramesTells.tab13 transeptlaw03_FramesTells.bits13 (fun HT_ HW_ => ?_)
                    generalize wr.drew = w102 at HO_5 HO_6 HO_17 HO_19 HO_223001 HO_230001 BK201 BK222 BK229 HB HL242_1 HL243_1 HR242_1 HR243_1 hx242_0 hx242_1 hx243_0 hx243_1 hHeld ⊢
                    refine pure_ (i := 0) (N := some 107) (v := ?_) (a' := ?_) #[true, false, false, false, false, false, false, false, false, false] rfl rfl (any_of HT_.out (by kernel_rfl)) (fun _ _ _ h => h) (Or.inl ⟨by rfl, ?_⟩) ?_ ?_
                    rotate_left
                    · intro w'
                      go_simp
                      with_reducible rfl
                    rotate_left
                    · simp only [Act.put, List.setIfInBounds_toArray, List.set_cons_zero, List.set_cons_succ, i64_w, i32_w]
                      rfl
                    refine pure_ (i := 1) (N := some 108) (v := ?_) (a' := ?_) #[true, true, false, false, false, false, false, false, false, false] rfl rfl (any_of HT_.out (by kernel_rfl)) (fun _ _ _ h => h) (Or.inl ⟨by rfl, ?_⟩) ?_ ?_
                    rotate_left
                    · intro w'
                      go_simp
                      with_reducible rfl
                    rotate_left
                    · simp only [Act.put, List.setIfInBounds_toArray, List.set_cons_zero, List.set_cons_succ, i64_w, i32_w]
                      rfl
                    refine pure_ (i := 2) (N := some 109) (v := ?_) (a' := ?_) #[true, true, true, false, false, false, false, false, false, false] rfl rfl (any_of HT_.out (by kernel_rfl)) (fun _ _ _ h => h) (Or.inl ⟨by rfl, ?_⟩) ?_ ?_
                    rotate_left
                    · intro w'
                      go_simp
                      with_reducible rfl
                    rotate_left
                    · simp only [Act.put, List.setIfInBounds_toArray, List.set_cons_zero, List.set_cons_succ, i64_w, i32_w]
                      rfl
                    refine pure_ (i := 4) (N := some 111) (v := ?_) (a' := ?_) #[true, true, true, false, true, false, false, false, false, false] rfl rfl (any_of HT_.out (by kernel_rfl)) (fun _ _ _ h => h) (Or.inl ⟨by rfl, ?_⟩) ?_ ?_
                    rotate_left
                    · intro w'
                      go_simp
                      with_reducible rfl
                    rotate_left
                    · simp only [Act.put, List.setIfInBounds_toArray, List.set_cons_zero, List.set_cons_succ, i64_w, i32_w]
                      rfl
                    refine pure_ (i := 5) (N := some 112) (v := ?_) (a' := ?_) #[true, true, true, false, true, true, false, false, false, false] rfl rfl (any_of HT_.out (by kernel_rfl)) (fun _ _ _ h => h) (Or.inl ⟨by rfl, ?_⟩) ?_ ?_
                    rotate_left
                    · intro w'
                      go_simp
                      with_reducible rfl
                    rotate_left
                    · simp only [Act.put, List.setIfInBounds_toArray, List.set_cons_zero, List.set_cons_succ, i64_w, i32_w]
                      rfl
                    refine pure_ (i := 6) (N := some 113) (v := ?_) (a' := ?_) #[true, true, true, false, true, true, true, false, false, false] rfl rfl (any_of HT_.out (by kernel_rfl)) (fun _ _ _ h => h) (Or.inl ⟨by rfl, ?_⟩) ?_ ?_
                    rotate_left
                    · intro w'
                      go_simp
                      with_reducible rfl
                    rotate_left
                    · simp only [Act.put, List.setIfInBounds_toArray, List.set_cons_zero, List.set_cons_succ, i64_w, i32_w]
                      rfl
                    refine take_ (i := 3) (N := some 110) (v := ?_) (a' := ?_) #[true, true, true, true, true, true, true, false, false, false] rfl rfl (take_ofW HT_.out HW_.out (by kernel_rfl)) (fun _ _ _ h => h) (Or.inl ⟨by rfl, ?_⟩) hHeld ?_ ?_
                    rotate_left
                    · rintro w' ⟨s0, s1, s2, s3⟩
                      go_simp
                      with_reducible rfl
                    rotate_left
                    · simp only [Act.put, List.setIfInBounds_toArray, List.set_cons_zero, List.set_cons_succ, i64_w, i32_w]
                      rfl
                    refine take_ (i := 7) (N := some 114) (v := ?_) (a' := ?_) #[true, true, true, true, true, true, true, true, false, false] rfl rfl (take_ofW HT_.out HW_.out (by kernel_rfl)) (fun _ _ _ h => h) (Or.inl ⟨by rfl, ?_⟩) hHeld ?_ ?_
                    rotate_left
                    · rintro w' ⟨s0, s1, s2, s3⟩
                      go_simp
                      with_reducible rfl
                    rotate_left
                    · simp only [Act.put, List.setIfInBounds_toArray, List.set_cons_zero, List.set_cons_succ, i64_w, i32_w]
                      rfl
                    refine one_ (i := 8) (N := some 115) #[true, true, true, true, true, true, true, true, true, false] rfl rfl (one_of HT_.out (by kernel_rfl)) (by decide) (fun K hK => ?_)
                    refine goes_ Try.func39 (by kernel_rfl) rfl #[.agg #[.int .u8 ((rd_T58 t230 x21_2).f0), .slice A242_1 ((rd_T58 t230 x21_2).f1).length c242_1], .agg #[.int .u8 ((rd_T56 t234 x21_2).f0), .slice A243_1 ((rd_T56 t234 x21_2).f1).length c243_1]] (by rfl) rfl rfl (by (try simp only [List.map_toArray, List.map_cons, List.map_nil]); first | done | rfl | (simp only [List.length_drop, List.length_take]; rfl)) ?_
                    with_reducible refine (transeptlaw03_same.calls k2 ((rd_T58 t230 x21_2).f0) _ _ ((rd_T58 t230 x21_2).f1) ((rd_T56 t234 x21_2).f0) _ _ ((rd_T56 t234 x21_2).f1) false _ ?side1 ?side2 ?side3 ?side4 A95.out).mono ?_
                    (case side1 => repeat (first | exact (by repeat (first | (with_reducible exact HR242_1.out) | (with_reducible refine Kd.C_alloc ?_ _) | (with_reducible refine Kd.C_drewN ?_ _) | (with_reducible refine Kd.C_drew ?_) | exact HR242_1.out)) | (with_reducible refine Kd.C_alloc ?_ _) | (with_reducible refine Kd.C_drewN ?_ _) | (with_reducible refine Kd.C_drew ?_)))
                    (case side2 => exact HC242_1.out)
                    (case side3 => repeat (first | exact (by repeat (first | (with_reducible exact HR243_1.out) | (with_reducible refine Kd.C_alloc ?_ _) | (with_reducible refine Kd.C_drewN ?_ _) | (with_reducible refine Kd.C_drew ?_) | exact HR243_1.out)) | (with_reducible refine Kd.C_alloc ?_ _) | (with_reducible refine Kd.C_drewN ?_ _) | (with_reducible refine Kd.C_drew ?_)))
                    (case side4 => exact HC243_1.out)
                    rintro e w104 ⟨rfl, hb⟩
                    have HS0_ := (hb.cell (World.block_lt_of_cell? _ _ (hHeld.1))).trans (hHeld.1)
                    have HS1_ := (hb.cell (World.block_lt_of_cell? _ _ (hHeld.2.1))).trans (hHeld.2.1)
                    have HS2_ := (hb.cell (World.block_lt_of_cell? _ _ (hHeld.2.2.1))).trans (hHeld.2.2.1)
                    have HS3_ := (hb.cell (World.block_lt_of_cell? _ _ (hHeld.2.2.2))).trans (hHeld.2.2.2)
                    refine ⟨_, rfl, ?_⟩
                    have n0_ := Aside0.mk (Kd.R_below (by (with_reducible repeat (first | apply Kd.R_alloc | apply Kd.R_drewN | apply Kd.R_drew)); exact HO_5.out) hb)
                    have n1_ := Aside0.mk (Kd.R_below (by (with_reducible repeat (first | apply Kd.R_alloc | apply Kd.R_drewN | apply Kd.R_drew)); exact HO_6.out) hb)
                    have n2_ := Aside0.mk (Kd.S_below (by (with_reducible repeat (first | apply Kd.S_alloc | apply Kd.S_drewN | apply Kd.S_drew)); exact HO_17.out) hb)
                    have n3_ := Aside0.mk (Kd.S_below (by (with_reducible repeat (first | apply Kd.S_alloc | apply Kd.S_drewN | apply Kd.S_drew)); exact HO_19.out) hb)
                    have n4_ := Aside0.mk (Kd.R_below (by (with_reducible repeat (first | apply Kd.R_alloc | apply Kd.R_drewN | apply Kd.R_drew)); exact HO_223001.out) hb)
                    have n5_ := Aside0.mk (Kd.R_below (by (with_reducible repeat (first | apply Kd.R_alloc | apply Kd.R_drewN | apply Kd.R_drew)); exact HO_230001.out) hb)
                    have n6_ := Aside0.mk (Kd.R_below (by (with_reducible repeat (first | apply Kd.R_alloc | apply Kd.R_drewN | apply Kd.R_drew)); exact HL242_1.out) hb)
                    have n7_ := Aside0.mk (Kd.R_below (by (with_reducible repeat (first | apply Kd.R_alloc | apply Kd.R_drewN | apply Kd.R_drew)); exact HL243_1.out) hb)
                    have n8_ := Aside0.mk (blk_below (g := gb201) (o := .cells #[.int .u8 a0_0, .slice A0_1 l0_1.length c0_1] 56 (0, 0)) (by (with_reducible repeat (first | refine blk_drewN ?_ _ | refine blk_drew ?_ | refine blk_alloc ?_ _)); exact BK201.out) hb)
                    have n9_ := Aside0.mk (blk_below (g := gb222) (o := .cells #[.int .u8 t216, .slice Ao26 t217.length co26] 58 (0, 0)) (by (with_reducible repeat (first | refine blk_drewN ?_ _ | refine blk_drew ?_ | refine blk_alloc ?_ _)); exact BK222.out) hb)
                    have n10_ := Aside0.mk (blk_below (g := gb229) (o := .cells #[.int .u8 t223, .slice Ao32 t224.length co32] 56 (0, 0)) (by (with_reducible repeat (first | refine blk_drewN ?_ _ | refine blk_drew ?_ | refine blk_alloc ?_ _)); exact BK229.out) hb)
                    have n11_ := Aside0.mk (Kd.C_below (by repeat (first | (with_reducible exact HR242_1.out) | (with_reducible refine Kd.C_alloc ?_ _) | (with_reducible refine Kd.C_drewN ?_ _) | (with_reducible refine Kd.C_drew ?_) | exact HR242_1.out)) hb)
                    have n12_ := Aside0.mk (Kd.C_below (by repeat (first | (with_reducible exact HR243_1.out) | (with_reducible refine Kd.C_alloc ?_ _) | (with_reducible refine Kd.C_drewN ?_ _) | (with_reducible refine Kd.C_drew ?_) | exact HR243_1.out)) hb)
                    have n13_ := Aside0.mk (below_step (by repeat (first | (with_reducible first | exact HB.out | apply below_alloc | apply pw_below_drewN | apply below_drew1 | refine below_set ?_ GE201.out | refine below_set ?_ GE222.out | refine below_set ?_ GE229.out) | exact HB.out)) hb)
                    clear HO_5
                    clear HO_6
                    clear HO_17
                    clear HO_19
                    clear HO_223001
                    clear HO_230001
                    clear HL242_1
                    clear HL243_1
                    clear BK201
                    clear BK222
                    clear BK229
                    clear HR242_1
                    clear HR243_1
                    clear HB
                    have HO_5 := n0_
                    have HO_6 := n1_
                    have HO_17 := n2_
                    have HO_19 := n3_
                    have HO_223001 := n4_
                    have HO_230001 := n5_
                    have HL242_1 := n6_
                    have HL243_1 := n7_
                    have BK201 := n8_
                    have BK222 := n9_
                    have BK229 := n10_
                    have HR242_1 := n11_
                    have HR243_1 := n12_
                    have HB := n13_
                    clear n0_ n1_ n2_ n3_ n4_ n5_ n6_ n7_ n8_ n9_ n10_ n11_ n12_ n13_
                    (try clear hb)
                    (try clear hb2)
                    (try clear hk)
                    (try clear hi)
                    refine hK.out _ _ ⟨HS0_, HS1_, HS2_, HS3_⟩ (fun hHeld => ?_)
                    clear hK K
                    refine norm_ (a' := ?_) ?_ ?_
                    rotate_left
                    · show Act.put _ (some 115) _ = _
                      simp only [Act.put, List.setIfInBounds_toArray, List.set_cons_zero, List.set_cons_succ, i64_w, i32_w]
                      rfl
                    refine pure_ (i := 9) (N := some 116) (v := ?_) (a' := ?_) #[true, true, true, true, true, true, true, true, true, true] rfl rfl (any_of HT_.out (by kernel_rfl)) (fun _ _ _ h => h) (Or.inl ⟨by rfl, ?_⟩) ?_ ?_
                    rotate_left
                    · intro w'
                      go_simp
                      with_reducible rfl
                    rotate_left
                    · simp only [Act.put, List.setIfInBounds_toArray, List.set_cons_zero, List.set_cons_succ, i64_w, i32_w]
                      rfl
                    refine done_ (done_of HT_.out (by kernel_rfl)) ?_
                    try go_wp2
                    go_ret
                    exact ⟨by first | rfl | (simp [errW_none, errW_some] <;> rfl) | (simp [*, errW_none, errW_some] <;> rfl), by repeat (first | (with_reducible first | exact HB.out | apply below_alloc | apply pw_below_drewN | apply below_drew1 | refine below_set ?_ GE201.out | refine below_set ?_ GE222.out | refine below_set ?_ GE229.out) | exact HB.out)⟩
                · rw [if_neg c94] at H
                  exact absurd H (by simp)
              · rw [if_neg c93] at H
                exact absurd H (by simp)
            · rw [if_neg c92] at H
              have c92b0 : decide (x21_2 < (t230.length : Int)) = false := decide_eq_false c92
              clear c92
              replace H := Option.bind_eq_some_iff.mp H
              obtain ⟨t245, A1050, H⟩ := H
              replace H : (if t245 = true then ((transeptplain_SameBytes.f k2 t202 l0_1).bind fun t246 => (if t246 = true then ((transeptlaw03_alive.f).bind fun t247 => (some t247)) else (some false))) else (some false)) = some r := H
              have A105 := Aside0.mk A1050
              clear A1050
              by_cases c106 : t245 = true
              · subst c106
                have H1 : ((transeptplain_SameBytes.f k2 t202 l0_1).bind fun t246 => (if t246 = true then ((transeptlaw03_alive.f).bind fun t247 => (some t247)) else (some false))) = some r := by rw [if_pos rfl] at H; exact H
                clear H
                have H := H1
                clear H1
                replace H := Option.bind_eq_some_iff.mp H
                obtain ⟨t246, A1070, H⟩ := H
                replace H : (if t246 = true then ((transeptlaw03_alive.f).bind fun t247 => (some t247)) else (some false)) = some r := H
                have A107 := Aside0.mk A1070
                clear A1070
                by_cases c108 : t246 = true
                · subst c108
                  have H1 : ((transeptlaw03_alive.f).bind fun t247 => (some t247)) = some r := by rw [if_pos rfl] at H; exact H
                  clear H
                  have H := H1
                  clear H1
                  replace H := Option.bind_eq_some_iff.mp H
                  obtain ⟨t247, A1090, H⟩ := H
                  replace H : (some t247) = some r := H
                  have A109 := Aside0.mk A1090
                  clear A1090
                  obtain rfl := Option.some.inj H
                  obtain ⟨Ao110, co110, eo110⟩ := Kd.S_slice HO_17.out
                  subst eo110
                  go_wp2_with (first | ((with_reducible refine gate_callee (f := 18) rfl ?_); refine goesL_ (some 119) rfl rfl Try.func18 (by kernel_rfl) rfl #[.slice Ao21 t205.length co21, .slice A1 l1.length c1] rfl (by (try simp only [List.map_toArray, List.map_cons, List.map_nil]); first | done | rfl | (simp only [List.length_drop, List.length_take]; rfl)) ?_; (with_reducible refine (transeptplain_SameBytes.calls k2 _ _ t205 _ _ l1 true _ ?side1 ?side2 ?side3 ?side4 A105.out).mono ?_); (case side1 => repeat (first | exact (Kd.R_reads' HO_6.out).2.2 | (with_reducible refine Kd.C_alloc ?_ _) | (with_reducible refine Kd.C_drewN ?_ _) | (with_reducible refine Kd.C_drew ?_))); (case side2 => exact (Kd.R_reads' HO_6.out).2.1); (case side3 => repeat (first | exact (Kd.C_below HR1.out HB.out) | (with_reducible refine Kd.C_alloc ?_ _) | (with_reducible refine Kd.C_drewN ?_ _) | (with_reducible refine Kd.C_drew ?_))); (case side4 => exact HC1.out); rintro e w' ⟨rfl, ⟨nd, rfl⟩⟩; refine ⟨_, rfl, ?_⟩; have hnb111 := NB201_222.out; have hnc111 := NB222_201.out; have hnb112 := NB201_229.out; have hnc112 := NB229_201.out; have hcz113_0 : wr.cell? ⟨gb201, 0, none⟩ = some (.int .u8 a0_0) := (blk_cell BK201.out 0).trans rfl; have hcz113_1 : wr.cell? ⟨gb201, 1, none⟩ = some (.slice A0_1 l0_1.length c0_1) := (blk_cell BK201.out 1).trans rfl; have hfz113_0 := blk_frozen BK201.out 0; have hfz113_1 := blk_frozen BK201.out 1) | (go_at_call 18; (with_reducible refine (transeptplain_SameBytes.calls k2 _ _ t202 _ _ l0_1 true _ ?side1 ?side2 ?side3 ?side4 A107.out).mono ?_); (case side1 => repeat (first | exact (Kd.R_reads' HO_5.out).2.2 | (with_reducible refine Kd.C_alloc ?_ _) | (with_reducible refine Kd.C_drewN ?_ _) | (with_reducible refine Kd.C_drew ?_))); (case side2 => exact (Kd.R_reads' HO_5.out).2.1); (case side3 => repeat (first | exact (Kd.C_below HR0_1.out (by repeat (first | (with_reducible first | exact HB.out | apply below_alloc | apply pw_below_drewN | apply below_drew1 | refine below_set ?_ GE201.out | refine below_set ?_ GE222.out | refine below_set ?_ GE229.out) | exact HB.out))) | (with_reducible refine Kd.C_alloc ?_ _) | (with_reducible refine Kd.C_drewN ?_ _) | (with_reducible refine Kd.C_drew ?_))); (case side4 => exact HC0_1.out); rintro e w' ⟨rfl, ⟨nd, rfl⟩⟩) | (go_at_call 35; (with_reducible refine (transeptlaw03_alive.calls  t247 _ A109.out).mono ?_); rintro e w114 ⟨rfl, hb⟩; have n0_ := Aside0.mk (Kd.R_below (by (with_reducible repeat (first | apply Kd.R_alloc | apply Kd.R_drewN | apply Kd.R_drew)); exact HO_5.out) hb); have n1_ := Aside0.mk (Kd.R_below (by (with_reducible repeat (first | apply Kd.R_alloc | apply Kd.R_drewN | apply Kd.R_drew)); exact HO_6.out) hb); have n2_ := Aside0.mk (Kd.S_below (by (with_reducible repeat (first | apply Kd.S_alloc | apply Kd.S_drewN | apply Kd.S_drew)); exact HO_17.out) hb); have n3_ := Aside0.mk (Kd.S_below (by (with_reducible repeat (first | apply Kd.S_alloc | apply Kd.S_drewN | apply Kd.S_drew)); exact HO_19.out) hb); have n4_ := Aside0.mk (Kd.R_below (by (with_reducible repeat (first | apply Kd.R_alloc | apply Kd.R_drewN | apply Kd.R_drew)); exact HO_223001.out) hb); have n5_ := Aside0.mk (Kd.R_below (by (with_reducible repeat (first | apply Kd.R_alloc | apply Kd.R_drewN | apply Kd.R_drew)); exact HO_230001.out) hb); have n6_ := Aside0.mk (blk_below (g := gb201) (o := .cells #[.int .u8 a0_0, .slice A0_1 l0_1.length c0_1] 56 (0, 0)) (by (with_reducible repeat (first | refine blk_drewN ?_ _ | refine blk_drew ?_ | refine blk_alloc ?_ _)); exact BK201.out) hb); have n7_ := Aside0.mk (blk_below (g := gb222) (o := .cells #[.int .u8 t216, .slice Ao26 t217.length co26] 58 (0, 0)) (by (with_reducible repeat (first | refine blk_drewN ?_ _ | refine blk_drew ?_ | refine blk_alloc ?_ _)); exact BK222.out) hb); have n8_ := Aside0.mk (blk_below (g := gb229) (o := .cells #[.int .u8 t223, .slice Ao32 t224.length co32] 56 (0, 0)) (by (with_reducible repeat (first | refine blk_drewN ?_ _ | refine blk_drew ?_ | refine blk_alloc ?_ _)); exact BK229.out) hb); have n9_ := Aside0.mk (below_step (by repeat (first | (with_reducible first | exact HB.out | apply below_alloc | apply pw_below_drewN | apply below_drew1 | refine below_set ?_ GE201.out | refine below_set ?_ GE222.out | refine below_set ?_ GE229.out) | exact HB.out)) hb); clear HO_5; clear HO_6; clear HO_17; clear HO_19; clear HO_223001; clear HO_230001; clear BK201; clear BK222; clear BK229; clear HB; have HO_5 := n0_; have HO_6 := n1_; have HO_17 := n2_; have HO_19 := n3_; have HO_223001 := n4_; have HO_230001 := n5_; have BK201 := n6_; have BK222 := n7_; have BK229 := n8_; have HB := n9_; clear n0_ n1_ n2_ n3_ n4_ n5_ n6_ n7_ n8_ n9_; (try clear hb); (try clear hb2); (try clear hk); (try clear hi)))
                  go_ret
                  exact ⟨by first | rfl | (simp [errW_none, errW_some] <;> rfl) | (simp [*, errW_none, errW_some] <;> rfl), by repeat (first | (with_reducible first | exact HB.out | apply below_alloc | apply pw_below_drewN | apply below_drew1 | refine below_set ?_ GE201.out | refine below_set ?_ GE222.out | refine below_set ?_ GE229.out) | exact HB.out)⟩
                · replace c108 := Bool.eq_false_iff.mpr c108
                  subst c108
                  have H1 : (some false) = some r := by rw [if_neg (show ¬ (false = true) by decide)] at H; exact H
                  clear H
                  have H := H1
                  clear H1
                  obtain rfl := Option.some.inj H
                  obtain ⟨Ao115, co115, eo115⟩ := Kd.S_slice HO_17.out
                  subst eo115
                  go_wp2_with (first | ((with_reducible refine gate_callee (f := 18) rfl ?_); refine goesL_ (some 119) rfl rfl Try.func18 (by kernel_rfl) rfl #[.slice Ao21 t205.length co21, .slice A1 l1.length c1] rfl (by (try simp only [List.map_toArray, List.map_cons, List.map_nil]); first | done | rfl | (simp only [List.length_drop, List.length_take]; rfl)) ?_; (with_reducible refine (transeptplain_SameBytes.calls k2 _ _ t205 _ _ l1 true _ ?side1 ?side2 ?side3 ?side4 A105.out).mono ?_); (case side1 => repeat (first | exact (Kd.R_reads' HO_6.out).2.2 | (with_reducible refine Kd.C_alloc ?_ _) | (with_reducible refine Kd.C_drewN ?_ _) | (with_reducible refine Kd.C_drew ?_))); (case side2 => exact (Kd.R_reads' HO_6.out).2.1); (case side3 => repeat (first | exact (Kd.C_below HR1.out HB.out) | (with_reducible refine Kd.C_alloc ?_ _) | (with_reducible refine Kd.C_drewN ?_ _) | (with_reducible refine Kd.C_drew ?_))); (case side4 => exact HC1.out); rintro e w' ⟨rfl, ⟨nd, rfl⟩⟩; refine ⟨_, rfl, ?_⟩; have hnb116 := NB201_222.out; have hnc116 := NB222_201.out; have hnb117 := NB201_229.out; have hnc117 := NB229_201.out; have hcz118_0 : wr.cell? ⟨gb201, 0, none⟩ = some (.int .u8 a0_0) := (blk_cell BK201.out 0).trans rfl; have hcz118_1 : wr.cell? ⟨gb201, 1, none⟩ = some (.slice A0_1 l0_1.length c0_1) := (blk_cell BK201.out 1).trans rfl; have hfz118_0 := blk_frozen BK201.out 0; have hfz118_1 := blk_frozen BK201.out 1) | (go_at_call 18; (with_reducible refine (transeptplain_SameBytes.calls k2 _ _ t202 _ _ l0_1 false _ ?side1 ?side2 ?side3 ?side4 A107.out).mono ?_); (case side1 => repeat (first | exact (Kd.R_reads' HO_5.out).2.2 | (with_reducible refine Kd.C_alloc ?_ _) | (with_reducible refine Kd.C_drewN ?_ _) | (with_reducible refine Kd.C_drew ?_))); (case side2 => exact (Kd.R_reads' HO_5.out).2.1); (case side3 => repeat (first | exact (Kd.C_below HR0_1.out (by repeat (first | (with_reducible first | exact HB.out | apply below_alloc | apply pw_below_drewN | apply below_drew1 | refine below_set ?_ GE201.out | refine below_set ?_ GE222.out | refine below_set ?_ GE229.out) | exact HB.out))) | (with_reducible refine Kd.C_alloc ?_ _) | (with_reducible refine Kd.C_drewN ?_ _) | (with_reducible refine Kd.C_drew ?_))); (case side4 => exact HC0_1.out); rintro e w' ⟨rfl, ⟨nd, rfl⟩⟩))
                  go_ret
                  exact ⟨by first | rfl | (simp [errW_none, errW_some] <;> rfl) | (simp [*, errW_none, errW_some] <;> rfl), by repeat (first | (with_reducible first | exact HB.out | apply below_alloc | apply pw_below_drewN | apply below_drew1 | refine below_set ?_ GE201.out | refine below_set ?_ GE222.out | refine below_set ?_ GE229.out) | exact HB.out)⟩
              · replace c106 := Bool.eq_false_iff.mpr c106
                subst c106
                have H1 : (some false) = some r := by rw [if_neg (show ¬ (false = true) by decide)] at H; exact H
                clear H
                have H := H1
                clear H1
                obtain rfl := Option.some.inj H
                obtain ⟨Ao119, co119, eo119⟩ := Kd.S_slice HO_17.out
                subst eo119
                go_wp2_with (first | ((with_reducible refine gate_callee (f := 18) rfl ?_); refine goesL_ (some 119) rfl rfl Try.func18 (by kernel_rfl) rfl #[.slice Ao21 t205.length co21, .slice A1 l1.length c1] rfl (by (try simp only [List.map_toArray, List.map_cons, List.map_nil]); first | done | rfl | (simp only [List.length_drop, List.length_take]; rfl)) ?_; (with_reducible refine (transeptplain_SameBytes.calls k2 _ _ t205 _ _ l1 false _ ?side1 ?side2 ?side3 ?side4 A105.out).mono ?_); (case side1 => repeat (first | exact (Kd.R_reads' HO_6.out).2.2 | (with_reducible refine Kd.C_alloc ?_ _) | (with_reducible refine Kd.C_drewN ?_ _) | (with_reducible refine Kd.C_drew ?_))); (case side2 => exact (Kd.R_reads' HO_6.out).2.1); (case side3 => repeat (first | exact (Kd.C_below HR1.out HB.out) | (with_reducible refine Kd.C_alloc ?_ _) | (with_reducible refine Kd.C_drewN ?_ _) | (with_reducible refine Kd.C_drew ?_))); (case side4 => exact HC1.out); rintro e w' ⟨rfl, ⟨nd, rfl⟩⟩; refine ⟨_, rfl, ?_⟩))
                go_ret
                exact ⟨by first | rfl | (simp [errW_none, errW_some] <;> rfl) | (simp [*, errW_none, errW_some] <;> rfl), by repeat (first | (with_reducible first | exact HB.out | apply below_alloc | apply pw_below_drewN | apply below_drew1 | refine below_set ?_ GE201.out | refine below_set ?_ GE222.out | refine below_set ?_ GE229.out) | exact HB.out)⟩

end Go.Proofs.Ythphelbkfgbejaa.Q
