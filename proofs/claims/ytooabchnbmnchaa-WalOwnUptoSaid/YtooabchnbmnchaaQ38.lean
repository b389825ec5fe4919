-- Laid by this session's own program (wip/tools) out of the translation; Lean checks it. Thinned, shortened and merged for this claim.
import Derived.Test.YtooabchnbmnchaaQ0
import Derived.Test.YtooabchnbmnchaaSq
import Derived.Test.YtooabchnbmnchaaQ26
namespace Go.Proofs.Ytooabchnbmnchaa.Q
open Go.RowKit Go.Proofs.YtooabchnbmnchaaW.PrintWords Go.Proofs.YtooabchnbmnchaaW.PrintLast Go.Proofs.YtooabchnbmnchaaW.PrintMore
attribute [local go_sem] max2_int min2_int max_two min_two max_three min_three max_four min_four binOp_string_leq binOp_string_geq binOp_string_gtr   -- for this text's walks alone
set_option linter.unusedVariables false
set_option linter.unusedSimpArgs false
def transeptref03_Open.f (k : Nat) (l0 : List Int) : Option (Int × List Int × Int × Int) := if (l0.length : Int) < 8 then (some (0, ([] : List Int), 0, 8)) else (if 2 < (l0.length : Int) then (if 3 < (l0.length : Int) then (if 0 < (l0.length : Int) then (if (rd l0 0) = 167 then (if (Go.bits .or .i64 (wrap64 ((wrap64 (rd l0 2)) * 256)) (wrap64 (rd l0 3))) > 4096 then (some (0, ([] : List Int), 0, 5)) else (if (l0.length : Int) < (wrap64 ((Go.bits .or .i64 (wrap64 ((wrap64 (rd l0 2)) * 256)) (wrap64 (rd l0 3))) + 8)) then (some (0, ([] : List Int), 0, 8)) else (if 0 ≤ (wrap64 ((Go.bits .or .i64 (wrap64 ((wrap64 (rd l0 2)) * 256)) (wrap64 (rd l0 3))) + 4)) then (if (wrap64 ((Go.bits .or .i64 (wrap64 ((wrap64 (rd l0 2)) * 256)) (wrap64 (rd l0 3))) + 4)) ≤ (wrap64 ((Go.bits .or .i64 (wrap64 ((wrap64 (rd l0 2)) * 256)) (wrap64 (rd l0 3))) + 8)) then (if (wrap64 ((Go.bits .or .i64 (wrap64 ((wrap64 (rd l0 2)) * 256)) (wrap64 (rd l0 3))) + 8)) ≤ (l0.length : Int) then ((transeptref01_Number.f k ((l0.take ((wrap64 ((Go.bits .or .i64 (wrap64 ((wrap64 (rd l0 2)) * 256)) (wrap64 (rd l0 3))) + 8)) : Int).toNat).drop ((wrap64 ((Go.bits .or .i64 (wrap64 ((wrap64 (rd l0 2)) * 256)) (wrap64 (rd l0 3))) + 4)) : Int).toNat)).bind fun t226 => (if (wrap64 ((Go.bits .or .i64 (wrap64 ((wrap64 (rd l0 2)) * 256)) (wrap64 (rd l0 3))) + 4)) ≤ (l0.length : Int) then ((transeptref02_Sum.f k (l0.take ((wrap64 ((Go.bits .or .i64 (wrap64 ((wrap64 (rd l0 2)) * 256)) (wrap64 (rd l0 3))) + 4)) : Int).toNat)).bind fun t228 => (if t226 = (IntKind.u64.wrap (t228)) then (if 1 < (l0.length : Int) then (if 4 ≤ (wrap64 ((Go.bits .or .i64 (wrap64 ((wrap64 (rd l0 2)) * 256)) (wrap64 (rd l0 3))) + 4)) then ((transeptref03_Copied.f ((l0.take ((wrap64 ((Go.bits .or .i64 (wrap64 ((wrap64 (rd l0 2)) * 256)) (wrap64 (rd l0 3))) + 4)) : Int).toNat).drop 4)).bind fun t231 => (some (rd l0 1, t231, wrap64 ((Go.bits .or .i64 (wrap64 ((wrap64 (rd l0 2)) * 256)) (wrap64 (rd l0 3))) + 8), 0))) else (none)) else (none)) else (some (0, ([] : List Int), 0, 21)))) else (none))) else (none)) else (none)) else (none)))) else (some (0, ([] : List Int), 0, 22))) else (none)) else (none)) else (none))
theorem transeptref03_Open.mono : ∀ a0 k, LeO (transeptref03_Open.f k a0) (transeptref03_Open.f (k + 1) a0) := by
 intro a0 k
 unfold transeptref03_Open.f
 repeat' first
   | (with_reducible exact transeptref01_Number.mono _ _)
   | (with_reducible exact transeptref02_Sum.mono _ _)
   | (with_reducible exact LeO.refl _)
   | (with_reducible exact LeO.none _)
   | (with_reducible refine LeO.ite ?_ ?_)
   | (with_reducible refine LeO.bind ?_ (fun _ => ?_))
   | exact transeptref01_Number.mono _ _
   | exact transeptref02_Sum.mono _ _
   | exact LeO.none _
   | refine LeO.ite ?_ ?_
   | refine LeO.bind ?_ (fun _ => ?_)
def transeptref03_Open.T3 : Bool × List (List Nat × List Nat) := (true, [([], []), ([0], [0]), ([1], [1]), ([2], [2]), ([3], [3]), ([], []), ([5], [5]), ([6], [6]), ([7], [7]), ([4, 8], [4, 8]), ([9, 0, 1, 2, 3, 4, 5, 6, 7, 8, 9], [9])])
def transeptref03_Open.B3 : List Nat := [0, 1, 3, 7, 15, 0, 32, 96, 224, 511, 1023]
theorem transeptref03_Open.tab3 : rtab .any (opsOf Try.f98 3) = transeptref03_Open.T3 := by kernel_rfl
theorem transeptref03_Open.bits3 : waitsOk transeptref03_Open.T3.2 transeptref03_Open.B3 = true := by kernel_rfl
def transeptref03_Open.T10 : Bool × List (List Nat × List Nat) := (true, [([], []), ([], []), ([1], [1]), ([], []), ([3], [3]), ([0, 2, 4], [0, 2, 4]), ([5], [5]), ([], []), ([], []), ([8], [8]), ([7, 9], [7, 9]), ([10, 6], [10]), ([11], [11]), ([6, 12], [6, 12]), ([13, 11], [13])])
def transeptref03_Open.B10 : List Nat := [0, 0, 2, 0, 8, 31, 63, 0, 0, 256, 896, 2047, 4095, 8191, 16383]
theorem transeptref03_Open.tab10 : rtab .any (opsOf Try.f98 10) = transeptref03_Open.T10 := by kernel_rfl
theorem transeptref03_Open.bits10 : waitsOk transeptref03_Open.T10.2 transeptref03_Open.B10 = true := by kernel_rfl
def transeptref03_Open.T12 : Bool × List (List Nat × List Nat) := (true, [([], []), ([0], [0]), ([1], [1]), ([], []), ([], []), ([4], [4]), ([3, 5], [3, 5]), ([6], [6]), ([2, 7], [2, 7]), ([], []), ([9], [9]), ([8, 7, 0, 1, 2, 3, 4, 5, 6, 7, 8], [8]), ([10, 11, 0, 1, 2, 3, 4, 5, 6, 7, 8, 9, 10, 11], [10]), ([12, 0, 1, 2, 3, 4, 5, 6, 7, 8, 9, 10, 11, 12], [])])
def transeptref03_Open.B12 : List Nat := [0, 1, 3, 0, 0, 16, 56, 120, 255, 0, 512, 511, 4095, 8191]
theorem transeptref03_Open.tab12 : rtab .any (opsOf Try.f98 12) = transeptref03_Open.T12 := by kernel_rfl
theorem transeptref03_Open.bits12 : waitsOk transeptref03_Open.T12.2 transeptref03_Open.B12 = true := by kernel_rfl
set_option maxHeartbeats 8000000 in
set_option maxRecDepth 100000 in
theorem transeptref03_Open.calls (k : Nat) (A0 : Option Addr) (c0 : Nat) (l0 : List Int) (r1 : Int) (r2 : List Int) (r3 : Int) (r4 : Int) (w : World) (hr0 : Kd.C (Kd.int .u8) w A0 l0.length l0) (hc0 : l0.length ≤ c0) (h : transeptref03_Open.f k l0 = some (r1, r2, r3, r4)) :
  Calls Try.prog 98 #[.slice A0 l0.length c0] w fun e w' => ∃ v1_ : Value, e = .returned (.tuple #[.agg #[.int .u8 r1, v1_], .int .i64 r3, .int .i64 r4]) ∧ Kd.R (Kd.int .u8) 5 w' w.heap.size (fun _ => True) v1_ r2 ∧ Below w.heap.size w w' := by
 have hu134 := Try.underlying134
 have HR0 := Aside0.mk hr0
 have HC0 := Aside0.mk hc0
 clear hr0 hc0
 have HB := Aside0.mk (Below.refl w.heap.size w)
 have H : (if (l0.length : Int) < 8 then (some (0, ([] : List Int), 0, 8)) else (if 2 < (l0.length : Int) then (if 3 < (l0.length : Int) then (if 0 < (l0.length : Int) then (if (rd l0 0) = 167 then (if (Go.bits .or .i64 (wrap64 ((wrap64 (rd l0 2)) * 256)) (wrap64 (rd l0 3))) > 4096 then (some (0, ([] : List Int), 0, 5)) else (if (l0.length : Int) < (wrap64 ((Go.bits .or .i64 (wrap64 ((wrap64 (rd l0 2)) * 256)) (wrap64 (rd l0 3))) + 8)) then (some (0, ([] : List Int), 0, 8)) else (if 0 ≤ (wrap64 ((Go.bits .or .i64 (wrap64 ((wrap64 (rd l0 2)) * 256)) (wrap64 (rd l0 3))) + 4)) then (if (wrap64 ((Go.bits .or .i64 (wrap64 ((wrap64 (rd l0 2)) * 256)) (wrap64 (rd l0 3))) + 4)) ≤ (wrap64 ((Go.bits .or .i64 (wrap64 ((wrap64 (rd l0 2)) * 256)) (wrap64 (rd l0 3))) + 8)) then (if (wrap64 ((Go.bits .or .i64 (wrap64 ((wrap64 (rd l0 2)) * 256)) (wrap64 (rd l0 3))) + 8)) ≤ (l0.length : Int) then ((transeptref01_Number.f k ((l0.take ((wrap64 ((Go.bits .or .i64 (wrap64 ((wrap64 (rd l0 2)) * 256)) (wrap64 (rd l0 3))) + 8)) : Int).toNat).drop ((wrap64 ((Go.bits .or .i64 (wrap64 ((wrap64 (rd l0 2)) * 256)) (wrap64 (rd l0 3))) + 4)) : Int).toNat)).bind fun t226 => (if (wrap64 ((Go.bits .or .i64 (wrap64 ((wrap64 (rd l0 2)) * 256)) (wrap64 (rd l0 3))) + 4)) ≤ (l0.length : Int) then ((transeptref02_Sum.f k (l0.take ((wrap64 ((Go.bits .or .i64 (wrap64 ((wrap64 (rd l0 2)) * 256)) (wrap64 (rd l0 3))) + 4)) : Int).toNat)).bind fun t228 => (if t226 = (IntKind.u64.wrap (t228)) then (if 1 < (l0.length : Int) then (if 4 ≤ (wrap64 ((Go.bits .or .i64 (wrap64 ((wrap64 (rd l0 2)) * 256)) (wrap64 (rd l0 3))) + 4)) then ((transeptref03_Copied.f ((l0.take ((wrap64 ((Go.bits .or .i64 (wrap64 ((wrap64 (rd l0 2)) * 256)) (wrap64 (rd l0 3))) + 4)) : Int).toNat).drop 4)).bind fun t231 => (some (rd l0 1, t231, wrap64 ((Go.bits .or .i64 (wrap64 ((wrap64 (rd l0 2)) * 256)) (wrap64 (rd l0 3))) + 8), 0))) else (none)) else (none)) else (some (0, ([] : List Int), 0, 21)))) else (none))) else (none)) else (none)) else (none)))) else (some (0, ([] : List Int), 0, 22))) else (none)) else (none)) else (none))) = some (r1, r2, r3, r4) := h
 clear h
 by_cases c2 : (l0.length : Int) < 8
 ·rw [if_pos c2] at H
  have c2b0 : decide ((l0.length : Int) < 8) = true := decide_eq_true c2
  have c2b1 : decide (l0.length < 8) = true := decide_eq_true (by omega)
  clear c2
  simp only [Option.some.injEq, Prod.mk.injEq] at H
  obtain ⟨rfl, rfl, rfl, rfl⟩ := H
  go_enter Try.func98, Try.ntmps98
  go_wp2_with (first | ((with_reducible refine gate_dst (N := 2) rfl ?_); refine bx_ 2 #[.int .u8 0, .slice none 0 0] 134 ?_; intro gb221 hg w3 hbox hb; have BK221 := Aside0.mk (hbox); have GW221 := bG_ HB hg; have GE221 := bG_ HB hg; replace HB := bS_ HB hb; clear hb hbox hg; obtain ⟨hcz4_0, hcz4_1, hfz4_0, hfz4_1⟩ := cz2_ BK221))
  refine bodyPost_ret (results_ctt rfl _ _ gb221 134 #[.int .u8 0, .slice none 0 0] (0, 0) _ rfl (by (with_reducible repeat (first | refine blk_drewN ?_ _ | refine blk_drew ?_ | refine blk_alloc ?_ _)); refine blk_put (cs := #[.int .u8 0, .slice none 0 0]) ?_ 1 _ rfl; (with_reducible repeat (first | refine blk_drewN ?_ _ | refine blk_drew ?_ | refine blk_alloc ?_ _)); refine blk_put (cs := #[.int .u8 0, .slice none 0 0]) ?_ 0 _ rfl; (with_reducible repeat (first | refine blk_drewN ?_ _ | refine blk_drew ?_ | refine blk_alloc ?_ _)); exact BK221.out) Try.underlying134 rfl (by kernel_rfl)) rfl ?_
  exact ⟨_, fin_, nil_, bl_ HB⟩
 ·rw [if_neg c2] at H
  have c2b0 : decide ((l0.length : Int) < 8) = false := decide_eq_false c2
  have c2b1 : decide (l0.length < 8) = false := decide_eq_false (by omega)
  clear c2
  by_cases c5 : 2 < (l0.length : Int)
  ·rw [if_pos c5] at H
   have c5b0 : decide (2 < (l0.length : Int)) = true := decide_eq_true c5
   have c5b1 : decide (2 < l0.length) = true := decide_eq_true (by omega)
   clear c5
   by_cases c6 : 3 < (l0.length : Int)
   ·rw [if_pos c6] at H
    have c6b0 : decide (3 < (l0.length : Int)) = true := decide_eq_true c6
    have c6b1 : decide (3 < l0.length) = true := decide_eq_true (by omega)
    clear c6
    by_cases c7 : 0 < (l0.length : Int)
    ·rw [if_pos c7] at H
     have c7b0 : decide (0 < (l0.length : Int)) = true := decide_eq_true c7
     have c7b1 : decide (0 < l0.length) = true := decide_eq_true (by omega)
     clear c7
     by_cases c8 : (rd l0 0) = 167
     ·rw [if_pos c8] at H
      have c8b0 : ((rd l0 0) == 167) = true := beq_iff_eq.mpr c8
      have c8b1 : ((rd l0 0) != 167) = false := bne_eq_false_iff_eq.mpr c8
      clear c8
      by_cases c9 : (Go.bits .or .i64 (wrap64 ((wrap64 (rd l0 2)) * 256)) (wrap64 (rd l0 3))) > 4096
      ·rw [if_pos c9] at H
       have c9b0 : decide (4096 < (Go.bits .or .i64 (wrap64 ((wrap64 (rd l0 2)) * 256)) (wrap64 (rd l0 3)))) = true := decide_eq_true c9
       clear c9
       simp only [Option.some.injEq, Prod.mk.injEq] at H
       obtain ⟨rfl, rfl, rfl, rfl⟩ := H
       go_enter Try.func98, Try.ntmps98
       try go_wp2_with (first | ((with_reducible refine gate_dst (N := 2) rfl ?_); refine bx_ 2 #[.int .u8 0, .slice none 0 0] 134 ?_; intro gb221 hg w10 hbox hb; have BK221 := Aside0.mk (hbox); have GW221 := bG_ HB hg; have GE221 := bG_ HB hg; replace HB := bS_ HB hb; clear hb hbox hg))
       replace BK221 := Aside0.mk (blk_drew BK221.out)
       replace HB := Aside0.mk (below_drew1 HB.out)
       have p222 : 0 ≤ (2 : Int) := (by omega)
       have q222 : 2 < (l0.length : Int) := of_decide_eq_true (by first | (with_reducible assumption) | assumption)
       obtain ⟨ad222, e222, hx222_0⟩ := Kd.at_int HR0.out 2 p222 q222
       have hw222_0 := hx222_0
       (try rw [show ((2 : Int)).toNat = 2 from rfl] at hw222_0)
       (try rw [show 2 * 1 = 2 from rfl] at hw222_0)
       (try simp only [Nat.reduceMul, Nat.reduceEqDiff, Go.Addr.add, ↓reduceIte] at hw222_0)
       cases e222
       (try simp only [show (2 : Int).toNat = 2 from rfl, Nat.reduceMul, Nat.reduceEqDiff, Go.Addr.add, ↓reduceIte] at hx222_0)
       have qi222 : (2 < l0.length) = True := eq_true (by omega)
       (try rw [show ((2 : Int)).toNat = 2 from rfl] at hx222_0)
       replace hx222_0 := (HB.out.cell (World.block_lt_of_cell? w _ hx222_0)).trans hx222_0
       replace p222 := eq_true p222
       replace q222 := eq_true q222
       have p223 : 0 ≤ (3 : Int) := (by omega)
       have q223 : 3 < (l0.length : Int) := of_decide_eq_true (by first | (with_reducible assumption) | assumption)
       obtain ⟨ad223, e223, hx223_0⟩ := Kd.at_int HR0.out 3 p223 q223
       have hw223_0 := hx223_0
       (try rw [show ((3 : Int)).toNat = 3 from rfl] at hw223_0)
       (try rw [show 3 * 1 = 3 from rfl] at hw223_0)
       (try simp only [Nat.reduceMul, Nat.reduceEqDiff, Go.Addr.add, ↓reduceIte] at hw223_0)
       obtain rfl : ad222 = ad223 := (by injection e223)
       (try simp only [show (3 : Int).toNat = 3 from rfl, Nat.reduceMul, Nat.reduceEqDiff, Go.Addr.add, ↓reduceIte] at hx223_0)
       have qi223 : (3 < l0.length) = True := eq_true (by omega)
       (try rw [show ((3 : Int)).toNat = 3 from rfl] at hx223_0)
       replace hx223_0 := (HB.out.cell (World.block_lt_of_cell? w _ hx223_0)).trans hx223_0
       replace p223 := eq_true p223
       replace q223 := eq_true q223
       refine start_ (n := 11) (S := fun w' => w'.cell? ⟨ad222.block, ad222.off + 2, none⟩ = some (.int .u8 (rd l0 2)) ∧ w'.cell? ⟨ad222.block, ad222.off + 3, none⟩ = some (.int .u8 (rd l0 3))) (ds := []) #[false, false, false, false, false, false, false, false, false, false, false] (by kernel_rfl) rfl rfl ⟨((HB.out.cell (World.block_lt_of_cell? w _ hw222_0)).trans hw222_0), ((HB.out.cell (World.block_lt_of_cell? w _ hw223_0)).trans hw223_0)⟩ (fun hHeld => ?_); refine with_tabW transeptref03_Open.tab3 transeptref03_Open.bits3 (fun HT_ HW_ => ?_)
       generalize w10.drew = w11 at BK221 HB hx222_0 hx223_0 hHeld ⊢
       refine pu_ 0 (some 10) HT_ ?_
       refine pu_ 1 (some 11) HT_ ?_
       refine pu_ 5 (some 15) HT_ ?_
       refine pu_ 6 (some 16) HT_ ?_
       refine tk_ 2 (some 12) HT_ HW_ hHeld ?_
       refine pu_ 3 (some 13) HT_ ?_
       refine pu_ 4 (some 14) HT_ ?_
       refine tk_ 7 (some 17) HT_ HW_ hHeld ?_
       refine pu_ 8 (some 18) HT_ ?_
       refine pu_ 9 (some 19) HT_ ?_
       refine pu_ 10 (some 5) HT_ ?_
       refine done_ (done_of HT_.out (by kernel_rfl)) ?_
       have p224 : 0 ≤ (0 : Int) := (by omega)
       have q224 : 0 < (l0.length : Int) := of_decide_eq_true (by first | (with_reducible assumption) | assumption)
       obtain ⟨ad224, e224, hx224_0⟩ := Kd.at_int HR0.out 0 p224 q224
       obtain rfl : ad222 = ad224 := (by injection e224)
       have qi224 : (0 < l0.length) = True := eq_true (by omega)
       (try rw [show ((0 : Int)).toNat = 0 from rfl] at hx224_0)
       (try rw [Addr.add_zero'] at hx224_0)
       replace hx224_0 := (HB.out.cell (World.block_lt_of_cell? w _ hx224_0)).trans hx224_0
       replace p224 := eq_true p224
       replace q224 := eq_true q224
       obtain ⟨hcz12_0, hcz12_1, hfz12_0, hfz12_1⟩ := cz2_ BK221
       try go_wp2
       refine bodyPost_ret (results_ctt rfl _ _ gb221 134 #[.int .u8 0, .slice none 0 0] (0, 0) _ rfl (by (with_reducible repeat (first | refine blk_drewN ?_ _ | refine blk_drew ?_ | refine blk_alloc ?_ _)); refine blk_put (cs := #[.int .u8 0, .slice none 0 0]) ?_ 1 _ rfl; (with_reducible repeat (first | refine blk_drewN ?_ _ | refine blk_drew ?_ | refine blk_alloc ?_ _)); refine blk_put (cs := #[.int .u8 0, .slice none 0 0]) ?_ 0 _ rfl; (with_reducible repeat (first | refine blk_drewN ?_ _ | refine blk_drew ?_ | refine blk_alloc ?_ _)); exact BK221.out) Try.underlying134 rfl (by kernel_rfl)) rfl ?_
       exact ⟨_, fin_, nil_, bl_ HB⟩
      ·rw [if_neg c9] at H
       have c9b0 : decide (4096 < (Go.bits .or .i64 (wrap64 ((wrap64 (rd l0 2)) * 256)) (wrap64 (rd l0 3)))) = false := decide_eq_false c9
       clear c9
       by_cases c13 : (l0.length : Int) < (wrap64 ((Go.bits .or .i64 (wrap64 ((wrap64 (rd l0 2)) * 256)) (wrap64 (rd l0 3))) + 8))
       ·rw [if_pos c13] at H
        have c13b0 : decide ((l0.length : Int) < (wrap64 ((Go.bits .or .i64 (wrap64 ((wrap64 (rd l0 2)) * 256)) (wrap64 (rd l0 3))) + 8))) = true := decide_eq_true c13
        clear c13
        simp only [Option.some.injEq, Prod.mk.injEq] at H
        obtain ⟨rfl, rfl, rfl, rfl⟩ := H
        go_enter Try.func98, Try.ntmps98
        try go_wp2_with (first | ((with_reducible refine gate_dst (N := 2) rfl ?_); refine bx_ 2 #[.int .u8 0, .slice none 0 0] 134 ?_; intro gb221 hg w14 hbox hb; have BK221 := Aside0.mk (hbox); have GW221 := bG_ HB hg; have GE221 := bG_ HB hg; replace HB := bS_ HB hb; clear hb hbox hg))
        replace BK221 := Aside0.mk (blk_drew BK221.out)
        replace HB := Aside0.mk (below_drew1 HB.out)
        have p222 : 0 ≤ (2 : Int) := (by omega)
        have q222 : 2 < (l0.length : Int) := of_decide_eq_true (by first | (with_reducible assumption) | assumption)
        obtain ⟨ad222, e222, hx222_0⟩ := Kd.at_int HR0.out 2 p222 q222
        have hw222_0 := hx222_0
        (try rw [show ((2 : Int)).toNat = 2 from rfl] at hw222_0)
        (try rw [show 2 * 1 = 2 from rfl] at hw222_0)
        (try simp only [Nat.reduceMul, Nat.reduceEqDiff, Go.Addr.add, ↓reduceIte] at hw222_0)
        cases e222
        (try simp only [show (2 : Int).toNat = 2 from rfl, Nat.reduceMul, Nat.reduceEqDiff, Go.Addr.add, ↓reduceIte] at hx222_0)
        have qi222 : (2 < l0.length) = True := eq_true (by omega)
        (try rw [show ((2 : Int)).toNat = 2 from rfl] at hx222_0)
        replace hx222_0 := (HB.out.cell (World.block_lt_of_cell? w _ hx222_0)).trans hx222_0
        replace p222 := eq_true p222
        replace q222 := eq_true q222
        have p223 : 0 ≤ (3 : Int) := (by omega)
        have q223 : 3 < (l0.length : Int) := of_decide_eq_true (by first | (with_reducible assumption) | assumption)
        obtain ⟨ad223, e223, hx223_0⟩ := Kd.at_int HR0.out 3 p223 q223
        have hw223_0 := hx223_0
        (try rw [show ((3 : Int)).toNat = 3 from rfl] at hw223_0)
        (try rw [show 3 * 1 = 3 from rfl] at hw223_0)
        (try simp only [Nat.reduceMul, Nat.reduceEqDiff, Go.Addr.add, ↓reduceIte] at hw223_0)
        obtain rfl : ad222 = ad223 := (by injection e223)
        (try simp only [show (3 : Int).toNat = 3 from rfl, Nat.reduceMul, Nat.reduceEqDiff, Go.Addr.add, ↓reduceIte] at hx223_0)
        have qi223 : (3 < l0.length) = True := eq_true (by omega)
        (try rw [show ((3 : Int)).toNat = 3 from rfl] at hx223_0)
        replace hx223_0 := (HB.out.cell (World.block_lt_of_cell? w _ hx223_0)).trans hx223_0
        replace p223 := eq_true p223
        replace q223 := eq_true q223
        refine start_ (n := 11) (S := fun w' => w'.cell? ⟨ad222.block, ad222.off + 2, none⟩ = some (.int .u8 (rd l0 2)) ∧ w'.cell? ⟨ad222.block, ad222.off + 3, none⟩ = some (.int .u8 (rd l0 3))) (ds := []) #[false, false, false, false, false, false, false, false, false, false, false] (by kernel_rfl) rfl rfl ⟨((HB.out.cell (World.block_lt_of_cell? w _ hw222_0)).trans hw222_0), ((HB.out.cell (World.block_lt_of_cell? w _ hw223_0)).trans hw223_0)⟩ (fun hHeld => ?_); refine with_tabW transeptref03_Open.tab3 transeptref03_Open.bits3 (fun HT_ HW_ => ?_)
        generalize w14.drew = w15 at BK221 HB hx222_0 hx223_0 hHeld ⊢
        refine pu_ 0 (some 10) HT_ ?_
        refine pu_ 1 (some 11) HT_ ?_
        refine pu_ 5 (some 15) HT_ ?_
        refine pu_ 6 (some 16) HT_ ?_
        refine tk_ 2 (some 12) HT_ HW_ hHeld ?_
        refine pu_ 3 (some 13) HT_ ?_
        refine pu_ 4 (some 14) HT_ ?_
        refine tk_ 7 (some 17) HT_ HW_ hHeld ?_
        refine pu_ 8 (some 18) HT_ ?_
        refine pu_ 9 (some 19) HT_ ?_
        refine pu_ 10 (some 5) HT_ ?_
        refine done_ (done_of HT_.out (by kernel_rfl)) ?_
        have p224 : 0 ≤ (0 : Int) := (by omega)
        have q224 : 0 < (l0.length : Int) := of_decide_eq_true (by first | (with_reducible assumption) | assumption)
        obtain ⟨ad224, e224, hx224_0⟩ := Kd.at_int HR0.out 0 p224 q224
        obtain rfl : ad222 = ad224 := (by injection e224)
        have qi224 : (0 < l0.length) = True := eq_true (by omega)
        (try rw [show ((0 : Int)).toNat = 0 from rfl] at hx224_0)
        (try rw [Addr.add_zero'] at hx224_0)
        replace hx224_0 := (HB.out.cell (World.block_lt_of_cell? w _ hx224_0)).trans hx224_0
        replace p224 := eq_true p224
        replace q224 := eq_true q224
        obtain ⟨hcz16_0, hcz16_1, hfz16_0, hfz16_1⟩ := cz2_ BK221
        try go_wp2
        refine bodyPost_ret (results_ctt rfl _ _ gb221 134 #[.int .u8 0, .slice none 0 0] (0, 0) _ rfl (by (with_reducible repeat (first | refine blk_drewN ?_ _ | refine blk_drew ?_ | refine blk_alloc ?_ _)); refine blk_put (cs := #[.int .u8 0, .slice none 0 0]) ?_ 1 _ rfl; (with_reducible repeat (first | refine blk_drewN ?_ _ | refine blk_drew ?_ | refine blk_alloc ?_ _)); refine blk_put (cs := #[.int .u8 0, .slice none 0 0]) ?_ 0 _ rfl; (with_reducible repeat (first | refine blk_drewN ?_ _ | refine blk_drew ?_ | refine blk_alloc ?_ _)); exact BK221.out) Try.underlying134 rfl (by kernel_rfl)) rfl ?_
        exact ⟨_, fin_, nil_, bl_ HB⟩
       ·rw [if_neg c13] at H
        have c13b0 : decide ((l0.length : Int) < (wrap64 ((Go.bits .or .i64 (wrap64 ((wrap64 (rd l0 2)) * 256)) (wrap64 (rd l0 3))) + 8))) = false := decide_eq_false c13
        clear c13
        obtain ⟨ji17, hji17⟩ : ∃ j_ : Int, (wrap64 ((Go.bits .or .i64 (wrap64 ((wrap64 (rd l0 2)) * 256)) (wrap64 (rd l0 3))) + 4)) = j_ := ⟨_, rfl⟩
        replace H : (if 0 ≤ (ji17) then (if (ji17) ≤ (wrap64 ((Go.bits .or .i64 (wrap64 ((wrap64 (rd l0 2)) * 256)) (wrap64 (rd l0 3))) + 8)) then (if (wrap64 ((Go.bits .or .i64 (wrap64 ((wrap64 (rd l0 2)) * 256)) (wrap64 (rd l0 3))) + 8)) ≤ (l0.length : Int) then ((transeptref01_Number.f k ((l0.take ((wrap64 ((Go.bits .or .i64 (wrap64 ((wrap64 (rd l0 2)) * 256)) (wrap64 (rd l0 3))) + 8)) : Int).toNat).drop ((ji17) : Int).toNat)).bind fun t226 => (if (ji17) ≤ (l0.length : Int) then ((transeptref02_Sum.f k (l0.take ((ji17) : Int).toNat)).bind fun t228 => (if t226 = (IntKind.u64.wrap (t228)) then (if 1 < (l0.length : Int) then (if 4 ≤ (ji17) then ((transeptref03_Copied.f ((l0.take ((ji17) : Int).toNat).drop 4)).bind fun t231 => (some (rd l0 1, t231, wrap64 ((Go.bits .or .i64 (wrap64 ((wrap64 (rd l0 2)) * 256)) (wrap64 (rd l0 3))) + 8), 0))) else (none)) else (none)) else (some (0, ([] : List Int), 0, 21)))) else (none))) else (none)) else (none)) else (none)) = some (r1, r2, r3, r4) := by first | (rw [hji17] at H; exact H) | (simp only [hji17] at H ⊢; exact H)
        have hji17w : (IntKind.i64.wrap ((Go.bits .or .i64 (wrap64 ((wrap64 (rd l0 2)) * 256)) (wrap64 (rd l0 3))) + 4)) = ji17 := (i64_w _).trans hji17
        by_cases c18 : 0 ≤ (ji17)
        ·rw [if_pos c18] at H
         have c18b0 := eq_true c18
         have c18b1 : decide (0 ≤ (ji17)) = true := decide_eq_true c18
         clear c18
         by_cases c19 : (ji17) ≤ (wrap64 ((Go.bits .or .i64 (wrap64 ((wrap64 (rd l0 2)) * 256)) (wrap64 (rd l0 3))) + 8))
         ·rw [if_pos c19] at H
          have c19b0 := eq_true c19
          have c19b1 : decide ((ji17) ≤ (wrap64 ((Go.bits .or .i64 (wrap64 ((wrap64 (rd l0 2)) * 256)) (wrap64 (rd l0 3))) + 8))) = true := decide_eq_true c19
          by_cases c20 : (wrap64 ((Go.bits .or .i64 (wrap64 ((wrap64 (rd l0 2)) * 256)) (wrap64 (rd l0 3))) + 8)) ≤ (l0.length : Int)
          ·rw [if_pos c20] at H
           have c20b0 := eq_true c20
           have c20b1 : decide ((wrap64 ((Go.bits .or .i64 (wrap64 ((wrap64 (rd l0 2)) * 256)) (wrap64 (rd l0 3))) + 8)) ≤ (l0.length : Int)) = true := decide_eq_true c20
           replace H := Option.bind_eq_some_iff.mp H
           obtain ⟨t226, A210, H⟩ := H
           try dsimp only at H
           have A21 := Aside0.mk A210
           clear A210
           have c22b0 := eq_true (of_decide_eq_true (by first | (with_reducible assumption) | assumption) : 0 ≤ (ji17))
           by_cases c23 : (ji17) ≤ (l0.length : Int)
           ·rw [if_pos c23] at H
            have c23b0 := eq_true c23
            have c23b1 : decide ((ji17) ≤ (l0.length : Int)) = true := decide_eq_true c23
            clear c23
            replace H := Option.bind_eq_some_iff.mp H
            obtain ⟨t228, A240, H⟩ := H
            try dsimp only at H
            have A24 := Aside0.mk A240
            clear A240
            by_cases c25 : t226 = (IntKind.u64.wrap (t228))
            ·rw [if_pos c25] at H
             have c25b0 : (t226 == (IntKind.u64.wrap (t228))) = true := beq_iff_eq.mpr c25
             have c25b1 : (t226 != (IntKind.u64.wrap (t228))) = false := bne_eq_false_iff_eq.mpr c25
             clear c25
             by_cases c26 : 1 < (l0.length : Int)
             ·rw [if_pos c26] at H
              have c26b0 : decide (1 < (l0.length : Int)) = true := decide_eq_true c26
              have c26b1 : decide (1 < l0.length) = true := decide_eq_true (by omega)
              clear c26
              by_cases c27 : 4 ≤ (ji17)
              ·rw [if_pos c27] at H
               have c27b0 := eq_true c27
               have c27b1 : decide (4 ≤ (ji17)) = true := decide_eq_true c27
               clear c27
               have c28b0 := eq_true (of_decide_eq_true (by first | (with_reducible assumption) | assumption) : (ji17) ≤ (l0.length : Int))
               replace H := Option.bind_eq_some_iff.mp H
               obtain ⟨t231, A290, H⟩ := H
               try dsimp only at H
               have A29 := Aside0.mk A290
               clear A290
               simp only [Option.some.injEq, Prod.mk.injEq] at H
               obtain ⟨rfl, rfl, rfl, rfl⟩ := H
               go_enter Try.func98, Try.ntmps98
               try go_wp2_with (first | ((with_reducible refine gate_dst (N := 2) rfl ?_); refine bx_ 2 #[.int .u8 0, .slice none 0 0] 134 ?_; intro gb221 hg w30 hbox hb; have BK221 := Aside0.mk (hbox); have GW221 := bG_ HB hg; have GE221 := bG_ HB hg; replace HB := bS_ HB hb; clear hb hbox hg))
               replace BK221 := Aside0.mk (blk_drew BK221.out)
               replace HB := Aside0.mk (below_drew1 HB.out)
               have p222 : 0 ≤ (2 : Int) := (by omega)
               have q222 : 2 < (l0.length : Int) := of_decide_eq_true (by first | (with_reducible assumption) | assumption)
               obtain ⟨ad222, e222, hx222_0⟩ := Kd.at_int HR0.out 2 p222 q222
               have hw222_0 := hx222_0
               (try rw [show ((2 : Int)).toNat = 2 from rfl] at hw222_0)
               (try rw [show 2 * 1 = 2 from rfl] at hw222_0)
               (try simp only [Nat.reduceMul, Nat.reduceEqDiff, Go.Addr.add, ↓reduceIte] at hw222_0)
               cases e222
               (try simp only [show (2 : Int).toNat = 2 from rfl, Nat.reduceMul, Nat.reduceEqDiff, Go.Addr.add, ↓reduceIte] at hx222_0)
               have qi222 : (2 < l0.length) = True := eq_true (by omega)
               (try rw [show ((2 : Int)).toNat = 2 from rfl] at hx222_0)
               replace hx222_0 := (HB.out.cell (World.block_lt_of_cell? w _ hx222_0)).trans hx222_0
               replace p222 := eq_true p222
               replace q222 := eq_true q222
               have p223 : 0 ≤ (3 : Int) := (by omega)
               have q223 : 3 < (l0.length : Int) := of_decide_eq_true (by first | (with_reducible assumption) | assumption)
               obtain ⟨ad223, e223, hx223_0⟩ := Kd.at_int HR0.out 3 p223 q223
               have hw223_0 := hx223_0
               (try rw [show ((3 : Int)).toNat = 3 from rfl] at hw223_0)
               (try rw [show 3 * 1 = 3 from rfl] at hw223_0)
               (try simp only [Nat.reduceMul, Nat.reduceEqDiff, Go.Addr.add, ↓reduceIte] at hw223_0)
               obtain rfl : ad222 = ad223 := (by injection e223)
               (try simp only [show (3 : Int).toNat = 3 from rfl, Nat.reduceMul, Nat.reduceEqDiff, Go.Addr.add, ↓reduceIte] at hx223_0)
               have qi223 : (3 < l0.length) = True := eq_true (by omega)
               (try rw [show ((3 : Int)).toNat = 3 from rfl] at hx223_0)
               replace hx223_0 := (HB.out.cell (World.block_lt_of_cell? w _ hx223_0)).trans hx223_0
               replace p223 := eq_true p223
               replace q223 := eq_true q223
               refine start_ (n := 11) (S := fun w' => w'.cell? ⟨ad222.block, ad222.off + 2, none⟩ = some (.int .u8 (rd l0 2)) ∧ w'.cell? ⟨ad222.block, ad222.off + 3, none⟩ = some (.int .u8 (rd l0 3))) (ds := []) #[false, false, false, false, false, false, false, false, false, false, false] (by kernel_rfl) rfl rfl ⟨((HB.out.cell (World.block_lt_of_cell? w _ hw222_0)).trans hw222_0), ((HB.out.cell (World.block_lt_of_cell? w _ hw223_0)).trans hw223_0)⟩ (fun hHeld => ?_); refine with_tabW transeptref03_Open.tab3 transeptref03_Open.bits3 (fun HT_ HW_ => ?_)
               generalize w30.drew = w31 at BK221 HB hx222_0 hx223_0 hHeld ⊢
               refine pu_ 0 (some 10) HT_ ?_
               refine pu_ 1 (some 11) HT_ ?_
               refine pu_ 5 (some 15) HT_ ?_
               refine pu_ 6 (some 16) HT_ ?_
               refine tk_ 2 (some 12) HT_ HW_ hHeld ?_
               refine pu_ 3 (some 13) HT_ ?_
               refine pu_ 4 (some 14) HT_ ?_
               refine tk_ 7 (some 17) HT_ HW_ hHeld ?_
               refine pu_ 8 (some 18) HT_ ?_
               refine pu_ 9 (some 19) HT_ ?_
               refine pu_ 10 (some 5) HT_ ?_
               refine done_ (done_of HT_.out (by kernel_rfl)) ?_
               have p224 : 0 ≤ (0 : Int) := (by omega)
               have q224 : 0 < (l0.length : Int) := of_decide_eq_true (by first | (with_reducible assumption) | assumption)
               obtain ⟨ad224, e224, hx224_0⟩ := Kd.at_int HR0.out 0 p224 q224
               obtain rfl : ad222 = ad224 := (by injection e224)
               have qi224 : (0 < l0.length) = True := eq_true (by omega)
               (try rw [show ((0 : Int)).toNat = 0 from rfl] at hx224_0)
               (try rw [Addr.add_zero'] at hx224_0)
               replace hx224_0 := (HB.out.cell (World.block_lt_of_cell? w _ hx224_0)).trans hx224_0
               replace p224 := eq_true p224
               replace q224 := eq_true q224
               try go_wp2
               replace BK221 := Aside0.mk (blk_drew BK221.out)
               replace HB := Aside0.mk (below_drew1 HB.out)
               obtain ⟨i033, hi033, _, hsz33, _⟩ := info_parts info5
               obtain ⟨A33, hcut33, hA33, hC33⟩ := print_mid_of (P := Try.prog) (Value.int .u8) 0 26 5 .i64 .i64 Try.underlying26 hi033 hsz33 (some ad222) c0 l0 (ji17) (wrap64 ((Go.bits .or .i64 (wrap64 ((wrap64 (rd l0 2)) * 256)) (wrap64 (rd l0 3))) + 8)) (of_decide_eq_true (by first | (with_reducible assumption) | assumption)) (by first | omega | exact of_decide_eq_true (by first | (with_reducible assumption) | assumption)) (of_decide_eq_true (by first | (with_reducible assumption) | assumption)) HC0.out
               have HR225 := Aside0.mk (Kd.C_of_reads (h1 := fun _ => rfl) (hA33 _ (Kd.reads_of_C HR0.out)))
               have HC225 := Aside0.mk hC33
               clear hA33 hC33 hi033 hsz33
               obtain ⟨i034, hi034, _, hsz34, _⟩ := info_parts info5
               obtain ⟨hcut34, hA34, hC34⟩ := print_take_of (P := Try.prog) (Value.int .u8) 0 26 5 .i64 Try.underlying26 hi034 hsz34 (some ad222) c0 l0 (ji17) (of_decide_eq_true (by first | (with_reducible assumption) | assumption)) (of_decide_eq_true (by first | (with_reducible assumption) | assumption)) HC0.out
               have HR227 := Aside0.mk (Kd.C_of_reads (h1 := fun _ => rfl) (hA34 _ (Kd.reads_of_C HR0.out)))
               have HC227 := Aside0.mk hC34
               clear hA34 hC34 hi034 hsz34
               refine start_ (n := 15) (S := fun w' => True) (ds := []) #[false, false, false, false, false, false, false, false, false, false, false, false, false, false, false] (by kernel_rfl) rfl rfl trivial (fun hHeld => ?_); refine with_tabW transeptref03_Open.tab10 transeptref03_Open.bits10 (fun HT_ HW_ => ?_)
               generalize w31.drew = w32 at BK221 HB HR225 HR227 hHeld ⊢
               refine pu_ 0 (some 38) HT_ ?_
               refine pu_ 1 (some 39) HT_ ?_
               refine pu_ 2 (some 40) HT_ ?_
               refine pu_ 3 (some 41) HT_ ?_
               refine pu_ 4 (some 42) HT_ ?_
               refine pu_ 5 (some 43) HT_ ?_
               refine pu_ 7 (some 45) HT_ ?_
               refine pu_ 8 (some 46) HT_ ?_
               refine pu_ 9 (some 47) HT_ ?_
               refine pu_ 10 (some 48) HT_ ?_
               refine on_ 6 (some 44) HT_ (fun K hK => ?_)
               refine goes_ Try.func104 (by kernel_rfl) rfl #[.slice A33 ((l0.take ((wrap64 ((Go.bits .or .i64 (wrap64 ((wrap64 (rd l0 2)) * 256)) (wrap64 (rd l0 3))) + 8)) : Int).toNat).drop ((ji17) : Int).toNat).length (c0 - (ji17).toNat)] (by rfl) rfl rfl (by (try simp only [List.map_toArray, List.map_cons, List.map_nil]); first | done | (rw [show ((l0.take ((wrap64 ((Go.bits .or .i64 (wrap64 ((wrap64 (rd l0 2)) * 256)) (wrap64 (rd l0 3))) + 8)) : Int).toNat).drop ((ji17) : Int).toNat).length = ((wrap64 ((Go.bits .or .i64 (wrap64 ((wrap64 (rd l0 2)) * 256)) (wrap64 (rd l0 3))) + 8)).toNat - (ji17).toNat) from (by rw [List.length_drop, List.length_take]; have h_ : ((wrap64 ((Go.bits .or .i64 (wrap64 ((wrap64 (rd l0 2)) * 256)) (wrap64 (rd l0 3))) + 8)) : Int) ≤ (l0.length : Int) := of_decide_eq_true (by first | (with_reducible assumption) | assumption); omega)] <;> rfl) | (simp only [hji17]; rfl) | rfl | (simp only [List.length_drop, List.length_take]; rfl)) ?_
               with_reducible refine (transeptref01_Number.calls k _ _ ((l0.take ((wrap64 ((Go.bits .or .i64 (wrap64 ((wrap64 (rd l0 2)) * 256)) (wrap64 (rd l0 3))) + 8)) : Int).toNat).drop ((ji17) : Int).toNat) t226 _ ?_ ?_ A21.out).mono ?_
               exact cB_ HR225 HB
               exact HC225.out
               rintro e w' ⟨rfl, ⟨nd, rfl⟩⟩
               refine ⟨_, rfl, ?_⟩
               refine hK.out _ _ trivial (fun hHeld => ?_)
               clear hK K
               refine norm_ (a' := ?_) ?_ ?_
               rotate_left
               ·show Act.put _ (some 44) _ = _
                simp only [Act.put, List.setIfInBounds_toArray, List.set_cons_zero, List.set_cons_succ, i64_w, i32_w]
                rfl
               refine on_ 11 (some 49) HT_ (fun K hK => ?_)
               refine goes_ Try.func105 (by kernel_rfl) rfl #[.slice (some ad222) (l0.take ((ji17) : Int).toNat).length c0] (by rfl) rfl rfl (by (try simp only [List.map_toArray, List.map_cons, List.map_nil]); first | done | (rw [show (l0.take ((ji17) : Int).toNat).length = (ji17).toNat from (by rw [List.length_take]; have h_ : ((ji17) : Int) ≤ (l0.length : Int) := of_decide_eq_true (by first | (with_reducible assumption) | assumption); omega)] <;> rfl) | (simp only [hji17]; rfl) | rfl | (simp only [List.length_drop, List.length_take]; rfl)) ?_
               with_reducible refine (transeptref02_Sum.calls k _ _ (l0.take ((ji17) : Int).toNat) t228 _ ?side1 ?side2 A24.out).mono ?_
               (case side1 => repeat (first | exact (Kd.C_below HR227.out (bl_ HB)) | (with_reducible refine Kd.C_alloc ?_ _) | (with_reducible refine Kd.C_drewN ?_ _) | (with_reducible refine Kd.C_drew ?_)))
               (case side2 => exact HC227.out)
               rintro e w' ⟨rfl, ⟨nd, rfl⟩⟩
               refine ⟨_, rfl, ?_⟩
               refine hK.out _ _ trivial (fun hHeld => ?_)
               clear hK K
               refine norm_ (a' := ?_) ?_ ?_
               rotate_left
               ·show Act.put _ (some 49) _ = _
                simp only [Act.put, List.setIfInBounds_toArray, List.set_cons_zero, List.set_cons_succ, i64_w, i32_w]
                rfl
               refine pu_ 12 (some 50) HT_ ?_
               refine pu_ 13 (some 51) HT_ ?_
               refine pu_ 14 (some 37) HT_ ?_
               refine done_ (done_of HT_.out (by kernel_rfl)) ?_
               try go_wp2
               (try (rw [drewN_self w32]; generalize hq_ : World.drewN w32 _ = w32; replace BK221 : Aside0 (w32.heap[gb221]? = some (.cells #[.int .u8 0, .slice none 0 0] 134 (0, 0))) := ⟨by rw [← hq_]; exact (bA_ BK221)⟩; replace HB : Aside0 (Below w.heap.size w w32) := ⟨by rw [← hq_]; exact (bl_ HB)⟩; clear hq_))
               (try (rw [drewN_self w32]; generalize hq_ : World.drewN w32 _ = w32; replace BK221 : Aside0 (w32.heap[gb221]? = some (.cells #[.int .u8 0, .slice none 0 0] 134 (0, 0))) := ⟨by rw [← hq_]; exact (bA_ BK221)⟩; replace HB : Aside0 (Below w.heap.size w w32) := ⟨by rw [← hq_]; exact (bl_ HB)⟩; clear hq_))
               replace BK221 := Aside0.mk (blk_drew BK221.out)
               replace HB := Aside0.mk (below_drew1 HB.out)
               have p229 : 0 ≤ (1 : Int) := (by omega)
               have q229 : 1 < (l0.length : Int) := of_decide_eq_true (by first | (with_reducible assumption) | assumption)
               obtain ⟨ad229, e229, hx229_0⟩ := Kd.at_int HR0.out 1 p229 q229
               have hw229_0 := hx229_0
               (try rw [show ((1 : Int)).toNat = 1 from rfl] at hw229_0)
               (try rw [show 1 * 1 = 1 from rfl] at hw229_0)
               (try simp only [Nat.reduceMul, Nat.reduceEqDiff, Go.Addr.add, ↓reduceIte] at hw229_0)
               obtain rfl : ad222 = ad229 := (by injection e229)
               (try simp only [show (1 : Int).toNat = 1 from rfl, Nat.reduceMul, Nat.reduceEqDiff, Go.Addr.add, ↓reduceIte] at hx229_0)
               have qi229 : (1 < l0.length) = True := eq_true (by omega)
               (try rw [show ((1 : Int)).toNat = 1 from rfl] at hx229_0)
               replace hx229_0 := (HB.out.cell (World.block_lt_of_cell? w _ hx229_0)).trans hx229_0
               replace p229 := eq_true p229
               replace q229 := eq_true q229
               obtain ⟨i036, hi036, _, hsz36, _⟩ := info_parts info5
               obtain ⟨A36, hcut36, hA36, hC36⟩ := print_mid_of (P := Try.prog) (Value.int .u8) 0 26 5 .i64 .i64 Try.underlying26 hi036 hsz36 (some ad222) c0 l0 4 (ji17) (by omega) (by first | omega | exact of_decide_eq_true (by first | (with_reducible assumption) | assumption)) (of_decide_eq_true (by first | (with_reducible assumption) | assumption)) HC0.out
               have HR230 := Aside0.mk (Kd.C_of_reads (h1 := fun _ => rfl) (hA36 _ (Kd.reads_of_C HR0.out)))
               have HC230 := Aside0.mk hC36
               clear hA36 hC36 hi036 hsz36
               refine start_ (n := 14) (S := fun w' => w'.cell? ⟨ad222.block, ad222.off + 1, none⟩ = some (.int .u8 (rd l0 1))) (ds := []) #[false, false, false, false, false, false, false, false, false, false, false, false, false, false] (by kernel_rfl) rfl rfl (((HB.out.cell (World.block_lt_of_cell? w _ hw229_0)).trans hw229_0)) (fun hHeld => ?_); refine with_tabW transeptref03_Open.tab12 transeptref03_Open.bits12 (fun HT_ HW_ => ?_)
               generalize w32.drew = w35 at BK221 HB HR230 hx229_0 hHeld ⊢
               refine pu_ 0 (some 53) HT_ ?_
               refine pu_ 1 (some 54) HT_ ?_
               refine pu_ 3 (some 56) HT_ ?_
               refine pu_ 4 (some 57) HT_ ?_
               refine pu_ 5 (some 58) HT_ ?_
               refine pu_ 6 (some 59) HT_ ?_
               refine pu_ 9 (some 62) HT_ ?_
               refine pu_ 10 (some 63) HT_ ?_
               refine take_ (i := 2) (N := some 55) (v := ?_) (a' := ?_) #[true, true, true, true, true, true, true, false, false, true, true, false, false, false] rfl rfl (take_ofW HT_.out HW_.out (by kernel_rfl)) (fun _ _ _ h => h) (Or.inl ⟨by rfl, ?_⟩) hHeld ?_ ?_
               rotate_left
               ·intro w' s0
                go_simp
                with_reducible rfl
               rotate_left
               ·simp only [Act.put, List.setIfInBounds_toArray, List.set_cons_zero, List.set_cons_succ, i64_w, i32_w]
                rfl
               refine on_ 7 (some 60) HT_ (fun K hK => ?_)
               refine goes_ Try.func72 (by kernel_rfl) rfl #[.slice A36 ((l0.take ((ji17) : Int).toNat).drop 4).length (c0 - 4)] (by rfl) rfl rfl (by (try simp only [List.map_toArray, List.map_cons, List.map_nil]); first | done | (rw [show ((l0.take ((ji17) : Int).toNat).drop 4).length = ((ji17).toNat - 4) from (by rw [List.length_drop, List.length_take]; have h_ : ((ji17) : Int) ≤ (l0.length : Int) := of_decide_eq_true (by first | (with_reducible assumption) | assumption); omega)] <;> rfl) | (simp only [hji17]; rfl) | rfl | (simp only [List.length_drop, List.length_take]; rfl)) ?_
               with_reducible refine (transeptref03_Copied.calls _ _ ((l0.take ((ji17) : Int).toNat).drop 4) t231 _ ?_ ?_ A29.out).mono ?_
               exact cB_ HR230 HB
               exact HC230.out
               rintro e w37 ⟨v232, rfl, ho0, hb⟩
               refine ⟨_, rfl, ?_⟩
               have HO233 := Aside0.mk (Kd.R_lower ho0 (bs_ HB))
               replace BK221 := bK_ BK221 hb
               replace HB := bS_ HB hb
               (try clear hb ho0)
               obtain ⟨Ao38, co38, eo38⟩ := Kd.R_slice HO233.out
               (first | subst eo38 | (injection eo38 with f1_ f2_ f3_; have f4_ := f1_.symm; have f5_ := f3_.symm; clear f1_ f2_ f3_; subst f4_; subst f5_))
               refine hK.out _ _ (((HB.out.cell (World.block_lt_of_cell? w _ hw229_0)).trans hw229_0)) (fun hHeld => ?_)
               clear hK K
               refine norm_ (a' := ?_) ?_ ?_
               rotate_left
               ·show Act.put _ (some 60) _ = _
                simp only [Act.put, List.setIfInBounds_toArray, List.set_cons_zero, List.set_cons_succ, i64_w, i32_w]
                rfl
               refine pu_ 8 (some 61) HT_ ?_
               refine on_ 11 none HT_ (fun K hK => ?_)
               have hs39 : w37.cell? ⟨gb221, 0, none⟩ = some (.int .u8 0) := (blk_cell BK221.out 0).trans rfl
               have hfs39 := blk_frozen BK221.out 0
               have hs40 : w37.cell? ⟨gb221, 1, none⟩ = some (.slice none 0 0) := (blk_cell BK221.out 1).trans rfl
               have hfs40 := blk_frozen BK221.out 1
               refine skip_ (w1 := ?_) (by rfl) rfl ?_ ?_
               rotate_left
               ·go_simp
                rfl
               refine hK.out _ _ (((cell_far (p := ⟨gb221, _, none⟩) (by first | exact Nat.ne_of_lt (Nat.lt_of_lt_of_le (by have := World.block_lt_of_cell? _ _ hw229_0; first | rwa [add_block] at this | exact this) GW221.out) | (rw [add_block]; exact Nat.ne_of_lt (Nat.lt_of_lt_of_le (by have := World.block_lt_of_cell? _ _ hw229_0; first | rwa [add_block] at this | exact this) GW221.out)) | (show (Addr.add _ _).block ≠ _; rw [add_block]; exact Nat.ne_of_lt (Nat.lt_of_lt_of_le (by have := World.block_lt_of_cell? _ _ hw229_0; first | rwa [add_block] at this | exact this) GW221.out)) | (dsimp only; exact Nat.ne_of_lt (Nat.lt_of_lt_of_le (by have := World.block_lt_of_cell? _ _ hw229_0; first | rwa [add_block] at this | exact this) GW221.out))) _).trans (((cell_far (p := ⟨gb221, _, none⟩) (by first | exact Nat.ne_of_lt (Nat.lt_of_lt_of_le (by have := World.block_lt_of_cell? _ _ hw229_0; first | rwa [add_block] at this | exact this) GW221.out) | (rw [add_block]; exact Nat.ne_of_lt (Nat.lt_of_lt_of_le (by have := World.block_lt_of_cell? _ _ hw229_0; first | rwa [add_block] at this | exact this) GW221.out)) | (show (Addr.add _ _).block ≠ _; rw [add_block]; exact Nat.ne_of_lt (Nat.lt_of_lt_of_le (by have := World.block_lt_of_cell? _ _ hw229_0; first | rwa [add_block] at this | exact this) GW221.out)) | (dsimp only; exact Nat.ne_of_lt (Nat.lt_of_lt_of_le (by have := World.block_lt_of_cell? _ _ hw229_0; first | rwa [add_block] at this | exact this) GW221.out))) _).trans (hHeld))))) (fun hHeld => ?_)
               clear hK K
               refine pu_ 12 (some 3) HT_ ?_
               refine pu_ 13 (some 4) HT_ ?_
               refine done_ (done_of HT_.out (by kernel_rfl)) ?_
               try go_wp2
               refine bodyPost_ret (results_ctt rfl _ _ gb221 134 #[.int .u8 (rd l0 1), .slice Ao38 t231.length co38] (0, 0) _ rfl (by (with_reducible repeat (first | refine blk_drewN ?_ _ | refine blk_drew ?_ | refine blk_alloc ?_ _)); refine blk_put (cs := #[.int .u8 (rd l0 1), .slice none 0 0]) ?_ 1 _ rfl; (with_reducible repeat (first | refine blk_drewN ?_ _ | refine blk_drew ?_ | refine blk_alloc ?_ _)); refine blk_put (cs := #[.int .u8 0, .slice none 0 0]) ?_ 0 _ rfl; (with_reducible repeat (first | refine blk_drewN ?_ _ | refine blk_drew ?_ | refine blk_alloc ?_ _)); exact BK221.out) Try.underlying134 rfl (by kernel_rfl)) rfl ?_
               exact ⟨_, by first | rfl | (simp [errW_none, errW_some] <;> rfl) | (simp only [← hji17]; first | rfl | (simp [errW_none, errW_some] <;> rfl)) | (simp [*, errW_none, errW_some] <;> rfl), by (with_reducible repeat (first | apply Kd.R_alloc | apply Kd.R_drewN | apply Kd.R_drew)); exact Kd.R_mono (Kd.R_far (p := ⟨gb221, 1, none⟩) (Kd.R_far (p := ⟨gb221, 0, none⟩) (Kd.R_types HO233.out BK221.out (by decide)) (fun _ hk => hk.2) (.int .u8 (rd l0 1))) (fun _ hk => hk.2) (.slice Ao38 t231.length co38)) (fun _ hk => trivial), bl_ HB⟩
              ·rw [if_neg c27] at H
               exact absurd H (by simp)
             ·rw [if_neg c26] at H
              exact absurd H (by simp)
            ·rw [if_neg c25] at H
             have c25b0 : (t226 == (IntKind.u64.wrap (t228))) = false := beq_eq_false_iff_ne.mpr c25
             have c25b1 : (t226 != (IntKind.u64.wrap (t228))) = true := bne_iff_ne.mpr c25
             simp only [Option.some.injEq, Prod.mk.injEq] at H
             obtain ⟨rfl, rfl, rfl, rfl⟩ := H
             go_enter Try.func98, Try.ntmps98
             try go_wp2_with (first | ((with_reducible refine gate_dst (N := 2) rfl ?_); refine bx_ 2 #[.int .u8 0, .slice none 0 0] 134 ?_; intro gb221 hg w41 hbox hb; have BK221 := Aside0.mk (hbox); have GW221 := bG_ HB hg; have GE221 := bG_ HB hg; replace HB := bS_ HB hb; clear hb hbox hg))
             replace BK221 := Aside0.mk (blk_drew BK221.out)
             replace HB := Aside0.mk (below_drew1 HB.out)
             have p222 : 0 ≤ (2 : Int) := (by omega)
             have q222 : 2 < (l0.length : Int) := of_decide_eq_true (by first | (with_reducible assumption) | assumption)
             obtain ⟨ad222, e222, hx222_0⟩ := Kd.at_int HR0.out 2 p222 q222
             have hw222_0 := hx222_0
             (try rw [show ((2 : Int)).toNat = 2 from rfl] at hw222_0)
             (try rw [show 2 * 1 = 2 from rfl] at hw222_0)
             (try simp only [Nat.reduceMul, Nat.reduceEqDiff, Go.Addr.add, ↓reduceIte] at hw222_0)
             cases e222
             (try simp only [show (2 : Int).toNat = 2 from rfl, Nat.reduceMul, Nat.reduceEqDiff, Go.Addr.add, ↓reduceIte] at hx222_0)
             have qi222 : (2 < l0.length) = True := eq_true (by omega)
             (try rw [show ((2 : Int)).toNat = 2 from rfl] at hx222_0)
             replace hx222_0 := (HB.out.cell (World.block_lt_of_cell? w _ hx222_0)).trans hx222_0
             replace p222 := eq_true p222
             replace q222 := eq_true q222
             have p223 : 0 ≤ (3 : Int) := (by omega)
             have q223 : 3 < (l0.length : Int) := of_decide_eq_true (by first | (with_reducible assumption) | assumption)
             obtain ⟨ad223, e223, hx223_0⟩ := Kd.at_int HR0.out 3 p223 q223
             have hw223_0 := hx223_0
             (try rw [show ((3 : Int)).toNat = 3 from rfl] at hw223_0)
             (try rw [show 3 * 1 = 3 from rfl] at hw223_0)
             (try simp only [Nat.reduceMul, Nat.reduceEqDiff, Go.Addr.add, ↓reduceIte] at hw223_0)
             obtain rfl : ad222 = ad223 := (by injection e223)
             (try simp only [show (3 : Int).toNat = 3 from rfl, Nat.reduceMul, Nat.reduceEqDiff, Go.Addr.add, ↓reduceIte] at hx223_0)
             have qi223 : (3 < l0.length) = True := eq_true (by omega)
             (try rw [show ((3 : Int)).toNat = 3 from rfl] at hx223_0)
             replace hx223_0 := (HB.out.cell (World.block_lt_of_cell? w _ hx223_0)).trans hx223_0
             replace p223 := eq_true p223
             replace q223 := eq_true q223
             refine start_ (n := 11) (S := fun w' => w'.cell? ⟨ad222.block, ad222.off + 2, none⟩ = some (.int .u8 (rd l0 2)) ∧ w'.cell? ⟨ad222.block, ad222.off + 3, none⟩ = some (.int .u8 (rd l0 3))) (ds := []) #[false, false, false, false, false, false, false, false, false, false, false] (by kernel_rfl) rfl rfl ⟨((HB.out.cell (World.block_lt_of_cell? w _ hw222_0)).trans hw222_0), ((HB.out.cell (World.block_lt_of_cell? w _ hw223_0)).trans hw223_0)⟩ (fun hHeld => ?_); refine with_tabW transeptref03_Open.tab3 transeptref03_Open.bits3 (fun HT_ HW_ => ?_)
             generalize w41.drew = w42 at BK221 HB hx222_0 hx223_0 hHeld ⊢
             refine pu_ 0 (some 10) HT_ ?_
             refine pu_ 1 (some 11) HT_ ?_
             refine pu_ 5 (some 15) HT_ ?_
             refine pu_ 6 (some 16) HT_ ?_
             refine tk_ 2 (some 12) HT_ HW_ hHeld ?_
             refine pu_ 3 (some 13) HT_ ?_
             refine pu_ 4 (some 14) HT_ ?_
             refine tk_ 7 (some 17) HT_ HW_ hHeld ?_
             refine pu_ 8 (some 18) HT_ ?_
             refine pu_ 9 (some 19) HT_ ?_
             refine pu_ 10 (some 5) HT_ ?_
             refine done_ (done_of HT_.out (by kernel_rfl)) ?_
             have p224 : 0 ≤ (0 : Int) := (by omega)
             have q224 : 0 < (l0.length : Int) := of_decide_eq_true (by first | (with_reducible assumption) | assumption)
             obtain ⟨ad224, e224, hx224_0⟩ := Kd.at_int HR0.out 0 p224 q224
             obtain rfl : ad222 = ad224 := (by injection e224)
             have qi224 : (0 < l0.length) = True := eq_true (by omega)
             (try rw [show ((0 : Int)).toNat = 0 from rfl] at hx224_0)
             (try rw [Addr.add_zero'] at hx224_0)
             replace hx224_0 := (HB.out.cell (World.block_lt_of_cell? w _ hx224_0)).trans hx224_0
             replace p224 := eq_true p224
             replace q224 := eq_true q224
             try go_wp2
             replace BK221 := Aside0.mk (blk_drew BK221.out)
             replace HB := Aside0.mk (below_drew1 HB.out)
             obtain ⟨i044, hi044, _, hsz44, _⟩ := info_parts info5
             obtain ⟨A44, hcut44, hA44, hC44⟩ := print_mid_of (P := Try.prog) (Value.int .u8) 0 26 5 .i64 .i64 Try.underlying26 hi044 hsz44 (some ad222) c0 l0 (ji17) (wrap64 ((Go.bits .or .i64 (wrap64 ((wrap64 (rd l0 2)) * 256)) (wrap64 (rd l0 3))) + 8)) (of_decide_eq_true (by first | (with_reducible assumption) | assumption)) (by first | omega | exact of_decide_eq_true (by first | (with_reducible assumption) | assumption)) (of_decide_eq_true (by first | (with_reducible assumption) | assumption)) HC0.out
             have HR225 := Aside0.mk (Kd.C_of_reads (h1 := fun _ => rfl) (hA44 _ (Kd.reads_of_C HR0.out)))
             have HC225 := Aside0.mk hC44
             clear hA44 hC44 hi044 hsz44
             obtain ⟨i045, hi045, _, hsz45, _⟩ := info_parts info5
             obtain ⟨hcut45, hA45, hC45⟩ := print_take_of (P := Try.prog) (Value.int .u8) 0 26 5 .i64 Try.underlying26 hi045 hsz45 (some ad222) c0 l0 (ji17) (of_decide_eq_true (by first | (with_reducible assumption) | assumption)) (of_decide_eq_true (by first | (with_reducible assumption) | assumption)) HC0.out
             have HR227 := Aside0.mk (Kd.C_of_reads (h1 := fun _ => rfl) (hA45 _ (Kd.reads_of_C HR0.out)))
             have HC227 := Aside0.mk hC45
             clear hA45 hC45 hi045 hsz45
             refine start_ (n := 15) (S := fun w' => True) (ds := []) #[false, false, false, false, false, false, false, false, false, false, false, false, false, false, false] (by kernel_rfl) rfl rfl trivial (fun hHeld => ?_); refine with_tabW transeptref03_Open.tab10 transeptref03_Open.bits10 (fun HT_ HW_ => ?_)
             generalize w42.drew = w43 at BK221 HB HR225 HR227 hHeld ⊢
             refine pu_ 0 (some 38) HT_ ?_
             refine pu_ 1 (some 39) HT_ ?_
             refine pu_ 2 (some 40) HT_ ?_
             refine pu_ 3 (some 41) HT_ ?_
             refine pu_ 4 (some 42) HT_ ?_
             refine pu_ 5 (some 43) HT_ ?_
             refine pu_ 7 (some 45) HT_ ?_
             refine pu_ 8 (some 46) HT_ ?_
             refine pu_ 9 (some 47) HT_ ?_
             refine pu_ 10 (some 48) HT_ ?_
             refine on_ 6 (some 44) HT_ (fun K hK => ?_)
             refine goes_ Try.func104 (by kernel_rfl) rfl #[.slice A44 ((l0.take ((wrap64 ((Go.bits .or .i64 (wrap64 ((wrap64 (rd l0 2)) * 256)) (wrap64 (rd l0 3))) + 8)) : Int).toNat).drop ((ji17) : Int).toNat).length (c0 - (ji17).toNat)] (by rfl) rfl rfl (by (try simp only [List.map_toArray, List.map_cons, List.map_nil]); first | done | (rw [show ((l0.take ((wrap64 ((Go.bits .or .i64 (wrap64 ((wrap64 (rd l0 2)) * 256)) (wrap64 (rd l0 3))) + 8)) : Int).toNat).drop ((ji17) : Int).toNat).length = ((wrap64 ((Go.bits .or .i64 (wrap64 ((wrap64 (rd l0 2)) * 256)) (wrap64 (rd l0 3))) + 8)).toNat - (ji17).toNat) from (by rw [List.length_drop, List.length_take]; have h_ : ((wrap64 ((Go.bits .or .i64 (wrap64 ((wrap64 (rd l0 2)) * 256)) (wrap64 (rd l0 3))) + 8)) : Int) ≤ (l0.length : Int) := of_decide_eq_true (by first | (with_reducible assumption) | assumption); omega)] <;> rfl) | (simp only [hji17]; rfl) | rfl | (simp only [List.length_drop, List.length_take]; rfl)) ?_
             with_reducible refine (transeptref01_Number.calls k _ _ ((l0.take ((wrap64 ((Go.bits .or .i64 (wrap64 ((wrap64 (rd l0 2)) * 256)) (wrap64 (rd l0 3))) + 8)) : Int).toNat).drop ((ji17) : Int).toNat) t226 _ ?_ ?_ A21.out).mono ?_
             exact cB_ HR225 HB
             exact HC225.out
             rintro e w' ⟨rfl, ⟨nd, rfl⟩⟩
             refine ⟨_, rfl, ?_⟩
             refine hK.out _ _ trivial (fun hHeld => ?_)
             clear hK K
             refine norm_ (a' := ?_) ?_ ?_
             rotate_left
             ·show Act.put _ (some 44) _ = _
              simp only [Act.put, List.setIfInBounds_toArray, List.set_cons_zero, List.set_cons_succ, i64_w, i32_w]
              rfl
             refine on_ 11 (some 49) HT_ (fun K hK => ?_)
             refine goes_ Try.func105 (by kernel_rfl) rfl #[.slice (some ad222) (l0.take ((ji17) : Int).toNat).length c0] (by rfl) rfl rfl (by (try simp only [List.map_toArray, List.map_cons, List.map_nil]); first | done | (rw [show (l0.take ((ji17) : Int).toNat).length = (ji17).toNat from (by rw [List.length_take]; have h_ : ((ji17) : Int) ≤ (l0.length : Int) := of_decide_eq_true (by first | (with_reducible assumption) | assumption); omega)] <;> rfl) | (simp only [hji17]; rfl) | rfl | (simp only [List.length_drop, List.length_take]; rfl)) ?_
             with_reducible refine (transeptref02_Sum.calls k _ _ (l0.take ((ji17) : Int).toNat) t228 _ ?side1 ?side2 A24.out).mono ?_
             (case side1 => repeat (first | exact (Kd.C_below HR227.out (bl_ HB)) | (with_reducible refine Kd.C_alloc ?_ _) | (with_reducible refine Kd.C_drewN ?_ _) | (with_reducible refine Kd.C_drew ?_)))
             (case side2 => exact HC227.out)
             rintro e w' ⟨rfl, ⟨nd, rfl⟩⟩
             refine ⟨_, rfl, ?_⟩
             refine hK.out _ _ trivial (fun hHeld => ?_)
             clear hK K
             refine norm_ (a' := ?_) ?_ ?_
             rotate_left
             ·show Act.put _ (some 49) _ = _
              simp only [Act.put, List.setIfInBounds_toArray, List.set_cons_zero, List.set_cons_succ, i64_w, i32_w]
              rfl
             refine pu_ 12 (some 50) HT_ ?_
             refine pu_ 13 (some 51) HT_ ?_
             refine pu_ 14 (some 37) HT_ ?_
             refine done_ (done_of HT_.out (by kernel_rfl)) ?_
             obtain ⟨hcz46_0, hcz46_1, hfz46_0, hfz46_1⟩ := cz2_ BK221
             try go_wp2
             refine bodyPost_ret (results_ctt rfl _ _ gb221 134 #[.int .u8 0, .slice none 0 0] (0, 0) _ rfl (by (with_reducible repeat (first | refine blk_drewN ?_ _ | refine blk_drew ?_ | refine blk_alloc ?_ _)); refine blk_put (cs := #[.int .u8 0, .slice none 0 0]) ?_ 1 _ rfl; (with_reducible repeat (first | refine blk_drewN ?_ _ | refine blk_drew ?_ | refine blk_alloc ?_ _)); refine blk_put (cs := #[.int .u8 0, .slice none 0 0]) ?_ 0 _ rfl; (with_reducible repeat (first | refine blk_drewN ?_ _ | refine blk_drew ?_ | refine blk_alloc ?_ _)); exact BK221.out) Try.underlying134 rfl (by kernel_rfl)) rfl ?_
             exact ⟨_, by first | rfl | (simp [errW_none, errW_some] <;> rfl) | (simp only [← hji17]; first | rfl | (simp [errW_none, errW_some] <;> rfl)) | (simp [*, errW_none, errW_some] <;> rfl), nil_, bl_ HB⟩
           ·rw [if_neg c23] at H
            exact absurd H (by simp)
          ·rw [if_neg c20] at H
           exact absurd H (by simp)
         ·rw [if_neg c19] at H
          exact absurd H (by simp)
        ·rw [if_neg c18] at H
         exact absurd H (by simp)
     ·rw [if_neg c8] at H
      have c8b0 : ((rd l0 0) == 167) = false := beq_eq_false_iff_ne.mpr c8
      have c8b1 : ((rd l0 0) != 167) = true := bne_iff_ne.mpr c8
      simp only [Option.some.injEq, Prod.mk.injEq] at H
      obtain ⟨rfl, rfl, rfl, rfl⟩ := H
      go_enter Try.func98, Try.ntmps98
      try go_wp2_with (first | ((with_reducible refine gate_dst (N := 2) rfl ?_); refine bx_ 2 #[.int .u8 0, .slice none 0 0] 134 ?_; intro gb221 hg w47 hbox hb; have BK221 := Aside0.mk (hbox); have GW221 := bG_ HB hg; have GE221 := bG_ HB hg; replace HB := bS_ HB hb; clear hb hbox hg))
      replace BK221 := Aside0.mk (blk_drew BK221.out)
      replace HB := Aside0.mk (below_drew1 HB.out)
      have p222 : 0 ≤ (2 : Int) := (by omega)
      have q222 : 2 < (l0.length : Int) := of_decide_eq_true (by first | (with_reducible assumption) | assumption)
      obtain ⟨ad222, e222, hx222_0⟩ := Kd.at_int HR0.out 2 p222 q222
      have hw222_0 := hx222_0
      (try rw [show ((2 : Int)).toNat = 2 from rfl] at hw222_0)
      (try rw [show 2 * 1 = 2 from rfl] at hw222_0)
      (try simp only [Nat.reduceMul, Nat.reduceEqDiff, Go.Addr.add, ↓reduceIte] at hw222_0)
      cases e222
      (try simp only [show (2 : Int).toNat = 2 from rfl, Nat.reduceMul, Nat.reduceEqDiff, Go.Addr.add, ↓reduceIte] at hx222_0)
      have qi222 : (2 < l0.length) = True := eq_true (by omega)
      (try rw [show ((2 : Int)).toNat = 2 from rfl] at hx222_0)
      replace hx222_0 := (HB.out.cell (World.block_lt_of_cell? w _ hx222_0)).trans hx222_0
      replace p222 := eq_true p222
      replace q222 := eq_true q222
      have p223 : 0 ≤ (3 : Int) := (by omega)
      have q223 : 3 < (l0.length : Int) := of_decide_eq_true (by first | (with_reducible assumption) | assumption)
      obtain ⟨ad223, e223, hx223_0⟩ := Kd.at_int HR0.out 3 p223 q223
      have hw223_0 := hx223_0
      (try rw [show ((3 : Int)).toNat = 3 from rfl] at hw223_0)
      (try rw [show 3 * 1 = 3 from rfl] at hw223_0)
      (try simp only [Nat.reduceMul, Nat.reduceEqDiff, Go.Addr.add, ↓reduceIte] at hw223_0)
      obtain rfl : ad222 = ad223 := (by injection e223)
      (try simp only [show (3 : Int).toNat = 3 from rfl, Nat.reduceMul, Nat.reduceEqDiff, Go.Addr.add, ↓reduceIte] at hx223_0)
      have qi223 : (3 < l0.length) = True := eq_true (by omega)
      (try rw [show ((3 : Int)).toNat = 3 from rfl] at hx223_0)
      replace hx223_0 := (HB.out.cell (World.block_lt_of_cell? w _ hx223_0)).trans hx223_0
      replace p223 := eq_true p223
      replace q223 := eq_true q223
      refine start_ (n := 11) (S := fun w' => w'.cell? ⟨ad222.block, ad222.off + 2, none⟩ = some (.int .u8 (rd l0 2)) ∧ w'.cell? ⟨ad222.block, ad222.off + 3, none⟩ = some (.int .u8 (rd l0 3))) (ds := []) #[false, false, false, false, false, false, false, false, false, false, false] (by kernel_rfl) rfl rfl ⟨((HB.out.cell (World.block_lt_of_cell? w _ hw222_0)).trans hw222_0), ((HB.out.cell (World.block_lt_of_cell? w _ hw223_0)).trans hw223_0)⟩ (fun hHeld => ?_); refine with_tabW transeptref03_Open.tab3 transeptref03_Open.bits3 (fun HT_ HW_ => ?_)
      generalize w47.drew = w48 at BK221 HB hx222_0 hx223_0 hHeld ⊢
      refine pu_ 0 (some 10) HT_ ?_
      refine pu_ 1 (some 11) HT_ ?_
      refine pu_ 5 (some 15) HT_ ?_
      refine pu_ 6 (some 16) HT_ ?_
      refine tk_ 2 (some 12) HT_ HW_ hHeld ?_
      refine pu_ 3 (some 13) HT_ ?_
      refine pu_ 4 (some 14) HT_ ?_
      refine tk_ 7 (some 17) HT_ HW_ hHeld ?_
      refine pu_ 8 (some 18) HT_ ?_
      refine pu_ 9 (some 19) HT_ ?_
      refine pu_ 10 (some 5) HT_ ?_
      refine done_ (done_of HT_.out (by kernel_rfl)) ?_
      have p224 : 0 ≤ (0 : Int) := (by omega)
      have q224 : 0 < (l0.length : Int) := of_decide_eq_true (by first | (with_reducible assumption) | assumption)
      obtain ⟨ad224, e224, hx224_0⟩ := Kd.at_int HR0.out 0 p224 q224
      obtain rfl : ad222 = ad224 := (by injection e224)
      have qi224 : (0 < l0.length) = True := eq_true (by omega)
      (try rw [show ((0 : Int)).toNat = 0 from rfl] at hx224_0)
      (try rw [Addr.add_zero'] at hx224_0)
      replace hx224_0 := (HB.out.cell (World.block_lt_of_cell? w _ hx224_0)).trans hx224_0
      replace p224 := eq_true p224
      replace q224 := eq_true q224
      obtain ⟨hcz49_0, hcz49_1, hfz49_0, hfz49_1⟩ := cz2_ BK221
      try go_wp2
      refine bodyPost_ret (results_ctt rfl _ _ gb221 134 #[.int .u8 0, .slice none 0 0] (0, 0) _ rfl (by (with_reducible repeat (first | refine blk_drewN ?_ _ | refine blk_drew ?_ | refine blk_alloc ?_ _)); refine blk_put (cs := #[.int .u8 0, .slice none 0 0]) ?_ 1 _ rfl; (with_reducible repeat (first | refine blk_drewN ?_ _ | refine blk_drew ?_ | refine blk_alloc ?_ _)); refine blk_put (cs := #[.int .u8 0, .slice none 0 0]) ?_ 0 _ rfl; (with_reducible repeat (first | refine blk_drewN ?_ _ | refine blk_drew ?_ | refine blk_alloc ?_ _)); exact BK221.out) Try.underlying134 rfl (by kernel_rfl)) rfl ?_
      exact ⟨_, fin_, nil_, bl_ HB⟩
    ·rw [if_neg c7] at H
     exact absurd H (by simp)
   ·rw [if_neg c6] at H
    exact absurd H (by simp)
  ·rw [if_neg c5] at H
   exact absurd H (by simp)
end Go.Proofs.Ytooabchnbmnchaa.Q
namespace Go.Proofs.Ytooabchnbmnchaa.Q
open Go.RowKit Go.Proofs.YtooabchnbmnchaaW.PrintWords Go.Proofs.YtooabchnbmnchaaW.PrintLast Go.Proofs.YtooabchnbmnchaaW.PrintMore
attribute [local go_sem] max2_int min2_int max_two min_two max_three min_three max_four min_four binOp_string_leq binOp_string_geq binOp_string_gtr   -- for this text's walks alone
set_option linter.unusedVariables false
set_option linter.unusedSimpArgs false
def transeptref03_Scan.l0 : Nat → List Int → List (S134) → Int → Option ((List (S134)) × Int)
 | 0, _, _, _ => none
 | k + 1, x0, x4, x5 => if 0 ≤ x5 then (if x5 ≤ (x0.length : Int) then ((transeptref03_Open.f k (x0.drop (x5 : Int).toNat)).bind fun bt235 => (if bt235.2.2.2 = 0 then (if x4.length < 4398046511104 then (transeptref03_Scan.l0 k x0 (x4 ++ [(⟨bt235.1, bt235.2.1⟩ : S134)]) (wrap64 (x5 + bt235.2.2.1))) else (none)) else (some (x4, x5)))) else (none)) else (none)
def transeptref03_Scan.f (k : Nat) (l0 : List Int) : Option ((List (S134)) × Int) := transeptref03_Scan.l0 k l0 ([] : List (S134)) 0
theorem transeptref03_Scan.mono_l : ∀ k, (∀ y0 y1 y2, LeO (transeptref03_Scan.l0 k y0 y1 y2) (transeptref03_Scan.l0 (k + 1) y0 y1 y2))
 | 0 => fun _ _ _ r h => by simp [transeptref03_Scan.l0] at h
 | k + 1 => by
  have ih0 := transeptref03_Scan.mono_l k
  ·intro y0 y1 y2
   unfold transeptref03_Scan.l0
   repeat' first
   | (with_reducible exact ih0 _ _ _)
   | (with_reducible exact transeptref03_Open.mono _ _)
   | (with_reducible exact LeO.refl _)
   | (with_reducible exact LeO.none _)
   | (with_reducible refine LeO.ite ?_ ?_)
   | (with_reducible refine LeO.bind ?_ (fun _ => ?_))
   | exact ih0 _ _ _
   | exact transeptref03_Open.mono _ _
   | exact LeO.none _
   | refine LeO.ite ?_ ?_
   | refine LeO.bind ?_ (fun _ => ?_)
theorem transeptref03_Scan.mono : ∀ a0 k, LeO (transeptref03_Scan.f k a0) (transeptref03_Scan.f (k + 1) a0) := by
 intro a0 k
 have ih0 := transeptref03_Scan.mono_l k
 unfold transeptref03_Scan.f
 repeat' first
   | (with_reducible exact ih0 _ _ _)
   | (with_reducible exact transeptref03_Open.mono _ _)
   | (with_reducible exact LeO.refl _)
   | (with_reducible exact LeO.none _)
   | (with_reducible refine LeO.ite ?_ ?_)
   | (with_reducible refine LeO.bind ?_ (fun _ => ?_))
   | exact ih0 _ _ _
   | exact transeptref03_Open.mono _ _
   | exact LeO.none _
   | refine LeO.ite ?_ ?_
   | refine LeO.bind ?_ (fun _ => ?_)
set_option maxHeartbeats 8000000 in
set_option maxRecDepth 100000 in
theorem transeptref03_Scan.calls (k : Nat) (A0 : Option Addr) (c0 : Nat) (l0 : List Int) (r1 : List (S134)) (r2 : Int) (w : World) (hr0 : Kd.C (Kd.int .u8) w A0 l0.length l0) (hc0 : l0.length ≤ c0) (h : transeptref03_Scan.f k l0 = some (r1, r2)) :
  Calls Try.prog 91 #[.slice A0 l0.length c0] w fun e w' => ∃ v0_ : Value, e = .returned (.tuple #[v0_, .int .i64 r2]) ∧ Kd.S k134 134 w' w.heap.size (fun _ => True) v0_ r1 ∧ Below w.heap.size w w' := by
 have hu134 := Try.underlying134
 have HR0 := Aside0.mk hr0
 have HC0 := Aside0.mk hc0
 clear hr0 hc0
 have HB := Aside0.mk (Below.refl w.heap.size w)
 have H : (transeptref03_Scan.l0 k l0 ([] : List (S134)) 0) = some (r1, r2) := h
 clear h
 have H' := Aside0.mk H
 clear H
 go_enter Try.func91, Try.ntmps91
 go_wp2
 go_loopg [4, 5] k (fun kq v4 v5 w' => ∃ (x4_1 : List (S134)) (x5_1 : Int), v5 = .int .i64 x5_1 ∧ Aside0 (transeptref03_Scan.l0 kq l0 x4_1 x5_1 = some (r1, r2)) ∧ Aside0 (kq ≤ k) ∧ Aside0 (Kd.S k134 134 w' w.heap.size (fun _ => True) v4 x4_1) ∧ Aside0 (Below w.heap.size w w'))
 case atStart => exact ⟨(([] : List (S134))), (0), (by first | rfl | (simp; done) | (simp [*]; done)), H', ⟨Nat.le_refl _⟩, ⟨nil_⟩, ⟨bl_ HB⟩⟩
 case round =>
  clear H'
  obtain ⟨x4_1, x5_1, rfl, HA, HK1, HO_4, HB⟩ := hrel
  cases gk with
  | zero => exact absurd HA.out (by simp [transeptref03_Scan.l0])
  | succ k1 =>
   have H := HA.out
   clear HA
   simp only [transeptref03_Scan.l0] at H
   by_cases c2 : 0 ≤ x5_1
   ·rw [if_pos c2] at H
    have c2b0 := eq_true c2
    have c2b1 : decide (0 ≤ x5_1) = true := decide_eq_true c2
    clear c2
    by_cases c3 : x5_1 ≤ (l0.length : Int)
    ·rw [if_pos c3] at H
     have c3b0 := eq_true c3
     have c3b1 : decide (x5_1 ≤ (l0.length : Int)) = true := decide_eq_true c3
     clear c3
     replace H := Option.bind_eq_some_iff.mp H
     obtain ⟨⟨t235, t236, t239, t240⟩, A40, H⟩ := H
     try dsimp only at H
     have A4 := Aside0.mk A40
     clear A40
     by_cases c5 : t240 = 0
     ·rw [if_pos c5] at H
      have c5b0 : (t240 == 0) = true := beq_iff_eq.mpr c5
      have c5b1 : (t240 != 0) = false := bne_eq_false_iff_eq.mpr c5
      clear c5
      by_cases c6 : x4_1.length < 4398046511104
      ·rw [if_pos c6] at H
       have LMc6 := Aside0.mk c6
       clear c6
       obtain ⟨y242, hy242⟩ : ∃ y_ : List (S134), y_ = (x4_1 ++ [(⟨t235, t236⟩ : S134)]) := ⟨_, rfl⟩
       replace H : (transeptref03_Scan.l0 k1 l0 y242 (wrap64 (x5_1 + t239))) = some (r1, r2) := by first | (rw [hy242]; with_reducible exact H) | (have H2_ := (Option.bind_some _ _).symm.trans H; rw [hy242]; with_reducible exact H2_) | (have H2_ := (Option.bind_some _ _).symm.trans H; with_reducible exact H2_) | with_reducible exact H | (rw [hy242]; exact H) | exact H
       have Ny242 := Aside0.mk hy242
       clear hy242
       have H' := Aside0.mk H
       clear H
       obtain ⟨i07, hi07, _, hsz7, _⟩ := info_parts info5
       obtain ⟨A7, hcut7, hA7, hC7⟩ := print_drop_of (P := Try.prog) (Value.int .u8) 0 26 5 .i64 Try.underlying26 hi07 hsz7 A0 c0 l0 x5_1 (of_decide_eq_true (by first | (with_reducible assumption) | assumption)) (of_decide_eq_true (by first | (with_reducible assumption) | assumption)) HC0.out
       have HR234 := Aside0.mk (Kd.C_of_reads (h1 := fun _ => rfl) (hA7 _ (Kd.reads_of_C HR0.out)))
       have HC234 := Aside0.mk hC7
       clear hA7 hC7 hi07 hsz7
       go_wp2_with (first | ((with_reducible refine gate_callee (f := 98) rfl ?_); refine goesL_ (some 13) rfl rfl Try.func98 (by kernel_rfl) rfl #[.slice A7 (l0.drop (x5_1 : Int).toNat).length (c0 - x5_1.toNat)] rfl (by (try simp only [List.map_toArray, List.map_cons, List.map_nil]); first | done | (rw [show (l0.drop (x5_1 : Int).toNat).length = (l0.length - x5_1.toNat) from List.length_drop] <;> rfl) | rfl | (simp only [List.length_drop, List.length_take]; rfl)) ?_; (with_reducible refine (transeptref03_Open.calls k1 _ _ (l0.drop (x5_1 : Int).toNat) t235 t236 t239 t240 _ ?_ ?_ A4.out).mono ?_); exact cB_ HR234 HB; exact HC234.out; rintro e w8 ⟨v237, rfl, ho0, hb⟩; refine ⟨_, rfl, ?_⟩; replace HO_4 := Aside0.mk (Kd.S_elder' (sA_ HO_4) (Kd.R_base ho0) hb); have HO238 := Aside0.mk (Kd.R_lower ho0 (bs_ HB)); replace HB := bS_ HB hb; (try clear hb ho0)) | ((with_reducible refine gate_dst (N := 6) rfl ?_); refine bx_ 6 #[.int .u8 0, .slice none 0 0] 134 ?_; intro gb241 hg w9 hbox hb; replace HO_4 := Aside0.mk (Kd.S_below (Kd.S_elderB (sA_ HO_4) gb241 (Nat.le_of_eq hg.symm)) hb); replace HO238 := rB_ HO238 hb; have BK241 := Aside0.mk (hbox); have GW241 := bG_ HB hg; have GE241 := bG_ HB hg; replace HB := bS_ HB hb; clear hb hbox hg; obtain ⟨hcz10_0, hcz10_1, hfz10_0, hfz10_1⟩ := cz2_ BK241; obtain ⟨Ao11, co11, eo11⟩ := Kd.R_slice HO238.out; subst eo11) | ((with_reducible refine gate_store (t := 134) (p := 6) rfl ?_); refine store_event (t := 134) (p := 6) (v := ?vo_w12) (w1 := ((w9.setCell ⟨gb241, 0, none⟩ (.int .u8 t235)).setCell ⟨gb241, 1, none⟩ (.slice Ao11 t236.length co11))) ?hg ?ho ?hn ?hr ?_; (case ho => rfl); (case hg => rfl); (case hn => rfl); (case hr => first | (go_simp; done) | (go_simp; rfl)); intro w12 hw; replace HO_4 : Aside0 (Kd.S k134 134 w12 w.heap.size (fun k_ => some k_ ≠ (.slice Ao11 t236.length co11 : Value).ownBlock ∧ k_ ≠ gb241) u4 x4_1) := ⟨(by rw [hw]; exact (Kd.S_mono (sD_ HO_4 (fun k_ hk => hk.2)) (fun _ hk => ⟨hk.1.1.2, hk.1.2⟩)))⟩; replace HO238 : Aside0 (Kd.R (Kd.int .u8) 5 w12 w.heap.size (fun _ => True) (.slice Ao11 t236.length co11) t236) := ⟨(by rw [hw]; exact (by (with_reducible repeat (first | apply Kd.R_alloc | apply Kd.R_drewN | apply Kd.R_drew)); exact Kd.R_mono (Kd.R_far (p := ⟨gb241, 1, none⟩) (Kd.R_far (p := ⟨gb241, 0, none⟩) (Kd.R_types HO238.out BK241.out (by decide)) (fun _ hk => hk.2) (.int .u8 t235)) (fun _ hk => hk.2) (.slice Ao11 t236.length co11)) (fun _ hk => trivial)))⟩; replace BK241 : Aside0 (w12.heap[gb241]? = some (.cells #[.int .u8 t235, .slice Ao11 t236.length co11] 134 (0, 0))) := ⟨(by rw [hw]; exact (by (with_reducible repeat (first | refine blk_drewN ?_ _ | refine blk_drew ?_ | refine blk_alloc ?_ _)); refine blk_put (cs := #[.int .u8 t235, .slice none 0 0]) ?_ 1 _ rfl; (with_reducible repeat (first | refine blk_drewN ?_ _ | refine blk_drew ?_ | refine blk_alloc ?_ _)); refine blk_put (cs := #[.int .u8 0, .slice none 0 0]) ?_ 0 _ rfl; (with_reducible repeat (first | refine blk_drewN ?_ _ | refine blk_drew ?_ | refine blk_alloc ?_ _)); exact BK241.out))⟩; replace HB : Aside0 (Below w.heap.size w w12) := ⟨(by rw [hw]; exact (bl_ HB))⟩; clear hw; obtain ⟨hcz13_0, hcz13_1, hfz13_0, hfz13_1⟩ := cz2_ BK241) | ((with_reducible refine gate_builtin (b := .append) (xs := #[.tmp 21, .tmp 23]) rfl ?_); at_builtin; refine Kd.S_append k134 (w0 := w) w.heap.size rfl (.tmp 21) (.tmp 23) 131 134 (.agg #[(.int .u8 0), (.slice none 0 0)]) 32 rfl Try.underlying131 info134 rfl (by decide) (by omega) u4 x4_1 (⟨t235, t236⟩ : S134) [.int .u8 t235, .slice Ao11 t236.length co11] (fun k_ => k_ ≠ gb241) (fun k_ => some k_ = (.slice Ao11 t236.length co11 : Value).ownBlock) rfl rfl ?aP (fun k_ hk_ => ((Kd.R_mono (ok' := fun k_ => ((fun k_ => k_ ≠ gb241)) k_ ∧ some k_ ≠ (u4 : Value).ownBlock) (Kd.R_types (Kd.R_apart' (HO238.out) (Kd.S_typed HO_4.out) (by decide)) BK241.out (by decide)) (fun k_ hk => ⟨hk.2, hk.1.2⟩))).1 k_ hk_.symm) ?aF ?aO ?aB ?aS ?aL ?_; (case aP => exact k134_mkM _ _ _ (⟨t235, t236⟩ : S134) (Kd.R_mono (Kd.R_tight rfl (Kd.R_mono (ok' := fun k_ => ((fun k_ => k_ ≠ gb241)) k_ ∧ some k_ ≠ (u4 : Value).ownBlock) (Kd.R_types (Kd.R_apart' (HO238.out) (Kd.S_typed HO_4.out) (by decide)) BK241.out (by decide)) (fun k_ hk => ⟨hk.2, hk.1.2⟩))) (fun _ h_ => h_))); (case aB => exact (bl_ HB)); (case aF => exact (fun k_ hk => Kd.freshB (bA_ BK241) k_ hk)); (case aO => exact (by (with_reducible repeat (first | apply Kd.S_alloc | apply Kd.S_drewN | apply Kd.S_drew)); exact Kd.S_mono HO_4.out (fun k_ hk => ⟨hk.2, fun e_ => hk.1 e_⟩))); (case aS => exact (bs_ HB)); (case aL => have := LMc6.out; omega); intro v243 w14 ho hb hg hat; rw [← Ny242.out] at ho; replace BK241 := Aside0.mk (blk_grown (bA_ BK241) hg (Kd.S_away HO_4.out (fun _ hk => hk.2))); replace HB := Aside0.mk (hb); have HO244 := Aside0.mk (ho); clear HO_4 HO238; clear ho hb hg hat))
       go_roundg k1
       case measure => have := HK1.out; omega
       case rel => exact ⟨(y242), (wrap64 (x5_1 + t239)), (by first | rfl | (simp; done) | (simp [*]; done)), H', ⟨by have := HK1.out; omega⟩, ⟨by (with_reducible repeat (first | apply Kd.S_alloc | apply Kd.S_drewN | apply Kd.S_drew)); exact Kd.S_mono HO244.out (fun _ hk => trivial)⟩, ⟨bl_ HB⟩⟩
      ·rw [if_neg c6] at H
       exact absurd H (by simp)
     ·rw [if_neg c5] at H
      have c5b0 : (t240 == 0) = false := beq_eq_false_iff_ne.mpr c5
      have c5b1 : (t240 != 0) = true := bne_iff_ne.mpr c5
      simp only [Option.some.injEq, Prod.mk.injEq] at H
      obtain ⟨rfl, rfl⟩ := H
      obtain ⟨i015, hi015, _, hsz15, _⟩ := info_parts info5
      obtain ⟨A15, hcut15, hA15, hC15⟩ := print_drop_of (P := Try.prog) (Value.int .u8) 0 26 5 .i64 Try.underlying26 hi015 hsz15 A0 c0 l0 x5_1 (of_decide_eq_true (by first | (with_reducible assumption) | assumption)) (of_decide_eq_true (by first | (with_reducible assumption) | assumption)) HC0.out
      have HR234 := Aside0.mk (Kd.C_of_reads (h1 := fun _ => rfl) (hA15 _ (Kd.reads_of_C HR0.out)))
      have HC234 := Aside0.mk hC15
      clear hA15 hC15 hi015 hsz15
      go_wp2_with (first | ((with_reducible refine gate_callee (f := 98) rfl ?_); refine goesL_ (some 13) rfl rfl Try.func98 (by kernel_rfl) rfl #[.slice A15 (l0.drop (x5_1 : Int).toNat).length (c0 - x5_1.toNat)] rfl (by (try simp only [List.map_toArray, List.map_cons, List.map_nil]); first | done | (rw [show (l0.drop (x5_1 : Int).toNat).length = (l0.length - x5_1.toNat) from List.length_drop] <;> rfl) | rfl | (simp only [List.length_drop, List.length_take]; rfl)) ?_; (with_reducible refine (transeptref03_Open.calls k1 _ _ (l0.drop (x5_1 : Int).toNat) t235 t236 t239 t240 _ ?_ ?_ A4.out).mono ?_); exact cB_ HR234 HB; exact HC234.out; rintro e w16 ⟨v237, rfl, ho0, hb⟩; refine ⟨_, rfl, ?_⟩; replace HO_4 := Aside0.mk (Kd.S_elder' (sA_ HO_4) (Kd.R_base ho0) hb); have HO238 := Aside0.mk (Kd.R_lower ho0 (bs_ HB)); replace HB := bS_ HB hb; (try clear hb ho0)) | ((with_reducible refine gate_dst (N := 6) rfl ?_); refine bx_ 6 #[.int .u8 0, .slice none 0 0] 134 ?_; intro gb241 hg w17 hbox hb; replace HO_4 := Aside0.mk (Kd.S_below (Kd.S_elderB (sA_ HO_4) gb241 (Nat.le_of_eq hg.symm)) hb); replace HO238 := rB_ HO238 hb; have BK241 := Aside0.mk (hbox); have GW241 := bG_ HB hg; have GE241 := bG_ HB hg; replace HB := bS_ HB hb; clear hb hbox hg; obtain ⟨hcz18_0, hcz18_1, hfz18_0, hfz18_1⟩ := cz2_ BK241; obtain ⟨Ao19, co19, eo19⟩ := Kd.R_slice HO238.out; subst eo19))
      go_ret2
      exact ⟨_, fin_, Kd.S_mono (sD_ HO_4 (fun k_ hk => hk.2)) (fun _ hk => trivial), bl_ HB⟩
    ·rw [if_neg c3] at H
     exact absurd H (by simp)
   ·rw [if_neg c2] at H
    exact absurd H (by simp)
end Go.Proofs.Ytooabchnbmnchaa.Q
namespace Go.Proofs.Ytooabchnbmnchaa.Q
open Go.RowKit Go.Proofs.YtooabchnbmnchaaW.PrintWords Go.Proofs.YtooabchnbmnchaaW.PrintLast Go.Proofs.YtooabchnbmnchaaW.PrintMore
attribute [local go_sem] max2_int min2_int max_two min_two max_three min_three max_four min_four binOp_string_leq binOp_string_geq binOp_string_gtr   -- for this text's walks alone
set_option linter.unusedVariables false
set_option linter.unusedSimpArgs false
def transeptref08_Whole.l0 : Nat → List (S134) → List (List Int) → Int → Int → Option ((List (List Int)) × Int)
 | 0, _, _, _, _ => none
 | k + 1, x4, x6, x7, x8 => if x8 < (x4.length : Int) then (if 0 ≤ x8 then (if ((rd_T134 x4 x8).f0) = 1 then (if x6.length < 5864062014805 then (transeptref08_Whole.l0 k x4 (x6 ++ [(rd_T134 x4 x8).f1]) (wrap64 ((wrap64 (x7 + (((rd_T134 x4 x8).f1).length : Int))) + 8)) (wrap64 (x8 + 1))) else (none)) else (some (x6, x7))) else (none)) else (some (x6, x7))
def transeptref08_Whole.f (k : Nat) (l0 : List Int) : Option ((List (List Int)) × Int) := (transeptref03_Scan.f k l0).bind fun bt245 => (transeptref08_Whole.l0 k bt245.1 ([] : List (List Int)) 0 0)
theorem transeptref08_Whole.mono_l : ∀ k, (∀ y0 y1 y2 y3, LeO (transeptref08_Whole.l0 k y0 y1 y2 y3) (transeptref08_Whole.l0 (k + 1) y0 y1 y2 y3))
 | 0 => fun _ _ _ _ r h => by simp [transeptref08_Whole.l0] at h
 | k + 1 => by
  have ih0 := transeptref08_Whole.mono_l k
  ·intro y0 y1 y2 y3
   unfold transeptref08_Whole.l0
   repeat' first
   | (with_reducible exact ih0 _ _ _ _)
   | (with_reducible exact transeptref03_Scan.mono _ _)
   | (with_reducible exact LeO.refl _)
   | (with_reducible exact LeO.none _)
   | (with_reducible refine LeO.ite ?_ ?_)
   | (with_reducible refine LeO.bind ?_ (fun _ => ?_))
   | exact ih0 _ _ _ _
   | exact transeptref03_Scan.mono _ _
   | exact LeO.none _
   | refine LeO.ite ?_ ?_
   | refine LeO.bind ?_ (fun _ => ?_)
theorem transeptref08_Whole.mono : ∀ a0 k, LeO (transeptref08_Whole.f k a0) (transeptref08_Whole.f (k + 1) a0) := by
 intro a0 k
 have ih0 := transeptref08_Whole.mono_l k
 unfold transeptref08_Whole.f
 repeat' first
   | (with_reducible exact ih0 _ _ _ _)
   | (with_reducible exact transeptref03_Scan.mono _ _)
   | (with_reducible exact LeO.refl _)
   | (with_reducible exact LeO.none _)
   | (with_reducible refine LeO.ite ?_ ?_)
   | (with_reducible refine LeO.bind ?_ (fun _ => ?_))
   | exact ih0 _ _ _ _
   | exact transeptref03_Scan.mono _ _
   | exact LeO.none _
   | refine LeO.ite ?_ ?_
   | refine LeO.bind ?_ (fun _ => ?_)
set_option maxHeartbeats 8000000 in
set_option maxRecDepth 100000 in
theorem transeptref08_Whole.calls (k : Nat) (A0 : Option Addr) (c0 : Nat) (l0 : List Int) (r1 : List (List Int)) (r2 : Int) (w : World) (hr0 : Kd.C (Kd.int .u8) w A0 l0.length l0) (hc0 : l0.length ≤ c0) (h : transeptref08_Whole.f k l0 = some (r1, r2)) :
  Calls Try.prog 77 #[.slice A0 l0.length c0] w fun e w' => ∃ v0_ : Value, e = .returned (.tuple #[v0_, .int .i64 r2]) ∧ Kd.N (Kd.slice 5 (Kd.int .u8)) 26 w' w.heap.size (fun k_ => (w.heap.size ≤ k_)) v0_ r1 ∧ Below w.heap.size w w' := by
 have HR0 := Aside0.mk hr0
 have HC0 := Aside0.mk hc0
 clear hr0 hc0
 have HB := Aside0.mk (Below.refl w.heap.size w)
 have H : ((transeptref03_Scan.f k l0).bind fun bt245 => (transeptref08_Whole.l0 k bt245.1 ([] : List (List Int)) 0 0)) = some (r1, r2) := h
 clear h
 replace H := Option.bind_eq_some_iff.mp H
 obtain ⟨⟨t245, t246⟩, A20, H⟩ := H
 replace H : (transeptref08_Whole.l0 k t245 ([] : List (List Int)) 0 0) = some (r1, r2) := H
 have A2 := Aside0.mk A20
 clear A20
 have H' := Aside0.mk H
 clear H
 go_enter Try.func77, Try.ntmps77
 go_wp2_with (first | ((with_reducible refine gate_callee (f := 91) rfl ?_); refine gL_ (some 11) Try.func91 #[.slice A0 l0.length c0] ?_; (with_reducible refine (transeptref03_Scan.calls k _ _ l0 t245 t246 _ ?_ ?_ A2.out).mono ?_); exact cO_ HR0.out; exact HC0.out; rintro e w3 ⟨v247, rfl, ho0, hb⟩; refine ⟨_, rfl, ?_⟩; have HO248 := Aside0.mk (Kd.N_lower (Kd.N_mono (ok' := fun k_ => (w.heap.size ≤ k_)) (Kd.S_N (Kd.S_bound ho0)) (fun k_ hk_ => (Nat.le_trans (bs_ HB) hk_.2.1))) (bs_ HB)); replace HB := bS_ HB hb; (try clear hb ho0)))
 go_loopg [6, 7, 8] k (fun kq v6 v7 v8 w' => ∃ (x6_1 : List (List Int)) (x7_1 : Int) (x8_1 : Int), v7 = .int .i64 x7_1 ∧ v8 = .int .i64 x8_1 ∧ Aside0 (transeptref08_Whole.l0 kq t245 x6_1 x7_1 x8_1 = some (r1, r2)) ∧ Aside0 (kq ≤ k) ∧ Aside0 (Kd.N k134 134 w' w.heap.size (fun k_ => (w.heap.size ≤ k_) ∧ some k_ ≠ (v6 : Value).ownBlock) v247 t245) ∧ Aside0 (Kd.N (Kd.slice 5 (Kd.int .u8)) 26 w' w.heap.size (fun k_ => (w.heap.size ≤ k_) ∧ some k_ ≠ (v247 : Value).ownBlock) v6 x6_1) ∧ Aside0 (Below w.heap.size w w'))
 case atStart => exact ⟨(([] : List (List Int))), (0), (0), (by first | rfl | (simp; done) | (simp [*]; done)), (by first | rfl | (simp; done) | (simp [*]; done)), H', ⟨Nat.le_refl _⟩, ⟨by (with_reducible repeat (first | apply Kd.N_alloc | apply Kd.N_drewN | apply Kd.N_drew)); exact Kd.N_mono HO248.out (fun _ hk => ⟨hk, (by simp [Value.ownBlock])⟩)⟩, ⟨nil_⟩, ⟨bl_ HB⟩⟩
 case round =>
  clear H'
  try clear p2
  obtain ⟨x6_1, x7_1, x8_1, rfl, rfl, HA, HK1, HO_4, HO_6, HB⟩ := hrel
  cases gk with
  | zero => exact absurd HA.out (by simp [transeptref08_Whole.l0])
  | succ k1 =>
   have H := HA.out
   clear HA
   simp only [transeptref08_Whole.l0] at H
   by_cases c4 : x8_1 < (t245.length : Int)
   ·rw [if_pos c4] at H
    have c4b0 : decide (x8_1 < (t245.length : Int)) = true := decide_eq_true c4
    clear c4
    by_cases c5 : 0 ≤ x8_1
    ·rw [if_pos c5] at H
     have c5b0 : decide (0 ≤ x8_1) = true := decide_eq_true c5
     clear c5
     by_cases c6 : ((rd_T134 t245 x8_1).f0) = 1
     ·rw [if_pos c6] at H
      have c6b0 : (((rd_T134 t245 x8_1).f0) == 1) = true := beq_iff_eq.mpr c6
      have c6b1 : (((rd_T134 t245 x8_1).f0) != 1) = false := bne_eq_false_iff_eq.mpr c6
      clear c6
      by_cases c7 : x6_1.length < 5864062014805
      ·rw [if_pos c7] at H
       have LMc7 := Aside0.mk c7
       clear c7
       obtain ⟨y251, hy251⟩ : ∃ y_ : List (List Int), y_ = (x6_1 ++ [(rd_T134 t245 x8_1).f1]) := ⟨_, rfl⟩
       replace H : (transeptref08_Whole.l0 k1 t245 y251 (wrap64 ((wrap64 (x7_1 + (((rd_T134 t245 x8_1).f1).length : Int))) + 8)) (wrap64 (x8_1 + 1))) = some (r1, r2) := by first | (rw [hy251]; with_reducible exact H) | (have H2_ := (Option.bind_some _ _).symm.trans H; rw [hy251]; with_reducible exact H2_) | (have H2_ := (Option.bind_some _ _).symm.trans H; with_reducible exact H2_) | with_reducible exact H | (rw [hy251]; exact H) | exact H
       have Ny251 := Aside0.mk hy251
       clear hy251
       have H' := Aside0.mk H
       clear H
       obtain ⟨Ao8, co8, eo8⟩ := Kd.N_slice HO_4.out
       subst eo8
       have p249 : 0 ≤ (x8_1 : Int) := of_decide_eq_true (by first | (with_reducible assumption) | assumption)
       have q249 : x8_1 < (t245.length : Int) := of_decide_eq_true (by first | (with_reducible assumption) | assumption)
       obtain ⟨ad249, A249_1, c249_1, e249, hx249_0, hx249_1, hl249_1, hi249_1⟩ := at_T134 (Kd.N_reads' HO_4.out).2.2 x8_1 p249 q249
       cases e249
       obtain ⟨ce249, hce249, hMe249, hcc249⟩ := Kd.N_get HO_4.out z134 x8_1 p249 (by first | exact q249 | exact of_decide_eq_true (by first | (with_reducible assumption) | assumption) | (have e_ := (Kd.N_reads' HO_4.out).1; omega))
       obtain ⟨ua249_1, uc249_1, rfl, ul249_1, ge249_1⟩ := k134_openF hMe249
       have hv249_1 := hcc249 1 _ rfl
       rw [add_field _ _ 1 (by omega)] at hv249_1
       replace hv249_1 := Option.some.inj (hv249_1.symm.trans hx249_1)
       injection hv249_1 with hva_ hvn_ hvc_
       rw [hva_] at ge249_1
       rw [hvc_] at ul249_1
       have HL249_1 := Aside0.mk (show Kd.V (Kd.int .u8) 5 _ w.heap.size _ _ ((rd_T134 t245 x8_1).f1) from Kd.V_mk ul249_1 ge249_1)
       clear hva_ hvn_ hvc_ ge249_1 ul249_1
       clear hcc249 hce249
       have HR249_1 := Aside0.mk hi249_1
       have HC249_1 := Aside0.mk hl249_1
       clear hi249_1 hl249_1
       replace p249 := eq_true p249
       replace q249 := eq_true q249
       have p250 : 0 ≤ (x8_1 : Int) := of_decide_eq_true (by first | (with_reducible assumption) | assumption)
       have q250 : x8_1 < (t245.length : Int) := of_decide_eq_true (by first | (with_reducible assumption) | assumption)
       obtain ⟨ad250, A250_1, c250_1, e250, hx250_0, hx250_1, hl250_1, hi250_1⟩ := at_T134 (Kd.N_reads' HO_4.out).2.2 x8_1 p250 q250
       obtain rfl : ad249 = ad250 := (by injection e250)
       obtain ⟨ce250, hce250, hMe250, hcc250⟩ := Kd.N_get HO_4.out z134 x8_1 p250 (by first | exact q250 | exact of_decide_eq_true (by first | (with_reducible assumption) | assumption) | (have e_ := (Kd.N_reads' HO_4.out).1; omega))
       obtain ⟨ua250_1, uc250_1, rfl, ul250_1, ge250_1⟩ := k134_openF hMe250
       have hv250_1 := hcc250 1 _ rfl
       rw [add_field _ _ 1 (by omega)] at hv250_1
       replace hv250_1 := Option.some.inj (hv250_1.symm.trans hx250_1)
       injection hv250_1 with hva_ hvn_ hvc_
       rw [hva_] at ge250_1
       rw [hvc_] at ul250_1
       have HL250_1 := Aside0.mk (show Kd.V (Kd.int .u8) 5 _ w.heap.size _ _ ((rd_T134 t245 x8_1).f1) from Kd.V_mk ul250_1 ge250_1)
       clear hva_ hvn_ hvc_ ge250_1 ul250_1
       clear hcc250 hce250
       have HR250_1 := Aside0.mk hi250_1
       have HC250_1 := Aside0.mk hl250_1
       clear hi250_1 hl250_1
       replace p250 := eq_true p250
       replace q250 := eq_true q250
       have ea_ := Option.some.inj (hx249_1.symm.trans hx250_1)
       injection ea_ with ea_ en_ ec_
       subst ea_
       subst ec_
       clear en_
       go_wp2_with (first | ((with_reducible refine gate_builtin (b := .append) (xs := #[.tmp 28, .tmp 34]) rfl ?_); at_builtin; refine Kd.N_append (Kd.slice 5 (Kd.int .u8)) (w0 := w) w.heap.size rfl (.tmp 28) (.tmp 34) 56 26 (.slice none 0 0) 24 rfl Try.underlying56 info26 rfl (by decide) (by omega) u6 x6_1 ((rd_T134 t245 x8_1).f1) [.slice A249_1 ((rd_T134 t245 x8_1).f1).length c249_1] (fun k_ => (w.heap.size ≤ k_) ∧ some k_ ≠ (.slice (some ad249) t245.length co8 : Value).ownBlock) (fun k_ => ((fun k_ => (w.heap.size ≤ k_) ∧ some k_ ≠ (.slice (some ad249) t245.length co8 : Value).ownBlock)) k_ ∧ some k_ ≠ (u6 : Value).ownBlock) rfl rfl ?aP (fun _ hk => hk) ?aF ?aO ?aB ?aS ?aL ?_; (case aP => exact (Kd.FK_slice_mk (Kd.V_reads' (Kd.V_mono (ok' := (fun k_ => ((fun k_ => (w.heap.size ≤ k_) ∧ some k_ ≠ (.slice (some ad249) t245.length co8 : Value).ownBlock)) k_ ∧ some k_ ≠ (u6 : Value).ownBlock)) (HL250_1.out) (fun k_ hk => ⟨⟨hk.1.1, hk.2⟩, hk.1.2⟩))).2.1 (Kd.V_F (Kd.V_mono (ok' := (fun k_ => ((fun k_ => (w.heap.size ≤ k_) ∧ some k_ ≠ (.slice (some ad249) t245.length co8 : Value).ownBlock)) k_ ∧ some k_ ≠ (u6 : Value).ownBlock)) (HL250_1.out) (fun k_ hk => ⟨⟨hk.1.1, hk.2⟩, hk.1.2⟩))))); (case aB => exact (bl_ HB)); (case aF => exact (fun k_ hk => ⟨(Nat.le_trans (bs_ HB) hk), Kd.fresh' (Kd.N_lt (nA_ HO_4)) k_ hk⟩)); (case aO => exact (nA_ HO_6)); (case aS => exact (bs_ HB)); (case aL => have := LMc7.out; omega); intro v252 w9 ho hb hg hat; rw [← Ny251.out] at ho; replace HO_4 := Aside0.mk (Kd.N_afterv (ok := (fun k_ => (w.heap.size ≤ k_))) (nA_ HO_4) hg hat); replace HL249_1 := Aside0.mk (Kd.V_afterv (ok := (fun k_ => (w.heap.size ≤ k_) ∧ some k_ ≠ (.slice (some ad249) t245.length co8 : Value).ownBlock)) (by (with_reducible repeat (first | apply Kd.V_alloc | apply Kd.V_drewN | apply Kd.V_drew)); exact Kd.V_mono HL249_1.out (fun _ hk => ⟨⟨hk.1.1, hk.2⟩, hk.1.2⟩)) hg hat); replace HL250_1 := Aside0.mk (Kd.V_afterv (ok := (fun k_ => (w.heap.size ≤ k_) ∧ some k_ ≠ (.slice (some ad249) t245.length co8 : Value).ownBlock)) (by (with_reducible repeat (first | apply Kd.V_alloc | apply Kd.V_drewN | apply Kd.V_drew)); exact Kd.V_mono HL250_1.out (fun _ hk => ⟨⟨hk.1.1, hk.2⟩, hk.1.2⟩)) hg hat); replace HB := Aside0.mk (hb); have HO253 := Aside0.mk (ho); clear HO_6; clear ho hb hg hat; have p254 : 0 ≤ (x8_1 : Int) := of_decide_eq_true (by first | (with_reducible assumption) | assumption); have q254 : x8_1 < (t245.length : Int) := of_decide_eq_true (by first | (with_reducible assumption) | assumption); obtain ⟨ad254, A254_1, c254_1, e254, hx254_0, hx254_1, hl254_1, hi254_1⟩ := at_T134 (Kd.N_reads' HO_4.out).2.2 x8_1 p254 q254; obtain rfl : ad249 = ad254 := (by injection e254); obtain ⟨ce254, hce254, hMe254, hcc254⟩ := Kd.N_get HO_4.out z134 x8_1 p254 (by first | exact q254 | exact of_decide_eq_true (by first | (with_reducible assumption) | assumption) | (have e_ := (Kd.N_reads' HO_4.out).1; omega)); obtain ⟨ua254_1, uc254_1, rfl, ul254_1, ge254_1⟩ := k134_openF hMe254; have hv254_1 := hcc254 1 _ rfl; rw [add_field _ _ 1 (by omega)] at hv254_1; replace hv254_1 := Option.some.inj (hv254_1.symm.trans hx254_1); injection hv254_1 with hva_ hvn_ hvc_; rw [hva_] at ge254_1; rw [hvc_] at ul254_1; have HL254_1 := Aside0.mk (show Kd.V (Kd.int .u8) 5 _ w.heap.size _ _ ((rd_T134 t245 x8_1).f1) from Kd.V_mk ul254_1 ge254_1); clear hva_ hvn_ hvc_ ge254_1 ul254_1; clear hcc254 hce254; have HR254_1 := Aside0.mk hi254_1; have HC254_1 := Aside0.mk hl254_1; clear hi254_1 hl254_1; replace p254 := eq_true p254; replace q254 := eq_true q254))
       go_roundg k1
       case measure => have := HK1.out; omega
       case rel => exact ⟨(y251), (wrap64 ((wrap64 (x7_1 + (((rd_T134 t245 x8_1).f1).length : Int))) + 8)), (wrap64 (x8_1 + 1)), (by first | rfl | (simp; done) | (simp [*]; done)), (by first | rfl | (simp; done) | (simp [*]; done)), H', ⟨by have := HK1.out; omega⟩, ⟨nA_ HO_4⟩, ⟨nA_ HO253⟩, ⟨bl_ HB⟩⟩
      ·rw [if_neg c7] at H
       exact absurd H (by simp)
     ·rw [if_neg c6] at H
      have c6b0 : (((rd_T134 t245 x8_1).f0) == 1) = false := beq_eq_false_iff_ne.mpr c6
      have c6b1 : (((rd_T134 t245 x8_1).f0) != 1) = true := bne_iff_ne.mpr c6
      simp only [Option.some.injEq, Prod.mk.injEq] at H
      obtain ⟨rfl, rfl⟩ := H
      obtain ⟨Ao10, co10, eo10⟩ := Kd.N_slice HO_4.out
      subst eo10
      have p249 : 0 ≤ (x8_1 : Int) := of_decide_eq_true (by first | (with_reducible assumption) | assumption)
      have q249 : x8_1 < (t245.length : Int) := of_decide_eq_true (by first | (with_reducible assumption) | assumption)
      obtain ⟨ad249, A249_1, c249_1, e249, hx249_0, hx249_1, hl249_1, hi249_1⟩ := at_T134 (Kd.N_reads' HO_4.out).2.2 x8_1 p249 q249
      cases e249
      obtain ⟨ce249, hce249, hMe249, hcc249⟩ := Kd.N_get HO_4.out z134 x8_1 p249 (by first | exact q249 | exact of_decide_eq_true (by first | (with_reducible assumption) | assumption) | (have e_ := (Kd.N_reads' HO_4.out).1; omega))
      obtain ⟨ua249_1, uc249_1, rfl, ul249_1, ge249_1⟩ := k134_openF hMe249
      have hv249_1 := hcc249 1 _ rfl
      rw [add_field _ _ 1 (by omega)] at hv249_1
      replace hv249_1 := Option.some.inj (hv249_1.symm.trans hx249_1)
      injection hv249_1 with hva_ hvn_ hvc_
      rw [hva_] at ge249_1
      rw [hvc_] at ul249_1
      have HL249_1 := Aside0.mk (show Kd.V (Kd.int .u8) 5 _ w.heap.size _ _ ((rd_T134 t245 x8_1).f1) from Kd.V_mk ul249_1 ge249_1)
      clear hva_ hvn_ hvc_ ge249_1 ul249_1
      clear hcc249 hce249
      have HR249_1 := Aside0.mk hi249_1
      have HC249_1 := Aside0.mk hl249_1
      clear hi249_1 hl249_1
      replace p249 := eq_true p249
      replace q249 := eq_true q249
      go_wp2
      go_ret2
      exact ⟨_, fin_, by (with_reducible repeat (first | apply Kd.N_alloc | apply Kd.N_drewN | apply Kd.N_drew)); exact Kd.N_mono HO_6.out (fun _ hk => hk.1), bl_ HB⟩
    ·rw [if_neg c5] at H
     exact absurd H (by simp)
   ·rw [if_neg c4] at H
    have c4b0 : decide (x8_1 < (t245.length : Int)) = false := decide_eq_false c4
    clear c4
    simp only [Option.some.injEq, Prod.mk.injEq] at H
    obtain ⟨rfl, rfl⟩ := H
    obtain ⟨Ao11, co11, eo11⟩ := Kd.N_slice HO_4.out
    subst eo11
    go_wp2
    go_ret2
    exact ⟨_, fin_, by (with_reducible repeat (first | apply Kd.N_alloc | apply Kd.N_drewN | apply Kd.N_drew)); exact Kd.N_mono HO_6.out (fun _ hk => hk.1), bl_ HB⟩
end Go.Proofs.Ytooabchnbmnchaa.Q
namespace Go.Proofs.Ytooabchnbmnchaa.Q
open Go.RowKit Go.Proofs.YtooabchnbmnchaaW.PrintWords Go.Proofs.YtooabchnbmnchaaW.PrintLast Go.Proofs.YtooabchnbmnchaaW.PrintMore
attribute [local go_sem] max2_int min2_int max_two min_two max_three min_three max_four min_four binOp_string_leq binOp_string_geq binOp_string_gtr   -- for this text's walks alone
set_option linter.unusedVariables false
set_option linter.unusedSimpArgs false
mutual
def transeptref08_Check.j0 : Nat → Bool → List (S87) → Int → List (List Int) → Option (Int)
 | 0, _, _, _, _ => none
 | k + 1, x24, x256000, x256001, x256002 => if x24 = true then (some 9) else (transeptref08_Check.l0 k 0 x256000 x256001 x256002)
def transeptref08_Check.l0 : Nat → Int → List (S87) → Int → List (List Int) → Option (Int)
 | 0, _, _, _, _ => none
 | k + 1, x3, x256000, x256001, x256002 => if x3 < (x256002.length : Int) then (if 0 ≤ x3 then (if ((rd_L1 x256002 x3).length : Int) > 4096 then (some 9) else (transeptref08_Check.l0 k (wrap64 (x3 + 1)) x256000 x256001 x256002)) else (none)) else (transeptref08_Check.l1 k x256001 0 x256000 x256001 x256002)
def transeptref08_Check.l1 : Nat → Int → Int → List (S87) → Int → List (List Int) → Option (Int)
 | 0, _, _, _, _, _ => none
 | k + 1, x4, x5, x256000, x256001, x256002 => if x5 < (x256000.length : Int) then (if 0 ≤ x5 then ((transeptref08_index.f ((rd_T87 x256000 x5).f0)).bind fun t260 => (if t260 = true then (if x5 > 0 then (transeptref08_Check.j3 k x5 (((rd_T87 x256000 x5).f0) != x4) x256000 x256001 x256002 ((rd_T87 x256000 x5).f0) ((rd_T87 x256000 x5).f1)) else (transeptref08_Check.j3 k x5 false x256000 x256001 x256002 ((rd_T87 x256000 x5).f0) ((rd_T87 x256000 x5).f1))) else (transeptref08_Check.j3 k x5 true x256000 x256001 x256002 ((rd_T87 x256000 x5).f0) ((rd_T87 x256000 x5).f1)))) else (none)) else (if x4 = x256001 then (some 0) else (some 9))
def transeptref08_Check.j3 : Nat → Int → Bool → List (S87) → Int → List (List Int) → Int → List Int → Option (Int)
 | 0, _, _, _, _, _, _, _ => none
 | k + 1, x5, x66, x256000, x256001, x256002, x260000, x260001 => if x66 = true then (some 9) else ((transeptref08_Whole.f k x260001).bind fun bt261 => (if bt261.2 = (x260001.length : Int) then (transeptref08_Check.l1 k (wrap64 (x260000 + (bt261.1.length : Int))) (wrap64 (x5 + 1)) x256000 x256001 x256002) else (some 9)))
end
def transeptref08_Check.f (k : Nat) (l0_0 : List (S87)) (a0_1 : Int) (l0_2 : List (List Int)) : Option (Int) := if (l0_0.length : Int) > 4096 then (transeptref08_Check.j0 k true l0_0 a0_1 l0_2) else ((transeptref08_index.f a0_1).bind fun t256 => (if t256 = true then (transeptref08_Check.j0 k (decide ((l0_2.length : Int) > 4096)) l0_0 a0_1 l0_2) else (transeptref08_Check.j0 k true l0_0 a0_1 l0_2)))
theorem transeptref08_Check.mono_l : ∀ k, (∀ y0 y1 y2 y3, LeO (transeptref08_Check.j0 k y0 y1 y2 y3) (transeptref08_Check.j0 (k + 1) y0 y1 y2 y3)) ∧ (∀ y0 y1 y2 y3, LeO (transeptref08_Check.l0 k y0 y1 y2 y3) (transeptref08_Check.l0 (k + 1) y0 y1 y2 y3)) ∧ (∀ y0 y1 y2 y3 y4, LeO (transeptref08_Check.l1 k y0 y1 y2 y3 y4) (transeptref08_Check.l1 (k + 1) y0 y1 y2 y3 y4)) ∧ (∀ y0 y1 y2 y3 y4 y5 y6, LeO (transeptref08_Check.j3 k y0 y1 y2 y3 y4 y5 y6) (transeptref08_Check.j3 (k + 1) y0 y1 y2 y3 y4 y5 y6))
 | 0 => ⟨fun _ _ _ _ r h => by simp [transeptref08_Check.j0] at h, fun _ _ _ _ r h => by simp [transeptref08_Check.l0] at h, fun _ _ _ _ _ r h => by simp [transeptref08_Check.l1] at h, fun _ _ _ _ _ _ _ r h => by simp [transeptref08_Check.j3] at h⟩
 | k + 1 => by
  obtain ⟨ih0, ih1, ih2, ih3⟩ := transeptref08_Check.mono_l k
  refine ⟨?_, ?_, ?_, ?_⟩
  ·intro y0 y1 y2 y3
   unfold transeptref08_Check.j0
   repeat' first
   | (with_reducible exact ih0 _ _ _ _)
   | (with_reducible exact ih1 _ _ _ _)
   | (with_reducible exact ih2 _ _ _ _ _)
   | (with_reducible exact ih3 _ _ _ _ _ _ _)
   | (with_reducible exact transeptref08_Whole.mono _ _)
   | (with_reducible exact LeO.refl _)
   | (with_reducible exact LeO.none _)
   | (with_reducible refine LeO.ite ?_ ?_)
   | (with_reducible refine LeO.bind ?_ (fun _ => ?_))
   | exact ih0 _ _ _ _
   | exact ih1 _ _ _ _
   | exact ih2 _ _ _ _ _
   | exact ih3 _ _ _ _ _ _ _
   | exact transeptref08_Whole.mono _ _
   | exact LeO.none _
   | refine LeO.ite ?_ ?_
   | refine LeO.bind ?_ (fun _ => ?_)
  ·intro y0 y1 y2 y3
   unfold transeptref08_Check.l0
   repeat' first
   | (with_reducible exact ih0 _ _ _ _)
   | (with_reducible exact ih1 _ _ _ _)
   | (with_reducible exact ih2 _ _ _ _ _)
   | (with_reducible exact ih3 _ _ _ _ _ _ _)
   | (with_reducible exact transeptref08_Whole.mono _ _)
   | (with_reducible exact LeO.refl _)
   | (with_reducible exact LeO.none _)
   | (with_reducible refine LeO.ite ?_ ?_)
   | (with_reducible refine LeO.bind ?_ (fun _ => ?_))
   | exact ih0 _ _ _ _
   | exact ih1 _ _ _ _
   | exact ih2 _ _ _ _ _
   | exact ih3 _ _ _ _ _ _ _
   | exact transeptref08_Whole.mono _ _
   | exact LeO.none _
   | refine LeO.ite ?_ ?_
   | refine LeO.bind ?_ (fun _ => ?_)
  ·intro y0 y1 y2 y3 y4
   unfold transeptref08_Check.l1
   repeat' first
   | (with_reducible exact ih0 _ _ _ _)
   | (with_reducible exact ih1 _ _ _ _)
   | (with_reducible exact ih2 _ _ _ _ _)
   | (with_reducible exact ih3 _ _ _ _ _ _ _)
   | (with_reducible exact transeptref08_Whole.mono _ _)
   | (with_reducible exact LeO.refl _)
   | (with_reducible exact LeO.none _)
   | (with_reducible refine LeO.ite ?_ ?_)
   | (with_reducible refine LeO.bind ?_ (fun _ => ?_))
   | exact ih0 _ _ _ _
   | exact ih1 _ _ _ _
   | exact ih2 _ _ _ _ _
   | exact ih3 _ _ _ _ _ _ _
   | exact transeptref08_Whole.mono _ _
   | exact LeO.none _
   | refine LeO.ite ?_ ?_
   | refine LeO.bind ?_ (fun _ => ?_)
  ·intro y0 y1 y2 y3 y4 y5 y6
   unfold transeptref08_Check.j3
   repeat' first
   | (with_reducible exact ih0 _ _ _ _)
   | (with_reducible exact ih1 _ _ _ _)
   | (with_reducible exact ih2 _ _ _ _ _)
   | (with_reducible exact ih3 _ _ _ _ _ _ _)
   | (with_reducible exact transeptref08_Whole.mono _ _)
   | (with_reducible exact LeO.refl _)
   | (with_reducible exact LeO.none _)
   | (with_reducible refine LeO.ite ?_ ?_)
   | (with_reducible refine LeO.bind ?_ (fun _ => ?_))
   | exact ih0 _ _ _ _
   | exact ih1 _ _ _ _
   | exact ih2 _ _ _ _ _
   | exact ih3 _ _ _ _ _ _ _
   | exact transeptref08_Whole.mono _ _
   | exact LeO.none _
   | refine LeO.ite ?_ ?_
   | refine LeO.bind ?_ (fun _ => ?_)
theorem transeptref08_Check.mono : ∀ a0 a1 a2 k, LeO (transeptref08_Check.f k a0 a1 a2) (transeptref08_Check.f (k + 1) a0 a1 a2) := by
 intro a0 a1 a2 k
 obtain ⟨ih0, ih1, ih2, ih3⟩ := transeptref08_Check.mono_l k
 unfold transeptref08_Check.f
 repeat' first
   | (with_reducible exact ih0 _ _ _ _)
   | (with_reducible exact ih1 _ _ _ _)
   | (with_reducible exact ih2 _ _ _ _ _)
   | (with_reducible exact ih3 _ _ _ _ _ _ _)
   | (with_reducible exact transeptref08_Whole.mono _ _)
   | (with_reducible exact LeO.refl _)
   | (with_reducible exact LeO.none _)
   | (with_reducible refine LeO.ite ?_ ?_)
   | (with_reducible refine LeO.bind ?_ (fun _ => ?_))
   | exact ih0 _ _ _ _
   | exact ih1 _ _ _ _
   | exact ih2 _ _ _ _ _
   | exact ih3 _ _ _ _ _ _ _
   | exact transeptref08_Whole.mono _ _
   | exact LeO.none _
   | refine LeO.ite ?_ ?_
   | refine LeO.bind ?_ (fun _ => ?_)
set_option maxHeartbeats 8000000 in
set_option maxRecDepth 100000 in
theorem transeptref08_Check.calls (k : Nat) (A0_0 : Option Addr) (c0_0 : Nat) (l0_0 : List (S87)) (a0_1 : Int) (A0_2 : Option Addr) (c0_2 : Nat) (l0_2 : List (List Int)) (r : Int) (w : World) (hr0_0 : Kd.C k87 w A0_0 l0_0.length l0_0) (hc0_0 : l0_0.length ≤ c0_0) (hr0_2 : Kd.C (Kd.slice 5 (Kd.int .u8)) w A0_2 l0_2.length l0_2) (hc0_2 : l0_2.length ≤ c0_2) (h : transeptref08_Check.f k l0_0 a0_1 l0_2 = some r) :
  Calls Try.prog 70 #[.agg #[.slice A0_0 l0_0.length c0_0, .int .i64 a0_1, .slice A0_2 l0_2.length c0_2]] w fun e w' => e = .returned (.int .i64 r) ∧ Below w.heap.size w w' := by
 have hu58 := Try.underlying58
 have hu87 := Try.underlying87
 have HR0_0 := Aside0.mk hr0_0
 have HC0_0 := Aside0.mk hc0_0
 clear hr0_0 hc0_0
 have HR0_2 := Aside0.mk hr0_2
 have HC0_2 := Aside0.mk hc0_2
 clear hr0_2 hc0_2
 have HB := Aside0.mk (Below.refl w.heap.size w)
 have H : (if (l0_0.length : Int) > 4096 then (transeptref08_Check.j0 k true l0_0 a0_1 l0_2) else ((transeptref08_index.f a0_1).bind fun t256 => (if t256 = true then (transeptref08_Check.j0 k (decide ((l0_2.length : Int) > 4096)) l0_0 a0_1 l0_2) else (transeptref08_Check.j0 k true l0_0 a0_1 l0_2)))) = some r := h
 clear h
 have HC2 := Aside0.mk H
 clear H
 go_enter Try.func70, Try.ntmps70
 go_upto_region 1 with (first | ((with_reducible refine gate_dst (N := 1) rfl ?_); (try (refine gate_guard (by rfl) ?_; dsimp only)); refine bx_ 1 #[.slice A0_0 l0_0.length c0_0, .int .i64 a0_1, .slice A0_2 l0_2.length c0_2] 58 ?_; intro gb255 hg w3 hbox hb; have BK255 := Aside0.mk (hbox); have GW255 := bG_ HB hg; have GE255 := bG_ HB hg; replace HB := bS_ HB hb; clear hb hbox hg))
 (try simp only [Act.put, List.setIfInBounds_toArray, List.set_cons_zero, List.set_cons_succ])
 go_cut [24] (fun v24 wc => ∃ (kq : Nat) (x24_1 : Bool), v24 = .bool x24_1 ∧ Aside0 (transeptref08_Check.j0 kq x24_1 l0_0 a0_1 l0_2 = some r) ∧ Aside0 (kq ≤ k) ∧ Aside0 (wc.heap[gb255]? = some (.cells #[(.slice A0_0 l0_0.length c0_0), .int .i64 a0_1, (.slice A0_2 l0_2.length c0_2)] 58 (0, 0))) ∧ Aside0 (Below w.heap.size w wc))
 case first =>
  have H := HC2.out
  clear HC2
  by_cases c4 : (l0_0.length : Int) > 4096
  ·rw [if_pos c4] at H
   have c4b0 : decide (4096 < (l0_0.length : Int)) = true := decide_eq_true c4
   have c4b1 : decide (4096 < l0_0.length) = true := decide_eq_true (by omega)
   clear c4
   (first | rw [c4b0] | (simp only [i64_w, i32_w]; rw [c4b0]) | skip)
   have H' := Aside0.mk H
   clear H
   obtain ⟨hcz5_0, hcz5_1, hcz5_2, hfz5_0, hfz5_1, hfz5_2⟩ := cz3_ BK255
   go_wp2
   go_meet
   case rel => exact ⟨_, (true), (by first | rfl | (simp; done) | (simp [*]; done)), H', ⟨by first | omega | exact Nat.le_refl _⟩, ⟨bA_ BK255⟩, ⟨bl_ HB⟩⟩
  ·rw [if_neg c4] at H
   have c4b0 : decide (4096 < (l0_0.length : Int)) = false := decide_eq_false c4
   have c4b1 : decide (4096 < l0_0.length) = false := decide_eq_false (by omega)
   clear c4
   (first | rw [c4b0] | (simp only [i64_w, i32_w]; rw [c4b0]) | skip)
   replace H := Option.bind_eq_some_iff.mp H
   obtain ⟨t256, A60, H⟩ := H
   try dsimp only at H
   have A6 := Aside0.mk A60
   clear A60
   by_cases c7 : t256 = true
   ·subst c7
    rw [if_pos rfl] at H
    have H' := Aside0.mk H
    clear H
    obtain ⟨hcz8_0, hcz8_1, hcz8_2, hfz8_0, hfz8_1, hfz8_2⟩ := cz3_ BK255
    go_wp2_with (first | (go_at_call 76; (with_reducible refine (transeptref08_index.calls a0_1 true _ A6.out).mono ?_); rintro e w' ⟨rfl, ⟨nd, rfl⟩⟩))
    go_meet
    case rel => exact ⟨_, (decide ((l0_2.length : Int) > 4096)), (by first | rfl | (simp; done) | (simp [*]; done)), H', ⟨by first | omega | exact Nat.le_refl _⟩, ⟨bA_ BK255⟩, ⟨bl_ HB⟩⟩
   ·replace c7 := Bool.eq_false_iff.mpr c7
    subst c7
    rw [if_neg (show ¬ (false = true) by decide)] at H
    have H' := Aside0.mk H
    clear H
    obtain ⟨hcz9_0, hcz9_1, hcz9_2, hfz9_0, hfz9_1, hfz9_2⟩ := cz3_ BK255
    go_wp2_with (first | (go_at_call 76; (with_reducible refine (transeptref08_index.calls a0_1 false _ A6.out).mono ?_); rintro e w' ⟨rfl, ⟨nd, rfl⟩⟩))
    go_meet
    case rel => exact ⟨_, (true), (by first | rfl | (simp; done) | (simp [*]; done)), H', ⟨by first | omega | exact Nat.le_refl _⟩, ⟨bA_ BK255⟩, ⟨bl_ HB⟩⟩
 case rest =>
  clear HC2
  try clear p2
  try clear c4
  try clear c4b0
  try clear c4b1
  try clear c7
  try clear hcz5_0
  try clear hcz5_1
  try clear hcz5_2
  try clear hcz8_0
  try clear hcz8_1
  try clear hcz8_2
  try clear hcz9_0
  try clear hcz9_1
  try clear hcz9_2
  try clear hfz5_0
  try clear hfz5_1
  try clear hfz5_2
  try clear hfz8_0
  try clear hfz8_1
  try clear hfz8_2
  try clear hfz9_0
  try clear hfz9_1
  try clear hfz9_2
  obtain ⟨kq, x24_1, rfl, HA, HJ1, BK255, HB⟩ := hcut
  cases kq with
  | zero => exact absurd HA.out (by simp [transeptref08_Check.j0])
  | succ kj1 =>
   have H := HA.out
   clear HA
   simp only [transeptref08_Check.j0] at H
   by_cases c10 : x24_1 = true
   ·subst c10
    rw [if_pos rfl] at H
    obtain rfl := Option.some.inj H
    go_wp2
    go_ret
    exact ⟨fin_, bl_ HB⟩
   ·replace c10 := Bool.eq_false_iff.mpr c10
    subst c10
    rw [if_neg (show ¬ (false = true) by decide)] at H
    have H' := Aside0.mk H
    clear H
    go_wp2
    go_loopg [3] kj1 (fun kq v3 w' => ∃ (x3_2 : Int), v3 = .int .i64 x3_2 ∧ Aside0 (transeptref08_Check.l0 kq x3_2 l0_0 a0_1 l0_2 = some r) ∧ Aside0 (kq ≤ kj1) ∧ Aside0 (w'.heap[gb255]? = some (.cells #[(.slice A0_0 l0_0.length c0_0), .int .i64 a0_1, (.slice A0_2 l0_2.length c0_2)] 58 (0, 0))) ∧ Aside0 (Below w.heap.size w w'))
    case atStart => exact ⟨(0), (by first | rfl | (simp; done) | (simp [*]; done)), H', ⟨Nat.le_refl _⟩, ⟨bA_ BK255⟩, ⟨bl_ HB⟩⟩
    case round =>
     clear H'
     try clear c1
     try clear p2
     try clear c4
     try clear c4b0
     try clear c4b1
     try clear c7
     try clear c10
     try clear hcz5_0
     try clear hcz5_1
     try clear hcz5_2
     try clear hcz8_0
     try clear hcz8_1
     try clear hcz8_2
     try clear hcz9_0
     try clear hcz9_1
     try clear hcz9_2
     try clear hfz5_0
     try clear hfz5_1
     try clear hfz5_2
     try clear hfz8_0
     try clear hfz8_1
     try clear hfz8_2
     try clear hfz9_0
     try clear hfz9_1
     try clear hfz9_2
     try clear p2
     obtain ⟨x3_2, rfl, HA, HK2, BK255, HB⟩ := hrel
     cases gk with
     | zero => exact absurd HA.out (by simp [transeptref08_Check.l0])
     | succ k2 =>
      have H := HA.out
      clear HA
      simp only [transeptref08_Check.l0] at H
      by_cases c11 : x3_2 < (l0_2.length : Int)
      ·rw [if_pos c11] at H
       have c11b0 : decide (x3_2 < (l0_2.length : Int)) = true := decide_eq_true c11
       clear c11
       by_cases c12 : 0 ≤ x3_2
       ·rw [if_pos c12] at H
        have c12b0 : decide (0 ≤ x3_2) = true := decide_eq_true c12
        clear c12
        by_cases c13 : ((rd_L1 l0_2 x3_2).length : Int) > 4096
        ·rw [if_pos c13] at H
         have c13b0 : decide (4096 < ((rd_L1 l0_2 x3_2).length : Int)) = true := decide_eq_true c13
         have c13b1 : decide (4096 < (rd_L1 l0_2 x3_2).length) = true := decide_eq_true (by omega)
         clear c13
         obtain rfl := Option.some.inj H
         obtain ⟨hcz14_0, hcz14_1, hcz14_2, hfz14_0, hfz14_1, hfz14_2⟩ := cz3_ BK255
         have p257 : 0 ≤ (x3_2 : Int) := of_decide_eq_true (by first | (with_reducible assumption) | assumption)
         have q257 : x3_2 < (l0_2.length : Int) := of_decide_eq_true (by first | (with_reducible assumption) | assumption)
         obtain ⟨ad257, A257_0, c257_0, e257, hx257_0, hl257_0, hi257_0⟩ := at_L1 HR0_2.out x3_2 p257 q257
         cases e257
         replace hx257_0 := (HB.out.cell (World.block_lt_of_cell? w _ hx257_0)).trans hx257_0
         have HR257_0 := Aside0.mk hi257_0
         have HC257_0 := Aside0.mk hl257_0
         clear hi257_0 hl257_0
         replace p257 := eq_true p257
         replace q257 := eq_true q257
         go_wp2
         go_ret
         exact ⟨fin_, bl_ HB⟩
        ·rw [if_neg c13] at H
         have c13b0 : decide (4096 < ((rd_L1 l0_2 x3_2).length : Int)) = false := decide_eq_false c13
         have c13b1 : decide (4096 < (rd_L1 l0_2 x3_2).length) = false := decide_eq_false (by omega)
         clear c13
         have H' := Aside0.mk H
         clear H
         obtain ⟨hcz15_0, hcz15_1, hcz15_2, hfz15_0, hfz15_1, hfz15_2⟩ := cz3_ BK255
         have p257 : 0 ≤ (x3_2 : Int) := of_decide_eq_true (by first | (with_reducible assumption) | assumption)
         have q257 : x3_2 < (l0_2.length : Int) := of_decide_eq_true (by first | (with_reducible assumption) | assumption)
         obtain ⟨ad257, A257_0, c257_0, e257, hx257_0, hl257_0, hi257_0⟩ := at_L1 HR0_2.out x3_2 p257 q257
         cases e257
         replace hx257_0 := (HB.out.cell (World.block_lt_of_cell? w _ hx257_0)).trans hx257_0
         have HR257_0 := Aside0.mk hi257_0
         have HC257_0 := Aside0.mk hl257_0
         clear hi257_0 hl257_0
         replace p257 := eq_true p257
         replace q257 := eq_true q257
         go_wp2
         go_roundg k2
         case measure => have := HJ1.out; have := HK2.out; omega
         case rel => exact ⟨(wrap64 (x3_2 + 1)), (by first | rfl | (simp; done) | (simp [*]; done)), H', ⟨by have := HJ1.out; have := HK2.out; omega⟩, ⟨bA_ BK255⟩, ⟨bl_ HB⟩⟩
       ·rw [if_neg c12] at H
        exact absurd H (by simp)
      ·rw [if_neg c11] at H
       have c11b0 : decide (x3_2 < (l0_2.length : Int)) = false := decide_eq_false c11
       clear c11
       have H' := Aside0.mk H
       clear H
       obtain ⟨hcz16_0, hcz16_1, hcz16_2, hfz16_0, hfz16_1, hfz16_2⟩ := cz3_ BK255
       go_wp2
       go_loopg [4, 5] k2 (fun kq v4 v5 w' => ∃ (x4_3 : Int) (x5_3 : Int), v4 = .int .i64 x4_3 ∧ v5 = .int .i64 x5_3 ∧ Aside0 (transeptref08_Check.l1 kq x4_3 x5_3 l0_0 a0_1 l0_2 = some r) ∧ Aside0 (kq ≤ k2) ∧ Aside0 (w'.heap[gb255]? = some (.cells #[(.slice A0_0 l0_0.length c0_0), .int .i64 a0_1, (.slice A0_2 l0_2.length c0_2)] 58 (0, 0))) ∧ Aside0 (Below w.heap.size w w'))
       case atStart => exact ⟨(a0_1), (0), (by first | rfl | (simp; done) | (simp [*]; done)), (by first | rfl | (simp; done) | (simp [*]; done)), H', ⟨Nat.le_refl _⟩, ⟨bA_ BK255⟩, ⟨bl_ HB⟩⟩
       case round =>
        clear H'
        try clear c1
        try clear c2
        try clear p2
        try clear q2
        try clear hx2
        try clear c4
        try clear c4b0
        try clear c4b1
        try clear p6
        try clear c7
        try clear c10
        try clear c11
        try clear c11b0
        try clear c12
        try clear c12b0
        try clear c13
        try clear c13b0
        try clear c13b1
        try clear hcz14_0
        try clear hcz14_1
        try clear hcz14_2
        try clear hcz15_0
        try clear hcz15_1
        try clear hcz15_2
        try clear hcz16_0
        try clear hcz16_1
        try clear hcz16_2
        try clear hcz5_0
        try clear hcz5_1
        try clear hcz5_2
        try clear hcz8_0
        try clear hcz8_1
        try clear hcz8_2
        try clear hcz9_0
        try clear hcz9_1
        try clear hcz9_2
        try clear hfz14_0
        try clear hfz14_1
        try clear hfz14_2
        try clear hfz15_0
        try clear hfz15_1
        try clear hfz15_2
        try clear hfz16_0
        try clear hfz16_1
        try clear hfz16_2
        try clear hfz5_0
        try clear hfz5_1
        try clear hfz5_2
        try clear hfz8_0
        try clear hfz8_1
        try clear hfz8_2
        try clear hfz9_0
        try clear hfz9_1
        try clear hfz9_2
        try clear hx257_0
        try clear p2
        try clear p257
        try clear q257
        obtain ⟨x4_3, x5_3, rfl, rfl, HA, HK3, BK255, HB⟩ := hrel
        cases gk with
        | zero => exact absurd HA.out (by simp [transeptref08_Check.l1])
        | succ k3 =>
         have H := HA.out
         clear HA
         simp only [transeptref08_Check.l1] at H
         by_cases c17 : x5_3 < (l0_0.length : Int)
         ·rw [if_pos c17] at H
          have c17b0 : decide (x5_3 < (l0_0.length : Int)) = true := decide_eq_true c17
          clear c17
          by_cases c18 : 0 ≤ x5_3
          ·rw [if_pos c18] at H
           have c18b0 : decide (0 ≤ x5_3) = true := decide_eq_true c18
           clear c18
           have HC19 := Aside0.mk H
           clear H
           obtain ⟨hcz20_0, hcz20_1, hcz20_2, hfz20_0, hfz20_1, hfz20_2⟩ := cz3_ BK255
           have p258 : 0 ≤ (x5_3 : Int) := of_decide_eq_true (by first | (with_reducible assumption) | assumption)
           have q258 : x5_3 < (l0_0.length : Int) := of_decide_eq_true (by first | (with_reducible assumption) | assumption)
           obtain ⟨ad258, A258_1, c258_1, e258, hx258_0, hx258_1, hl258_1, hi258_1⟩ := at_T87 HR0_0.out x5_3 p258 q258
           cases e258
           replace hx258_0 := (HB.out.cell (World.block_lt_of_cell? w _ hx258_0)).trans hx258_0
           replace hx258_1 := (HB.out.cell (World.block_lt_of_cell? w _ hx258_1)).trans hx258_1
           have HR258_1 := Aside0.mk hi258_1
           have HC258_1 := Aside0.mk hl258_1
           clear hi258_1 hl258_1
           replace p258 := eq_true p258
           replace q258 := eq_true q258
           go_upto_region 13 with (first | ((with_reducible refine gate_dst (N := 6) rfl ?_); (try (refine gate_guard (by rfl) ?_; dsimp only)); refine bx_ 6 #[.int .i64 0, .slice none 0 0] 87 ?_; intro gb259 hg w21 hbox hb; have BK259 := Aside0.mk (hbox); have GW259 := bG_ HB hg; have GE259 := bG_ HB hg; replace HB := bS_ HB hb; have NB255_259 := nL_ BK255 hg; have NB259_255 := nG_ BK255 hg; replace BK255 := bK_ BK255 hb; clear hb hbox hg; have hnb22 := NB259_255.out; have hnc22 := NB255_259.out; obtain ⟨hcz23_0, hcz23_1, hfz23_0, hfz23_1⟩ := cz2_ BK259))
           (try simp only [Act.put, List.setIfInBounds_toArray, List.set_cons_zero, List.set_cons_succ])
           go_cut [66] (fun v66 wc => ∃ (kq : Nat) (x66_18 : Bool), v66 = .bool x66_18 ∧ Aside0 (transeptref08_Check.j3 kq x5_3 x66_18 l0_0 a0_1 l0_2 ((rd_T87 l0_0 x5_3).f0) ((rd_T87 l0_0 x5_3).f1) = some r) ∧ Aside0 (kq ≤ k3) ∧ Aside0 (wc.heap[gb255]? = some (.cells #[(.slice (some ad258) l0_0.length c0_0), .int .i64 a0_1, (.slice A0_2 l0_2.length c0_2)] 58 (0, 0))) ∧ Aside0 (wc.heap[gb259]? = some (.cells #[.int .i64 ((rd_T87 l0_0 x5_3).f0), (.slice A258_1 ((rd_T87 l0_0 x5_3).f1).length c258_1)] 87 (0, 0))) ∧ Aside0 (Below w.heap.size w wc))
           case first =>
            have H := HC19.out
            clear HC19
            replace H := Option.bind_eq_some_iff.mp H
            obtain ⟨t260, A240, H⟩ := H
            try dsimp only at H
            have A24 := Aside0.mk A240
            clear A240
            by_cases c25 : t260 = true
            ·subst c25
             rw [if_pos rfl] at H
             by_cases c26 : x5_3 > 0
             ·rw [if_pos c26] at H
              have c26b0 : decide (0 < x5_3) = true := decide_eq_true c26
              clear c26
              (first | rw [c26b0] | (simp only [i64_w, i32_w]; rw [c26b0]) | skip)
              have H' := Aside0.mk H
              clear H
              have hnb27 := NB259_255.out
              have hnc27 := NB255_259.out
              obtain ⟨hcz28_0, hcz28_1, hfz28_0, hfz28_1⟩ := cz2_ BK259
              go_wp2_with (first | ((with_reducible refine gate_callee (f := 76) rfl ?_); refine gL_ (some 55) Try.func76 #[.int .i64 ((rd_T87 l0_0 x5_3).f0)] ?_; (with_reducible refine (transeptref08_index.calls ((rd_T87 l0_0 x5_3).f0) true _ A24.out).mono ?_); rintro e w' ⟨rfl, ⟨nd, rfl⟩⟩; refine ⟨_, rfl, ?_⟩))
              go_meet
              case rel => exact ⟨_, ((((rd_T87 l0_0 x5_3).f0) != x4_3)), (by first | rfl | (simp; done) | (simp [*]; done)), H', ⟨by have := HJ1.out; have := HK2.out; have := HK3.out; first | omega | exact Nat.le_refl _⟩, ⟨bA_ BK255⟩, ⟨by (with_reducible repeat (first | refine blk_drewN ?_ _ | refine blk_drew ?_ | refine blk_alloc ?_ _)); refine blk_put (cs := #[.int .i64 ((rd_T87 l0_0 x5_3).f0), .slice none 0 0]) ?_ 1 _ rfl; (with_reducible repeat (first | refine blk_drewN ?_ _ | refine blk_drew ?_ | refine blk_alloc ?_ _)); refine blk_put (cs := #[.int .i64 0, .slice none 0 0]) ?_ 0 _ rfl; (with_reducible repeat (first | refine blk_drewN ?_ _ | refine blk_drew ?_ | refine blk_alloc ?_ _)); exact BK259.out⟩, ⟨bl_ HB⟩⟩
             ·rw [if_neg c26] at H
              have c26b0 : decide (0 < x5_3) = false := decide_eq_false c26
              clear c26
              (first | rw [c26b0] | (simp only [i64_w, i32_w]; rw [c26b0]) | skip)
              have H' := Aside0.mk H
              clear H
              have hnb29 := NB259_255.out
              have hnc29 := NB255_259.out
              obtain ⟨hcz30_0, hcz30_1, hfz30_0, hfz30_1⟩ := cz2_ BK259
              go_wp2_with (first | ((with_reducible refine gate_callee (f := 76) rfl ?_); refine gL_ (some 55) Try.func76 #[.int .i64 ((rd_T87 l0_0 x5_3).f0)] ?_; (with_reducible refine (transeptref08_index.calls ((rd_T87 l0_0 x5_3).f0) true _ A24.out).mono ?_); rintro e w' ⟨rfl, ⟨nd, rfl⟩⟩; refine ⟨_, rfl, ?_⟩))
              go_meet
              case rel => exact ⟨_, (false), (by first | rfl | (simp; done) | (simp [*]; done)), H', ⟨by have := HJ1.out; have := HK2.out; have := HK3.out; first | omega | exact Nat.le_refl _⟩, ⟨bA_ BK255⟩, ⟨by (with_reducible repeat (first | refine blk_drewN ?_ _ | refine blk_drew ?_ | refine blk_alloc ?_ _)); refine blk_put (cs := #[.int .i64 ((rd_T87 l0_0 x5_3).f0), .slice none 0 0]) ?_ 1 _ rfl; (with_reducible repeat (first | refine blk_drewN ?_ _ | refine blk_drew ?_ | refine blk_alloc ?_ _)); refine blk_put (cs := #[.int .i64 0, .slice none 0 0]) ?_ 0 _ rfl; (with_reducible repeat (first | refine blk_drewN ?_ _ | refine blk_drew ?_ | refine blk_alloc ?_ _)); exact BK259.out⟩, ⟨bl_ HB⟩⟩
            ·replace c25 := Bool.eq_false_iff.mpr c25
             subst c25
             rw [if_neg (show ¬ (false = true) by decide)] at H
             have H' := Aside0.mk H
             clear H
             have hnb31 := NB259_255.out
             have hnc31 := NB255_259.out
             obtain ⟨hcz32_0, hcz32_1, hfz32_0, hfz32_1⟩ := cz2_ BK259
             go_wp2_with (first | ((with_reducible refine gate_callee (f := 76) rfl ?_); refine gL_ (some 55) Try.func76 #[.int .i64 ((rd_T87 l0_0 x5_3).f0)] ?_; (with_reducible refine (transeptref08_index.calls ((rd_T87 l0_0 x5_3).f0) false _ A24.out).mono ?_); rintro e w' ⟨rfl, ⟨nd, rfl⟩⟩; refine ⟨_, rfl, ?_⟩))
             go_meet
             case rel => exact ⟨_, (true), (by first | rfl | (simp; done) | (simp [*]; done)), H', ⟨by have := HJ1.out; have := HK2.out; have := HK3.out; first | omega | exact Nat.le_refl _⟩, ⟨bA_ BK255⟩, ⟨by (with_reducible repeat (first | refine blk_drewN ?_ _ | refine blk_drew ?_ | refine blk_alloc ?_ _)); refine blk_put (cs := #[.int .i64 ((rd_T87 l0_0 x5_3).f0), .slice none 0 0]) ?_ 1 _ rfl; (with_reducible repeat (first | refine blk_drewN ?_ _ | refine blk_drew ?_ | refine blk_alloc ?_ _)); refine blk_put (cs := #[.int .i64 0, .slice none 0 0]) ?_ 0 _ rfl; (with_reducible repeat (first | refine blk_drewN ?_ _ | refine blk_drew ?_ | refine blk_alloc ?_ _)); exact BK259.out⟩, ⟨bl_ HB⟩⟩
           case rest =>
            clear HC19
            try clear c1
            try clear c2
            try clear p2
            try clear q2
            try clear hx2
            try clear c3
            try clear c4
            try clear c4b0
            try clear c4b1
            try clear p6
            try clear c7
            try clear c10
            try clear c11
            try clear c11b0
            try clear c12
            try clear c12b0
            try clear c13
            try clear c13b0
            try clear c13b1
            try clear c17
            try clear c17b0
            try clear c18
            try clear c18b0
            try clear c22
            try clear c25
            try clear p25
            try clear q25
            try clear hx25
            try clear c26
            try clear c26b0
            try clear c27
            try clear c29
            try clear c31
            try clear hcz14_0
            try clear hcz14_1
            try clear hcz14_2
            try clear hcz15_0
            try clear hcz15_1
            try clear hcz15_2
            try clear hcz16_0
            try clear hcz16_1
            try clear hcz16_2
            try clear hcz20_0
            try clear hcz20_1
            try clear hcz20_2
            try clear hcz23_0
            try clear hcz23_1
            try clear hcz28_0
            try clear hcz28_1
            try clear hcz30_0
            try clear hcz30_1
            try clear hcz32_0
            try clear hcz32_1
            try clear hcz5_0
            try clear hcz5_1
            try clear hcz5_2
            try clear hcz8_0
            try clear hcz8_1
            try clear hcz8_2
            try clear hcz9_0
            try clear hcz9_1
            try clear hcz9_2
            try clear hfz14_0
            try clear hfz14_1
            try clear hfz14_2
            try clear hfz15_0
            try clear hfz15_1
            try clear hfz15_2
            try clear hfz16_0
            try clear hfz16_1
            try clear hfz16_2
            try clear hfz20_0
            try clear hfz20_1
            try clear hfz20_2
            try clear hfz23_0
            try clear hfz23_1
            try clear hfz28_0
            try clear hfz28_1
            try clear hfz30_0
            try clear hfz30_1
            try clear hfz32_0
            try clear hfz32_1
            try clear hfz5_0
            try clear hfz5_1
            try clear hfz5_2
            try clear hfz8_0
            try clear hfz8_1
            try clear hfz8_2
            try clear hfz9_0
            try clear hfz9_1
            try clear hfz9_2
            try clear hx257_0
            try clear hx258_0
            try clear hx258_1
            try clear p2
            try clear p257
            try clear p258
            try clear p6
            try clear q2
            try clear q257
            try clear q258
            obtain ⟨kq, x66_18, rfl, HA, HJ18, BK255, BK259, HB⟩ := hcut
            cases kq with
            | zero => exact absurd HA.out (by simp [transeptref08_Check.j3])
            | succ kj18 =>
             have H := HA.out
             clear HA
             simp only [transeptref08_Check.j3] at H
             by_cases c33 : x66_18 = true
             ·subst c33
              rw [if_pos rfl] at H
              obtain rfl := Option.some.inj H
              go_wp2
              go_ret
              exact ⟨fin_, bl_ HB⟩
             ·replace c33 := Bool.eq_false_iff.mpr c33
              subst c33
              rw [if_neg (show ¬ (false = true) by decide)] at H
              replace H := Option.bind_eq_some_iff.mp H
              obtain ⟨⟨t261, t264⟩, A340, H⟩ := H
              try dsimp only at H
              have A34 := Aside0.mk A340
              clear A340
              by_cases c35 : t264 = (((rd_T87 l0_0 x5_3).f1).length : Int)
              ·rw [if_pos c35] at H
               have c35b0 : (t264 == (((rd_T87 l0_0 x5_3).f1).length : Int)) = true := beq_iff_eq.mpr c35
               have c35b1 : (t264 != (((rd_T87 l0_0 x5_3).f1).length : Int)) = false := bne_eq_false_iff_eq.mpr c35
               clear c35
               have H' := Aside0.mk H
               clear H
               have hnb36 := NB259_255.out
               have hnc36 := NB255_259.out
               obtain ⟨hcz37_0, hcz37_1, hfz37_0, hfz37_1⟩ := cz2_ BK259
               go_wp2_with (first | ((with_reducible refine gate_callee (f := 77) rfl ?_); refine gL_ (some 70) Try.func77 #[.slice A258_1 ((rd_T87 l0_0 x5_3).f1).length c258_1] ?_; (with_reducible refine (transeptref08_Whole.calls kj18 _ _ ((rd_T87 l0_0 x5_3).f1) t261 t264 _ ?_ ?_ A34.out).mono ?_); exact cB_ HR258_1 HB; exact HC258_1.out; rintro e w38 ⟨v262, rfl, ho0, hb⟩; refine ⟨_, rfl, ?_⟩; have HO263 := Aside0.mk (Kd.N_lower (Kd.N_mono (ok' := fun k_ => k_ ≠ gb255 ∧ k_ ≠ gb259) ho0 (fun k_ hk_ => ⟨(Kd.freshB (bA_ BK255) k_ hk_), (Kd.freshB (bA_ BK259) k_ hk_)⟩)) (bs_ HB)); replace BK255 := bK_ BK255 hb; replace BK259 := bK_ BK259 hb; replace HB := bS_ HB hb; (try clear hb ho0); obtain ⟨hcz39_0, hcz39_1, hfz39_0, hfz39_1⟩ := cz2_ BK259; obtain ⟨Ao40, co40, eo40⟩ := Kd.N_slice HO263.out; subst eo40))
               go_roundg kj18
               case measure => have := HJ1.out; have := HK2.out; have := HK3.out; have := HJ18.out; omega
               case rel => exact ⟨(wrap64 (((rd_T87 l0_0 x5_3).f0) + (t261.length : Int))), (wrap64 (x5_3 + 1)), (by first | rfl | (simp; done) | (simp [*]; done)), (by first | rfl | (simp; done) | (simp [*]; done)), H', ⟨by have := HJ1.out; have := HK2.out; have := HK3.out; have := HJ18.out; omega⟩, ⟨bA_ BK255⟩, ⟨bl_ HB⟩⟩
              ·rw [if_neg c35] at H
               have c35b0 : (t264 == (((rd_T87 l0_0 x5_3).f1).length : Int)) = false := beq_eq_false_iff_ne.mpr c35
               have c35b1 : (t264 != (((rd_T87 l0_0 x5_3).f1).length : Int)) = true := bne_iff_ne.mpr c35
               obtain rfl := Option.some.inj H
               have hnb41 := NB259_255.out
               have hnc41 := NB255_259.out
               obtain ⟨hcz42_0, hcz42_1, hfz42_0, hfz42_1⟩ := cz2_ BK259
               go_wp2_with (first | ((with_reducible refine gate_callee (f := 77) rfl ?_); refine gL_ (some 70) Try.func77 #[.slice A258_1 ((rd_T87 l0_0 x5_3).f1).length c258_1] ?_; (with_reducible refine (transeptref08_Whole.calls kj18 _ _ ((rd_T87 l0_0 x5_3).f1) t261 t264 _ ?_ ?_ A34.out).mono ?_); exact cB_ HR258_1 HB; exact HC258_1.out; rintro e w43 ⟨v262, rfl, ho0, hb⟩; refine ⟨_, rfl, ?_⟩; have HO263 := Aside0.mk (Kd.N_lower (Kd.N_mono (ok' := fun k_ => k_ ≠ gb255 ∧ k_ ≠ gb259) ho0 (fun k_ hk_ => ⟨(Kd.freshB (bA_ BK255) k_ hk_), (Kd.freshB (bA_ BK259) k_ hk_)⟩)) (bs_ HB)); replace BK255 := bK_ BK255 hb; replace BK259 := bK_ BK259 hb; replace HB := bS_ HB hb; (try clear hb ho0); obtain ⟨hcz44_0, hcz44_1, hfz44_0, hfz44_1⟩ := cz2_ BK259))
               go_ret
               exact ⟨fin_, bl_ HB⟩
          ·rw [if_neg c18] at H
           exact absurd H (by simp)
         ·rw [if_neg c17] at H
          have c17b0 : decide (x5_3 < (l0_0.length : Int)) = false := decide_eq_false c17
          clear c17
          by_cases c45 : x4_3 = a0_1
          ·rw [if_pos c45] at H
           have c45b0 : (x4_3 == a0_1) = true := beq_iff_eq.mpr c45
           have c45b1 : (x4_3 != a0_1) = false := bne_eq_false_iff_eq.mpr c45
           clear c45
           obtain rfl := Option.some.inj H
           obtain ⟨hcz46_0, hcz46_1, hcz46_2, hfz46_0, hfz46_1, hfz46_2⟩ := cz3_ BK255
           go_wp2
           go_ret
           exact ⟨fin_, bl_ HB⟩
          ·rw [if_neg c45] at H
           have c45b0 : (x4_3 == a0_1) = false := beq_eq_false_iff_ne.mpr c45
           have c45b1 : (x4_3 != a0_1) = true := bne_iff_ne.mpr c45
           obtain rfl := Option.some.inj H
           obtain ⟨hcz47_0, hcz47_1, hcz47_2, hfz47_0, hfz47_1, hfz47_2⟩ := cz3_ BK255
           go_wp2
           go_ret
           exact ⟨fin_, bl_ HB⟩
end Go.Proofs.Ytooabchnbmnchaa.Q
namespace Go.Proofs.Ytooabchnbmnchaa.Q
open Go.RowKit Go.Proofs.YtooabchnbmnchaaW.PrintWords Go.Proofs.YtooabchnbmnchaaW.PrintLast Go.Proofs.YtooabchnbmnchaaW.PrintMore
attribute [local go_sem] max2_int min2_int max_two min_two max_three min_three max_four min_four binOp_string_leq binOp_string_geq binOp_string_gtr   -- for this text's walks alone
set_option linter.unusedVariables false
set_option linter.unusedSimpArgs false
mutual
def transeptref08_Own.l0 : Nat → Int → List (S87) → Int → List (List Int) → List (S87) → Int → Option ((List (S87)) × Int × (List (List Int)))
 | 0, _, _, _, _, _, _ => none
 | k + 1, x4, x266000, x266001, x266002, x268000, x268001 => if x4 < (x266000.length : Int) then (if 0 ≤ x4 then ((transeptref03_Copied.f ((rd_T87 x266000 x4).f1)).bind fun t270 => (if x268000.length < 4398046511104 then (transeptref08_Own.l0 k (wrap64 (x4 + 1)) x266000 x266001 x266002 (x268000 ++ [(⟨(rd_T87 x266000 x4).f0, t270⟩ : S87)]) x268001) else (none))) else (none)) else (transeptref08_Own.l1 k 0 x266000 x266001 x266002 x268000 x268001 ([] : List (List Int)))
def transeptref08_Own.l1 : Nat → Int → List (S87) → Int → List (List Int) → List (S87) → Int → List (List Int) → Option ((List (S87)) × Int × (List (List Int)))
 | 0, _, _, _, _, _, _, _ => none
 | k + 1, x5, x266000, x266001, x266002, x268000, x268001, x268002 => if x5 < (x266002.length : Int) then (if 0 ≤ x5 then ((transeptref03_Copied.f (rd_L1 x266002 x5)).bind fun t277 => (if x268002.length < 5864062014805 then (transeptref08_Own.l1 k (wrap64 (x5 + 1)) x266000 x266001 x266002 x268000 x268001 (x268002 ++ [t277])) else (none))) else (none)) else (some (x268000, x268001, x268002))
end
def transeptref08_Own.f (k : Nat) (l0_0 : List (S87)) (a0_1 : Int) (l0_2 : List (List Int)) : Option ((List (S87)) × Int × (List (List Int))) := transeptref08_Own.l0 k 0 l0_0 a0_1 l0_2 ([] : List (S87)) a0_1
theorem transeptref08_Own.mono_l : ∀ k, (∀ y0 y1 y2 y3 y4 y5, LeO (transeptref08_Own.l0 k y0 y1 y2 y3 y4 y5) (transeptref08_Own.l0 (k + 1) y0 y1 y2 y3 y4 y5)) ∧ (∀ y0 y1 y2 y3 y4 y5 y6, LeO (transeptref08_Own.l1 k y0 y1 y2 y3 y4 y5 y6) (transeptref08_Own.l1 (k + 1) y0 y1 y2 y3 y4 y5 y6))
 | 0 => ⟨fun _ _ _ _ _ _ r h => by simp [transeptref08_Own.l0] at h, fun _ _ _ _ _ _ _ r h => by simp [transeptref08_Own.l1] at h⟩
 | k + 1 => by
  obtain ⟨ih0, ih1⟩ := transeptref08_Own.mono_l k
  refine ⟨?_, ?_⟩
  ·intro y0 y1 y2 y3 y4 y5
   unfold transeptref08_Own.l0
   repeat' first
   | (with_reducible exact ih0 _ _ _ _ _ _)
   | (with_reducible exact ih1 _ _ _ _ _ _ _)
   | (with_reducible exact LeO.refl _)
   | (with_reducible exact LeO.none _)
   | (with_reducible refine LeO.ite ?_ ?_)
   | (with_reducible refine LeO.bind ?_ (fun _ => ?_))
   | exact ih0 _ _ _ _ _ _
   | exact ih1 _ _ _ _ _ _ _
   | exact LeO.none _
   | refine LeO.ite ?_ ?_
   | refine LeO.bind ?_ (fun _ => ?_)
  ·intro y0 y1 y2 y3 y4 y5 y6
   unfold transeptref08_Own.l1
   repeat' first
   | (with_reducible exact ih0 _ _ _ _ _ _)
   | (with_reducible exact ih1 _ _ _ _ _ _ _)
   | (with_reducible exact LeO.refl _)
   | (with_reducible exact LeO.none _)
   | (with_reducible refine LeO.ite ?_ ?_)
   | (with_reducible refine LeO.bind ?_ (fun _ => ?_))
   | exact ih0 _ _ _ _ _ _
   | exact ih1 _ _ _ _ _ _ _
   | exact LeO.none _
   | refine LeO.ite ?_ ?_
   | refine LeO.bind ?_ (fun _ => ?_)
theorem transeptref08_Own.mono : ∀ a0 a1 a2 k, LeO (transeptref08_Own.f k a0 a1 a2) (transeptref08_Own.f (k + 1) a0 a1 a2) := by
 intro a0 a1 a2 k
 obtain ⟨ih0, ih1⟩ := transeptref08_Own.mono_l k
 unfold transeptref08_Own.f
 repeat' first
   | (with_reducible exact ih0 _ _ _ _ _ _)
   | (with_reducible exact ih1 _ _ _ _ _ _ _)
   | (with_reducible exact LeO.refl _)
   | (with_reducible exact LeO.none _)
   | (with_reducible refine LeO.ite ?_ ?_)
   | (with_reducible refine LeO.bind ?_ (fun _ => ?_))
   | exact ih0 _ _ _ _ _ _
   | exact ih1 _ _ _ _ _ _ _
   | exact LeO.none _
   | refine LeO.ite ?_ ?_
   | refine LeO.bind ?_ (fun _ => ?_)
def transeptref08_Own.T5 : Bool × List (List Nat × List Nat) := (true, [([], []), ([0], [0]), ([], []), ([2], [2]), ([], []), ([3, 4], [3, 4]), ([5], [5]), ([6], [6]), ([], []), ([8], [8]), ([], []), ([9, 10], [9, 10]), ([11], [11]), ([12], [12]), ([13], [13]), ([7, 14], [7, 14]), ([15], [15]), ([1, 16, 14], [1, 16]), ([0, 1, 2, 3, 4, 5, 6, 7, 8, 9, 10, 11, 12, 13, 14, 15, 16, 17], []), ([18, 17, 17, 0, 1, 2, 3, 4, 5, 6, 7, 8, 9, 10, 11, 12, 13, 14, 15, 16, 17], [17, 18])])
def transeptref08_Own.B5 : List Nat := [0, 1, 0, 4, 0, 28, 60, 124, 0, 256, 0, 1792, 3840, 7936, 16128, 32764, 65532, 131071, 262143, 524287]
theorem transeptref08_Own.tab5 : rtab .any (opsOf Try.f71 5) = transeptref08_Own.T5 := by kernel_rfl
theorem transeptref08_Own.bits5 : waitsOk transeptref08_Own.T5.2 transeptref08_Own.B5 = true := by kernel_rfl
def transeptref08_Own.T9 : Bool × List (List Nat × List Nat) := (true, [([], []), ([0], [0]), ([], []), ([2], [2]), ([], []), ([3, 4], [3, 4]), ([5], [5]), ([6], [6]), ([7], [7]), ([1, 8, 7], [1, 8]), ([0, 1, 2, 3, 4, 5, 6, 7, 8, 9], []), ([10, 9, 9, 0, 1, 2, 3, 4, 5, 6, 7, 8, 9], [9, 10])])
def transeptref08_Own.B9 : List Nat := [0, 1, 0, 4, 0, 28, 60, 124, 252, 511, 1023, 2047]
theorem transeptref08_Own.tab9 : rtab .any (opsOf Try.f71 9) = transeptref08_Own.T9 := by kernel_rfl
theorem transeptref08_Own.bits9 : waitsOk transeptref08_Own.T9.2 transeptref08_Own.B9 = true := by kernel_rfl
set_option maxHeartbeats 8000000 in
set_option maxRecDepth 100000 in
theorem transeptref08_Own.calls (k : Nat) (A0_0 : Option Addr) (c0_0 : Nat) (l0_0 : List (S87)) (a0_1 : Int) (A0_2 : Option Addr) (c0_2 : Nat) (l0_2 : List (List Int)) (r1 : List (S87)) (r2 : Int) (r3 : List (List Int)) (w : World) (hr0_0 : Kd.C k87 w A0_0 l0_0.length l0_0) (hc0_0 : l0_0.length ≤ c0_0) (hr0_2 : Kd.C (Kd.slice 5 (Kd.int .u8)) w A0_2 l0_2.length l0_2) (hc0_2 : l0_2.length ≤ c0_2) (h : transeptref08_Own.f k l0_0 a0_1 l0_2 = some (r1, r2, r3)) :
  Calls Try.prog 71 #[.agg #[.slice A0_0 l0_0.length c0_0, .int .i64 a0_1, .slice A0_2 l0_2.length c0_2]] w fun e w' => ∃ v0_ v2_ : Value, e = .returned (.agg #[v0_, .int .i64 r2, v2_]) ∧ Kd.S k87 87 w' w.heap.size (fun _ => True) v0_ r1 ∧ Kd.S (Kd.slice 5 (Kd.int .u8)) 26 w' w.heap.size (fun _ => True) v2_ r3 ∧ Below w.heap.size w w' := by
 have hu58 := Try.underlying58
 have hu87 := Try.underlying87
 have HR0_0 := Aside0.mk hr0_0
 have HC0_0 := Aside0.mk hc0_0
 clear hr0_0 hc0_0
 have HR0_2 := Aside0.mk hr0_2
 have HC0_2 := Aside0.mk hc0_2
 clear hr0_2 hc0_2
 have HB := Aside0.mk (Below.refl w.heap.size w)
 have H : (transeptref08_Own.l0 k 0 l0_0 a0_1 l0_2 ([] : List (S87)) a0_1) = some (r1, r2, r3) := h
 clear h
 have H' := Aside0.mk H
 clear H
 go_enter Try.func71, Try.ntmps71
 go_wp2_with (first | ((with_reducible refine gate_dst (N := 1) rfl ?_); refine bx_ 1 #[.slice A0_0 l0_0.length c0_0, .int .i64 a0_1, .slice A0_2 l0_2.length c0_2] 58 ?_; intro gb265 hg w2 hbox hb; have BK265 := Aside0.mk (hbox); have GW265 := bG_ HB hg; have GE265 := bG_ HB hg; replace HB := bS_ HB hb; clear hb hbox hg) | ((with_reducible refine gate_dst (N := 2) rfl ?_); refine bx_ 2 #[.slice none 0 0, .int .i64 0, .slice none 0 0] 58 ?_; intro gb266 hg w3 hbox hb; have BK266 := Aside0.mk (hbox); have GW266 := bG_ HB hg; have GE266 := bG_ HB hg; replace HB := bS_ HB hb; have NB265_266 := nL_ BK265 hg; have NB266_265 := nG_ BK265 hg; replace BK265 := bK_ BK265 hb; clear hb hbox hg; have hnb4 := NB265_266.out; have hnc4 := NB266_265.out; obtain ⟨hcz5_0, hcz5_1, hcz5_2, hfz5_0, hfz5_1, hfz5_2⟩ := cz3_ BK265) | ((with_reducible refine gate_dst (N := 3) rfl ?_); refine bx_ 3 #[.slice none 0 0, .int .i64 0, .slice none 0 0] 58 ?_; intro gb267 hg w6 hbox hb; have BK267 := Aside0.mk (hbox); have GW267 := bG_ HB hg; have GE267 := bG_ HB hg; replace HB := bS_ HB hb; have NB265_267 := nL_ BK265 hg; have NB267_265 := nG_ BK265 hg; replace BK265 := bK_ BK265 hb; have NB266_267 := nL_ BK266 hg; have NB267_266 := nG_ BK266 hg; replace BK266 := bK_ BK266 hb; clear hb hbox hg; have hnb7 := NB267_265.out; have hnc7 := NB265_267.out; have hnb8 := NB267_266.out; have hnc8 := NB266_267.out; obtain ⟨hcz9_0, hcz9_1, hcz9_2, hfz9_0, hfz9_1, hfz9_2⟩ := cz3_ BK267))
 go_loopg [4] k (fun kq v4 w' => ∃ (x4_1 : Int) (x268000_1 : List (S87)) (u268000 : Value), v4 = .int .i64 x4_1 ∧ Aside0 (transeptref08_Own.l0 kq x4_1 l0_0 a0_1 l0_2 x268000_1 a0_1 = some (r1, r2, r3)) ∧ Aside0 (kq ≤ k) ∧ Aside0 (Kd.S k87 87 w' w.heap.size (fun _ => True) u268000 x268000_1) ∧ Aside0 (w'.heap[gb265]? = some (.cells #[(.slice A0_0 l0_0.length c0_0), .int .i64 a0_1, (.slice A0_2 l0_2.length c0_2)] 58 (0, 0))) ∧ Aside0 (w'.heap[gb266]? = some (.cells #[(.slice none 0 0), .int .i64 0, (.slice none 0 0)] 58 (0, 0))) ∧ Aside0 (w'.heap[gb267]? = some (.cells #[u268000, .int .i64 a0_1, (.slice none 0 0)] 58 (0, 0))) ∧ Aside0 (Below w.heap.size w w'))
 case atStart => exact ⟨(0), (([] : List (S87))), (.slice none 0 0), (by first | rfl | (simp; done) | (simp [*]; done)), H', ⟨Nat.le_refl _⟩, ⟨nil_⟩, ⟨bA_ BK265⟩, ⟨bA_ BK266⟩, ⟨by (with_reducible repeat (first | refine blk_drewN ?_ _ | refine blk_drew ?_ | refine blk_alloc ?_ _)); refine blk_put (cs := #[.slice none 0 0, .int .i64 a0_1, .slice none 0 0]) ?_ 2 _ rfl; (with_reducible repeat (first | refine blk_drewN ?_ _ | refine blk_drew ?_ | refine blk_alloc ?_ _)); refine blk_put (cs := #[.slice none 0 0, .int .i64 0, .slice none 0 0]) ?_ 1 _ rfl; (with_reducible repeat (first | refine blk_drewN ?_ _ | refine blk_drew ?_ | refine blk_alloc ?_ _)); refine blk_put (cs := #[.slice none 0 0, .int .i64 0, .slice none 0 0]) ?_ 0 _ rfl; (with_reducible repeat (first | refine blk_drewN ?_ _ | refine blk_drew ?_ | refine blk_alloc ?_ _)); exact BK267.out⟩, ⟨bl_ HB⟩⟩
 case round =>
  clear H'
  try clear p2
  try clear c4
  try clear c7
  try clear c8
  try clear hcz5_0
  try clear hcz5_1
  try clear hcz5_2
  try clear hcz9_0
  try clear hcz9_1
  try clear hcz9_2
  try clear hfz5_0
  try clear hfz5_1
  try clear hfz5_2
  try clear hfz9_0
  try clear hfz9_1
  try clear hfz9_2
  obtain ⟨x4_1, x268000_1, u268000, rfl, HA, HK1, HO_268000, BK265, BK266, BK267, HB⟩ := hrel
  cases gk with
  | zero => exact absurd HA.out (by simp [transeptref08_Own.l0])
  | succ k1 =>
   have H := HA.out
   clear HA
   simp only [transeptref08_Own.l0] at H
   by_cases c10 : x4_1 < (l0_0.length : Int)
   ·rw [if_pos c10] at H
    have c10b0 : decide (x4_1 < (l0_0.length : Int)) = true := decide_eq_true c10
    clear c10
    by_cases c11 : 0 ≤ x4_1
    ·rw [if_pos c11] at H
     have c11b0 : decide (0 ≤ x4_1) = true := decide_eq_true c11
     clear c11
     replace H := Option.bind_eq_some_iff.mp H
     obtain ⟨t270, A120, H⟩ := H
     try dsimp only at H
     have A12 := Aside0.mk A120
     clear A120
     by_cases c13 : x268000_1.length < 4398046511104
     ·rw [if_pos c13] at H
      have LMc13 := Aside0.mk c13
      clear c13
      obtain ⟨y273, hy273⟩ : ∃ y_ : List (S87), y_ = (x268000_1 ++ [(⟨(rd_T87 l0_0 x4_1).f0, t270⟩ : S87)]) := ⟨_, rfl⟩
      replace H : (transeptref08_Own.l0 k1 (wrap64 (x4_1 + 1)) l0_0 a0_1 l0_2 y273 a0_1) = some (r1, r2, r3) := by first | (rw [hy273]; with_reducible exact H) | (have H2_ := (Option.bind_some _ _).symm.trans H; rw [hy273]; with_reducible exact H2_) | (have H2_ := (Option.bind_some _ _).symm.trans H; with_reducible exact H2_) | with_reducible exact H | (rw [hy273]; exact H) | exact H
      have Ny273 := Aside0.mk hy273
      clear hy273
      have H' := Aside0.mk H
      clear H
      have hnb14 := NB265_266.out
      have hnc14 := NB266_265.out
      have hnb15 := NB265_267.out
      have hnc15 := NB267_265.out
      obtain ⟨hcz16_0, hcz16_1, hcz16_2, hfz16_0, hfz16_1, hfz16_2⟩ := cz3_ BK265
      try go_wp2
      replace HO_268000 := Aside0.mk (Kd.S_drew HO_268000.out)
      replace BK265 := Aside0.mk (blk_drew BK265.out)
      replace BK266 := Aside0.mk (blk_drew BK266.out)
      replace BK267 := Aside0.mk (blk_drew BK267.out)
      replace HB := Aside0.mk (below_drew1 HB.out)
      have p268 : 0 ≤ (x4_1 : Int) := of_decide_eq_true (by first | (with_reducible assumption) | assumption)
      have q268 : x4_1 < (l0_0.length : Int) := of_decide_eq_true (by first | (with_reducible assumption) | assumption)
      obtain ⟨ad268, A268_1, c268_1, e268, hx268_0, hx268_1, hl268_1, hi268_1⟩ := at_T87 HR0_0.out x4_1 p268 q268
      have hw268_1 := hx268_1
      have hw268_0 := hx268_0
      cases e268
      replace hx268_0 := (HB.out.cell (World.block_lt_of_cell? w _ hx268_0)).trans hx268_0
      replace hx268_1 := (HB.out.cell (World.block_lt_of_cell? w _ hx268_1)).trans hx268_1
      have HR268_1 := Aside0.mk hi268_1
      have HC268_1 := Aside0.mk hl268_1
      clear hi268_1 hl268_1
      replace p268 := eq_true p268
      replace q268 := eq_true q268
      have p269 : 0 ≤ (x4_1 : Int) := of_decide_eq_true (by first | (with_reducible assumption) | assumption)
      have q269 : x4_1 < (l0_0.length : Int) := of_decide_eq_true (by first | (with_reducible assumption) | assumption)
      obtain ⟨ad269, A269_1, c269_1, e269, hx269_0, hx269_1, hl269_1, hi269_1⟩ := at_T87 HR0_0.out x4_1 p269 q269
      have hw269_1 := hx269_1
      have hw269_0 := hx269_0
      obtain rfl : ad268 = ad269 := (by injection e269)
      replace hx269_0 := (HB.out.cell (World.block_lt_of_cell? w _ hx269_0)).trans hx269_0
      replace hx269_1 := (HB.out.cell (World.block_lt_of_cell? w _ hx269_1)).trans hx269_1
      have HR269_1 := Aside0.mk hi269_1
      have HC269_1 := Aside0.mk hl269_1
      clear hi269_1 hl269_1
      replace p269 := eq_true p269
      replace q269 := eq_true q269
      have ea_ := Option.some.inj (hx268_1.symm.trans hx269_1)
      injection ea_ with ea_ en_ ec_
      subst ea_
      subst ec_
      clear en_
      refine start_ (n := 20) (S := fun w' => w'.cell? ⟨gb267, 0, none⟩ = some (u268000) ∧ w'.cell? ⟨gb267, 1, none⟩ = some (.int .i64 a0_1) ∧ w'.cell? ⟨gb267, 2, none⟩ = some (.slice none 0 0) ∧ w'.cell? ⟨gb265, 0, none⟩ = some (.slice (some ad268) l0_0.length c0_0) ∧ w'.cell? ⟨gb265, 1, none⟩ = some (.int .i64 a0_1) ∧ w'.cell? ⟨gb265, 2, none⟩ = some (.slice A0_2 l0_2.length c0_2) ∧ w'.cell? (ad268.add ((x4_1).toNat * 2)) = some (.int .i64 ((rd_T87 l0_0 x4_1).f0)) ∧ w'.cell? ⟨(ad268.add ((x4_1).toNat * 2)).block, (ad268.add ((x4_1).toNat * 2)).off + 1, none⟩ = some (.slice A268_1 ((rd_T87 l0_0 x4_1).f1).length c268_1) ∧ w'.cell? (ad268.add ((x4_1).toNat * 2)) = some (.int .i64 ((rd_T87 l0_0 x4_1).f0)) ∧ w'.cell? ⟨(ad268.add ((x4_1).toNat * 2)).block, (ad268.add ((x4_1).toNat * 2)).off + 1, none⟩ = some (.slice A268_1 ((rd_T87 l0_0 x4_1).f1).length c268_1)) (ds := [19]) #[false, false, false, false, false, false, false, false, false, false, false, false, false, false, false, false, false, false, false, false] (by kernel_rfl) rfl rfl ⟨(blk_cell BK267.out 0).trans rfl, (blk_cell BK267.out 1).trans rfl, (blk_cell BK267.out 2).trans rfl, (blk_cell BK265.out 0).trans rfl, (blk_cell BK265.out 1).trans rfl, (blk_cell BK265.out 2).trans rfl, ((HB.out.cell (World.block_lt_of_cell? w _ hw268_0)).trans hw268_0), ((HB.out.cell (World.block_lt_of_cell? w _ hw268_1)).trans hw268_1), ((HB.out.cell (World.block_lt_of_cell? w _ hw269_0)).trans hw269_0), ((HB.out.cell (World.block_lt_of_cell? w _ hw269_1)).trans hw269_1)⟩ (fun hHeld => ?_); refine with_tabW transeptref08_Own.tab5 transeptref08_Own.bits5 (fun HT_ HW_ => ?_)
      generalize wr.drew = w17 at HO_268000 BK265 BK266 BK267 HB HR268_1 HR269_1 hx268_0 hx268_1 hx269_0 hx269_1 hHeld ⊢
      refine pu_ 0 (some 16) HT_ ?_
      refine pu_ 2 (some 18) HT_ ?_
      refine pu_ 4 (some 20) HT_ ?_
      refine pu_ 8 (some 24) HT_ ?_
      refine pu_ 10 (some 26) HT_ ?_
      refine tk_ 1 (some 17) HT_ HW_ hHeld ?_
      refine tk_ 3 (some 19) HT_ HW_ hHeld ?_
      refine pu_ 5 (some 21) HT_ ?_
      refine pu_ 6 (some 22) HT_ ?_
      refine tk_ 7 (some 23) HT_ HW_ hHeld ?_
      refine tk_ 9 (some 25) HT_ HW_ hHeld ?_
      refine pu_ 11 (some 27) HT_ ?_
      refine pu_ 12 (some 28) HT_ ?_
      refine tk_ 13 (some 29) HT_ HW_ hHeld ?_
      refine on_ 14 (some 30) HT_ (fun K hK => ?_)
      refine goes_ Try.func72 (by kernel_rfl) rfl #[.slice A268_1 ((rd_T87 l0_0 x4_1).f1).length c268_1] (by rfl) rfl rfl (by (try simp only [List.map_toArray, List.map_cons, List.map_nil]); first | done | rfl | (simp only [List.length_drop, List.length_take]; rfl)) ?_
      with_reducible refine (transeptref03_Copied.calls _ _ ((rd_T87 l0_0 x4_1).f1) t270 _ ?_ ?_ A12.out).mono ?_
      exact cB_ HR269_1 HB
      exact HC269_1.out
      rintro e w18 ⟨v271, rfl, ho0, hb⟩
      refine ⟨_, rfl, ?_⟩
      replace HO_268000 := Aside0.mk (Kd.S_elder' (sA_ HO_268000) (Kd.R_base ho0) hb)
      have HO272 := Aside0.mk (Kd.R_lower ho0 (bs_ HB))
      replace BK265 := bK_ BK265 hb
      replace BK266 := bK_ BK266 hb
      replace BK267 := bK_ BK267 hb
      replace HB := bS_ HB hb
      (try clear hb ho0)
      obtain ⟨Ao19, co19, eo19⟩ := Kd.R_slice HO272.out
      (first | subst eo19 | (injection eo19 with f1_ f2_ f3_; have f4_ := f1_.symm; have f5_ := f3_.symm; clear f1_ f2_ f3_; subst f4_; subst f5_))
      refine hK.out _ _ ⟨(blk_cell BK267.out 0).trans rfl, (blk_cell BK267.out 1).trans rfl, (blk_cell BK267.out 2).trans rfl, (blk_cell BK265.out 0).trans rfl, (blk_cell BK265.out 1).trans rfl, (blk_cell BK265.out 2).trans rfl, ((HB.out.cell (World.block_lt_of_cell? w _ hw268_0)).trans hw268_0), ((HB.out.cell (World.block_lt_of_cell? w _ hw268_1)).trans hw268_1), ((HB.out.cell (World.block_lt_of_cell? w _ hw269_0)).trans hw269_0), ((HB.out.cell (World.block_lt_of_cell? w _ hw269_1)).trans hw269_1)⟩ (fun hHeld => ?_)
      clear hK K
      refine norm_ (a' := ?_) ?_ ?_
      rotate_left
      ·show Act.put _ (some 30) _ = _
       simp only [Act.put, List.setIfInBounds_toArray, List.set_cons_zero, List.set_cons_succ, i64_w, i32_w]
       rfl
      refine pu_ 15 (some 31) HT_ ?_
      refine on_ 16 (some 32) HT_ (fun K hK => ?_)
      refine value_ (w1 := ?_) (v := ?_) (by rfl) rfl ?_ ?_
      rotate_left 2
      ·go_simp
       constructor
       ·rfl
       ·rfl
      refine hK.out _ _ ⟨(blk_cell (blk_alloc BK267.out _) 0).trans rfl, (blk_cell (blk_alloc BK267.out _) 1).trans rfl, (blk_cell (blk_alloc BK267.out _) 2).trans rfl, (blk_cell (blk_alloc BK265.out _) 0).trans rfl, (blk_cell (blk_alloc BK265.out _) 1).trans rfl, (blk_cell (blk_alloc BK265.out _) 2).trans rfl, (World.cell?_alloc_lt _ _ _ (World.block_lt_of_cell? _ _ (((HB.out.cell (World.block_lt_of_cell? w _ hw268_0)).trans hw268_0)))).trans (((HB.out.cell (World.block_lt_of_cell? w _ hw268_0)).trans hw268_0)), (World.cell?_alloc_lt _ _ _ (World.block_lt_of_cell? _ _ (((HB.out.cell (World.block_lt_of_cell? w _ hw268_1)).trans hw268_1)))).trans (((HB.out.cell (World.block_lt_of_cell? w _ hw268_1)).trans hw268_1)), (World.cell?_alloc_lt _ _ _ (World.block_lt_of_cell? _ _ (((HB.out.cell (World.block_lt_of_cell? w _ hw269_0)).trans hw269_0)))).trans (((HB.out.cell (World.block_lt_of_cell? w _ hw269_0)).trans hw269_0)), (World.cell?_alloc_lt _ _ _ (World.block_lt_of_cell? _ _ (((HB.out.cell (World.block_lt_of_cell? w _ hw269_1)).trans hw269_1)))).trans (((HB.out.cell (World.block_lt_of_cell? w _ hw269_1)).trans hw269_1))⟩ (fun hHeld => ?_)
      clear hK K
      refine norm_ (a' := ?_) ?_ ?_
      rotate_left
      ·show Act.put _ (some 32) _ = _
       simp only [Act.put, List.setIfInBounds_toArray, List.set_cons_zero, List.set_cons_succ, i64_w, i32_w]
       rfl
      refine on_ 17 (some 33) HT_ (fun K hK => ?_)
      refine Kd.S_append_step k87 (w0 := w) w.heap.size (by rfl) (.tmp 17) (.tmp 32) 55 87 (.agg #[(.int .i64 0), (.slice none 0 0)]) 32 rfl Try.underlying55 info87 rfl (by decide) (by omega) u268000 x268000_1 (⟨(rd_T87 l0_0 x4_1).f0, t270⟩ : S87) [.int .i64 ((rd_T87 l0_0 x4_1).f0), .slice Ao19 t270.length co19] (fun _ => True) (fun k_ => some k_ = (.slice Ao19 t270.length co19 : Value).ownBlock) rfl rfl ?aP (fun k_ hk_ => ((Kd.R_mono (ok' := fun k_ => ((fun _ => True)) k_ ∧ some k_ ≠ (u268000 : Value).ownBlock) (Kd.R_apart' (HO272.out) (Kd.S_typed HO_268000.out) (by decide)) (fun k_ hk => ⟨trivial, hk.2⟩))).1 k_ hk_.symm) ?aF ?aO ?aB ?aS ?aL ?_
      (case aP => exact k87_mkM _ _ _ (⟨(rd_T87 l0_0 x4_1).f0, t270⟩ : S87) (Kd.R_mono (Kd.R_tight rfl (Kd.R_mono (ok' := fun k_ => ((fun _ => True)) k_ ∧ some k_ ≠ (u268000 : Value).ownBlock) (Kd.R_apart' (HO272.out) (Kd.S_typed HO_268000.out) (by decide)) (fun k_ hk => ⟨trivial, hk.2⟩))) (fun _ h_ => h_)))
      (case aB => exact (bl_ HB))
      (case aF => exact (fun _ _ => trivial))
      (case aO => exact (by (with_reducible repeat (first | apply Kd.S_alloc | apply Kd.S_drewN | apply Kd.S_drew)); exact Kd.S_mono HO_268000.out (fun k_ hk => ⟨trivial, fun e_ => hk.2 e_⟩)))
      (case aS => exact (bs_ HB))
      (case aL => have := LMc13.out; omega)
      intro v274 w20 ho hb hg hat
      rw [← Ny273.out] at ho
      replace BK265 := Aside0.mk (blk_grown (bA_ BK265) hg (Kd.S_ne HO_268000.out BK265.out (by decide)))
      replace BK266 := Aside0.mk (blk_grown (bA_ BK266) hg (Kd.S_ne HO_268000.out BK266.out (by decide)))
      replace BK267 := Aside0.mk (blk_grown (bA_ BK267) hg (Kd.S_ne HO_268000.out BK267.out (by decide)))
      replace HB := Aside0.mk (hb)
      have HO275 := Aside0.mk (ho)
      clear HO_268000 HO272
      clear ho hb hg hat
      obtain ⟨Ao21, co21, eo21⟩ := Kd.S_slice HO275.out
      (first | subst eo21 | (injection eo21 with f1_ f2_ f3_; have f4_ := f1_.symm; have f5_ := f3_.symm; clear f1_ f2_ f3_; subst f4_; subst f5_))
      refine hK.out _ _ ⟨(blk_cell BK267.out 0).trans rfl, (blk_cell BK267.out 1).trans rfl, (blk_cell BK267.out 2).trans rfl, (blk_cell BK265.out 0).trans rfl, (blk_cell BK265.out 1).trans rfl, (blk_cell BK265.out 2).trans rfl, ((HB.out.cell (World.block_lt_of_cell? w _ hw268_0)).trans hw268_0), ((HB.out.cell (World.block_lt_of_cell? w _ hw268_1)).trans hw268_1), ((HB.out.cell (World.block_lt_of_cell? w _ hw269_0)).trans hw269_0), ((HB.out.cell (World.block_lt_of_cell? w _ hw269_1)).trans hw269_1)⟩ (fun hHeld => ?_)
      clear hK K
      refine norm_ (a' := ?_) ?_ ?_
      rotate_left
      ·show Act.put _ (some 33) _ = _
       simp only [Act.put, List.setIfInBounds_toArray, List.set_cons_zero, List.set_cons_succ, i64_w, i32_w]
       rfl
      refine pu_ 18 (some 34) HT_ ?_
      refine last_ (i := 19) (N := none) #[true, true, true, true, true, true, true, true, true, true, true, true, true, true, true, true, true, true, true, true] rfl rfl (one_of HT_.out (by kernel_rfl)) (by decide) (fun K hK => ?_)
      have hs22 : w20.cell? ⟨gb267, 0, none⟩ = some (u268000) := (blk_cell BK267.out 0).trans rfl
      have hfs22 := blk_frozen BK267.out 0
      have hns22_0 := NB265_267.out
      have hns22_1 := NB266_267.out
      have hms22_0 := NB267_265.out
      have hms22_1 := NB267_266.out
      refine skip_ (w1 := ?_) (by rfl) rfl ?_ ?_
      rotate_left
      ·go_simp
       rfl
      refine hK.out _ _ ?_
      clear hK K
      refine done_ (done_of HT_.out (by kernel_rfl)) ?_
      try go_wp2
      go_roundg k1
      case measure => have := HK1.out; omega
      case rel => exact ⟨(wrap64 (x4_1 + 1)), (y273), (.slice Ao21 y273.length co21), (by first | rfl | (simp; done) | (simp [*]; done)), H', ⟨by have := HK1.out; omega⟩, ⟨by (with_reducible repeat (first | apply Kd.S_alloc | apply Kd.S_drewN | apply Kd.S_drew)); exact Kd.S_mono (Kd.S_far (p := ⟨gb267, 0, none⟩) (Kd.S_types HO275.out BK267.out (by decide)) (fun _ hk => hk.2) (.slice Ao21 y273.length co21)) (fun _ hk => trivial)⟩, ⟨bA_ BK265⟩, ⟨bA_ BK266⟩, ⟨by (with_reducible repeat (first | refine blk_drewN ?_ _ | refine blk_drew ?_ | refine blk_alloc ?_ _)); refine blk_put (cs := #[u268000, .int .i64 a0_1, .slice none 0 0]) ?_ 0 _ rfl; (with_reducible repeat (first | refine blk_drewN ?_ _ | refine blk_drew ?_ | refine blk_alloc ?_ _)); exact BK267.out⟩, ⟨bl_ HB⟩⟩
     ·rw [if_neg c13] at H
      exact absurd H (by simp)
    ·rw [if_neg c11] at H
     exact absurd H (by simp)
   ·rw [if_neg c10] at H
    have c10b0 : decide (x4_1 < (l0_0.length : Int)) = false := decide_eq_false c10
    clear c10
    have H' := Aside0.mk H
    clear H
    have hnb23 := NB265_266.out
    have hnc23 := NB266_265.out
    have hnb24 := NB265_267.out
    have hnc24 := NB267_265.out
    obtain ⟨hcz25_0, hcz25_1, hcz25_2, hfz25_0, hfz25_1, hfz25_2⟩ := cz3_ BK265
    go_wp2
    go_loopg [5] k1 (fun kq v5 w' => ∃ (x5_2 : Int) (x268002_2 : List (List Int)) (u268002 : Value), v5 = .int .i64 x5_2 ∧ Aside0 (transeptref08_Own.l1 kq x5_2 l0_0 a0_1 l0_2 x268000_1 a0_1 x268002_2 = some (r1, r2, r3)) ∧ Aside0 (kq ≤ k1) ∧ Aside0 (Kd.S k87 87 w' w.heap.size (fun _ => True) u268000 x268000_1) ∧ Aside0 (Kd.S (Kd.slice 5 (Kd.int .u8)) 26 w' w.heap.size (fun _ => True) u268002 x268002_2) ∧ Aside0 (w'.heap[gb265]? = some (.cells #[(.slice A0_0 l0_0.length c0_0), .int .i64 a0_1, (.slice A0_2 l0_2.length c0_2)] 58 (0, 0))) ∧ Aside0 (w'.heap[gb266]? = some (.cells #[(.slice none 0 0), .int .i64 0, (.slice none 0 0)] 58 (0, 0))) ∧ Aside0 (w'.heap[gb267]? = some (.cells #[u268000, .int .i64 a0_1, u268002] 58 (0, 0))) ∧ Aside0 (Below w.heap.size w w'))
    case atStart => exact ⟨(0), (([] : List (List Int))), (.slice none 0 0), (by first | rfl | (simp; done) | (simp [*]; done)), H', ⟨Nat.le_refl _⟩, ⟨sA_ HO_268000⟩, ⟨nil_⟩, ⟨bA_ BK265⟩, ⟨bA_ BK266⟩, ⟨bA_ BK267⟩, ⟨bl_ HB⟩⟩
    case round =>
     clear H'
     try clear c1
     try clear c2
     try clear p2
     try clear q2
     try clear hx2
     try clear c4
     try clear p6
     try clear c7
     try clear c8
     try clear c10
     try clear c10b0
     try clear c11
     try clear c11b0
     try clear c13
     try clear c14
     try clear c15
     try clear c23
     try clear c24
     try clear hcz16_0
     try clear hcz16_1
     try clear hcz16_2
     try clear hcz25_0
     try clear hcz25_1
     try clear hcz25_2
     try clear hcz5_0
     try clear hcz5_1
     try clear hcz5_2
     try clear hcz9_0
     try clear hcz9_1
     try clear hcz9_2
     try clear hfz16_0
     try clear hfz16_1
     try clear hfz16_2
     try clear hfz25_0
     try clear hfz25_1
     try clear hfz25_2
     try clear hfz5_0
     try clear hfz5_1
     try clear hfz5_2
     try clear hfz9_0
     try clear hfz9_1
     try clear hfz9_2
     try clear hx268_0
     try clear hx268_1
     try clear hx269_0
     try clear hx269_1
     try clear p2
     try clear p268
     try clear p269
     try clear q268
     try clear q269
     obtain ⟨x5_2, x268002_2, u268002, rfl, HA, HK2, HO_268000, HO_268002, BK265, BK266, BK267, HB⟩ := hrel
     cases gk with
     | zero => exact absurd HA.out (by simp [transeptref08_Own.l1])
     | succ k2 =>
      have H := HA.out
      clear HA
      simp only [transeptref08_Own.l1] at H
      by_cases c26 : x5_2 < (l0_2.length : Int)
      ·rw [if_pos c26] at H
       have c26b0 : decide (x5_2 < (l0_2.length : Int)) = true := decide_eq_true c26
       clear c26
       by_cases c27 : 0 ≤ x5_2
       ·rw [if_pos c27] at H
        have c27b0 : decide (0 ≤ x5_2) = true := decide_eq_true c27
        clear c27
        replace H := Option.bind_eq_some_iff.mp H
        obtain ⟨t277, A280, H⟩ := H
        try dsimp only at H
        have A28 := Aside0.mk A280
        clear A280
        by_cases c29 : x268002_2.length < 5864062014805
        ·rw [if_pos c29] at H
         have LMc29 := Aside0.mk c29
         clear c29
         obtain ⟨y280, hy280⟩ : ∃ y_ : List (List Int), y_ = (x268002_2 ++ [t277]) := ⟨_, rfl⟩
         replace H : (transeptref08_Own.l1 k2 (wrap64 (x5_2 + 1)) l0_0 a0_1 l0_2 x268000_1 a0_1 y280) = some (r1, r2, r3) := by first | (rw [hy280]; with_reducible exact H) | (have H2_ := (Option.bind_some _ _).symm.trans H; rw [hy280]; with_reducible exact H2_) | (have H2_ := (Option.bind_some _ _).symm.trans H; with_reducible exact H2_) | with_reducible exact H | (rw [hy280]; exact H) | exact H
         have Ny280 := Aside0.mk hy280
         clear hy280
         have H' := Aside0.mk H
         clear H
         have hnb30 := NB265_266.out
         have hnc30 := NB266_265.out
         have hnb31 := NB265_267.out
         have hnc31 := NB267_265.out
         obtain ⟨hcz32_0, hcz32_1, hcz32_2, hfz32_0, hfz32_1, hfz32_2⟩ := cz3_ BK265
         try go_wp2
         replace HO_268000 := Aside0.mk (Kd.S_drew HO_268000.out)
         replace HO_268002 := Aside0.mk (Kd.S_drew HO_268002.out)
         replace BK265 := Aside0.mk (blk_drew BK265.out)
         replace BK266 := Aside0.mk (blk_drew BK266.out)
         replace BK267 := Aside0.mk (blk_drew BK267.out)
         replace HB := Aside0.mk (below_drew1 HB.out)
         have p276 : 0 ≤ (x5_2 : Int) := of_decide_eq_true (by first | (with_reducible assumption) | assumption)
         have q276 : x5_2 < (l0_2.length : Int) := of_decide_eq_true (by first | (with_reducible assumption) | assumption)
         obtain ⟨ad276, A276_0, c276_0, e276, hx276_0, hl276_0, hi276_0⟩ := at_L1 HR0_2.out x5_2 p276 q276
         have hw276_0 := hx276_0
         cases e276
         replace hx276_0 := (HB.out.cell (World.block_lt_of_cell? w _ hx276_0)).trans hx276_0
         have HR276_0 := Aside0.mk hi276_0
         have HC276_0 := Aside0.mk hl276_0
         clear hi276_0 hl276_0
         replace p276 := eq_true p276
         replace q276 := eq_true q276
         refine start_ (n := 12) (S := fun w' => w'.cell? ⟨gb267, 0, none⟩ = some (u268000) ∧ w'.cell? ⟨gb267, 1, none⟩ = some (.int .i64 a0_1) ∧ w'.cell? ⟨gb267, 2, none⟩ = some (u268002) ∧ w'.cell? ⟨gb265, 0, none⟩ = some (.slice A0_0 l0_0.length c0_0) ∧ w'.cell? ⟨gb265, 1, none⟩ = some (.int .i64 a0_1) ∧ w'.cell? ⟨gb265, 2, none⟩ = some (.slice (some ad276) l0_2.length c0_2) ∧ w'.cell? (ad276.add (x5_2).toNat) = some (.slice A276_0 (rd_L1 l0_2 x5_2).length c276_0)) (ds := [11]) #[false, false, false, false, false, false, false, false, false, false, false, false] (by kernel_rfl) rfl rfl ⟨(blk_cell BK267.out 0).trans rfl, (blk_cell BK267.out 1).trans rfl, (blk_cell BK267.out 2).trans rfl, (blk_cell BK265.out 0).trans rfl, (blk_cell BK265.out 1).trans rfl, (blk_cell BK265.out 2).trans rfl, ((HB.out.cell (World.block_lt_of_cell? w _ hw276_0)).trans hw276_0)⟩ (fun hHeld => ?_); refine with_tabW transeptref08_Own.tab9 transeptref08_Own.bits9 (fun HT_ HW_ => ?_)
         generalize wr.drew = w33 at HO_268000 HO_268002 BK265 BK266 BK267 HB HR276_0 hx276_0 hHeld ⊢
         refine pu_ 0 (some 42) HT_ ?_
         refine pu_ 2 (some 44) HT_ ?_
         refine pu_ 4 (some 46) HT_ ?_
         refine tk_ 1 (some 43) HT_ HW_ hHeld ?_
         refine tk_ 3 (some 45) HT_ HW_ hHeld ?_
         refine pu_ 5 (some 47) HT_ ?_
         refine tk_ 6 (some 48) HT_ HW_ hHeld ?_
         refine on_ 7 (some 49) HT_ (fun K hK => ?_)
         refine goes_ Try.func72 (by kernel_rfl) rfl #[.slice A276_0 (rd_L1 l0_2 x5_2).length c276_0] (by rfl) rfl rfl (by (try simp only [List.map_toArray, List.map_cons, List.map_nil]); first | done | rfl | (simp only [List.length_drop, List.length_take]; rfl)) ?_
         with_reducible refine (transeptref03_Copied.calls _ _ (rd_L1 l0_2 x5_2) t277 _ ?_ ?_ A28.out).mono ?_
         exact cB_ HR276_0 HB
         exact HC276_0.out
         rintro e w34 ⟨v278, rfl, ho0, hb⟩
         refine ⟨_, rfl, ?_⟩
         replace HO_268000 := Aside0.mk (Kd.S_elder' (sA_ HO_268000) (Kd.R_base ho0) hb)
         replace HO_268002 := Aside0.mk (Kd.S_elder' (sA_ HO_268002) (Kd.R_base ho0) hb)
         have HO279 := Aside0.mk (Kd.R_lower ho0 (bs_ HB))
         replace BK265 := bK_ BK265 hb
         replace BK266 := bK_ BK266 hb
         replace BK267 := bK_ BK267 hb
         replace HB := bS_ HB hb
         (try clear hb ho0)
         obtain ⟨Ao36, co36, eo36⟩ := Kd.R_slice HO279.out
         (first | subst eo36 | (injection eo36 with f1_ f2_ f3_; have f4_ := f1_.symm; have f5_ := f3_.symm; clear f1_ f2_ f3_; subst f4_; subst f5_))
         refine hK.out _ _ ⟨(blk_cell BK267.out 0).trans rfl, (blk_cell BK267.out 1).trans rfl, (blk_cell BK267.out 2).trans rfl, (blk_cell BK265.out 0).trans rfl, (blk_cell BK265.out 1).trans rfl, (blk_cell BK265.out 2).trans rfl, ((HB.out.cell (World.block_lt_of_cell? w _ hw276_0)).trans hw276_0)⟩ (fun hHeld => ?_)
         clear hK K
         refine norm_ (a' := ?_) ?_ ?_
         rotate_left
         ·show Act.put _ (some 49) _ = _
          simp only [Act.put, List.setIfInBounds_toArray, List.set_cons_zero, List.set_cons_succ, i64_w, i32_w]
          rfl
         refine on_ 8 (some 50) HT_ (fun K hK => ?_)
         refine value_ (w1 := ?_) (v := ?_) (by rfl) rfl ?_ ?_
         rotate_left 2
         ·go_simp
          constructor
          ·rfl
          ·rfl
         refine hK.out _ _ ⟨(blk_cell (blk_alloc BK267.out _) 0).trans rfl, (blk_cell (blk_alloc BK267.out _) 1).trans rfl, (blk_cell (blk_alloc BK267.out _) 2).trans rfl, (blk_cell (blk_alloc BK265.out _) 0).trans rfl, (blk_cell (blk_alloc BK265.out _) 1).trans rfl, (blk_cell (blk_alloc BK265.out _) 2).trans rfl, (World.cell?_alloc_lt _ _ _ (World.block_lt_of_cell? _ _ (((HB.out.cell (World.block_lt_of_cell? w _ hw276_0)).trans hw276_0)))).trans (((HB.out.cell (World.block_lt_of_cell? w _ hw276_0)).trans hw276_0))⟩ (fun hHeld => ?_)
         clear hK K
         refine norm_ (a' := ?_) ?_ ?_
         rotate_left
         ·show Act.put _ (some 50) _ = _
          simp only [Act.put, List.setIfInBounds_toArray, List.set_cons_zero, List.set_cons_succ, i64_w, i32_w]
          rfl
         refine on_ 9 (some 51) HT_ (fun K hK => ?_)
         refine Kd.S_append_step (Kd.slice 5 (Kd.int .u8)) (w0 := w) w.heap.size (by rfl) (.tmp 43) (.tmp 50) 56 26 (.slice none 0 0) 24 rfl Try.underlying56 info26 rfl (by decide) (by omega) u268002 x268002_2 t277 [.slice Ao36 t277.length co36] (fun _ => True) (fun k_ => some k_ = (.slice Ao36 t277.length co36 : Value).ownBlock) rfl rfl ?aP (fun k_ hk_ => ((Kd.R_mono (ok' := fun k_ => ((fun _ => True)) k_ ∧ some k_ ≠ (u268002 : Value).ownBlock) (Kd.R_apart' (HO279.out) (Kd.S_typed HO_268002.out) (by decide)) (fun k_ hk => ⟨trivial, hk.2⟩))).1 k_ hk_.symm) ?aF ?aO ?aB ?aS ?aL ?_
         (case aP => exact Kd.M_row (Kd.R_mono (Kd.R_tight rfl (Kd.R_mono (ok' := fun k_ => ((fun _ => True)) k_ ∧ some k_ ≠ (u268002 : Value).ownBlock) (Kd.R_apart' (HO279.out) (Kd.S_typed HO_268002.out) (by decide)) (fun k_ hk => ⟨trivial, hk.2⟩))) (fun _ h_ => h_)))
         (case aB => exact (bl_ HB))
         (case aF => exact (fun _ _ => trivial))
         (case aO => exact (by (with_reducible repeat (first | apply Kd.S_alloc | apply Kd.S_drewN | apply Kd.S_drew)); exact Kd.S_mono HO_268002.out (fun k_ hk => ⟨trivial, fun e_ => hk.2 e_⟩)))
         (case aS => exact (bs_ HB))
         (case aL => have := LMc29.out; omega)
         intro v281 w35 ho hb hg hat
         rw [← Ny280.out] at ho
         replace HO_268000 := Aside0.mk (Kd.S_over' (sA_ HO_268000) (Kd.S_typed (sA_ HO_268002)) (by decide) hg)
         replace BK265 := Aside0.mk (blk_grown (bA_ BK265) hg (Kd.S_ne HO_268002.out BK265.out (by decide)))
         replace BK266 := Aside0.mk (blk_grown (bA_ BK266) hg (Kd.S_ne HO_268002.out BK266.out (by decide)))
         replace BK267 := Aside0.mk (blk_grown (bA_ BK267) hg (Kd.S_ne HO_268002.out BK267.out (by decide)))
         replace HB := Aside0.mk (hb)
         have HO282 := Aside0.mk (ho)
         clear HO_268002 HO279
         clear ho hb hg hat
         obtain ⟨Ao37, co37, eo37⟩ := Kd.S_slice HO282.out
         (first | subst eo37 | (injection eo37 with f1_ f2_ f3_; have f4_ := f1_.symm; have f5_ := f3_.symm; clear f1_ f2_ f3_; subst f4_; subst f5_))
         refine hK.out _ _ ⟨(blk_cell BK267.out 0).trans rfl, (blk_cell BK267.out 1).trans rfl, (blk_cell BK267.out 2).trans rfl, (blk_cell BK265.out 0).trans rfl, (blk_cell BK265.out 1).trans rfl, (blk_cell BK265.out 2).trans rfl, ((HB.out.cell (World.block_lt_of_cell? w _ hw276_0)).trans hw276_0)⟩ (fun hHeld => ?_)
         clear hK K
         refine norm_ (a' := ?_) ?_ ?_
         rotate_left
         ·show Act.put _ (some 51) _ = _
          simp only [Act.put, List.setIfInBounds_toArray, List.set_cons_zero, List.set_cons_succ, i64_w, i32_w]
          rfl
         refine pu_ 10 (some 52) HT_ ?_
         refine last_ (i := 11) (N := none) #[true, true, true, true, true, true, true, true, true, true, true, true] rfl rfl (one_of HT_.out (by kernel_rfl)) (by decide) (fun K hK => ?_)
         have hs38 : w35.cell? ⟨gb267, 2, none⟩ = some (u268002) := (blk_cell BK267.out 2).trans rfl
         have hfs38 := blk_frozen BK267.out 2
         have hns38_0 := NB265_267.out
         have hns38_1 := NB266_267.out
         have hms38_0 := NB267_265.out
         have hms38_1 := NB267_266.out
         refine skip_ (w1 := ?_) (by rfl) rfl ?_ ?_
         rotate_left
         ·go_simp
          rfl
         refine hK.out _ _ ?_
         clear hK K
         refine done_ (done_of HT_.out (by kernel_rfl)) ?_
         try go_wp2
         go_roundg k2
         case measure => have := HK1.out; have := HK2.out; omega
         case rel => exact ⟨(wrap64 (x5_2 + 1)), (y280), (.slice Ao37 y280.length co37), (by first | rfl | (simp; done) | (simp [*]; done)), H', ⟨by have := HK1.out; have := HK2.out; omega⟩, ⟨by (with_reducible repeat (first | apply Kd.S_alloc | apply Kd.S_drewN | apply Kd.S_drew)); exact Kd.S_mono (Kd.S_far (p := ⟨gb267, 2, none⟩) (Kd.S_types HO_268000.out BK267.out (by decide)) (fun _ hk => hk.2) (.slice Ao37 y280.length co37)) (fun _ hk => trivial)⟩, ⟨by (with_reducible repeat (first | apply Kd.S_alloc | apply Kd.S_drewN | apply Kd.S_drew)); exact Kd.S_mono (Kd.S_far (p := ⟨gb267, 2, none⟩) (Kd.S_types HO282.out BK267.out (by decide)) (fun _ hk => hk.2) (.slice Ao37 y280.length co37)) (fun _ hk => trivial)⟩, ⟨bA_ BK265⟩, ⟨bA_ BK266⟩, ⟨by (with_reducible repeat (first | refine blk_drewN ?_ _ | refine blk_drew ?_ | refine blk_alloc ?_ _)); refine blk_put (cs := #[u268000, .int .i64 a0_1, u268002]) ?_ 2 _ rfl; (with_reducible repeat (first | refine blk_drewN ?_ _ | refine blk_drew ?_ | refine blk_alloc ?_ _)); exact BK267.out⟩, ⟨bl_ HB⟩⟩
        ·rw [if_neg c29] at H
         exact absurd H (by simp)
       ·rw [if_neg c27] at H
        exact absurd H (by simp)
      ·rw [if_neg c26] at H
       have c26b0 : decide (x5_2 < (l0_2.length : Int)) = false := decide_eq_false c26
       clear c26
       simp only [Option.some.injEq, Prod.mk.injEq] at H
       obtain ⟨rfl, rfl, rfl⟩ := H
       have hnb39 := NB265_266.out
       have hnc39 := NB266_265.out
       have hnb40 := NB265_267.out
       have hnc40 := NB267_265.out
       obtain ⟨hcz41_0, hcz41_1, hcz41_2, hfz41_0, hfz41_1, hfz41_2⟩ := cz3_ BK265
       have hnb42 := NB267_266.out
       have hnc42 := NB266_267.out
       obtain ⟨hcz43_0, hcz43_1, hcz43_2, hfz43_0, hfz43_1, hfz43_2⟩ := cz3_ BK267
       obtain ⟨Ao44, co44, eo44⟩ := Kd.S_slice HO_268000.out
       subst eo44
       obtain ⟨hcz45_0, hcz45_1, hcz45_2, hfz45_0, hfz45_1, hfz45_2⟩ := cz3_ BK266
       obtain ⟨Ao46, co46, eo46⟩ := Kd.S_slice HO_268002.out
       subst eo46
       go_wp2
       refine bodyPost_ret (results_cell_row rfl _ _ gb266 58 #[.slice Ao44 x268000_1.length co44, .int .i64 a0_1, .slice Ao46 x268002_2.length co46] (0, 0) _ rfl (by (with_reducible repeat (first | refine blk_drewN ?_ _ | refine blk_drew ?_ | refine blk_alloc ?_ _)); refine blk_put (cs := #[.slice Ao44 x268000_1.length co44, .int .i64 a0_1, .slice none 0 0]) ?_ 2 _ rfl; (with_reducible repeat (first | refine blk_drewN ?_ _ | refine blk_drew ?_ | refine blk_alloc ?_ _)); refine blk_put (cs := #[.slice Ao44 x268000_1.length co44, .int .i64 0, .slice none 0 0]) ?_ 1 _ rfl; (with_reducible repeat (first | refine blk_drewN ?_ _ | refine blk_drew ?_ | refine blk_alloc ?_ _)); refine blk_put (cs := #[.slice none 0 0, .int .i64 0, .slice none 0 0]) ?_ 0 _ rfl; (with_reducible repeat (first | refine blk_drewN ?_ _ | refine blk_drew ?_ | refine blk_alloc ?_ _)); exact BK266.out) Try.underlying58 rfl (by kernel_rfl)) rfl ?_
       exact ⟨_, _, fin_, by (with_reducible repeat (first | apply Kd.S_alloc | apply Kd.S_drewN | apply Kd.S_drew)); exact Kd.S_mono (Kd.S_far (p := ⟨gb266, 2, none⟩) (Kd.S_far (p := ⟨gb266, 1, none⟩) (Kd.S_far (p := ⟨gb266, 0, none⟩) (Kd.S_types HO_268000.out BK266.out (by decide)) (fun _ hk => hk.2) (.slice Ao44 x268000_1.length co44)) (fun _ hk => hk.2) (.int .i64 a0_1)) (fun _ hk => hk.2) (.slice Ao46 x268002_2.length co46)) (fun _ hk => trivial), by (with_reducible repeat (first | apply Kd.S_alloc | apply Kd.S_drewN | apply Kd.S_drew)); exact Kd.S_mono (Kd.S_far (p := ⟨gb266, 2, none⟩) (Kd.S_far (p := ⟨gb266, 1, none⟩) (Kd.S_far (p := ⟨gb266, 0, none⟩) (Kd.S_types HO_268002.out BK266.out (by decide)) (fun _ hk => hk.2) (.slice Ao44 x268000_1.length co44)) (fun _ hk => hk.2) (.int .i64 a0_1)) (fun _ hk => hk.2) (.slice Ao46 x268002_2.length co46)) (fun _ hk => trivial), bl_ HB⟩
end Go.Proofs.Ytooabchnbmnchaa.Q
