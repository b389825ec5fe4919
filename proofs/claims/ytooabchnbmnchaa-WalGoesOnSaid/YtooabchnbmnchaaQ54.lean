-- Laid by this session's own program (wip/tools) out of the translation; Lean checks it. Thinned, shortened and merged for this claim.
import Derived.Test.YtooabchnbmnchaaQ0
import Derived.Test.YtooabchnbmnchaaSq
import Derived.Test.YtooabchnbmnchaaQ1
import Derived.Test.YtooabchnbmnchaaQ9
namespace Go.Proofs.Ytooabchnbmnchaa.Q
open Go.RowKit Go.Proofs.YtooabchnbmnchaaW.PrintWords Go.Proofs.YtooabchnbmnchaaW.PrintLast Go.Proofs.YtooabchnbmnchaaW.PrintMore
attribute [local go_sem] max2_int min2_int max_two min_two max_three min_three max_four min_four binOp_string_leq binOp_string_geq binOp_string_gtr   -- for this text's walks alone
set_option linter.unusedVariables false
set_option linter.unusedSimpArgs false
mutual
def wal_Recover.j0 : Nat → List (S70) → List (List Int) → Int → Bool → Int → Option ((List (S70)) × Int × (List (List Int)) × (List (List Int)) × Int)
 | 0, _, _, _, _, _ => none
 | k + 1, x0, x3, x4, x23, x470001 => if x23 = true then (some (([] : List (S70)), x470001, ([] : List (List Int)), ([] : List (List Int)), 81)) else (if 0 < (x0.length : Int) then (wal_Recover.l0 k x0 x3 x4 x0 (x0.length : Int) 0 ([] : List (S70)) ((rd_T70 x0 0).f0)) else (none))
def wal_Recover.l0 : Nat → List (S70) → List (List Int) → Int → List (S70) → Int → Int → List (S70) → Int → Option ((List (S70)) × Int × (List (List Int)) × (List (List Int)) × Int)
 | 0, _, _, _, _, _, _, _, _ => none
 | k + 1, x0, x3, x4, x30, x31, x32, x470000, x470001 => if x32 < x31 then (if 0 ≤ x32 then (if x32 < (x30.length : Int) then (if ((rd_T70 x30 x32).f0) = x470001 then ((wal_records.f k ((rd_T70 x30 x32).f1)).bind fun bt475 => (if (wrap64 (x470001 + (bt475.1.length : Int))) > 1099511627776 then (some (([] : List (S70)), 0, ([] : List (List Int)), ([] : List (List Int)), 81)) else (if x3.length + bt475.1.length < 5864062014805 then ((some (x3 ++ bt475.1 : List (List Int))).bind fun y479 => (if x32 = 0 then (wal_Recover.j2 k x0 y479 x4 x32 bt475.2 x30 x31 x32 true x470000 (wrap64 (x470001 + (bt475.1.length : Int))) ((rd_T70 x30 x32).f0) ((rd_T70 x30 x32).f1)) else (wal_Recover.j2 k x0 y479 x4 x32 bt475.2 x30 x31 x32 (decide (bt475.2 > 0)) x470000 (wrap64 (x470001 + (bt475.1.length : Int))) ((rd_T70 x30 x32).f0) ((rd_T70 x30 x32).f1)))) else (none)))) else (some (x470000, x470001, ([] : List (List Int)), x3, 21))) else (none)) else (none)) else (some (x470000, x470001, ([] : List (List Int)), x3, x4))
def wal_Recover.j2 : Nat → List (S70) → List (List Int) → Int → Int → Int → List (S70) → Int → Int → Bool → List (S70) → Int → Int → List Int → Option ((List (S70)) × Int × (List (List Int)) × (List (List Int)) × Int)
 | 0, _, _, _, _, _, _, _, _, _, _, _, _, _ => none
 | k + 1, x0, x3, x4, x5, x8, x30, x31, x32, x68, x470000, x470001, x475000, x475001 => if x68 = true then (if 0 ≤ x8 then (if x8 ≤ (x475001.length : Int) then ((bytes_Clone.f (x475001.take (x8 : Int).toNat)).bind fun t483 => (if x470000.length < 4398046511104 then (wal_Recover.j3 k x0 x3 x4 x5 x8 x30 x31 x32 (x470000 ++ [(⟨x475000, t483⟩ : S70)]) x470001 x475000 x475001) else (none))) else (none)) else (none)) else (wal_Recover.j3 k x0 x3 x4 x5 x8 x30 x31 x32 x470000 x470001 x475000 x475001)
def wal_Recover.j3 : Nat → List (S70) → List (List Int) → Int → Int → Int → List (S70) → Int → Int → List (S70) → Int → Int → List Int → Option ((List (S70)) × Int × (List (List Int)) × (List (List Int)) × Int)
 | 0, _, _, _, _, _, _, _, _, _, _, _, _ => none
 | k + 1, x0, x3, x4, x5, x8, x30, x31, x32, x470000, x470001, x475000, x475001 => if x8 < (x475001.length : Int) then (if (wrap64 (x5 + 1)) < (x0.length : Int) then (some (x470000, x470001, ([] : List (List Int)), x3, 21)) else (some (x470000, x470001, ([] : List (List Int)), x3, x4))) else (wal_Recover.l0 k x0 x3 x4 x30 x31 (wrap64 (x32 + 1)) x470000 x470001)
end
def wal_Recover.f (k : Nat) (l0 : List (S70)) : Option ((List (S70)) × Int × (List (List Int)) × (List (List Int)) × Int) := if (l0.length : Int) = 0 then (some (([] : List (S70)), 0, ([] : List (List Int)), ([] : List (List Int)), 0)) else (if (l0.length : Int) > 4096 then (wal_Recover.j0 k l0 ([] : List (List Int)) 0 true 0) else (if 0 < (l0.length : Int) then ((wal_index.f ((rd_T70 l0 0).f0)).bind fun t471 => (wal_Recover.j0 k l0 ([] : List (List Int)) 0 (!t471) 0)) else (none)))
theorem wal_Recover.mono_l : ∀ k, (∀ y0 y1 y2 y3 y4, LeO (wal_Recover.j0 k y0 y1 y2 y3 y4) (wal_Recover.j0 (k + 1) y0 y1 y2 y3 y4)) ∧ (∀ y0 y1 y2 y3 y4 y5 y6 y7, LeO (wal_Recover.l0 k y0 y1 y2 y3 y4 y5 y6 y7) (wal_Recover.l0 (k + 1) y0 y1 y2 y3 y4 y5 y6 y7)) ∧ (∀ y0 y1 y2 y3 y4 y5 y6 y7 y8 y9 y10 y11 y12, LeO (wal_Recover.j2 k y0 y1 y2 y3 y4 y5 y6 y7 y8 y9 y10 y11 y12) (wal_Recover.j2 (k + 1) y0 y1 y2 y3 y4 y5 y6 y7 y8 y9 y10 y11 y12)) ∧ (∀ y0 y1 y2 y3 y4 y5 y6 y7 y8 y9 y10 y11, LeO (wal_Recover.j3 k y0 y1 y2 y3 y4 y5 y6 y7 y8 y9 y10 y11) (wal_Recover.j3 (k + 1) y0 y1 y2 y3 y4 y5 y6 y7 y8 y9 y10 y11))
 | 0 => ⟨fun _ _ _ _ _ r h => by simp [wal_Recover.j0] at h, fun _ _ _ _ _ _ _ _ r h => by simp [wal_Recover.l0] at h, fun _ _ _ _ _ _ _ _ _ _ _ _ _ r h => by simp [wal_Recover.j2] at h, fun _ _ _ _ _ _ _ _ _ _ _ _ r h => by simp [wal_Recover.j3] at h⟩
 | k + 1 => by
  obtain ⟨ih0, ih1, ih2, ih3⟩ := wal_Recover.mono_l k
  refine ⟨?_, ?_, ?_, ?_⟩
  ·intro y0 y1 y2 y3 y4
   unfold wal_Recover.j0
   repeat' first
   | (with_reducible exact ih0 _ _ _ _ _)
   | (with_reducible exact ih1 _ _ _ _ _ _ _ _)
   | (with_reducible exact ih2 _ _ _ _ _ _ _ _ _ _ _ _ _)
   | (with_reducible exact ih3 _ _ _ _ _ _ _ _ _ _ _ _)
   | (with_reducible exact wal_records.mono _ _)
   | (with_reducible exact LeO.refl _)
   | (with_reducible exact LeO.none _)
   | (with_reducible refine LeO.ite ?_ ?_)
   | (with_reducible refine LeO.bind ?_ (fun _ => ?_))
   | exact ih0 _ _ _ _ _
   | exact ih1 _ _ _ _ _ _ _ _
   | exact ih2 _ _ _ _ _ _ _ _ _ _ _ _ _
   | exact ih3 _ _ _ _ _ _ _ _ _ _ _ _
   | exact wal_records.mono _ _
   | exact LeO.none _
   | refine LeO.ite ?_ ?_
   | refine LeO.bind ?_ (fun _ => ?_)
  ·intro y0 y1 y2 y3 y4 y5 y6 y7
   unfold wal_Recover.l0
   repeat' first
   | (with_reducible exact ih0 _ _ _ _ _)
   | (with_reducible exact ih1 _ _ _ _ _ _ _ _)
   | (with_reducible exact ih2 _ _ _ _ _ _ _ _ _ _ _ _ _)
   | (with_reducible exact ih3 _ _ _ _ _ _ _ _ _ _ _ _)
   | (with_reducible exact wal_records.mono _ _)
   | (with_reducible exact LeO.refl _)
   | (with_reducible exact LeO.none _)
   | (with_reducible refine LeO.ite ?_ ?_)
   | (with_reducible refine LeO.bind ?_ (fun _ => ?_))
   | exact ih0 _ _ _ _ _
   | exact ih1 _ _ _ _ _ _ _ _
   | exact ih2 _ _ _ _ _ _ _ _ _ _ _ _ _
   | exact ih3 _ _ _ _ _ _ _ _ _ _ _ _
   | exact wal_records.mono _ _
   | exact LeO.none _
   | refine LeO.ite ?_ ?_
   | refine LeO.bind ?_ (fun _ => ?_)
  ·intro y0 y1 y2 y3 y4 y5 y6 y7 y8 y9 y10 y11 y12
   unfold wal_Recover.j2
   repeat' first
   | (with_reducible exact ih0 _ _ _ _ _)
   | (with_reducible exact ih1 _ _ _ _ _ _ _ _)
   | (with_reducible exact ih2 _ _ _ _ _ _ _ _ _ _ _ _ _)
   | (with_reducible exact ih3 _ _ _ _ _ _ _ _ _ _ _ _)
   | (with_reducible exact wal_records.mono _ _)
   | (with_reducible exact LeO.refl _)
   | (with_reducible exact LeO.none _)
   | (with_reducible refine LeO.ite ?_ ?_)
   | (with_reducible refine LeO.bind ?_ (fun _ => ?_))
   | exact ih0 _ _ _ _ _
   | exact ih1 _ _ _ _ _ _ _ _
   | exact ih2 _ _ _ _ _ _ _ _ _ _ _ _ _
   | exact ih3 _ _ _ _ _ _ _ _ _ _ _ _
   | exact wal_records.mono _ _
   | exact LeO.none _
   | refine LeO.ite ?_ ?_
   | refine LeO.bind ?_ (fun _ => ?_)
  ·intro y0 y1 y2 y3 y4 y5 y6 y7 y8 y9 y10 y11
   unfold wal_Recover.j3
   repeat' first
   | (with_reducible exact ih0 _ _ _ _ _)
   | (with_reducible exact ih1 _ _ _ _ _ _ _ _)
   | (with_reducible exact ih2 _ _ _ _ _ _ _ _ _ _ _ _ _)
   | (with_reducible exact ih3 _ _ _ _ _ _ _ _ _ _ _ _)
   | (with_reducible exact wal_records.mono _ _)
   | (with_reducible exact LeO.refl _)
   | (with_reducible exact LeO.none _)
   | (with_reducible refine LeO.ite ?_ ?_)
   | (with_reducible refine LeO.bind ?_ (fun _ => ?_))
   | exact ih0 _ _ _ _ _
   | exact ih1 _ _ _ _ _ _ _ _
   | exact ih2 _ _ _ _ _ _ _ _ _ _ _ _ _
   | exact ih3 _ _ _ _ _ _ _ _ _ _ _ _
   | exact wal_records.mono _ _
   | exact LeO.none _
   | refine LeO.ite ?_ ?_
   | refine LeO.bind ?_ (fun _ => ?_)
theorem wal_Recover.mono : ∀ a0 k, LeO (wal_Recover.f k a0) (wal_Recover.f (k + 1) a0) := by
 intro a0 k
 obtain ⟨ih0, ih1, ih2, ih3⟩ := wal_Recover.mono_l k
 unfold wal_Recover.f
 repeat' first
   | (with_reducible exact ih0 _ _ _ _ _)
   | (with_reducible exact ih1 _ _ _ _ _ _ _ _)
   | (with_reducible exact ih2 _ _ _ _ _ _ _ _ _ _ _ _ _)
   | (with_reducible exact ih3 _ _ _ _ _ _ _ _ _ _ _ _)
   | (with_reducible exact wal_records.mono _ _)
   | (with_reducible exact LeO.refl _)
   | (with_reducible exact LeO.none _)
   | (with_reducible refine LeO.ite ?_ ?_)
   | (with_reducible refine LeO.bind ?_ (fun _ => ?_))
   | exact ih0 _ _ _ _ _
   | exact ih1 _ _ _ _ _ _ _ _
   | exact ih2 _ _ _ _ _ _ _ _ _ _ _ _ _
   | exact ih3 _ _ _ _ _ _ _ _ _ _ _ _
   | exact wal_records.mono _ _
   | exact LeO.none _
   | refine LeO.ite ?_ ?_
   | refine LeO.bind ?_ (fun _ => ?_)
def wal_Recover.T17 : Bool × List (List Nat × List Nat) := (true, [([], []), ([0], [0]), ([], []), ([2], [2]), ([], []), ([4], [4]), ([], []), ([5, 6], [5, 6]), ([7], [7]), ([3, 8], [3, 8]), ([9], [9]), ([1, 10, 8], [1, 10]), ([0, 1, 2, 3, 4, 5, 6, 7, 8, 9, 10, 11], []), ([12, 11, 11, 0, 1, 2, 3, 4, 5, 6, 7, 8, 9, 10, 11], [11, 12])])
def wal_Recover.B17 : List Nat := [0, 1, 0, 4, 0, 16, 0, 112, 240, 508, 1020, 2047, 4095, 8191]
theorem wal_Recover.tab17 : rtab .any (opsOf Try.f45 17) = wal_Recover.T17 := by kernel_rfl
theorem wal_Recover.bits17 : waitsOk wal_Recover.T17.2 wal_Recover.B17 = true := by kernel_rfl
set_option maxHeartbeats 8000000 in
set_option maxRecDepth 100000 in
theorem wal_Recover.calls (k : Nat) (A0 : Option Addr) (c0 : Nat) (l0 : List (S70)) (r1 : List (S70)) (r2 : Int) (r3 : List (List Int)) (r4 : List (List Int)) (r5 : Int) (w : World) (hr0 : Kd.C k70 w A0 l0.length l0) (hc0 : l0.length ≤ c0) (h : wal_Recover.f k l0 = some (r1, r2, r3, r4, r5)) :
  Calls Try.prog 45 #[.slice A0 l0.length c0] w fun e w' => ∃ v0_ v2_ v3_ : Value, e = .returned (.tuple #[.agg #[v0_, .int .i64 r2, v2_], v3_, .int .i64 r5]) ∧ Kd.N k70 70 w' w.heap.size (fun k_ => (w.heap.size ≤ k_) ∧ some k_ ≠ (v2_ : Value).ownBlock ∧ some k_ ≠ (v3_ : Value).ownBlock) v0_ r1 ∧ Kd.N (Kd.slice 5 (Kd.int .u8)) 26 w' w.heap.size (fun k_ => (w.heap.size ≤ k_) ∧ some k_ ≠ (v0_ : Value).ownBlock ∧ some k_ ≠ (v3_ : Value).ownBlock) v2_ r3 ∧ Kd.N (Kd.slice 5 (Kd.int .u8)) 26 w' w.heap.size (fun k_ => (w.heap.size ≤ k_) ∧ some k_ ≠ (v0_ : Value).ownBlock ∧ some k_ ≠ (v2_ : Value).ownBlock) v3_ r4 ∧ Below w.heap.size w w' := by
 have hu61 := Try.underlying61
 have hu70 := Try.underlying70
 have HR0 := Aside0.mk hr0
 have HC0 := Aside0.mk hc0
 clear hr0 hc0
 have HB := Aside0.mk (Below.refl w.heap.size w)
 have H : (if (l0.length : Int) = 0 then (some (([] : List (S70)), 0, ([] : List (List Int)), ([] : List (List Int)), 0)) else (if (l0.length : Int) > 4096 then (wal_Recover.j0 k l0 ([] : List (List Int)) 0 true 0) else (if 0 < (l0.length : Int) then ((wal_index.f ((rd_T70 l0 0).f0)).bind fun t471 => (wal_Recover.j0 k l0 ([] : List (List Int)) 0 (!t471) 0)) else (none)))) = some (r1, r2, r3, r4, r5) := h
 clear h
 by_cases c2 : (l0.length : Int) = 0
 ·rw [if_pos c2] at H
  have c2b0 : ((l0.length : Int) == 0) = true := beq_iff_eq.mpr c2
  have c2b1 : ((l0.length : Int) != 0) = false := bne_eq_false_iff_eq.mpr c2
  clear c2
  simp only [Option.some.injEq, Prod.mk.injEq] at H
  obtain ⟨rfl, rfl, rfl, rfl, rfl⟩ := H
  go_enter Try.func45, Try.ntmps45
  go_wp2_with (first | ((with_reducible refine gate_dst (N := 2) rfl ?_); refine bx_ 2 #[.slice none 0 0, .int .i64 0, .slice none 0 0] 61 ?_; intro gb469 hg w3 hbox hb; have BK469 := Aside0.mk (hbox); have GW469 := bG_ HB hg; have GE469 := bG_ HB hg; replace HB := bS_ HB hb; clear hb hbox hg; obtain ⟨hcz4_0, hcz4_1, hcz4_2, hfz4_0, hfz4_1, hfz4_2⟩ := cz3_ BK469))
  refine bodyPost_ret (results_ctt rfl _ _ gb469 61 #[.slice none 0 0, .int .i64 0, .slice none 0 0] (0, 0) _ rfl (by (with_reducible repeat (first | refine blk_drewN ?_ _ | refine blk_drew ?_ | refine blk_alloc ?_ _)); refine blk_put (cs := #[.slice none 0 0, .int .i64 0, .slice none 0 0]) ?_ 2 _ rfl; (with_reducible repeat (first | refine blk_drewN ?_ _ | refine blk_drew ?_ | refine blk_alloc ?_ _)); refine blk_put (cs := #[.slice none 0 0, .int .i64 0, .slice none 0 0]) ?_ 1 _ rfl; (with_reducible repeat (first | refine blk_drewN ?_ _ | refine blk_drew ?_ | refine blk_alloc ?_ _)); refine blk_put (cs := #[.slice none 0 0, .int .i64 0, .slice none 0 0]) ?_ 0 _ rfl; (with_reducible repeat (first | refine blk_drewN ?_ _ | refine blk_drew ?_ | refine blk_alloc ?_ _)); exact BK469.out) Try.underlying61 rfl (by kernel_rfl)) rfl ?_
  exact ⟨_, _, _, fin_, nil_, nil_, nil_, bl_ HB⟩
 ·rw [if_neg c2] at H
  have c2b0 : ((l0.length : Int) == 0) = false := beq_eq_false_iff_ne.mpr c2
  have c2b1 : ((l0.length : Int) != 0) = true := bne_iff_ne.mpr c2
  have c2b2 : ¬ (l0 = []) := fun h_ => c2 (by rw [h_]; rfl)
  have HC5 := Aside0.mk H
  clear H
  go_enter Try.func45, Try.ntmps45
  go_upto_region 3 with (first | ((with_reducible refine gate_dst (N := 2) rfl ?_); refine bx_ 2 #[.slice none 0 0, .int .i64 0, .slice none 0 0] 61 ?_; intro gb469 hg w6 hbox hb; have BK469 := Aside0.mk (hbox); have GW469 := bG_ HB hg; have GE469 := bG_ HB hg; replace HB := bS_ HB hb; clear hb hbox hg))
  (try simp only [Act.put, List.setIfInBounds_toArray, List.set_cons_zero, List.set_cons_succ])
  go_cut [23] (fun v23 wc => ∃ (kq : Nat) (x23_4 : Bool), v23 = .bool x23_4 ∧ Aside0 (wal_Recover.j0 kq l0 ([] : List (List Int)) 0 x23_4 0 = some (r1, r2, r3, r4, r5)) ∧ Aside0 (kq ≤ k) ∧ Aside0 (Kd.N (Kd.slice 5 (Kd.int .u8)) 26 wc w.heap.size (fun k_ => (w.heap.size ≤ k_) ∧ k_ ≠ gb469) (.slice none 0 0) ([] : List (List Int))) ∧ Aside0 (wc.heap[gb469]? = some (.cells #[(.slice none 0 0), .int .i64 0, (.slice none 0 0)] 61 (0, 0))) ∧ Aside0 (Below w.heap.size w wc))
  case first =>
   have H := HC5.out
   clear HC5
   by_cases c7 : (l0.length : Int) > 4096
   ·rw [if_pos c7] at H
    have c7b0 : decide (4096 < (l0.length : Int)) = true := decide_eq_true c7
    have c7b1 : decide (4096 < l0.length) = true := decide_eq_true (by omega)
    clear c7
    (first | rw [c7b0] | (simp only [i64_w, i32_w]; rw [c7b0]) | skip)
    have H' := Aside0.mk H
    clear H
    go_wp2
    go_meet
    case rel => exact ⟨_, (true), (by first | rfl | (simp; done) | (simp [*]; done)), H', ⟨by first | omega | exact Nat.le_refl _⟩, ⟨nil_⟩, ⟨bA_ BK469⟩, ⟨bl_ HB⟩⟩
   ·rw [if_neg c7] at H
    have c7b0 : decide (4096 < (l0.length : Int)) = false := decide_eq_false c7
    have c7b1 : decide (4096 < l0.length) = false := decide_eq_false (by omega)
    clear c7
    (first | rw [c7b0] | (simp only [i64_w, i32_w]; rw [c7b0]) | skip)
    by_cases c8 : 0 < (l0.length : Int)
    ·rw [if_pos c8] at H
     have c8b0 : decide (0 < (l0.length : Int)) = true := decide_eq_true c8
     have c8b1 : decide (0 < l0.length) = true := decide_eq_true (by omega)
     clear c8
     replace H := Option.bind_eq_some_iff.mp H
     obtain ⟨t471, A90, H⟩ := H
     replace H : (wal_Recover.j0 k l0 ([] : List (List Int)) 0 (!t471) 0) = some (r1, r2, r3, r4, r5) := H
     have A9 := Aside0.mk A90
     clear A90
     have H' := Aside0.mk H
     clear H
     have p470 : 0 ≤ (0 : Int) := (by omega)
     have q470 : 0 < (l0.length : Int) := of_decide_eq_true (by first | (with_reducible assumption) | assumption)
     obtain ⟨ad470, A470_1, c470_1, e470, hx470_0, hx470_1, hl470_1, hi470_1⟩ := at_T70 HR0.out 0 p470 q470
     cases e470
     have qi470 : (0 < l0.length) = True := eq_true (by omega)
     (try rw [show ((0 : Int)).toNat = 0 from rfl] at hx470_0)
     (try rw [show 0 * 2 = 0 from rfl] at hx470_0)
     (try rw [Addr.add_zero'] at hx470_0)
     (try rw [show ((0 : Int)).toNat = 0 from rfl] at hx470_1)
     (try rw [show 0 * 2 = 0 from rfl] at hx470_1)
     (try rw [Addr.add_zero'] at hx470_1)
     replace hx470_0 := (HB.out.cell (World.block_lt_of_cell? w _ hx470_0)).trans hx470_0
     replace hx470_1 := (HB.out.cell (World.block_lt_of_cell? w _ hx470_1)).trans hx470_1
     have HR470_1 := Aside0.mk hi470_1
     have HC470_1 := Aside0.mk hl470_1
     clear hi470_1 hl470_1
     replace p470 := eq_true p470
     replace q470 := eq_true q470
     go_wp2_with (first | (go_at_call 74; (with_reducible refine (wal_index.calls ((rd_T70 l0 0).f0) t471 _ A9.out).mono ?_); rintro e w' ⟨rfl, ⟨nd, rfl⟩⟩))
     go_meet
     case rel => exact ⟨_, (!t471), (by first | rfl | (simp; done) | (simp [*]; done)), H', ⟨by first | omega | exact Nat.le_refl _⟩, ⟨nil_⟩, ⟨bA_ BK469⟩, ⟨bl_ HB⟩⟩
    ·rw [if_neg c8] at H
     exact absurd H (by simp)
  case rest =>
   clear HC5
   try clear c2
   try clear c2b0
   try clear c2b1
   try clear c2b2
   try clear p2
   try clear c4
   try clear p4
   try clear q4
   try clear hx4
   try clear qi4
   try clear c7
   try clear c7b0
   try clear c7b1
   try clear c8
   try clear c8b0
   try clear c8b1
   try clear hcz4_0
   try clear hcz4_1
   try clear hcz4_2
   try clear hfz4_0
   try clear hfz4_1
   try clear hfz4_2
   try clear hx470_0
   try clear hx470_1
   try clear p470
   try clear q470
   obtain ⟨kq, x23_4, rfl, HA, HJ4, HO_3, BK469, HB⟩ := hcut
   cases kq with
   | zero => exact absurd HA.out (by simp [wal_Recover.j0])
   | succ kj4 =>
    have H := HA.out
    clear HA
    simp only [wal_Recover.j0] at H
    by_cases c10 : x23_4 = true
    ·subst c10
     rw [if_pos rfl] at H
     simp only [Option.some.injEq, Prod.mk.injEq] at H
     obtain ⟨rfl, rfl, rfl, rfl, rfl⟩ := H
     obtain ⟨hcz11_0, hcz11_1, hcz11_2, hfz11_0, hfz11_1, hfz11_2⟩ := cz3_ BK469
     go_wp2
     refine bodyPost_ret (results_ctt rfl _ _ gb469 61 #[.slice none 0 0, .int .i64 0, .slice none 0 0] (0, 0) _ rfl (by (with_reducible repeat (first | refine blk_drewN ?_ _ | refine blk_drew ?_ | refine blk_alloc ?_ _)); refine blk_put (cs := #[.slice none 0 0, .int .i64 0, .slice none 0 0]) ?_ 2 _ rfl; (with_reducible repeat (first | refine blk_drewN ?_ _ | refine blk_drew ?_ | refine blk_alloc ?_ _)); refine blk_put (cs := #[.slice none 0 0, .int .i64 0, .slice none 0 0]) ?_ 1 _ rfl; (with_reducible repeat (first | refine blk_drewN ?_ _ | refine blk_drew ?_ | refine blk_alloc ?_ _)); refine blk_put (cs := #[.slice none 0 0, .int .i64 0, .slice none 0 0]) ?_ 0 _ rfl; (with_reducible repeat (first | refine blk_drewN ?_ _ | refine blk_drew ?_ | refine blk_alloc ?_ _)); exact BK469.out) Try.underlying61 rfl (by kernel_rfl)) rfl ?_
     exact ⟨_, _, _, fin_, nil_, nil_, nil_, bl_ HB⟩
    ·replace c10 := Bool.eq_false_iff.mpr c10
     subst c10
     rw [if_neg (show ¬ (false = true) by decide)] at H
     by_cases c12 : 0 < (l0.length : Int)
     ·rw [if_pos c12] at H
      have c12b0 : decide (0 < (l0.length : Int)) = true := decide_eq_true c12
      have c12b1 : decide (0 < l0.length) = true := decide_eq_true (by omega)
      clear c12
      have H' := Aside0.mk H
      clear H
      have p472 : 0 ≤ (0 : Int) := (by omega)
      have q472 : 0 < (l0.length : Int) := of_decide_eq_true (by first | (with_reducible assumption) | assumption)
      obtain ⟨ad472, A472_1, c472_1, e472, hx472_0, hx472_1, hl472_1, hi472_1⟩ := at_T70 HR0.out 0 p472 q472
      cases e472
      have qi472 : (0 < l0.length) = True := eq_true (by omega)
      (try rw [show ((0 : Int)).toNat = 0 from rfl] at hx472_0)
      (try rw [show 0 * 2 = 0 from rfl] at hx472_0)
      (try rw [Addr.add_zero'] at hx472_0)
      (try rw [show ((0 : Int)).toNat = 0 from rfl] at hx472_1)
      (try rw [show 0 * 2 = 0 from rfl] at hx472_1)
      (try rw [Addr.add_zero'] at hx472_1)
      replace hx472_0 := (HB.out.cell (World.block_lt_of_cell? w _ hx472_0)).trans hx472_0
      replace hx472_1 := (HB.out.cell (World.block_lt_of_cell? w _ hx472_1)).trans hx472_1
      have HR472_1 := Aside0.mk hi472_1
      have HC472_1 := Aside0.mk hl472_1
      clear hi472_1 hl472_1
      replace p472 := eq_true p472
      replace q472 := eq_true q472
      obtain ⟨hcz13_0, hcz13_1, hcz13_2, hfz13_0, hfz13_1, hfz13_2⟩ := cz3_ BK469
      go_wp2
      go_loopg [3, 4, 32] kj4 (fun kq v3 v4 v32 w' => ∃ (x3_2 : List (List Int)) (x4_2 : Int) (x32_2 : Int) (x470000_2 : List (S70)) (x470001_2 : Int) (u470000 : Value), v4 = .int .i64 x4_2 ∧ v32 = .int .i64 x32_2 ∧ Aside0 (wal_Recover.l0 kq l0 x3_2 x4_2 l0 (l0.length : Int) x32_2 x470000_2 x470001_2 = some (r1, r2, r3, r4, r5)) ∧ Aside0 (kq ≤ kj4) ∧ Aside0 (Kd.N (Kd.slice 5 (Kd.int .u8)) 26 w' w.heap.size (fun k_ => (w.heap.size ≤ k_) ∧ some k_ ≠ (u470000 : Value).ownBlock ∧ k_ ≠ gb469) v3 x3_2) ∧ Aside0 (Kd.N k70 70 w' w.heap.size (fun k_ => (w.heap.size ≤ k_) ∧ some k_ ≠ (v3 : Value).ownBlock ∧ k_ ≠ gb469) u470000 x470000_2) ∧ Aside0 (w'.heap[gb469]? = some (.cells #[u470000, .int .i64 x470001_2, (.slice none 0 0)] 61 (0, 0))) ∧ Aside0 (Below w.heap.size w w'))
      case atStart => exact ⟨(([] : List (List Int))), (0), (0), (([] : List (S70))), ((rd_T70 l0 0).f0), (.slice none 0 0), (by first | rfl | (simp; done) | (simp [*]; done)), (by first | rfl | (simp; done) | (simp [*]; done)), H', ⟨Nat.le_refl _⟩, ⟨Kd.N_mono (nD_ HO_3 (fun k_ hk => hk.2)) (fun _ hk => ⟨hk.1.1, ⟨(by simp [Value.ownBlock]), hk.1.2⟩⟩)⟩, ⟨nil_⟩, ⟨by (with_reducible repeat (first | refine blk_drewN ?_ _ | refine blk_drew ?_ | refine blk_alloc ?_ _)); refine blk_put (cs := #[.slice none 0 0, .int .i64 0, .slice none 0 0]) ?_ 1 _ rfl; (with_reducible repeat (first | refine blk_drewN ?_ _ | refine blk_drew ?_ | refine blk_alloc ?_ _)); exact BK469.out⟩, ⟨bl_ HB⟩⟩
      case round =>
       clear H'
       try clear c1
       try clear c2
       try clear c2b0
       try clear c2b1
       try clear c2b2
       try clear p2
       try clear c4
       try clear p4
       try clear q4
       try clear hx4
       try clear qi4
       try clear c7
       try clear c7b0
       try clear c7b1
       try clear c8
       try clear c8b0
       try clear c8b1
       try clear c10
       try clear c12
       try clear c12b0
       try clear c12b1
       try clear hcz11_0
       try clear hcz11_1
       try clear hcz11_2
       try clear hcz13_0
       try clear hcz13_1
       try clear hcz13_2
       try clear hcz4_0
       try clear hcz4_1
       try clear hcz4_2
       try clear hfz11_0
       try clear hfz11_1
       try clear hfz11_2
       try clear hfz13_0
       try clear hfz13_1
       try clear hfz13_2
       try clear hfz4_0
       try clear hfz4_1
       try clear hfz4_2
       try clear hx470_0
       try clear hx470_1
       try clear hx472_0
       try clear hx472_1
       try clear p2
       try clear p4
       try clear p470
       try clear p472
       try clear q4
       try clear q470
       try clear q472
       obtain ⟨x3_2, x4_2, x32_2, x470000_2, x470001_2, u470000, rfl, rfl, HA, HK2, HO_3, HO_470000, BK469, HB⟩ := hrel
       cases gk with
       | zero => exact absurd HA.out (by simp [wal_Recover.l0])
       | succ k2 =>
        have H := HA.out
        clear HA
        simp only [wal_Recover.l0] at H
        by_cases c14 : x32_2 < (l0.length : Int)
        ·rw [if_pos c14] at H
         have c14b0 : decide (x32_2 < (l0.length : Int)) = true := decide_eq_true c14
         clear c14
         by_cases c15 : 0 ≤ x32_2
         ·rw [if_pos c15] at H
          have c15b0 : decide (0 ≤ x32_2) = true := decide_eq_true c15
          clear c15
          by_cases c16 : x32_2 < (l0.length : Int)
          ·rw [if_pos c16] at H
           have c16b0 : decide (x32_2 < (l0.length : Int)) = true := decide_eq_true c16
           clear c16
           by_cases c17 : ((rd_T70 l0 x32_2).f0) = x470001_2
           ·rw [if_pos c17] at H
            have c17b0 : (((rd_T70 l0 x32_2).f0) == x470001_2) = true := beq_iff_eq.mpr c17
            have c17b1 : (((rd_T70 l0 x32_2).f0) != x470001_2) = false := bne_eq_false_iff_eq.mpr c17
            clear c17
            replace H := Option.bind_eq_some_iff.mp H
            obtain ⟨⟨t475, t478⟩, A180, H⟩ := H
            try dsimp only at H
            have A18 := Aside0.mk A180
            clear A180
            by_cases c19 : (wrap64 (x470001_2 + (t475.length : Int))) > 1099511627776
            ·rw [if_pos c19] at H
             have c19b0 : decide (1099511627776 < (wrap64 (x470001_2 + (t475.length : Int)))) = true := decide_eq_true c19
             clear c19
             simp only [Option.some.injEq, Prod.mk.injEq] at H
             obtain ⟨rfl, rfl, rfl, rfl, rfl⟩ := H
             have p473 : 0 ≤ (x32_2 : Int) := of_decide_eq_true (by first | (with_reducible assumption) | assumption)
             have q473 : x32_2 < (l0.length : Int) := of_decide_eq_true (by first | (with_reducible assumption) | assumption)
             obtain ⟨ad473, A473_1, c473_1, e473, hx473_0, hx473_1, hl473_1, hi473_1⟩ := at_T70 HR0.out x32_2 p473 q473
             obtain rfl : ad472 = ad473 := (by injection e473)
             replace hx473_0 := (HB.out.cell (World.block_lt_of_cell? w _ hx473_0)).trans hx473_0
             replace hx473_1 := (HB.out.cell (World.block_lt_of_cell? w _ hx473_1)).trans hx473_1
             have HR473_1 := Aside0.mk hi473_1
             have HC473_1 := Aside0.mk hl473_1
             clear hi473_1 hl473_1
             replace p473 := eq_true p473
             replace q473 := eq_true q473
             go_wp2_with (first | ((with_reducible refine gate_dst (N := 6) rfl ?_); refine bx_ 6 #[.int .i64 0, .slice none 0 0] 70 ?_; intro gb474 hg w20 hbox hb; replace HO_3 := Aside0.mk (Kd.N_below (Kd.N_elderB (nA_ HO_3) gb474 (Nat.le_of_eq hg.symm)) hb); replace HO_470000 := Aside0.mk (Kd.N_below (Kd.N_elderB (nA_ HO_470000) gb474 (Nat.le_of_eq hg.symm)) hb); have BK474 := Aside0.mk (hbox); have GW474 := bG_ HB hg; have GE474 := bG_ HB hg; replace HB := bS_ HB hb; have NB469_474 := nL_ BK469 hg; have NB474_469 := nG_ BK469 hg; replace BK469 := bK_ BK469 hb; clear hb hbox hg; have hnb21 := NB474_469.out; have hnc21 := NB469_474.out; obtain ⟨hcz22_0, hcz22_1, hfz22_0, hfz22_1⟩ := cz2_ BK474; obtain ⟨hcz23_0, hcz23_1, hcz23_2, hfz23_0, hfz23_1, hfz23_2⟩ := cz3_ BK469) | ((with_reducible refine gate_callee (f := 73) rfl ?_); refine gL_ (some 47) Try.func73 #[.slice A473_1 ((rd_T70 l0 x32_2).f1).length c473_1] ?_; (with_reducible refine (wal_records.calls k2 _ _ ((rd_T70 l0 x32_2).f1) t475 t478 _ ?_ ?_ A18.out).mono ?_); exact Kd.C_below HR473_1.out (bl_ HB); exact HC473_1.out; rintro e w24 ⟨v476, rfl, ho0, hb⟩; refine ⟨_, rfl, ?_⟩; have HO477 := Aside0.mk (Kd.N_lower (Kd.N_mono (ok' := fun k_ => (w.heap.size ≤ k_) ∧ some k_ ≠ (u3 : Value).ownBlock ∧ some k_ ≠ (u470000 : Value).ownBlock ∧ k_ ≠ gb469 ∧ k_ ≠ gb474) ho0 (fun k_ hk_ => ⟨(Nat.le_trans (bs_ HB) hk_), (Kd.fresh' (Kd.N_lt (nC_ HO_3 (fun k_ hk => hk.2))) k_ hk_), (Kd.fresh' (Kd.N_lt (nC_ HO_470000 (fun k_ hk => hk.2))) k_ hk_), (Kd.freshB (bA_ BK469) k_ hk_), (Kd.freshB (g := gb474) (o := .cells #[.int .i64 ((rd_T70 l0 x32_2).f0), .slice A473_1 ((rd_T70 l0 x32_2).f1).length c473_1] 70 (0, 0)) (by (with_reducible repeat (first | refine blk_drewN ?_ _ | refine blk_drew ?_ | refine blk_alloc ?_ _)); refine blk_put (cs := #[.int .i64 ((rd_T70 l0 x32_2).f0), .slice none 0 0]) ?_ 1 _ rfl; (with_reducible repeat (first | refine blk_drewN ?_ _ | refine blk_drew ?_ | refine blk_alloc ?_ _)); refine blk_put (cs := #[.int .i64 0, .slice none 0 0]) ?_ 0 _ rfl; (with_reducible repeat (first | refine blk_drewN ?_ _ | refine blk_drew ?_ | refine blk_alloc ?_ _)); exact BK474.out) k_ hk_)⟩)) (bs_ HB)); replace HO_3 := Aside0.mk (Kd.N_elder' (nC_ HO_3 (fun k_ hk => hk.2)) (Kd.N_base ho0) hb); replace HO_470000 := Aside0.mk (Kd.N_elder' (nC_ HO_470000 (fun k_ hk => hk.2)) (Kd.N_base ho0) hb); replace BK469 := bK_ BK469 hb; replace BK474 := Aside0.mk (blk_below (g := gb474) (o := .cells #[.int .i64 ((rd_T70 l0 x32_2).f0), .slice A473_1 ((rd_T70 l0 x32_2).f1).length c473_1] 70 (0, 0)) (by (with_reducible repeat (first | refine blk_drewN ?_ _ | refine blk_drew ?_ | refine blk_alloc ?_ _)); refine blk_put (cs := #[.int .i64 ((rd_T70 l0 x32_2).f0), .slice none 0 0]) ?_ 1 _ rfl; (with_reducible repeat (first | refine blk_drewN ?_ _ | refine blk_drew ?_ | refine blk_alloc ?_ _)); refine blk_put (cs := #[.int .i64 0, .slice none 0 0]) ?_ 0 _ rfl; (with_reducible repeat (first | refine blk_drewN ?_ _ | refine blk_drew ?_ | refine blk_alloc ?_ _)); exact BK474.out) hb); replace HB := bS_ HB hb; (try clear hb ho0); obtain ⟨hcz25_0, hcz25_1, hcz25_2, hfz25_0, hfz25_1, hfz25_2⟩ := cz3_ BK469; obtain ⟨Ao26, co26, eo26⟩ := Kd.N_slice HO477.out; subst eo26))
             refine bodyPost_ret (results_ctt rfl _ _ gb469 61 #[.slice none 0 0, .int .i64 0, .slice none 0 0] (0, 0) _ rfl (by (with_reducible repeat (first | refine blk_drewN ?_ _ | refine blk_drew ?_ | refine blk_alloc ?_ _)); refine blk_put (cs := #[.slice none 0 0, .int .i64 0, .slice none 0 0]) ?_ 2 _ rfl; (with_reducible repeat (first | refine blk_drewN ?_ _ | refine blk_drew ?_ | refine blk_alloc ?_ _)); refine blk_put (cs := #[.slice none 0 0, .int .i64 (wrap64 (x470001_2 + (t475.length : Int))), .slice none 0 0]) ?_ 1 _ rfl; (with_reducible repeat (first | refine blk_drewN ?_ _ | refine blk_drew ?_ | refine blk_alloc ?_ _)); refine blk_put (cs := #[u470000, .int .i64 (wrap64 (x470001_2 + (t475.length : Int))), .slice none 0 0]) ?_ 0 _ rfl; (with_reducible repeat (first | refine blk_drewN ?_ _ | refine blk_drew ?_ | refine blk_alloc ?_ _)); refine blk_put (cs := #[u470000, .int .i64 x470001_2, .slice none 0 0]) ?_ 1 _ rfl; (with_reducible repeat (first | refine blk_drewN ?_ _ | refine blk_drew ?_ | refine blk_alloc ?_ _)); exact BK469.out) Try.underlying61 rfl (by kernel_rfl)) rfl ?_
             exact ⟨_, _, _, fin_, nil_, nil_, nil_, bl_ HB⟩
            ·rw [if_neg c19] at H
             have c19b0 : decide (1099511627776 < (wrap64 (x470001_2 + (t475.length : Int)))) = false := decide_eq_false c19
             clear c19
             by_cases c27 : x3_2.length + t475.length < 5864062014805
             ·rw [if_pos c27] at H
              have LMc27 := Aside0.mk c27
              clear c27
              obtain ⟨y479, hy479⟩ : ∃ y_ : List (List Int), y_ = (x3_2 ++ t475) := ⟨_, rfl⟩
              replace H : (if x32_2 = 0 then (wal_Recover.j2 k2 l0 y479 x4_2 x32_2 t478 l0 (l0.length : Int) x32_2 true x470000_2 (wrap64 (x470001_2 + (t475.length : Int))) ((rd_T70 l0 x32_2).f0) ((rd_T70 l0 x32_2).f1)) else (wal_Recover.j2 k2 l0 y479 x4_2 x32_2 t478 l0 (l0.length : Int) x32_2 (decide (t478 > 0)) x470000_2 (wrap64 (x470001_2 + (t475.length : Int))) ((rd_T70 l0 x32_2).f0) ((rd_T70 l0 x32_2).f1))) = some (r1, r2, r3, r4, r5) := by first | (rw [hy479]; with_reducible exact H) | (have H2_ := (Option.bind_some _ _).symm.trans H; rw [hy479]; with_reducible exact H2_) | (have H2_ := (Option.bind_some _ _).symm.trans H; with_reducible exact H2_) | with_reducible exact H | (rw [hy479]; exact H) | exact H
              have Ny479 := Aside0.mk hy479
              clear hy479
              have HC28 := Aside0.mk H
              clear H
              have p473 : 0 ≤ (x32_2 : Int) := of_decide_eq_true (by first | (with_reducible assumption) | assumption)
              have q473 : x32_2 < (l0.length : Int) := of_decide_eq_true (by first | (with_reducible assumption) | assumption)
              obtain ⟨ad473, A473_1, c473_1, e473, hx473_0, hx473_1, hl473_1, hi473_1⟩ := at_T70 HR0.out x32_2 p473 q473
              obtain rfl : ad472 = ad473 := (by injection e473)
              replace hx473_0 := (HB.out.cell (World.block_lt_of_cell? w _ hx473_0)).trans hx473_0
              replace hx473_1 := (HB.out.cell (World.block_lt_of_cell? w _ hx473_1)).trans hx473_1
              have HR473_1 := Aside0.mk hi473_1
              have HC473_1 := Aside0.mk hl473_1
              clear hi473_1 hl473_1
              replace p473 := eq_true p473
              replace q473 := eq_true q473
              go_upto_region 16 with (first | ((with_reducible refine gate_dst (N := 6) rfl ?_); refine bx_ 6 #[.int .i64 0, .slice none 0 0] 70 ?_; intro gb474 hg w29 hbox hb; replace HO_3 := Aside0.mk (Kd.N_below (Kd.N_elderB (nA_ HO_3) gb474 (Nat.le_of_eq hg.symm)) hb); replace HO_470000 := Aside0.mk (Kd.N_below (Kd.N_elderB (nA_ HO_470000) gb474 (Nat.le_of_eq hg.symm)) hb); have BK474 := Aside0.mk (hbox); have GW474 := bG_ HB hg; have GE474 := bG_ HB hg; replace HB := bS_ HB hb; have NB469_474 := nL_ BK469 hg; have NB474_469 := nG_ BK469 hg; replace BK469 := bK_ BK469 hb; clear hb hbox hg; have hnb30 := NB474_469.out; have hnc30 := NB469_474.out; obtain ⟨hcz31_0, hcz31_1, hfz31_0, hfz31_1⟩ := cz2_ BK474; obtain ⟨hcz32_0, hcz32_1, hcz32_2, hfz32_0, hfz32_1, hfz32_2⟩ := cz3_ BK469) | ((with_reducible refine gate_callee (f := 73) rfl ?_); refine gL_ (some 47) Try.func73 #[.slice A473_1 ((rd_T70 l0 x32_2).f1).length c473_1] ?_; (with_reducible refine (wal_records.calls k2 _ _ ((rd_T70 l0 x32_2).f1) t475 t478 _ ?_ ?_ A18.out).mono ?_); exact Kd.C_below HR473_1.out (bl_ HB); exact HC473_1.out; rintro e w33 ⟨v476, rfl, ho0, hb⟩; refine ⟨_, rfl, ?_⟩; have HO477 := Aside0.mk (Kd.N_lower (Kd.N_mono (ok' := fun k_ => (w.heap.size ≤ k_) ∧ some k_ ≠ (u3 : Value).ownBlock ∧ some k_ ≠ (u470000 : Value).ownBlock ∧ k_ ≠ gb469 ∧ k_ ≠ gb474) ho0 (fun k_ hk_ => ⟨(Nat.le_trans (bs_ HB) hk_), (Kd.fresh' (Kd.N_lt (nC_ HO_3 (fun k_ hk => hk.2))) k_ hk_), (Kd.fresh' (Kd.N_lt (nC_ HO_470000 (fun k_ hk => hk.2))) k_ hk_), (Kd.freshB (bA_ BK469) k_ hk_), (Kd.freshB (g := gb474) (o := .cells #[.int .i64 ((rd_T70 l0 x32_2).f0), .slice A473_1 ((rd_T70 l0 x32_2).f1).length c473_1] 70 (0, 0)) (by (with_reducible repeat (first | refine blk_drewN ?_ _ | refine blk_drew ?_ | refine blk_alloc ?_ _)); refine blk_put (cs := #[.int .i64 ((rd_T70 l0 x32_2).f0), .slice none 0 0]) ?_ 1 _ rfl; (with_reducible repeat (first | refine blk_drewN ?_ _ | refine blk_drew ?_ | refine blk_alloc ?_ _)); refine blk_put (cs := #[.int .i64 0, .slice none 0 0]) ?_ 0 _ rfl; (with_reducible repeat (first | refine blk_drewN ?_ _ | refine blk_drew ?_ | refine blk_alloc ?_ _)); exact BK474.out) k_ hk_)⟩)) (bs_ HB)); replace HO_3 := Aside0.mk (Kd.N_elder' (nC_ HO_3 (fun k_ hk => hk.2)) (Kd.N_base ho0) hb); replace HO_470000 := Aside0.mk (Kd.N_elder' (nC_ HO_470000 (fun k_ hk => hk.2)) (Kd.N_base ho0) hb); replace BK469 := bK_ BK469 hb; replace BK474 := Aside0.mk (blk_below (g := gb474) (o := .cells #[.int .i64 ((rd_T70 l0 x32_2).f0), .slice A473_1 ((rd_T70 l0 x32_2).f1).length c473_1] 70 (0, 0)) (by (with_reducible repeat (first | refine blk_drewN ?_ _ | refine blk_drew ?_ | refine blk_alloc ?_ _)); refine blk_put (cs := #[.int .i64 ((rd_T70 l0 x32_2).f0), .slice none 0 0]) ?_ 1 _ rfl; (with_reducible repeat (first | refine blk_drewN ?_ _ | refine blk_drew ?_ | refine blk_alloc ?_ _)); refine blk_put (cs := #[.int .i64 0, .slice none 0 0]) ?_ 0 _ rfl; (with_reducible repeat (first | refine blk_drewN ?_ _ | refine blk_drew ?_ | refine blk_alloc ?_ _)); exact BK474.out) hb); replace HB := bS_ HB hb; (try clear hb ho0); obtain ⟨hcz34_0, hcz34_1, hcz34_2, hfz34_0, hfz34_1, hfz34_2⟩ := cz3_ BK469; obtain ⟨Ao35, co35, eo35⟩ := Kd.N_slice HO477.out; subst eo35) | ((with_reducible refine gate_builtin (b := .append) (xs := #[.tmp 60, .tmp 61]) rfl ?_); at_builtin; refine Kd.N_append_rows (Kd.slice 5 (Kd.int .u8)) (w0 := w) w.heap.size rfl (.tmp 60) (.tmp 61) 56 26 (.slice none 0 0) 24 rfl Try.underlying56 info26 rfl (by decide) (by omega) u3 x3_2 t475 _ _ _ (fun k_ => (w.heap.size ≤ k_) ∧ some k_ ≠ (u470000 : Value).ownBlock ∧ k_ ≠ gb469 ∧ k_ ≠ gb474) (fun k_ => ((fun k_ => (w.heap.size ≤ k_) ∧ some k_ ≠ (u470000 : Value).ownBlock ∧ k_ ≠ gb469 ∧ k_ ≠ gb474)) k_ ∧ some k_ ≠ (u3 : Value).ownBlock) rfl rfl ?aO ?aR (fun _ hk => hk) ?aF ?aB ?aS ?aL ?_; (case aR => exact (by skip; exact Kd.N_F (Kd.N_mono (ok' := (fun k_ => ((fun k_ => (w.heap.size ≤ k_) ∧ some k_ ≠ (u470000 : Value).ownBlock ∧ k_ ≠ gb469 ∧ k_ ≠ gb474)) k_ ∧ some k_ ≠ (u3 : Value).ownBlock)) ((Kd.N_far (p := ⟨gb469, 1, none⟩) (Kd.N_mono HO477.out (fun k_ hk => (⟨hk, hk.2.2.2.1⟩ : _ ∧ k_ ≠ gb469))) (fun _ hk => hk.2) (.int .i64 (wrap64 (x470001_2 + (t475.length : Int)))))) (fun k_ hk => ⟨⟨hk.1.1, ⟨hk.1.2.2.1, ⟨hk.1.2.2.2.1, hk.1.2.2.2.2⟩⟩⟩, hk.1.2.1⟩)))); (case aB => exact (bl_ HB)); (case aF => exact (fun k_ hk => ⟨(Nat.le_trans (bs_ HB) hk), Kd.fresh' (Kd.N_lt (nC_ HO_470000 (fun k_ hk => hk.1.1.2.2))) k_ hk, Kd.freshB (g := gb469) (o := .cells #[u470000, .int .i64 (wrap64 (x470001_2 + (t475.length : Int))), .slice none 0 0] 61 (0, 0)) (by (with_reducible repeat (first | refine blk_drewN ?_ _ | refine blk_drew ?_ | refine blk_alloc ?_ _)); refine blk_put (cs := #[u470000, .int .i64 x470001_2, .slice none 0 0]) ?_ 1 _ rfl; (with_reducible repeat (first | refine blk_drewN ?_ _ | refine blk_drew ?_ | refine blk_alloc ?_ _)); exact BK469.out) k_ hk, Kd.freshB (bA_ BK474) k_ hk⟩)); (case aO => exact (Kd.N_mono (nD_ HO_3 (fun k_ hk => hk.1.1.2.2)) (fun _ hk => ⟨hk.1.1.1.1, ⟨hk.1.1.1.2.1, ⟨hk.1.1.1.2.2, hk.1.1.2⟩⟩⟩))); (case aS => exact (bs_ HB)); (case aL => have := LMc27.out; omega); intro v480 w36 ho hb hg hat; rw [← Ny479.out] at ho; replace HO_470000 := Aside0.mk (Kd.N_afterv (ok := (fun k_ => (w.heap.size ≤ k_) ∧ some k_ ≠ (.slice Ao35 t475.length co35 : Value).ownBlock ∧ k_ ≠ gb469 ∧ k_ ≠ gb474)) (Kd.N_mono (nD_ HO_470000 (fun k_ hk => hk.1.1.2.2)) (fun _ hk => ⟨⟨hk.1.1.1.1, ⟨hk.1.2, ⟨hk.1.1.1.2.2, hk.1.1.2⟩⟩⟩, hk.1.1.1.2.1⟩)) hg hat); replace BK469 := Aside0.mk (blk_grown (g := gb469) (o := .cells #[u470000, .int .i64 (wrap64 (x470001_2 + (t475.length : Int))), .slice none 0 0] 61 (0, 0)) (by (with_reducible repeat (first | refine blk_drewN ?_ _ | refine blk_drew ?_ | refine blk_alloc ?_ _)); refine blk_put (cs := #[u470000, .int .i64 x470001_2, .slice none 0 0]) ?_ 1 _ rfl; (with_reducible repeat (first | refine blk_drewN ?_ _ | refine blk_drew ?_ | refine blk_alloc ?_ _)); exact BK469.out) hg (Kd.N_ne HO_3.out BK469.out (by decide))); replace BK474 := Aside0.mk (blk_grown (bA_ BK474) hg (Kd.N_ne HO_3.out BK474.out (by decide))); replace HO477 := Aside0.mk (Kd.N_afterv (ok := (fun k_ => (w.heap.size ≤ k_) ∧ some k_ ≠ (u470000 : Value).ownBlock ∧ k_ ≠ gb469 ∧ k_ ≠ gb474)) (Kd.N_mono (nD_ HO477 (fun k_ hk => hk.2.2.2.1)) (fun _ hk => ⟨⟨hk.1.1, ⟨hk.1.2.2.1, ⟨hk.1.2.2.2.1, hk.1.2.2.2.2⟩⟩⟩, hk.1.2.1⟩)) hg hat); replace HB := Aside0.mk (hb); have HO481 := Aside0.mk (ho); clear HO_3; clear ho hb hg hat))
              (try simp only [Act.put, List.setIfInBounds_toArray, List.set_cons_zero, List.set_cons_succ])
              go_cut [68] (fun v68 wc => ∃ (kq : Nat) (x68_27 : Bool), v68 = .bool x68_27 ∧ Aside0 (wal_Recover.j2 kq l0 y479 x4_2 x32_2 t478 l0 (l0.length : Int) x32_2 x68_27 x470000_2 (wrap64 (x470001_2 + (t475.length : Int))) ((rd_T70 l0 x32_2).f0) ((rd_T70 l0 x32_2).f1) = some (r1, r2, r3, r4, r5)) ∧ Aside0 (kq ≤ k2) ∧ Aside0 (Kd.N (Kd.slice 5 (Kd.int .u8)) 26 wc w.heap.size (fun k_ => (w.heap.size ≤ k_) ∧ some k_ ≠ (u470000 : Value).ownBlock ∧ k_ ≠ gb469 ∧ k_ ≠ gb474) v480 y479) ∧ Aside0 (Kd.N k70 70 wc w.heap.size (fun k_ => (w.heap.size ≤ k_) ∧ some k_ ≠ (v480 : Value).ownBlock ∧ k_ ≠ gb469 ∧ k_ ≠ gb474) u470000 x470000_2) ∧ Aside0 (wc.heap[gb469]? = some (.cells #[u470000, .int .i64 (wrap64 (x470001_2 + (t475.length : Int))), (.slice none 0 0)] 61 (0, 0))) ∧ Aside0 (wc.heap[gb474]? = some (.cells #[.int .i64 ((rd_T70 l0 x32_2).f0), (.slice A473_1 ((rd_T70 l0 x32_2).f1).length c473_1)] 70 (0, 0))) ∧ Aside0 (Below w.heap.size w wc))
              case first =>
               have H := HC28.out
               clear HC28
               by_cases c37 : x32_2 = 0
               ·rw [if_pos c37] at H
                have c37b0 : (x32_2 == 0) = true := beq_iff_eq.mpr c37
                have c37b1 : (x32_2 != 0) = false := bne_eq_false_iff_eq.mpr c37
                clear c37
                (first | rw [c37b0] | (simp only [i64_w, i32_w]; rw [c37b0]) | skip)
                have H' := Aside0.mk H
                clear H
                go_wp2
                go_meet
                case rel => exact ⟨_, (true), (by first | rfl | (simp; done) | (simp [*]; done)), H', ⟨by have := HJ4.out; have := HK2.out; first | omega | exact Nat.le_refl _⟩, ⟨nA_ HO481⟩, ⟨by (with_reducible repeat (first | apply Kd.N_alloc | apply Kd.N_drewN | apply Kd.N_drew)); exact Kd.N_mono HO_470000.out (fun _ hk => ⟨hk.1.1, ⟨hk.2, ⟨hk.1.2.2.1, hk.1.2.2.2⟩⟩⟩)⟩, ⟨bA_ BK469⟩, ⟨bA_ BK474⟩, ⟨bl_ HB⟩⟩
               ·rw [if_neg c37] at H
                have c37b0 : (x32_2 == 0) = false := beq_eq_false_iff_ne.mpr c37
                have c37b1 : (x32_2 != 0) = true := bne_iff_ne.mpr c37
                (first | rw [c37b0] | (simp only [i64_w, i32_w]; rw [c37b0]) | skip)
                have H' := Aside0.mk H
                clear H
                go_wp2
                go_meet
                case rel => exact ⟨_, (decide (t478 > 0)), (by first | rfl | (simp; done) | (simp [*]; done)), H', ⟨by have := HJ4.out; have := HK2.out; first | omega | exact Nat.le_refl _⟩, ⟨nA_ HO481⟩, ⟨by (with_reducible repeat (first | apply Kd.N_alloc | apply Kd.N_drewN | apply Kd.N_drew)); exact Kd.N_mono HO_470000.out (fun _ hk => ⟨hk.1.1, ⟨hk.2, ⟨hk.1.2.2.1, hk.1.2.2.2⟩⟩⟩)⟩, ⟨bA_ BK469⟩, ⟨bA_ BK474⟩, ⟨bl_ HB⟩⟩
              case rest =>
               clear HC28
               try clear c1
               try clear c2
               try clear c2b0
               try clear c2b1
               try clear c2b2
               try clear p2
               try clear c3
               try clear c4
               try clear p4
               try clear q4
               try clear hx4
               try clear qi4
               try clear p6
               try clear c7
               try clear c7b0
               try clear c7b1
               try clear c8
               try clear c8b0
               try clear c8b1
               try clear c10
               try clear c12
               try clear c12b0
               try clear c12b1
               try clear c14
               try clear c14b0
               try clear c15
               try clear c15b0
               try clear c16
               try clear c16b0
               try clear c17
               try clear c17b0
               try clear c17b1
               try clear c19
               try clear c19b0
               try clear c21
               try clear c27
               try clear c30
               try clear c37
               try clear c37b0
               try clear c37b1
               try clear hcz11_0
               try clear hcz11_1
               try clear hcz11_2
               try clear hcz13_0
               try clear hcz13_1
               try clear hcz13_2
               try clear hcz22_0
               try clear hcz22_1
               try clear hcz23_0
               try clear hcz23_1
               try clear hcz23_2
               try clear hcz25_0
               try clear hcz25_1
               try clear hcz25_2
               try clear hcz31_0
               try clear hcz31_1
               try clear hcz32_0
               try clear hcz32_1
               try clear hcz32_2
               try clear hcz34_0
               try clear hcz34_1
               try clear hcz34_2
               try clear hcz4_0
               try clear hcz4_1
               try clear hcz4_2
               try clear hfz11_0
               try clear hfz11_1
               try clear hfz11_2
               try clear hfz13_0
               try clear hfz13_1
               try clear hfz13_2
               try clear hfz22_0
               try clear hfz22_1
               try clear hfz23_0
               try clear hfz23_1
               try clear hfz23_2
               try clear hfz25_0
               try clear hfz25_1
               try clear hfz25_2
               try clear hfz31_0
               try clear hfz31_1
               try clear hfz32_0
               try clear hfz32_1
               try clear hfz32_2
               try clear hfz34_0
               try clear hfz34_1
               try clear hfz34_2
               try clear hfz4_0
               try clear hfz4_1
               try clear hfz4_2
               try clear hx470_0
               try clear hx470_1
               try clear hx472_0
               try clear hx472_1
               try clear hx473_0
               try clear hx473_1
               try clear p2
               try clear p4
               try clear p470
               try clear p472
               try clear p473
               try clear q4
               try clear q470
               try clear q472
               try clear q473
               obtain ⟨kq, x68_27, rfl, HA, HJ27, HO_3, HO_470000, BK469, BK474, HB⟩ := hcut
               cases kq with
               | zero => exact absurd HA.out (by simp [wal_Recover.j2])
               | succ kj27 =>
                have H := HA.out
                clear HA
                simp only [wal_Recover.j2] at H
                have HC38 := Aside0.mk H
                clear H
                go_upto_if 68 with (fail)
                go_cut [] (fun wc => ∃ (kq : Nat) (x470000_37 : List (S70)) (u470000 : Value), Aside0 (wal_Recover.j3 kq l0 y479 x4_2 x32_2 t478 l0 (l0.length : Int) x32_2 x470000_37 (wrap64 (x470001_2 + (t475.length : Int))) ((rd_T70 l0 x32_2).f0) ((rd_T70 l0 x32_2).f1) = some (r1, r2, r3, r4, r5)) ∧ Aside0 (kq ≤ kj27) ∧ Aside0 (Kd.N (Kd.slice 5 (Kd.int .u8)) 26 wc w.heap.size (fun k_ => (w.heap.size ≤ k_) ∧ some k_ ≠ (u470000 : Value).ownBlock ∧ k_ ≠ gb469 ∧ k_ ≠ gb474) v480 y479) ∧ Aside0 (Kd.N k70 70 wc w.heap.size (fun k_ => (w.heap.size ≤ k_) ∧ some k_ ≠ (v480 : Value).ownBlock ∧ k_ ≠ gb469 ∧ k_ ≠ gb474) u470000 x470000_37) ∧ Aside0 (wc.heap[gb469]? = some (.cells #[u470000, .int .i64 (wrap64 (x470001_2 + (t475.length : Int))), (.slice none 0 0)] 61 (0, 0))) ∧ Aside0 (wc.heap[gb474]? = some (.cells #[.int .i64 ((rd_T70 l0 x32_2).f0), (.slice A473_1 ((rd_T70 l0 x32_2).f1).length c473_1)] 70 (0, 0))) ∧ Aside0 (Below w.heap.size w wc))
                case first =>
                 have H := HC38.out
                 clear HC38
                 by_cases c39 : x68_27 = true
                 ·subst c39
                  rw [if_pos rfl] at H
                  by_cases c40 : 0 ≤ t478
                  ·rw [if_pos c40] at H
                   have c40b0 := eq_true c40
                   have c40b1 : decide (0 ≤ t478) = true := decide_eq_true c40
                   clear c40
                   by_cases c41 : t478 ≤ (((rd_T70 l0 x32_2).f1).length : Int)
                   ·rw [if_pos c41] at H
                    have c41b0 := eq_true c41
                    have c41b1 : decide (t478 ≤ (((rd_T70 l0 x32_2).f1).length : Int)) = true := decide_eq_true c41
                    clear c41
                    replace H := Option.bind_eq_some_iff.mp H
                    obtain ⟨t483, A420, H⟩ := H
                    try dsimp only at H
                    have A42 := Aside0.mk A420
                    clear A420
                    by_cases c43 : x470000_2.length < 4398046511104
                    ·rw [if_pos c43] at H
                     have LMc43 := Aside0.mk c43
                     clear c43
                     obtain ⟨y486, hy486⟩ : ∃ y_ : List (S70), y_ = (x470000_2 ++ [(⟨((rd_T70 l0 x32_2).f0), t483⟩ : S70)]) := ⟨_, rfl⟩
                     replace H : (wal_Recover.j3 kj27 l0 y479 x4_2 x32_2 t478 l0 (l0.length : Int) x32_2 y486 (wrap64 (x470001_2 + (t475.length : Int))) ((rd_T70 l0 x32_2).f0) ((rd_T70 l0 x32_2).f1)) = some (r1, r2, r3, r4, r5) := by first | (rw [hy486]; with_reducible exact H) | (have H2_ := (Option.bind_some _ _).symm.trans H; rw [hy486]; with_reducible exact H2_) | (have H2_ := (Option.bind_some _ _).symm.trans H; with_reducible exact H2_) | with_reducible exact H | (rw [hy486]; exact H) | exact H
                     have Ny486 := Aside0.mk hy486
                     clear hy486
                     have H' := Aside0.mk H
                     clear H
                     try go_wp2
                     replace HO_3 := Aside0.mk (Kd.N_drew HO_3.out)
                     replace HO_470000 := Aside0.mk (Kd.N_drew HO_470000.out)
                     replace BK469 := Aside0.mk (blk_drew BK469.out)
                     replace BK474 := Aside0.mk (blk_drew BK474.out)
                     replace HB := Aside0.mk (below_drew1 HB.out)
                     obtain ⟨i045, hi045, _, hsz45, _⟩ := info_parts info5
                     obtain ⟨hcut45, hA45, hC45⟩ := print_take_of (P := Try.prog) (Value.int .u8) 0 26 5 .i64 Try.underlying26 hi045 hsz45 A473_1 c473_1 ((rd_T70 l0 x32_2).f1) t478 (of_decide_eq_true (by first | (with_reducible assumption) | assumption)) (of_decide_eq_true (by first | (with_reducible assumption) | assumption)) HC473_1.out
                     have HR482 := Aside0.mk (Kd.C_of_reads (h1 := fun _ => rfl) (hA45 _ (Kd.reads_of_C HR473_1.out)))
                     have HC482 := Aside0.mk hC45
                     clear hA45 hC45 hi045 hsz45
                     refine start_ (n := 14) (S := fun w' => w'.cell? ⟨gb469, 0, none⟩ = some (u470000) ∧ w'.cell? ⟨gb469, 1, none⟩ = some (.int .i64 (wrap64 (x470001_2 + (t475.length : Int)))) ∧ w'.cell? ⟨gb469, 2, none⟩ = some (.slice none 0 0) ∧ w'.cell? ⟨gb474, 0, none⟩ = some (.int .i64 ((rd_T70 l0 x32_2).f0)) ∧ w'.cell? ⟨gb474, 1, none⟩ = some (.slice A473_1 ((rd_T70 l0 x32_2).f1).length c473_1)) (ds := [13]) #[false, false, false, false, false, false, false, false, false, false, false, false, false, false] (by kernel_rfl) rfl rfl ⟨(blk_cell BK469.out 0).trans rfl, (blk_cell BK469.out 1).trans rfl, (blk_cell BK469.out 2).trans rfl, (blk_cell BK474.out 0).trans rfl, (blk_cell BK474.out 1).trans rfl⟩ (fun hHeld => ?_); refine with_tabW wal_Recover.tab17 wal_Recover.bits17 (fun HT_ HW_ => ?_)
                     generalize wc.drew = w44 at HO_3 HO_470000 BK469 BK474 HB HR482 hHeld ⊢
                     refine pu_ 0 (some 69) HT_ ?_
                     refine pu_ 2 (some 71) HT_ ?_
                     refine pu_ 4 (some 73) HT_ ?_
                     refine pu_ 6 (some 75) HT_ ?_
                     refine tk_ 1 (some 70) HT_ HW_ hHeld ?_
                     refine tk_ 3 (some 72) HT_ HW_ hHeld ?_
                     refine tk_ 5 (some 74) HT_ HW_ hHeld ?_
                     refine pu_ 7 (some 76) HT_ ?_
                     refine on_ 8 (some 77) HT_ (fun K hK => ?_)
                     refine goes_ Try.func75 (by kernel_rfl) rfl #[.slice A473_1 (((rd_T70 l0 x32_2).f1).take (t478 : Int).toNat).length c473_1] (by rfl) rfl rfl (by (try simp only [List.map_toArray, List.map_cons, List.map_nil]); first | done | (rw [show (((rd_T70 l0 x32_2).f1).take (t478 : Int).toNat).length = t478.toNat from (by rw [List.length_take]; have h_ : (t478 : Int) ≤ (((rd_T70 l0 x32_2).f1).length : Int) := of_decide_eq_true (by first | (with_reducible assumption) | assumption); omega)] <;> rfl) | rfl | (simp only [List.length_drop, List.length_take]; rfl)) ?_
                     with_reducible refine (bytes_Clone.calls _ _ (((rd_T70 l0 x32_2).f1).take (t478 : Int).toNat) t483 _ ?_ ?_ A42.out).mono ?_
                     exact cB_ HR482 HB
                     exact HC482.out
                     rintro e w46 ⟨v484, rfl, ho0, hb⟩
                     refine ⟨_, rfl, ?_⟩
                     replace HO_3 := Aside0.mk (Kd.N_elder' (nA_ HO_3) (Kd.R_base ho0) hb)
                     replace HO_470000 := Aside0.mk (Kd.N_elder' (nA_ HO_470000) (Kd.R_base ho0) hb)
                     have HO485 := Aside0.mk (Kd.R_lower (Kd.R_newM (M := fun k_ => (w.heap.size ≤ k_)) ho0 (bs_ HB) (fun k_ h_ => h_)) (bs_ HB))
                     replace BK469 := bK_ BK469 hb
                     replace BK474 := bK_ BK474 hb
                     replace HB := bS_ HB hb
                     (try clear hb ho0)
                     obtain ⟨Ao47, co47, eo47⟩ := Kd.R_slice HO485.out
                     (first | subst eo47 | (injection eo47 with f1_ f2_ f3_; have f4_ := f1_.symm; have f5_ := f3_.symm; clear f1_ f2_ f3_; subst f4_; subst f5_))
                     refine hK.out _ _ ⟨(blk_cell BK469.out 0).trans rfl, (blk_cell BK469.out 1).trans rfl, (blk_cell BK469.out 2).trans rfl, (blk_cell BK474.out 0).trans rfl, (blk_cell BK474.out 1).trans rfl⟩ (fun hHeld => ?_)
                     clear hK K
                     refine norm_ (a' := ?_) ?_ ?_
                     rotate_left
                     ·show Act.put _ (some 77) _ = _
                      simp only [Act.put, List.setIfInBounds_toArray, List.set_cons_zero, List.set_cons_succ, i64_w, i32_w]
                      rfl
                     refine pu_ 9 (some 78) HT_ ?_
                     refine on_ 10 (some 79) HT_ (fun K hK => ?_)
                     refine value_ (w1 := ?_) (v := ?_) (by rfl) rfl ?_ ?_
                     rotate_left 2
                     ·go_simp
                      constructor
                      ·rfl
                      ·rfl
                     refine hK.out _ _ ⟨(blk_cell (blk_alloc BK469.out _) 0).trans rfl, (blk_cell (blk_alloc BK469.out _) 1).trans rfl, (blk_cell (blk_alloc BK469.out _) 2).trans rfl, (blk_cell (blk_alloc BK474.out _) 0).trans rfl, (blk_cell (blk_alloc BK474.out _) 1).trans rfl⟩ (fun hHeld => ?_)
                     clear hK K
                     refine norm_ (a' := ?_) ?_ ?_
                     rotate_left
                     ·show Act.put _ (some 79) _ = _
                      simp only [Act.put, List.setIfInBounds_toArray, List.set_cons_zero, List.set_cons_succ, i64_w, i32_w]
                      rfl
                     refine on_ 11 (some 80) HT_ (fun K hK => ?_)
                     refine Kd.N_append_step k70 (w0 := w) w.heap.size (by rfl) (.tmp 70) (.tmp 79) 59 70 (.agg #[(.int .i64 0), (.slice none 0 0)]) 32 rfl Try.underlying59 info70 rfl (by decide) (by omega) u470000 x470000_2 (⟨((rd_T70 l0 x32_2).f0), t483⟩ : S70) [.int .i64 ((rd_T70 l0 x32_2).f0), .slice Ao47 t483.length co47] (fun k_ => (w.heap.size ≤ k_) ∧ some k_ ≠ (v480 : Value).ownBlock ∧ k_ ≠ gb469 ∧ k_ ≠ gb474) (fun k_ => ((fun k_ => (w.heap.size ≤ k_) ∧ some k_ ≠ (v480 : Value).ownBlock ∧ k_ ≠ gb469 ∧ k_ ≠ gb474)) k_ ∧ some k_ ≠ (u470000 : Value).ownBlock) rfl rfl ?aP (fun _ hk => hk) ?aF ?aO ?aB ?aS ?aL ?_
                     (case aP => exact (k70_mkF _ _ (⟨((rd_T70 l0 x32_2).f0), t483⟩ : S70) (Kd.R_reads' (Kd.R_mono (ok' := (fun k_ => ((fun k_ => (w.heap.size ≤ k_) ∧ some k_ ≠ (v480 : Value).ownBlock ∧ k_ ≠ gb469 ∧ k_ ≠ gb474)) k_ ∧ some k_ ≠ (u470000 : Value).ownBlock)) (Kd.R_types (Kd.R_types (Kd.R_apart' (Kd.R_apart' (HO485.out) (Kd.N_typed HO_3.out) (by decide)) (Kd.N_typed HO_470000.out) (by decide)) BK469.out (by decide)) BK474.out (by decide)) (fun k_ hk => ⟨⟨hk.1.1.1.1.1, ⟨hk.1.1.1.2, ⟨hk.1.2, hk.2⟩⟩⟩, hk.1.1.2⟩))).2.1 (Kd.R_F (Kd.R_mono (ok' := (fun k_ => ((fun k_ => (w.heap.size ≤ k_) ∧ some k_ ≠ (v480 : Value).ownBlock ∧ k_ ≠ gb469 ∧ k_ ≠ gb474)) k_ ∧ some k_ ≠ (u470000 : Value).ownBlock)) (Kd.R_types (Kd.R_types (Kd.R_apart' (Kd.R_apart' (HO485.out) (Kd.N_typed HO_3.out) (by decide)) (Kd.N_typed HO_470000.out) (by decide)) BK469.out (by decide)) BK474.out (by decide)) (fun k_ hk => ⟨⟨hk.1.1.1.1.1, ⟨hk.1.1.1.2, ⟨hk.1.2, hk.2⟩⟩⟩, hk.1.1.2⟩)))))
                     (case aB => exact (bl_ HB))
                     (case aF => exact (fun k_ hk => ⟨(Nat.le_trans (bs_ HB) hk), Kd.fresh' (Kd.N_lt (nA_ HO_3)) k_ hk, Kd.freshB (bA_ BK469) k_ hk, Kd.freshB (bA_ BK474) k_ hk⟩))
                     (case aO => exact (by (with_reducible repeat (first | apply Kd.N_alloc | apply Kd.N_drewN | apply Kd.N_drew)); exact Kd.N_mono HO_470000.out (fun _ hk => ⟨hk.1.1, ⟨hk.1.2.1, ⟨hk.1.2.2.1, hk.1.2.2.2⟩⟩⟩)))
                     (case aS => exact (bs_ HB))
                     (case aL => have := LMc43.out; omega)
                     intro v487 w48 ho hb hg hat
                     rw [← Ny486.out] at ho
                     replace HO_3 := Aside0.mk (Kd.N_afterv (ok := (fun k_ => (w.heap.size ≤ k_) ∧ some k_ ≠ (.slice Ao47 t483.length co47 : Value).ownBlock ∧ k_ ≠ gb469 ∧ k_ ≠ gb474)) (by (with_reducible repeat (first | apply Kd.N_alloc | apply Kd.N_drewN | apply Kd.N_drew)); exact Kd.N_mono HO_3.out (fun _ hk => ⟨⟨hk.1.1, ⟨hk.2, ⟨hk.1.2.2.1, hk.1.2.2.2⟩⟩⟩, hk.1.2.1⟩)) hg hat)
                     replace BK469 := Aside0.mk (blk_grown (bA_ BK469) hg (Kd.N_ne HO_470000.out BK469.out (by decide)))
                     replace BK474 := Aside0.mk (blk_grown (bA_ BK474) hg (Kd.N_away HO_470000.out (fun _ hk => hk.1.2.2.2)))
                     replace HB := Aside0.mk (hb)
                     have HO488 := Aside0.mk (ho)
                     clear HO_470000 HO485
                     clear ho hb hg hat
                     obtain ⟨Ao49, co49, eo49⟩ := Kd.N_slice HO488.out
                     (first | subst eo49 | (injection eo49 with f1_ f2_ f3_; have f4_ := f1_.symm; have f5_ := f3_.symm; clear f1_ f2_ f3_; subst f4_; subst f5_))
                     refine hK.out _ _ ⟨(blk_cell BK469.out 0).trans rfl, (blk_cell BK469.out 1).trans rfl, (blk_cell BK469.out 2).trans rfl, (blk_cell BK474.out 0).trans rfl, (blk_cell BK474.out 1).trans rfl⟩ (fun hHeld => ?_)
                     clear hK K
                     refine norm_ (a' := ?_) ?_ ?_
                     rotate_left
                     ·show Act.put _ (some 80) _ = _
                      simp only [Act.put, List.setIfInBounds_toArray, List.set_cons_zero, List.set_cons_succ, i64_w, i32_w]
                      rfl
                     refine pu_ 12 (some 81) HT_ ?_
                     refine last_ (i := 13) (N := none) #[true, true, true, true, true, true, true, true, true, true, true, true, true, true] rfl rfl (one_of HT_.out (by kernel_rfl)) (by decide) (fun K hK => ?_)
                     have hs50 : w48.cell? ⟨gb469, 0, none⟩ = some (u470000) := (blk_cell BK469.out 0).trans rfl
                     have hfs50 := blk_frozen BK469.out 0
                     have hns50_1 := NB474_469.out
                     have hms50_1 := NB469_474.out
                     refine skip_ (w1 := ?_) (by rfl) rfl ?_ ?_
                     rotate_left
                     ·go_simp
                      rfl
                     refine hK.out _ _ ?_
                     clear hK K
                     refine done_ (done_of HT_.out (by kernel_rfl)) ?_
                     try go_wp2
                     go_meet
                     case rel => exact ⟨_, (y486), (.slice Ao49 y486.length co49), H', ⟨by have := HJ4.out; have := HK2.out; have := HJ27.out; first | omega | exact Nat.le_refl _⟩, ⟨Kd.N_mono (nD_ HO_3 (fun k_ hk => hk.1.2.2.1)) (fun _ hk => ⟨hk.1.1.1, ⟨hk.1.2, ⟨hk.1.1.2.2.1, hk.1.1.2.2.2⟩⟩⟩)⟩, ⟨Kd.N_mono (nD_ HO488 (fun k_ hk => hk.2.2.1)) (fun _ hk => ⟨hk.1.1, ⟨hk.1.2.1, ⟨hk.1.2.2.1, hk.1.2.2.2⟩⟩⟩)⟩, ⟨by (with_reducible repeat (first | refine blk_drewN ?_ _ | refine blk_drew ?_ | refine blk_alloc ?_ _)); refine blk_put (cs := #[u470000, .int .i64 (wrap64 (x470001_2 + (t475.length : Int))), .slice none 0 0]) ?_ 0 _ rfl; (with_reducible repeat (first | refine blk_drewN ?_ _ | refine blk_drew ?_ | refine blk_alloc ?_ _)); exact BK469.out⟩, ⟨bA_ BK474⟩, ⟨bl_ HB⟩⟩
                    ·rw [if_neg c43] at H
                     exact absurd H (by simp)
                   ·rw [if_neg c41] at H
                    exact absurd H (by simp)
                  ·rw [if_neg c40] at H
                   exact absurd H (by simp)
                 ·replace c39 := Bool.eq_false_iff.mpr c39
                  subst c39
                  rw [if_neg (show ¬ (false = true) by decide)] at H
                  have H' := Aside0.mk H
                  clear H
                  go_wp2
                  go_meet
                  case rel => exact ⟨_, (x470000_2), (u470000), H', ⟨by have := HJ4.out; have := HK2.out; have := HJ27.out; first | omega | exact Nat.le_refl _⟩, ⟨nA_ HO_3⟩, ⟨nA_ HO_470000⟩, ⟨bA_ BK469⟩, ⟨bA_ BK474⟩, ⟨bl_ HB⟩⟩
                case rest =>
                 clear HC38
                 try clear c1
                 try clear c2
                 try clear c2b0
                 try clear c2b1
                 try clear c2b2
                 try clear p2
                 try clear c3
                 try clear c4
                 try clear p4
                 try clear q4
                 try clear hx4
                 try clear qi4
                 try clear p6
                 try clear c7
                 try clear c7b0
                 try clear c7b1
                 try clear c8
                 try clear c8b0
                 try clear c8b1
                 try clear c10
                 try clear c12
                 try clear c12b0
                 try clear c12b1
                 try clear c14
                 try clear c14b0
                 try clear c15
                 try clear c15b0
                 try clear c16
                 try clear c16b0
                 try clear c17
                 try clear c17b0
                 try clear c17b1
                 try clear c19
                 try clear c19b0
                 try clear c21
                 try clear c27
                 try clear c30
                 try clear c37
                 try clear c37b0
                 try clear c37b1
                 try clear c39
                 try clear c40
                 try clear c40b0
                 try clear c40b1
                 try clear c41
                 try clear c41b0
                 try clear c41b1
                 try clear c43
                 try clear c47
                 try clear p47
                 try clear q47
                 try clear hx47
                 try clear qi47
                 try clear hcz11_0
                 try clear hcz11_1
                 try clear hcz11_2
                 try clear hcz13_0
                 try clear hcz13_1
                 try clear hcz13_2
                 try clear hcz22_0
                 try clear hcz22_1
                 try clear hcz23_0
                 try clear hcz23_1
                 try clear hcz23_2
                 try clear hcz25_0
                 try clear hcz25_1
                 try clear hcz25_2
                 try clear hcz31_0
                 try clear hcz31_1
                 try clear hcz32_0
                 try clear hcz32_1
                 try clear hcz32_2
                 try clear hcz34_0
                 try clear hcz34_1
                 try clear hcz34_2
                 try clear hcz4_0
                 try clear hcz4_1
                 try clear hcz4_2
                 try clear hfz11_0
                 try clear hfz11_1
                 try clear hfz11_2
                 try clear hfz13_0
                 try clear hfz13_1
                 try clear hfz13_2
                 try clear hfz22_0
                 try clear hfz22_1
                 try clear hfz23_0
                 try clear hfz23_1
                 try clear hfz23_2
                 try clear hfz25_0
                 try clear hfz25_1
                 try clear hfz25_2
                 try clear hfz31_0
                 try clear hfz31_1
                 try clear hfz32_0
                 try clear hfz32_1
                 try clear hfz32_2
                 try clear hfz34_0
                 try clear hfz34_1
                 try clear hfz34_2
                 try clear hfz4_0
                 try clear hfz4_1
                 try clear hfz4_2
                 try clear hx470_0
                 try clear hx470_1
                 try clear hx472_0
                 try clear hx472_1
                 try clear hx473_0
                 try clear hx473_1
                 try clear p2
                 try clear p4
                 try clear p470
                 try clear p472
                 try clear p473
                 try clear p6
                 try clear q4
                 try clear q470
                 try clear q472
                 try clear q473
                 obtain ⟨kq, x470000_37, u470000, HA, HJ37, HO_3, HO_470000, BK469, BK474, HB⟩ := hcut
                 cases kq with
                 | zero => exact absurd HA.out (by simp [wal_Recover.j3])
                 | succ kj37 =>
                  have H := HA.out
                  clear HA
                  simp only [wal_Recover.j3] at H
                  by_cases c51 : t478 < (((rd_T70 l0 x32_2).f1).length : Int)
                  ·rw [if_pos c51] at H
                   have c51b0 : decide (t478 < (((rd_T70 l0 x32_2).f1).length : Int)) = true := decide_eq_true c51
                   clear c51
                   by_cases c52 : (wrap64 (x32_2 + 1)) < (l0.length : Int)
                   ·rw [if_pos c52] at H
                    have c52b0 : decide ((wrap64 (x32_2 + 1)) < (l0.length : Int)) = true := decide_eq_true c52
                    clear c52
                    simp only [Option.some.injEq, Prod.mk.injEq] at H
                    obtain ⟨rfl, rfl, rfl, rfl, rfl⟩ := H
                    have hnb53 := NB474_469.out
                    have hnc53 := NB469_474.out
                    obtain ⟨hcz54_0, hcz54_1, hfz54_0, hfz54_1⟩ := cz2_ BK474
                    have hcz55_0 : wc.cell? ⟨gb469, 0, none⟩ = some (u470000) := (blk_cell BK469.out 0).trans rfl
                    have hcz55_1 : wc.cell? ⟨gb469, 1, none⟩ = some (.int .i64 (wrap64 (x470001_2 + (t475.length : Int)))) := (blk_cell BK469.out 1).trans rfl
                    have hcz55_2 : wc.cell? ⟨gb469, 2, none⟩ = some (.slice none 0 0) := (blk_cell BK469.out 2).trans rfl
                    have hfz55_0 := blk_frozen BK469.out 0
                    have hfz55_1 := blk_frozen BK469.out 1
                    have hfz55_2 := blk_frozen BK469.out 2
                    obtain ⟨Ao56, co56, eo56⟩ := Kd.N_slice HO_470000.out
                    subst eo56
                    go_wp2
                    refine bodyPost_ret (results_ctt rfl _ _ gb469 61 #[.slice Ao56 x470000_37.length co56, .int .i64 (wrap64 (x470001_2 + (t475.length : Int))), .slice none 0 0] (0, 0) _ rfl (by (with_reducible repeat (first | refine blk_drewN ?_ _ | refine blk_drew ?_ | refine blk_alloc ?_ _)); refine blk_put (cs := #[.slice Ao56 x470000_37.length co56, .int .i64 (wrap64 (x470001_2 + (t475.length : Int))), .slice none 0 0]) ?_ 2 _ rfl; (with_reducible repeat (first | refine blk_drewN ?_ _ | refine blk_drew ?_ | refine blk_alloc ?_ _)); refine blk_put (cs := #[.slice Ao56 x470000_37.length co56, .int .i64 (wrap64 (x470001_2 + (t475.length : Int))), .slice none 0 0]) ?_ 1 _ rfl; (with_reducible repeat (first | refine blk_drewN ?_ _ | refine blk_drew ?_ | refine blk_alloc ?_ _)); refine blk_put (cs := #[.slice Ao56 x470000_37.length co56, .int .i64 (wrap64 (x470001_2 + (t475.length : Int))), .slice none 0 0]) ?_ 0 _ rfl; (with_reducible repeat (first | refine blk_drewN ?_ _ | refine blk_drew ?_ | refine blk_alloc ?_ _)); exact BK469.out) Try.underlying61 rfl (by kernel_rfl)) rfl ?_
                    exact ⟨_, _, _, fin_, Kd.N_mono (nD_ HO_470000 (fun k_ hk => hk.2.2.1)) (fun _ hk => ⟨hk.1.1, ⟨(by simp [Value.ownBlock]), hk.1.2.1⟩⟩), nil_, Kd.N_mono (nD_ HO_3 (fun k_ hk => hk.2.2.1)) (fun _ hk => ⟨hk.1.1, ⟨hk.1.2.1, (by simp [Value.ownBlock])⟩⟩), bl_ HB⟩
                   ·rw [if_neg c52] at H
                    have c52b0 : decide ((wrap64 (x32_2 + 1)) < (l0.length : Int)) = false := decide_eq_false c52
                    clear c52
                    simp only [Option.some.injEq, Prod.mk.injEq] at H
                    obtain ⟨rfl, rfl, rfl, rfl, rfl⟩ := H
                    have hnb57 := NB474_469.out
                    have hnc57 := NB469_474.out
                    obtain ⟨hcz58_0, hcz58_1, hfz58_0, hfz58_1⟩ := cz2_ BK474
                    have hcz59_0 : wc.cell? ⟨gb469, 0, none⟩ = some (u470000) := (blk_cell BK469.out 0).trans rfl
                    have hcz59_1 : wc.cell? ⟨gb469, 1, none⟩ = some (.int .i64 (wrap64 (x470001_2 + (t475.length : Int)))) := (blk_cell BK469.out 1).trans rfl
                    have hcz59_2 : wc.cell? ⟨gb469, 2, none⟩ = some (.slice none 0 0) := (blk_cell BK469.out 2).trans rfl
                    have hfz59_0 := blk_frozen BK469.out 0
                    have hfz59_1 := blk_frozen BK469.out 1
                    have hfz59_2 := blk_frozen BK469.out 2
                    obtain ⟨Ao60, co60, eo60⟩ := Kd.N_slice HO_470000.out
                    subst eo60
                    go_wp2
                    refine bodyPost_ret (results_ctt rfl _ _ gb469 61 #[.slice Ao60 x470000_37.length co60, .int .i64 (wrap64 (x470001_2 + (t475.length : Int))), .slice none 0 0] (0, 0) _ rfl (by (with_reducible repeat (first | refine blk_drewN ?_ _ | refine blk_drew ?_ | refine blk_alloc ?_ _)); refine blk_put (cs := #[.slice Ao60 x470000_37.length co60, .int .i64 (wrap64 (x470001_2 + (t475.length : Int))), .slice none 0 0]) ?_ 2 _ rfl; (with_reducible repeat (first | refine blk_drewN ?_ _ | refine blk_drew ?_ | refine blk_alloc ?_ _)); refine blk_put (cs := #[.slice Ao60 x470000_37.length co60, .int .i64 (wrap64 (x470001_2 + (t475.length : Int))), .slice none 0 0]) ?_ 1 _ rfl; (with_reducible repeat (first | refine blk_drewN ?_ _ | refine blk_drew ?_ | refine blk_alloc ?_ _)); refine blk_put (cs := #[.slice Ao60 x470000_37.length co60, .int .i64 (wrap64 (x470001_2 + (t475.length : Int))), .slice none 0 0]) ?_ 0 _ rfl; (with_reducible repeat (first | refine blk_drewN ?_ _ | refine blk_drew ?_ | refine blk_alloc ?_ _)); exact BK469.out) Try.underlying61 rfl (by kernel_rfl)) rfl ?_
                    exact ⟨_, _, _, fin_, Kd.N_mono (nD_ HO_470000 (fun k_ hk => hk.2.2.1)) (fun _ hk => ⟨hk.1.1, ⟨(by simp [Value.ownBlock]), hk.1.2.1⟩⟩), nil_, Kd.N_mono (nD_ HO_3 (fun k_ hk => hk.2.2.1)) (fun _ hk => ⟨hk.1.1, ⟨hk.1.2.1, (by simp [Value.ownBlock])⟩⟩), bl_ HB⟩
                  ·rw [if_neg c51] at H
                   have c51b0 : decide (t478 < (((rd_T70 l0 x32_2).f1).length : Int)) = false := decide_eq_false c51
                   clear c51
                   have H' := Aside0.mk H
                   clear H
                   have hnb61 := NB474_469.out
                   have hnc61 := NB469_474.out
                   obtain ⟨hcz62_0, hcz62_1, hfz62_0, hfz62_1⟩ := cz2_ BK474
                   go_wp2
                   go_roundg kj37
                   case measure => have := HJ4.out; have := HK2.out; have := HJ27.out; have := HJ37.out; omega
                   case rel => exact ⟨(y479), (x4_2), (wrap64 (x32_2 + 1)), (x470000_37), ((wrap64 (x470001_2 + (t475.length : Int)))), (u470000), (by first | rfl | (simp; done) | (simp [*]; done)), (by first | rfl | (simp; done) | (simp [*]; done)), H', ⟨by have := HJ4.out; have := HK2.out; have := HJ27.out; have := HJ37.out; omega⟩, ⟨by (with_reducible repeat (first | apply Kd.N_alloc | apply Kd.N_drewN | apply Kd.N_drew)); exact Kd.N_mono HO_3.out (fun _ hk => ⟨hk.1, ⟨hk.2.1, hk.2.2.1⟩⟩)⟩, ⟨by (with_reducible repeat (first | apply Kd.N_alloc | apply Kd.N_drewN | apply Kd.N_drew)); exact Kd.N_mono HO_470000.out (fun _ hk => ⟨hk.1, ⟨hk.2.1, hk.2.2.1⟩⟩)⟩, ⟨bA_ BK469⟩, ⟨bl_ HB⟩⟩
             ·rw [if_neg c27] at H
              exact absurd H (by simp)
           ·rw [if_neg c17] at H
            have c17b0 : (((rd_T70 l0 x32_2).f0) == x470001_2) = false := beq_eq_false_iff_ne.mpr c17
            have c17b1 : (((rd_T70 l0 x32_2).f0) != x470001_2) = true := bne_iff_ne.mpr c17
            simp only [Option.some.injEq, Prod.mk.injEq] at H
            obtain ⟨rfl, rfl, rfl, rfl, rfl⟩ := H
            have p473 : 0 ≤ (x32_2 : Int) := of_decide_eq_true (by first | (with_reducible assumption) | assumption)
            have q473 : x32_2 < (l0.length : Int) := of_decide_eq_true (by first | (with_reducible assumption) | assumption)
            obtain ⟨ad473, A473_1, c473_1, e473, hx473_0, hx473_1, hl473_1, hi473_1⟩ := at_T70 HR0.out x32_2 p473 q473
            obtain rfl : ad472 = ad473 := (by injection e473)
            replace hx473_0 := (HB.out.cell (World.block_lt_of_cell? w _ hx473_0)).trans hx473_0
            replace hx473_1 := (HB.out.cell (World.block_lt_of_cell? w _ hx473_1)).trans hx473_1
            have HR473_1 := Aside0.mk hi473_1
            have HC473_1 := Aside0.mk hl473_1
            clear hi473_1 hl473_1
            replace p473 := eq_true p473
            replace q473 := eq_true q473
            go_wp2_with (first | ((with_reducible refine gate_dst (N := 6) rfl ?_); refine bx_ 6 #[.int .i64 0, .slice none 0 0] 70 ?_; intro gb474 hg w63 hbox hb; replace HO_3 := Aside0.mk (Kd.N_below (Kd.N_elderB (nA_ HO_3) gb474 (Nat.le_of_eq hg.symm)) hb); replace HO_470000 := Aside0.mk (Kd.N_below (Kd.N_elderB (nA_ HO_470000) gb474 (Nat.le_of_eq hg.symm)) hb); have BK474 := Aside0.mk (hbox); have GW474 := bG_ HB hg; have GE474 := bG_ HB hg; replace HB := bS_ HB hb; have NB469_474 := nL_ BK469 hg; have NB474_469 := nG_ BK469 hg; replace BK469 := bK_ BK469 hb; clear hb hbox hg; have hnb64 := NB474_469.out; have hnc64 := NB469_474.out; obtain ⟨hcz65_0, hcz65_1, hfz65_0, hfz65_1⟩ := cz2_ BK474; obtain ⟨hcz66_0, hcz66_1, hcz66_2, hfz66_0, hfz66_1, hfz66_2⟩ := cz3_ BK469; obtain ⟨Ao67, co67, eo67⟩ := Kd.N_slice HO_470000.out; subst eo67))
            refine bodyPost_ret (results_ctt rfl _ _ gb469 61 #[.slice Ao67 x470000_2.length co67, .int .i64 x470001_2, .slice none 0 0] (0, 0) _ rfl (by (with_reducible repeat (first | refine blk_drewN ?_ _ | refine blk_drew ?_ | refine blk_alloc ?_ _)); refine blk_put (cs := #[.slice Ao67 x470000_2.length co67, .int .i64 x470001_2, .slice none 0 0]) ?_ 2 _ rfl; (with_reducible repeat (first | refine blk_drewN ?_ _ | refine blk_drew ?_ | refine blk_alloc ?_ _)); refine blk_put (cs := #[.slice Ao67 x470000_2.length co67, .int .i64 x470001_2, .slice none 0 0]) ?_ 1 _ rfl; (with_reducible repeat (first | refine blk_drewN ?_ _ | refine blk_drew ?_ | refine blk_alloc ?_ _)); refine blk_put (cs := #[.slice Ao67 x470000_2.length co67, .int .i64 x470001_2, .slice none 0 0]) ?_ 0 _ rfl; (with_reducible repeat (first | refine blk_drewN ?_ _ | refine blk_drew ?_ | refine blk_alloc ?_ _)); refine blk_far ?_ NB469_474.out _; (with_reducible repeat (first | refine blk_drewN ?_ _ | refine blk_drew ?_ | refine blk_alloc ?_ _)); refine blk_far ?_ NB469_474.out _; (with_reducible repeat (first | refine blk_drewN ?_ _ | refine blk_drew ?_ | refine blk_alloc ?_ _)); exact BK469.out) Try.underlying61 rfl (by kernel_rfl)) rfl ?_
            exact ⟨_, _, _, fin_, by (with_reducible repeat (first | apply Kd.N_alloc | apply Kd.N_drewN | apply Kd.N_drew)); exact Kd.N_mono (Kd.N_far (p := ⟨gb469, 2, none⟩) (Kd.N_far (p := ⟨gb469, 1, none⟩) (Kd.N_far (p := ⟨gb469, 0, none⟩) (Kd.N_far (p := ⟨gb474, 1, none⟩) (Kd.N_far (p := ⟨gb474, 0, none⟩) (Kd.N_mono (Kd.N_mono HO_470000.out (fun k_ hk => (⟨hk, hk.2⟩ : _ ∧ k_ ≠ gb474))) (fun k_ hk => (⟨hk, hk.1.1.2.2⟩ : _ ∧ k_ ≠ gb469))) (fun _ hk => hk.1.2) (.int .i64 ((rd_T70 l0 x32_2).f0))) (fun _ hk => hk.1.2) (.slice A473_1 ((rd_T70 l0 x32_2).f1).length c473_1)) (fun _ hk => hk.2) (.slice Ao67 x470000_2.length co67)) (fun _ hk => hk.2) (.int .i64 x470001_2)) (fun _ hk => hk.2) (.slice none 0 0)) (fun _ hk => ⟨hk.1.1.1.1, ⟨(by simp [Value.ownBlock]), hk.1.1.1.2.1⟩⟩), nil_, by (with_reducible repeat (first | apply Kd.N_alloc | apply Kd.N_drewN | apply Kd.N_drew)); exact Kd.N_mono (Kd.N_far (p := ⟨gb469, 2, none⟩) (Kd.N_far (p := ⟨gb469, 1, none⟩) (Kd.N_far (p := ⟨gb469, 0, none⟩) (Kd.N_far (p := ⟨gb474, 1, none⟩) (Kd.N_far (p := ⟨gb474, 0, none⟩) (Kd.N_mono (Kd.N_mono HO_3.out (fun k_ hk => (⟨hk, hk.2⟩ : _ ∧ k_ ≠ gb474))) (fun k_ hk => (⟨hk, hk.1.1.2.2⟩ : _ ∧ k_ ≠ gb469))) (fun _ hk => hk.1.2) (.int .i64 ((rd_T70 l0 x32_2).f0))) (fun _ hk => hk.1.2) (.slice A473_1 ((rd_T70 l0 x32_2).f1).length c473_1)) (fun _ hk => hk.2) (.slice Ao67 x470000_2.length co67)) (fun _ hk => hk.2) (.int .i64 x470001_2)) (fun _ hk => hk.2) (.slice none 0 0)) (fun _ hk => ⟨hk.1.1.1.1, ⟨hk.1.1.1.2.1, (by simp [Value.ownBlock])⟩⟩), bl_ HB⟩
          ·rw [if_neg c16] at H
           exact absurd H (by simp)
         ·rw [if_neg c15] at H
          exact absurd H (by simp)
        ·rw [if_neg c14] at H
         have c14b0 : decide (x32_2 < (l0.length : Int)) = false := decide_eq_false c14
         clear c14
         simp only [Option.some.injEq, Prod.mk.injEq] at H
         obtain ⟨rfl, rfl, rfl, rfl, rfl⟩ := H
         obtain ⟨hcz68_0, hcz68_1, hcz68_2, hfz68_0, hfz68_1, hfz68_2⟩ := cz3_ BK469
         obtain ⟨Ao69, co69, eo69⟩ := Kd.N_slice HO_470000.out
         subst eo69
         go_wp2
         refine bodyPost_ret (results_ctt rfl _ _ gb469 61 #[.slice Ao69 x470000_2.length co69, .int .i64 x470001_2, .slice none 0 0] (0, 0) _ rfl (by (with_reducible repeat (first | refine blk_drewN ?_ _ | refine blk_drew ?_ | refine blk_alloc ?_ _)); refine blk_put (cs := #[.slice Ao69 x470000_2.length co69, .int .i64 x470001_2, .slice none 0 0]) ?_ 2 _ rfl; (with_reducible repeat (first | refine blk_drewN ?_ _ | refine blk_drew ?_ | refine blk_alloc ?_ _)); refine blk_put (cs := #[.slice Ao69 x470000_2.length co69, .int .i64 x470001_2, .slice none 0 0]) ?_ 1 _ rfl; (with_reducible repeat (first | refine blk_drewN ?_ _ | refine blk_drew ?_ | refine blk_alloc ?_ _)); refine blk_put (cs := #[.slice Ao69 x470000_2.length co69, .int .i64 x470001_2, .slice none 0 0]) ?_ 0 _ rfl; (with_reducible repeat (first | refine blk_drewN ?_ _ | refine blk_drew ?_ | refine blk_alloc ?_ _)); exact BK469.out) Try.underlying61 rfl (by kernel_rfl)) rfl ?_
         exact ⟨_, _, _, fin_, Kd.N_mono (nD_ HO_470000 (fun k_ hk => hk.2.2)) (fun _ hk => ⟨hk.1.1, ⟨(by simp [Value.ownBlock]), hk.1.2.1⟩⟩), nil_, Kd.N_mono (nD_ HO_3 (fun k_ hk => hk.2.2)) (fun _ hk => ⟨hk.1.1, ⟨hk.1.2.1, (by simp [Value.ownBlock])⟩⟩), bl_ HB⟩
     ·rw [if_neg c12] at H
      exact absurd H (by simp)
end Go.Proofs.Ytooabchnbmnchaa.Q
