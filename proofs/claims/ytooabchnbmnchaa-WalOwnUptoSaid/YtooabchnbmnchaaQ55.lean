-- Laid by this session's own program (wip/tools) out of the translation; Lean checks it. Thinned, shortened and merged for this claim.
import Derived.Test.YtooabchnbmnchaaQ0
import Derived.Test.YtooabchnbmnchaaSq
import Derived.Test.YtooabchnbmnchaaQ26
import Derived.Test.YtooabchnbmnchaaQ38
namespace Go.Proofs.Ytooabchnbmnchaa.Q
open Go.RowKit Go.Proofs.YtooabchnbmnchaaW.PrintWords Go.Proofs.YtooabchnbmnchaaW.PrintLast Go.Proofs.YtooabchnbmnchaaW.PrintMore
attribute [local go_sem] max2_int min2_int max_two min_two max_three min_three max_four min_four binOp_string_leq binOp_string_geq binOp_string_gtr   -- for this text's walks alone
set_option linter.unusedVariables false
set_option linter.unusedSimpArgs false
mutual
def transeptref08_Recover.j0 : Nat → List (S87) → Bool → Option ((List (S87)) × Int × (List (List Int)) × (List (List Int)) × Int)
 | 0, _, _ => none
 | k + 1, x0, x25 => if x25 = true then (some (([] : List (S87)), 0, ([] : List (List Int)), ([] : List (List Int)), 81)) else (if 0 < (x0.length : Int) then (transeptref08_Recover.l0 k x0 ([] : List (List Int)) 0 ([] : List (S87)) ((rd_T87 x0 0).f0)) else (none))
def transeptref08_Recover.l0 : Nat → List (S87) → List (List Int) → Int → List (S87) → Int → Option ((List (S87)) × Int × (List (List Int)) × (List (List Int)) × Int)
 | 0, _, _, _, _, _ => none
 | k + 1, x0, x6, x7, x494000, x494001 => if x7 < (x0.length : Int) then (if 0 ≤ x7 then (if ((rd_T87 x0 x7).f0) = x494001 then ((transeptref08_Whole.f k ((rd_T87 x0 x7).f1)).bind fun bt496 => (if (wrap64 (x494001 + (bt496.1.length : Int))) > 1099511627776 then (some (([] : List (S87)), 0, ([] : List (List Int)), ([] : List (List Int)), 81)) else (if bt496.2 > 0 then (transeptref08_Recover.j2 k x0 x6 x7 bt496.1 bt496.2 true x494000 x494001 ((rd_T87 x0 x7).f0) ((rd_T87 x0 x7).f1)) else (transeptref08_Recover.j2 k x0 x6 x7 bt496.1 bt496.2 (x7 == 0) x494000 x494001 ((rd_T87 x0 x7).f0) ((rd_T87 x0 x7).f1))))) else (some (x494000, x494001, ([] : List (List Int)), x6, 21))) else (none)) else (some (x494000, x494001, ([] : List (List Int)), x6, 0))
def transeptref08_Recover.j2 : Nat → List (S87) → List (List Int) → Int → List (List Int) → Int → Bool → List (S87) → Int → Int → List Int → Option ((List (S87)) × Int × (List (List Int)) × (List (List Int)) × Int)
 | 0, _, _, _, _, _, _, _, _, _, _ => none
 | k + 1, x0, x6, x7, x9, x10, x67, x494000, x494001, x496000, x496001 => if x67 = true then (if 0 ≤ x10 then (if x10 ≤ (x496001.length : Int) then ((transeptref03_Copied.f (x496001.take (x10 : Int).toNat)).bind fun t501 => (if x494000.length < 4398046511104 then (transeptref08_Recover.j3 k x0 x6 x7 x9 x10 (x494000 ++ [(⟨x496000, t501⟩ : S87)]) x494001 x496000 x496001) else (none))) else (none)) else (none)) else (transeptref08_Recover.j3 k x0 x6 x7 x9 x10 x494000 x494001 x496000 x496001)
def transeptref08_Recover.j3 : Nat → List (S87) → List (List Int) → Int → List (List Int) → Int → List (S87) → Int → Int → List Int → Option ((List (S87)) × Int × (List (List Int)) × (List (List Int)) × Int)
 | 0, _, _, _, _, _, _, _, _, _ => none
 | k + 1, x0, x6, x7, x9, x10, x494000, x494001, x496000, x496001 => if x6.length + x9.length < 5864062014805 then ((some (x6 ++ x9 : List (List Int))).bind fun y507 => (if x10 = (x496001.length : Int) then (transeptref08_Recover.l0 k x0 y507 (wrap64 (x7 + 1)) x494000 (wrap64 (x494001 + (x9.length : Int)))) else (if x7 < (wrap64 ((x0.length : Int) - 1)) then (some (x494000, wrap64 (x494001 + (x9.length : Int)), ([] : List (List Int)), y507, 21)) else (transeptref08_Recover.l0 k x0 y507 (wrap64 (x7 + 1)) x494000 (wrap64 (x494001 + (x9.length : Int))))))) else (none)
end
def transeptref08_Recover.f (k : Nat) (l0 : List (S87)) : Option ((List (S87)) × Int × (List (List Int)) × (List (List Int)) × Int) := if (l0.length : Int) = 0 then (some (([] : List (S87)), 0, ([] : List (List Int)), ([] : List (List Int)), 0)) else (if (l0.length : Int) > 4096 then (transeptref08_Recover.j0 k l0 true) else (if 0 < (l0.length : Int) then ((transeptref08_index.f ((rd_T87 l0 0).f0)).bind fun t491 => (transeptref08_Recover.j0 k l0 (!t491))) else (none)))
theorem transeptref08_Recover.mono_l : ∀ k, (∀ y0 y1, LeO (transeptref08_Recover.j0 k y0 y1) (transeptref08_Recover.j0 (k + 1) y0 y1)) ∧ (∀ y0 y1 y2 y3 y4, LeO (transeptref08_Recover.l0 k y0 y1 y2 y3 y4) (transeptref08_Recover.l0 (k + 1) y0 y1 y2 y3 y4)) ∧ (∀ y0 y1 y2 y3 y4 y5 y6 y7 y8 y9, LeO (transeptref08_Recover.j2 k y0 y1 y2 y3 y4 y5 y6 y7 y8 y9) (transeptref08_Recover.j2 (k + 1) y0 y1 y2 y3 y4 y5 y6 y7 y8 y9)) ∧ (∀ y0 y1 y2 y3 y4 y5 y6 y7 y8, LeO (transeptref08_Recover.j3 k y0 y1 y2 y3 y4 y5 y6 y7 y8) (transeptref08_Recover.j3 (k + 1) y0 y1 y2 y3 y4 y5 y6 y7 y8))
 | 0 => ⟨fun _ _ r h => by simp [transeptref08_Recover.j0] at h, fun _ _ _ _ _ r h => by simp [transeptref08_Recover.l0] at h, fun _ _ _ _ _ _ _ _ _ _ r h => by simp [transeptref08_Recover.j2] at h, fun _ _ _ _ _ _ _ _ _ r h => by simp [transeptref08_Recover.j3] at h⟩
 | k + 1 => by
  obtain ⟨ih0, ih1, ih2, ih3⟩ := transeptref08_Recover.mono_l k
  refine ⟨?_, ?_, ?_, ?_⟩
  ·intro y0 y1
   unfold transeptref08_Recover.j0
   repeat' first
   | (with_reducible exact ih0 _ _)
   | (with_reducible exact ih1 _ _ _ _ _)
   | (with_reducible exact ih2 _ _ _ _ _ _ _ _ _ _)
   | (with_reducible exact ih3 _ _ _ _ _ _ _ _ _)
   | (with_reducible exact transeptref08_Whole.mono _ _)
   | (with_reducible exact LeO.refl _)
   | (with_reducible exact LeO.none _)
   | (with_reducible refine LeO.ite ?_ ?_)
   | (with_reducible refine LeO.bind ?_ (fun _ => ?_))
   | exact ih0 _ _
   | exact ih1 _ _ _ _ _
   | exact ih2 _ _ _ _ _ _ _ _ _ _
   | exact ih3 _ _ _ _ _ _ _ _ _
   | exact transeptref08_Whole.mono _ _
   | exact LeO.none _
   | refine LeO.ite ?_ ?_
   | refine LeO.bind ?_ (fun _ => ?_)
  ·intro y0 y1 y2 y3 y4
   unfold transeptref08_Recover.l0
   repeat' first
   | (with_reducible exact ih0 _ _)
   | (with_reducible exact ih1 _ _ _ _ _)
   | (with_reducible exact ih2 _ _ _ _ _ _ _ _ _ _)
   | (with_reducible exact ih3 _ _ _ _ _ _ _ _ _)
   | (with_reducible exact transeptref08_Whole.mono _ _)
   | (with_reducible exact LeO.refl _)
   | (with_reducible exact LeO.none _)
   | (with_reducible refine LeO.ite ?_ ?_)
   | (with_reducible refine LeO.bind ?_ (fun _ => ?_))
   | exact ih0 _ _
   | exact ih1 _ _ _ _ _
   | exact ih2 _ _ _ _ _ _ _ _ _ _
   | exact ih3 _ _ _ _ _ _ _ _ _
   | exact transeptref08_Whole.mono _ _
   | exact LeO.none _
   | refine LeO.ite ?_ ?_
   | refine LeO.bind ?_ (fun _ => ?_)
  ·intro y0 y1 y2 y3 y4 y5 y6 y7 y8 y9
   unfold transeptref08_Recover.j2
   repeat' first
   | (with_reducible exact ih0 _ _)
   | (with_reducible exact ih1 _ _ _ _ _)
   | (with_reducible exact ih2 _ _ _ _ _ _ _ _ _ _)
   | (with_reducible exact ih3 _ _ _ _ _ _ _ _ _)
   | (with_reducible exact transeptref08_Whole.mono _ _)
   | (with_reducible exact LeO.refl _)
   | (with_reducible exact LeO.none _)
   | (with_reducible refine LeO.ite ?_ ?_)
   | (with_reducible refine LeO.bind ?_ (fun _ => ?_))
   | exact ih0 _ _
   | exact ih1 _ _ _ _ _
   | exact ih2 _ _ _ _ _ _ _ _ _ _
   | exact ih3 _ _ _ _ _ _ _ _ _
   | exact transeptref08_Whole.mono _ _
   | exact LeO.none _
   | refine LeO.ite ?_ ?_
   | refine LeO.bind ?_ (fun _ => ?_)
  ·intro y0 y1 y2 y3 y4 y5 y6 y7 y8
   unfold transeptref08_Recover.j3
   repeat' first
   | (with_reducible exact ih0 _ _)
   | (with_reducible exact ih1 _ _ _ _ _)
   | (with_reducible exact ih2 _ _ _ _ _ _ _ _ _ _)
   | (with_reducible exact ih3 _ _ _ _ _ _ _ _ _)
   | (with_reducible exact transeptref08_Whole.mono _ _)
   | (with_reducible exact LeO.refl _)
   | (with_reducible exact LeO.none _)
   | (with_reducible refine LeO.ite ?_ ?_)
   | (with_reducible refine LeO.bind ?_ (fun _ => ?_))
   | exact ih0 _ _
   | exact ih1 _ _ _ _ _
   | exact ih2 _ _ _ _ _ _ _ _ _ _
   | exact ih3 _ _ _ _ _ _ _ _ _
   | exact transeptref08_Whole.mono _ _
   | exact LeO.none _
   | refine LeO.ite ?_ ?_
   | refine LeO.bind ?_ (fun _ => ?_)
theorem transeptref08_Recover.mono : ∀ a0 k, LeO (transeptref08_Recover.f k a0) (transeptref08_Recover.f (k + 1) a0) := by
 intro a0 k
 obtain ⟨ih0, ih1, ih2, ih3⟩ := transeptref08_Recover.mono_l k
 unfold transeptref08_Recover.f
 repeat' first
   | (with_reducible exact ih0 _ _)
   | (with_reducible exact ih1 _ _ _ _ _)
   | (with_reducible exact ih2 _ _ _ _ _ _ _ _ _ _)
   | (with_reducible exact ih3 _ _ _ _ _ _ _ _ _)
   | (with_reducible exact transeptref08_Whole.mono _ _)
   | (with_reducible exact LeO.refl _)
   | (with_reducible exact LeO.none _)
   | (with_reducible refine LeO.ite ?_ ?_)
   | (with_reducible refine LeO.bind ?_ (fun _ => ?_))
   | exact ih0 _ _
   | exact ih1 _ _ _ _ _
   | exact ih2 _ _ _ _ _ _ _ _ _ _
   | exact ih3 _ _ _ _ _ _ _ _ _
   | exact transeptref08_Whole.mono _ _
   | exact LeO.none _
   | refine LeO.ite ?_ ?_
   | refine LeO.bind ?_ (fun _ => ?_)
def transeptref08_Recover.T17 : Bool × List (List Nat × List Nat) := (true, [([], []), ([0], [0]), ([], []), ([2], [2]), ([], []), ([4], [4]), ([], []), ([5, 6], [5, 6]), ([7], [7]), ([3, 8], [3, 8]), ([9], [9]), ([1, 10, 8], [1, 10]), ([0, 1, 2, 3, 4, 5, 6, 7, 8, 9, 10, 11], []), ([12, 11, 11, 0, 1, 2, 3, 4, 5, 6, 7, 8, 9, 10, 11], [11, 12])])
def transeptref08_Recover.B17 : List Nat := [0, 1, 0, 4, 0, 16, 0, 112, 240, 508, 1020, 2047, 4095, 8191]
theorem transeptref08_Recover.tab17 : rtab .any (opsOf Try.f46 17) = transeptref08_Recover.T17 := by kernel_rfl
theorem transeptref08_Recover.bits17 : waitsOk transeptref08_Recover.T17.2 transeptref08_Recover.B17 = true := by kernel_rfl
set_option maxHeartbeats 8000000 in
set_option maxRecDepth 100000 in
theorem transeptref08_Recover.calls (k : Nat) (A0 : Option Addr) (c0 : Nat) (l0 : List (S87)) (r1 : List (S87)) (r2 : Int) (r3 : List (List Int)) (r4 : List (List Int)) (r5 : Int) (w : World) (hr0 : Kd.C k87 w A0 l0.length l0) (hc0 : l0.length ≤ c0) (h : transeptref08_Recover.f k l0 = some (r1, r2, r3, r4, r5)) :
  Calls Try.prog 46 #[.slice A0 l0.length c0] w fun e w' => ∃ v0_ v2_ v3_ : Value, e = .returned (.tuple #[.agg #[v0_, .int .i64 r2, v2_], v3_, .int .i64 r5]) ∧ Kd.N k87 87 w' w.heap.size (fun k_ => (w.heap.size ≤ k_) ∧ some k_ ≠ (v2_ : Value).ownBlock ∧ some k_ ≠ (v3_ : Value).ownBlock) v0_ r1 ∧ Kd.N (Kd.slice 5 (Kd.int .u8)) 26 w' w.heap.size (fun k_ => (w.heap.size ≤ k_) ∧ some k_ ≠ (v0_ : Value).ownBlock ∧ some k_ ≠ (v3_ : Value).ownBlock) v2_ r3 ∧ Kd.N (Kd.slice 5 (Kd.int .u8)) 26 w' w.heap.size (fun k_ => (w.heap.size ≤ k_) ∧ some k_ ≠ (v0_ : Value).ownBlock ∧ some k_ ≠ (v2_ : Value).ownBlock) v3_ r4 ∧ Below w.heap.size w w' := by
 have hu58 := Try.underlying58
 have hu87 := Try.underlying87
 have HR0 := Aside0.mk hr0
 have HC0 := Aside0.mk hc0
 clear hr0 hc0
 have HB := Aside0.mk (Below.refl w.heap.size w)
 have H : (if (l0.length : Int) = 0 then (some (([] : List (S87)), 0, ([] : List (List Int)), ([] : List (List Int)), 0)) else (if (l0.length : Int) > 4096 then (transeptref08_Recover.j0 k l0 true) else (if 0 < (l0.length : Int) then ((transeptref08_index.f ((rd_T87 l0 0).f0)).bind fun t491 => (transeptref08_Recover.j0 k l0 (!t491))) else (none)))) = some (r1, r2, r3, r4, r5) := h
 clear h
 by_cases c2 : (l0.length : Int) = 0
 ·rw [if_pos c2] at H
  have c2b0 : ((l0.length : Int) == 0) = true := beq_iff_eq.mpr c2
  have c2b1 : ((l0.length : Int) != 0) = false := bne_eq_false_iff_eq.mpr c2
  clear c2
  simp only [Option.some.injEq, Prod.mk.injEq] at H
  obtain ⟨rfl, rfl, rfl, rfl, rfl⟩ := H
  go_enter Try.func46, Try.ntmps46
  go_wp2_with (first | ((with_reducible refine gate_dst (N := 2) rfl ?_); refine bx_ 2 #[.slice none 0 0, .int .i64 0, .slice none 0 0] 58 ?_; intro gb489 hg w3 hbox hb; have BK489 := Aside0.mk (hbox); have GW489 := bG_ HB hg; have GE489 := bG_ HB hg; replace HB := bS_ HB hb; clear hb hbox hg; obtain ⟨hcz4_0, hcz4_1, hcz4_2, hfz4_0, hfz4_1, hfz4_2⟩ := cz3_ BK489))
  refine bodyPost_ret (results_ctt rfl _ _ gb489 58 #[.slice none 0 0, .int .i64 0, .slice none 0 0] (0, 0) _ rfl (by (with_reducible repeat (first | refine blk_drewN ?_ _ | refine blk_drew ?_ | refine blk_alloc ?_ _)); refine blk_put (cs := #[.slice none 0 0, .int .i64 0, .slice none 0 0]) ?_ 2 _ rfl; (with_reducible repeat (first | refine blk_drewN ?_ _ | refine blk_drew ?_ | refine blk_alloc ?_ _)); refine blk_put (cs := #[.slice none 0 0, .int .i64 0, .slice none 0 0]) ?_ 1 _ rfl; (with_reducible repeat (first | refine blk_drewN ?_ _ | refine blk_drew ?_ | refine blk_alloc ?_ _)); refine blk_put (cs := #[.slice none 0 0, .int .i64 0, .slice none 0 0]) ?_ 0 _ rfl; (with_reducible repeat (first | refine blk_drewN ?_ _ | refine blk_drew ?_ | refine blk_alloc ?_ _)); exact BK489.out) Try.underlying58 rfl (by kernel_rfl)) rfl ?_
  exact ⟨_, _, _, fin_, nil_, nil_, nil_, bl_ HB⟩
 ·rw [if_neg c2] at H
  have c2b0 : ((l0.length : Int) == 0) = false := beq_eq_false_iff_ne.mpr c2
  have c2b1 : ((l0.length : Int) != 0) = true := bne_iff_ne.mpr c2
  have c2b2 : ¬ (l0 = []) := fun h_ => c2 (by rw [h_]; rfl)
  have HC5 := Aside0.mk H
  clear H
  go_enter Try.func46, Try.ntmps46
  go_upto_region 3 with (first | ((with_reducible refine gate_dst (N := 2) rfl ?_); refine bx_ 2 #[.slice none 0 0, .int .i64 0, .slice none 0 0] 58 ?_; intro gb489 hg w6 hbox hb; have BK489 := Aside0.mk (hbox); have GW489 := bG_ HB hg; have GE489 := bG_ HB hg; replace HB := bS_ HB hb; clear hb hbox hg))
  (try simp only [Act.put, List.setIfInBounds_toArray, List.set_cons_zero, List.set_cons_succ])
  go_cut [25] (fun v25 wc => ∃ (kq : Nat) (x25_4 : Bool), v25 = .bool x25_4 ∧ Aside0 (transeptref08_Recover.j0 kq l0 x25_4 = some (r1, r2, r3, r4, r5)) ∧ Aside0 (kq ≤ k) ∧ Aside0 (wc.heap[gb489]? = some (.cells #[(.slice none 0 0), .int .i64 0, (.slice none 0 0)] 58 (0, 0))) ∧ Aside0 (Below w.heap.size w wc))
  case first =>
   have H := HC5.out
   clear HC5
   by_cases c7 : (l0.length : Int) > 4096
   ·rw [if_pos c7] at H
    have c7b0 : decide (4096 < (l0.length : Int)) = true := decide_eq_true c7
    have c7b1 : decide (4096 < l0.length) = true := decide_eq_true (by omega)
    clear c7
    (first | rw [c7b0] | (simp only [i64_w, i32_w]; rw [c7b0]) | skip)
    have H' := Aside0.mk H
    clear H
    go_wp2
    go_meet
    case rel => exact ⟨_, (true), (by first | rfl | (simp; done) | (simp [*]; done)), H', ⟨by first | omega | exact Nat.le_refl _⟩, ⟨bA_ BK489⟩, ⟨bl_ HB⟩⟩
   ·rw [if_neg c7] at H
    have c7b0 : decide (4096 < (l0.length : Int)) = false := decide_eq_false c7
    have c7b1 : decide (4096 < l0.length) = false := decide_eq_false (by omega)
    clear c7
    (first | rw [c7b0] | (simp only [i64_w, i32_w]; rw [c7b0]) | skip)
    by_cases c8 : 0 < (l0.length : Int)
    ·rw [if_pos c8] at H
     have c8b0 : decide (0 < (l0.length : Int)) = true := decide_eq_true c8
     have c8b1 : decide (0 < l0.length) = true := decide_eq_true (by omega)
     clear c8
     replace H := Option.bind_eq_some_iff.mp H
     obtain ⟨t491, A90, H⟩ := H
     replace H : (transeptref08_Recover.j0 k l0 (!t491)) = some (r1, r2, r3, r4, r5) := H
     have A9 := Aside0.mk A90
     clear A90
     have H' := Aside0.mk H
     clear H
     have p490 : 0 ≤ (0 : Int) := (by omega)
     have q490 : 0 < (l0.length : Int) := of_decide_eq_true (by first | (with_reducible assumption) | assumption)
     obtain ⟨ad490, A490_1, c490_1, e490, hx490_0, hx490_1, hl490_1, hi490_1⟩ := at_T87 HR0.out 0 p490 q490
     cases e490
     have qi490 : (0 < l0.length) = True := eq_true (by omega)
     (try rw [show ((0 : Int)).toNat = 0 from rfl] at hx490_0)
     (try rw [show 0 * 2 = 0 from rfl] at hx490_0)
     (try rw [Addr.add_zero'] at hx490_0)
     (try rw [show ((0 : Int)).toNat = 0 from rfl] at hx490_1)
     (try rw [show 0 * 2 = 0 from rfl] at hx490_1)
     (try rw [Addr.add_zero'] at hx490_1)
     replace hx490_0 := (HB.out.cell (World.block_lt_of_cell? w _ hx490_0)).trans hx490_0
     replace hx490_1 := (HB.out.cell (World.block_lt_of_cell? w _ hx490_1)).trans hx490_1
     have HR490_1 := Aside0.mk hi490_1
     have HC490_1 := Aside0.mk hl490_1
     clear hi490_1 hl490_1
     replace p490 := eq_true p490
     replace q490 := eq_true q490
     go_wp2_with (first | (go_at_call 76; (with_reducible refine (transeptref08_index.calls ((rd_T87 l0 0).f0) t491 _ A9.out).mono ?_); rintro e w' ⟨rfl, ⟨nd, rfl⟩⟩))
     go_meet
     case rel => exact ⟨_, (!t491), (by first | rfl | (simp; done) | (simp [*]; done)), H', ⟨by first | omega | exact Nat.le_refl _⟩, ⟨bA_ BK489⟩, ⟨bl_ HB⟩⟩
    ·rw [if_neg c8] at H
     exact absurd H (by simp)
  case rest =>
   clear HC5
   try clear c2
   try clear c2b0
   try clear c2b1
   try clear c2b2
   try clear p2
   try clear c4
   try clear p4
   try clear q4
   try clear hx4
   try clear qi4
   try clear c7
   try clear c7b0
   try clear c7b1
   try clear c8
   try clear c8b0
   try clear c8b1
   try clear hcz4_0
   try clear hcz4_1
   try clear hcz4_2
   try clear hfz4_0
   try clear hfz4_1
   try clear hfz4_2
   try clear hx490_0
   try clear hx490_1
   try clear p490
   try clear q490
   obtain ⟨kq, x25_4, rfl, HA, HJ4, BK489, HB⟩ := hcut
   cases kq with
   | zero => exact absurd HA.out (by simp [transeptref08_Recover.j0])
   | succ kj4 =>
    have H := HA.out
    clear HA
    simp only [transeptref08_Recover.j0] at H
    by_cases c10 : x25_4 = true
    ·subst c10
     rw [if_pos rfl] at H
     simp only [Option.some.injEq, Prod.mk.injEq] at H
     obtain ⟨rfl, rfl, rfl, rfl, rfl⟩ := H
     obtain ⟨hcz11_0, hcz11_1, hcz11_2, hfz11_0, hfz11_1, hfz11_2⟩ := cz3_ BK489
     go_wp2
     refine bodyPost_ret (results_ctt rfl _ _ gb489 58 #[.slice none 0 0, .int .i64 0, .slice none 0 0] (0, 0) _ rfl (by (with_reducible repeat (first | refine blk_drewN ?_ _ | refine blk_drew ?_ | refine blk_alloc ?_ _)); refine blk_put (cs := #[.slice none 0 0, .int .i64 0, .slice none 0 0]) ?_ 2 _ rfl; (with_reducible repeat (first | refine blk_drewN ?_ _ | refine blk_drew ?_ | refine blk_alloc ?_ _)); refine blk_put (cs := #[.slice none 0 0, .int .i64 0, .slice none 0 0]) ?_ 1 _ rfl; (with_reducible repeat (first | refine blk_drewN ?_ _ | refine blk_drew ?_ | refine blk_alloc ?_ _)); refine blk_put (cs := #[.slice none 0 0, .int .i64 0, .slice none 0 0]) ?_ 0 _ rfl; (with_reducible repeat (first | refine blk_drewN ?_ _ | refine blk_drew ?_ | refine blk_alloc ?_ _)); exact BK489.out) Try.underlying58 rfl (by kernel_rfl)) rfl ?_
     exact ⟨_, _, _, fin_, nil_, nil_, nil_, bl_ HB⟩
    ·replace c10 := Bool.eq_false_iff.mpr c10
     subst c10
     rw [if_neg (show ¬ (false = true) by decide)] at H
     by_cases c12 : 0 < (l0.length : Int)
     ·rw [if_pos c12] at H
      have c12b0 : decide (0 < (l0.length : Int)) = true := decide_eq_true c12
      have c12b1 : decide (0 < l0.length) = true := decide_eq_true (by omega)
      clear c12
      have H' := Aside0.mk H
      clear H
      have p492 : 0 ≤ (0 : Int) := (by omega)
      have q492 : 0 < (l0.length : Int) := of_decide_eq_true (by first | (with_reducible assumption) | assumption)
      obtain ⟨ad492, A492_1, c492_1, e492, hx492_0, hx492_1, hl492_1, hi492_1⟩ := at_T87 HR0.out 0 p492 q492
      cases e492
      have qi492 : (0 < l0.length) = True := eq_true (by omega)
      (try rw [show ((0 : Int)).toNat = 0 from rfl] at hx492_0)
      (try rw [show 0 * 2 = 0 from rfl] at hx492_0)
      (try rw [Addr.add_zero'] at hx492_0)
      (try rw [show ((0 : Int)).toNat = 0 from rfl] at hx492_1)
      (try rw [show 0 * 2 = 0 from rfl] at hx492_1)
      (try rw [Addr.add_zero'] at hx492_1)
      replace hx492_0 := (HB.out.cell (World.block_lt_of_cell? w _ hx492_0)).trans hx492_0
      replace hx492_1 := (HB.out.cell (World.block_lt_of_cell? w _ hx492_1)).trans hx492_1
      have HR492_1 := Aside0.mk hi492_1
      have HC492_1 := Aside0.mk hl492_1
      clear hi492_1 hl492_1
      replace p492 := eq_true p492
      replace q492 := eq_true q492
      go_wp2_with (first | ((with_reducible refine gate_dst (N := 5) rfl ?_); refine bx_ 5 #[.slice none 0 0, .int .i64 0, .slice none 0 0] 58 ?_; intro gb493 hg w13 hbox hb; have BK493 := Aside0.mk (hbox); have GW493 := bG_ HB hg; have GE493 := bG_ HB hg; replace HB := bS_ HB hb; have NB489_493 := nL_ BK489 hg; have NB493_489 := nG_ BK489 hg; replace BK489 := bK_ BK489 hb; clear hb hbox hg; have hnb14 := NB493_489.out; have hnc14 := NB489_493.out; obtain ⟨hcz15_0, hcz15_1, hcz15_2, hfz15_0, hfz15_1, hfz15_2⟩ := cz3_ BK493))
      go_loopg [6, 7] kj4 (fun kq v6 v7 w' => ∃ (x6_2 : List (List Int)) (x7_2 : Int) (x490001_2 : Int) (x494000_2 : List (S87)) (x494001_2 : Int) (u494000 : Value), v7 = .int .i64 x7_2 ∧ Aside0 (transeptref08_Recover.l0 kq l0 x6_2 x7_2 x494000_2 x494001_2 = some (r1, r2, r3, r4, r5)) ∧ Aside0 (kq ≤ kj4) ∧ Aside0 (Kd.N (Kd.slice 5 (Kd.int .u8)) 26 w' w.heap.size (fun k_ => (w.heap.size ≤ k_) ∧ some k_ ≠ (u494000 : Value).ownBlock ∧ k_ ≠ gb489 ∧ k_ ≠ gb493) v6 x6_2) ∧ Aside0 (Kd.N k87 87 w' w.heap.size (fun k_ => (w.heap.size ≤ k_) ∧ some k_ ≠ (v6 : Value).ownBlock ∧ k_ ≠ gb489 ∧ k_ ≠ gb493) u494000 x494000_2) ∧ Aside0 (w'.heap[gb489]? = some (.cells #[(.slice none 0 0), .int .i64 x490001_2, (.slice none 0 0)] 58 (0, 0))) ∧ Aside0 (w'.heap[gb493]? = some (.cells #[u494000, .int .i64 x494001_2, (.slice none 0 0)] 58 (0, 0))) ∧ Aside0 (Below w.heap.size w w'))
      case atStart => exact ⟨(([] : List (List Int))), (0), (0), (([] : List (S87))), ((rd_T87 l0 0).f0), (.slice none 0 0), (by first | rfl | (simp; done) | (simp [*]; done)), H', ⟨Nat.le_refl _⟩, ⟨nil_⟩, ⟨nil_⟩, ⟨bA_ BK489⟩, ⟨by (with_reducible repeat (first | refine blk_drewN ?_ _ | refine blk_drew ?_ | refine blk_alloc ?_ _)); refine blk_put (cs := #[.slice none 0 0, .int .i64 ((rd_T87 l0 0).f0), .slice none 0 0]) ?_ 2 _ rfl; (with_reducible repeat (first | refine blk_drewN ?_ _ | refine blk_drew ?_ | refine blk_alloc ?_ _)); refine blk_put (cs := #[.slice none 0 0, .int .i64 0, .slice none 0 0]) ?_ 1 _ rfl; (with_reducible repeat (first | refine blk_drewN ?_ _ | refine blk_drew ?_ | refine blk_alloc ?_ _)); refine blk_put (cs := #[.slice none 0 0, .int .i64 0, .slice none 0 0]) ?_ 0 _ rfl; (with_reducible repeat (first | refine blk_drewN ?_ _ | refine blk_drew ?_ | refine blk_alloc ?_ _)); exact BK493.out⟩, ⟨bl_ HB⟩⟩
      case round =>
       clear H'
       try clear c1
       try clear c2
       try clear c2b0
       try clear c2b1
       try clear c2b2
       try clear p2
       try clear c4
       try clear p4
       try clear q4
       try clear hx4
       try clear qi4
       try clear c7
       try clear c7b0
       try clear c7b1
       try clear c8
       try clear c8b0
       try clear c8b1
       try clear c10
       try clear c12
       try clear c12b0
       try clear c12b1
       try clear c14
       try clear hcz11_0
       try clear hcz11_1
       try clear hcz11_2
       try clear hcz15_0
       try clear hcz15_1
       try clear hcz15_2
       try clear hcz4_0
       try clear hcz4_1
       try clear hcz4_2
       try clear hfz11_0
       try clear hfz11_1
       try clear hfz11_2
       try clear hfz15_0
       try clear hfz15_1
       try clear hfz15_2
       try clear hfz4_0
       try clear hfz4_1
       try clear hfz4_2
       try clear hx490_0
       try clear hx490_1
       try clear hx492_0
       try clear hx492_1
       try clear p2
       try clear p4
       try clear p490
       try clear p492
       try clear q4
       try clear q490
       try clear q492
       obtain ⟨x6_2, x7_2, x490001_2, x494000_2, x494001_2, u494000, rfl, HA, HK2, HO_6, HO_494000, BK489, BK493, HB⟩ := hrel
       cases gk with
       | zero => exact absurd HA.out (by simp [transeptref08_Recover.l0])
       | succ k2 =>
        have H := HA.out
        clear HA
        simp only [transeptref08_Recover.l0] at H
        by_cases c16 : x7_2 < (l0.length : Int)
        ·rw [if_pos c16] at H
         have c16b0 : decide (x7_2 < (l0.length : Int)) = true := decide_eq_true c16
         clear c16
         by_cases c17 : 0 ≤ x7_2
         ·rw [if_pos c17] at H
          have c17b0 : decide (0 ≤ x7_2) = true := decide_eq_true c17
          clear c17
          by_cases c18 : ((rd_T87 l0 x7_2).f0) = x494001_2
          ·rw [if_pos c18] at H
           have c18b0 : (((rd_T87 l0 x7_2).f0) == x494001_2) = true := beq_iff_eq.mpr c18
           have c18b1 : (((rd_T87 l0 x7_2).f0) != x494001_2) = false := bne_eq_false_iff_eq.mpr c18
           clear c18
           replace H := Option.bind_eq_some_iff.mp H
           obtain ⟨⟨t496, t499⟩, A190, H⟩ := H
           try dsimp only at H
           have A19 := Aside0.mk A190
           clear A190
           by_cases c20 : (wrap64 (x494001_2 + (t496.length : Int))) > 1099511627776
           ·rw [if_pos c20] at H
            have c20b0 : decide (1099511627776 < (wrap64 (x494001_2 + (t496.length : Int)))) = true := decide_eq_true c20
            clear c20
            simp only [Option.some.injEq, Prod.mk.injEq] at H
            obtain ⟨rfl, rfl, rfl, rfl, rfl⟩ := H
            have p494 : 0 ≤ (x7_2 : Int) := of_decide_eq_true (by first | (with_reducible assumption) | assumption)
            have q494 : x7_2 < (l0.length : Int) := of_decide_eq_true (by first | (with_reducible assumption) | assumption)
            obtain ⟨ad494, A494_1, c494_1, e494, hx494_0, hx494_1, hl494_1, hi494_1⟩ := at_T87 HR0.out x7_2 p494 q494
            obtain rfl : ad492 = ad494 := (by injection e494)
            replace hx494_0 := (HB.out.cell (World.block_lt_of_cell? w _ hx494_0)).trans hx494_0
            replace hx494_1 := (HB.out.cell (World.block_lt_of_cell? w _ hx494_1)).trans hx494_1
            have HR494_1 := Aside0.mk hi494_1
            have HC494_1 := Aside0.mk hl494_1
            clear hi494_1 hl494_1
            replace p494 := eq_true p494
            replace q494 := eq_true q494
            go_wp2_with (first | ((with_reducible refine gate_dst (N := 8) rfl ?_); refine bx_ 8 #[.int .i64 0, .slice none 0 0] 87 ?_; intro gb495 hg w21 hbox hb; replace HO_6 := Aside0.mk (Kd.N_below (Kd.N_elderB (nA_ HO_6) gb495 (Nat.le_of_eq hg.symm)) hb); replace HO_494000 := Aside0.mk (Kd.N_below (Kd.N_elderB (nA_ HO_494000) gb495 (Nat.le_of_eq hg.symm)) hb); have BK495 := Aside0.mk (hbox); have GW495 := bG_ HB hg; have GE495 := bG_ HB hg; replace HB := bS_ HB hb; have NB489_495 := nL_ BK489 hg; have NB495_489 := nG_ BK489 hg; replace BK489 := bK_ BK489 hb; have NB493_495 := nL_ BK493 hg; have NB495_493 := nG_ BK493 hg; replace BK493 := bK_ BK493 hb; clear hb hbox hg; have hnb22 := NB495_489.out; have hnc22 := NB489_495.out; have hnb23 := NB495_493.out; have hnc23 := NB493_495.out; obtain ⟨hcz24_0, hcz24_1, hfz24_0, hfz24_1⟩ := cz2_ BK495; have hnb25 := NB493_489.out; have hnc25 := NB489_493.out; obtain ⟨hcz26_0, hcz26_1, hcz26_2, hfz26_0, hfz26_1, hfz26_2⟩ := cz3_ BK493) | ((with_reducible refine gate_callee (f := 77) rfl ?_); refine gL_ (some 52) Try.func77 #[.slice A494_1 ((rd_T87 l0 x7_2).f1).length c494_1] ?_; (with_reducible refine (transeptref08_Whole.calls k2 _ _ ((rd_T87 l0 x7_2).f1) t496 t499 _ ?_ ?_ A19.out).mono ?_); exact Kd.C_below HR494_1.out (bl_ HB); exact HC494_1.out; rintro e w27 ⟨v497, rfl, ho0, hb⟩; refine ⟨_, rfl, ?_⟩; have HO498 := Aside0.mk (Kd.N_lower (Kd.N_mono (ok' := fun k_ => (w.heap.size ≤ k_) ∧ some k_ ≠ (u6 : Value).ownBlock ∧ some k_ ≠ (u494000 : Value).ownBlock ∧ k_ ≠ gb489 ∧ k_ ≠ gb493 ∧ k_ ≠ gb495) ho0 (fun k_ hk_ => ⟨(Nat.le_trans (bs_ HB) hk_), (Kd.fresh' (Kd.N_lt (nC_ HO_6 (fun k_ hk => hk.2))) k_ hk_), (Kd.fresh' (Kd.N_lt (nC_ HO_494000 (fun k_ hk => hk.2))) k_ hk_), (Kd.freshB (bA_ BK489) k_ hk_), (Kd.freshB (bA_ BK493) k_ hk_), (Kd.freshB (g := gb495) (o := .cells #[.int .i64 ((rd_T87 l0 x7_2).f0), .slice A494_1 ((rd_T87 l0 x7_2).f1).length c494_1] 87 (0, 0)) (by (with_reducible repeat (first | refine blk_drewN ?_ _ | refine blk_drew ?_ | refine blk_alloc ?_ _)); refine blk_put (cs := #[.int .i64 ((rd_T87 l0 x7_2).f0), .slice none 0 0]) ?_ 1 _ rfl; (with_reducible repeat (first | refine blk_drewN ?_ _ | refine blk_drew ?_ | refine blk_alloc ?_ _)); refine blk_put (cs := #[.int .i64 0, .slice none 0 0]) ?_ 0 _ rfl; (with_reducible repeat (first | refine blk_drewN ?_ _ | refine blk_drew ?_ | refine blk_alloc ?_ _)); exact BK495.out) k_ hk_)⟩)) (bs_ HB)); replace HO_6 := Aside0.mk (Kd.N_elder' (nC_ HO_6 (fun k_ hk => hk.2)) (Kd.N_base ho0) hb); replace HO_494000 := Aside0.mk (Kd.N_elder' (nC_ HO_494000 (fun k_ hk => hk.2)) (Kd.N_base ho0) hb); replace BK489 := bK_ BK489 hb; replace BK493 := bK_ BK493 hb; replace BK495 := Aside0.mk (blk_below (g := gb495) (o := .cells #[.int .i64 ((rd_T87 l0 x7_2).f0), .slice A494_1 ((rd_T87 l0 x7_2).f1).length c494_1] 87 (0, 0)) (by (with_reducible repeat (first | refine blk_drewN ?_ _ | refine blk_drew ?_ | refine blk_alloc ?_ _)); refine blk_put (cs := #[.int .i64 ((rd_T87 l0 x7_2).f0), .slice none 0 0]) ?_ 1 _ rfl; (with_reducible repeat (first | refine blk_drewN ?_ _ | refine blk_drew ?_ | refine blk_alloc ?_ _)); refine blk_put (cs := #[.int .i64 0, .slice none 0 0]) ?_ 0 _ rfl; (with_reducible repeat (first | refine blk_drewN ?_ _ | refine blk_drew ?_ | refine blk_alloc ?_ _)); exact BK495.out) hb); replace HB := bS_ HB hb; (try clear hb ho0); obtain ⟨hcz28_0, hcz28_1, hcz28_2, hfz28_0, hfz28_1, hfz28_2⟩ := cz3_ BK493; obtain ⟨Ao29, co29, eo29⟩ := Kd.N_slice HO498.out; subst eo29; obtain ⟨hcz30_0, hcz30_1, hcz30_2, hfz30_0, hfz30_1, hfz30_2⟩ := cz3_ BK489))
            refine bodyPost_ret (results_ctt rfl _ _ gb489 58 #[.slice none 0 0, .int .i64 0, .slice none 0 0] (0, 0) _ rfl (by (with_reducible repeat (first | refine blk_drewN ?_ _ | refine blk_drew ?_ | refine blk_alloc ?_ _)); refine blk_put (cs := #[.slice none 0 0, .int .i64 0, .slice none 0 0]) ?_ 2 _ rfl; (with_reducible repeat (first | refine blk_drewN ?_ _ | refine blk_drew ?_ | refine blk_alloc ?_ _)); refine blk_put (cs := #[.slice none 0 0, .int .i64 x490001_2, .slice none 0 0]) ?_ 1 _ rfl; (with_reducible repeat (first | refine blk_drewN ?_ _ | refine blk_drew ?_ | refine blk_alloc ?_ _)); refine blk_put (cs := #[.slice none 0 0, .int .i64 x490001_2, .slice none 0 0]) ?_ 0 _ rfl; (with_reducible repeat (first | refine blk_drewN ?_ _ | refine blk_drew ?_ | refine blk_alloc ?_ _)); exact BK489.out) Try.underlying58 rfl (by kernel_rfl)) rfl ?_
            exact ⟨_, _, _, fin_, nil_, nil_, nil_, bl_ HB⟩
           ·rw [if_neg c20] at H
            have c20b0 : decide (1099511627776 < (wrap64 (x494001_2 + (t496.length : Int)))) = false := decide_eq_false c20
            clear c20
            have HC31 := Aside0.mk H
            clear H
            have p494 : 0 ≤ (x7_2 : Int) := of_decide_eq_true (by first | (with_reducible assumption) | assumption)
            have q494 : x7_2 < (l0.length : Int) := of_decide_eq_true (by first | (with_reducible assumption) | assumption)
            obtain ⟨ad494, A494_1, c494_1, e494, hx494_0, hx494_1, hl494_1, hi494_1⟩ := at_T87 HR0.out x7_2 p494 q494
            obtain rfl : ad492 = ad494 := (by injection e494)
            replace hx494_0 := (HB.out.cell (World.block_lt_of_cell? w _ hx494_0)).trans hx494_0
            replace hx494_1 := (HB.out.cell (World.block_lt_of_cell? w _ hx494_1)).trans hx494_1
            have HR494_1 := Aside0.mk hi494_1
            have HC494_1 := Aside0.mk hl494_1
            clear hi494_1 hl494_1
            replace p494 := eq_true p494
            replace q494 := eq_true q494
            go_upto_region 16 with (first | ((with_reducible refine gate_dst (N := 8) rfl ?_); refine bx_ 8 #[.int .i64 0, .slice none 0 0] 87 ?_; intro gb495 hg w32 hbox hb; replace HO_6 := Aside0.mk (Kd.N_below (Kd.N_elderB (nA_ HO_6) gb495 (Nat.le_of_eq hg.symm)) hb); replace HO_494000 := Aside0.mk (Kd.N_below (Kd.N_elderB (nA_ HO_494000) gb495 (Nat.le_of_eq hg.symm)) hb); have BK495 := Aside0.mk (hbox); have GW495 := bG_ HB hg; have GE495 := bG_ HB hg; replace HB := bS_ HB hb; have NB489_495 := nL_ BK489 hg; have NB495_489 := nG_ BK489 hg; replace BK489 := bK_ BK489 hb; have NB493_495 := nL_ BK493 hg; have NB495_493 := nG_ BK493 hg; replace BK493 := bK_ BK493 hb; clear hb hbox hg; have hnb33 := NB495_489.out; have hnc33 := NB489_495.out; have hnb34 := NB495_493.out; have hnc34 := NB493_495.out; obtain ⟨hcz35_0, hcz35_1, hfz35_0, hfz35_1⟩ := cz2_ BK495; have hnb36 := NB493_489.out; have hnc36 := NB489_493.out; obtain ⟨hcz37_0, hcz37_1, hcz37_2, hfz37_0, hfz37_1, hfz37_2⟩ := cz3_ BK493) | ((with_reducible refine gate_callee (f := 77) rfl ?_); refine gL_ (some 52) Try.func77 #[.slice A494_1 ((rd_T87 l0 x7_2).f1).length c494_1] ?_; (with_reducible refine (transeptref08_Whole.calls k2 _ _ ((rd_T87 l0 x7_2).f1) t496 t499 _ ?_ ?_ A19.out).mono ?_); exact Kd.C_below HR494_1.out (bl_ HB); exact HC494_1.out; rintro e w38 ⟨v497, rfl, ho0, hb⟩; refine ⟨_, rfl, ?_⟩; have HO498 := Aside0.mk (Kd.N_lower (Kd.N_mono (ok' := fun k_ => (w.heap.size ≤ k_) ∧ some k_ ≠ (u6 : Value).ownBlock ∧ some k_ ≠ (u494000 : Value).ownBlock ∧ k_ ≠ gb489 ∧ k_ ≠ gb493 ∧ k_ ≠ gb495) ho0 (fun k_ hk_ => ⟨(Nat.le_trans (bs_ HB) hk_), (Kd.fresh' (Kd.N_lt (nC_ HO_6 (fun k_ hk => hk.2))) k_ hk_), (Kd.fresh' (Kd.N_lt (nC_ HO_494000 (fun k_ hk => hk.2))) k_ hk_), (Kd.freshB (bA_ BK489) k_ hk_), (Kd.freshB (bA_ BK493) k_ hk_), (Kd.freshB (g := gb495) (o := .cells #[.int .i64 ((rd_T87 l0 x7_2).f0), .slice A494_1 ((rd_T87 l0 x7_2).f1).length c494_1] 87 (0, 0)) (by (with_reducible repeat (first | refine blk_drewN ?_ _ | refine blk_drew ?_ | refine blk_alloc ?_ _)); refine blk_put (cs := #[.int .i64 ((rd_T87 l0 x7_2).f0), .slice none 0 0]) ?_ 1 _ rfl; (with_reducible repeat (first | refine blk_drewN ?_ _ | refine blk_drew ?_ | refine blk_alloc ?_ _)); refine blk_put (cs := #[.int .i64 0, .slice none 0 0]) ?_ 0 _ rfl; (with_reducible repeat (first | refine blk_drewN ?_ _ | refine blk_drew ?_ | refine blk_alloc ?_ _)); exact BK495.out) k_ hk_)⟩)) (bs_ HB)); replace HO_6 := Aside0.mk (Kd.N_elder' (nC_ HO_6 (fun k_ hk => hk.2)) (Kd.N_base ho0) hb); replace HO_494000 := Aside0.mk (Kd.N_elder' (nC_ HO_494000 (fun k_ hk => hk.2)) (Kd.N_base ho0) hb); replace BK489 := bK_ BK489 hb; replace BK493 := bK_ BK493 hb; replace BK495 := Aside0.mk (blk_below (g := gb495) (o := .cells #[.int .i64 ((rd_T87 l0 x7_2).f0), .slice A494_1 ((rd_T87 l0 x7_2).f1).length c494_1] 87 (0, 0)) (by (with_reducible repeat (first | refine blk_drewN ?_ _ | refine blk_drew ?_ | refine blk_alloc ?_ _)); refine blk_put (cs := #[.int .i64 ((rd_T87 l0 x7_2).f0), .slice none 0 0]) ?_ 1 _ rfl; (with_reducible repeat (first | refine blk_drewN ?_ _ | refine blk_drew ?_ | refine blk_alloc ?_ _)); refine blk_put (cs := #[.int .i64 0, .slice none 0 0]) ?_ 0 _ rfl; (with_reducible repeat (first | refine blk_drewN ?_ _ | refine blk_drew ?_ | refine blk_alloc ?_ _)); exact BK495.out) hb); replace HB := bS_ HB hb; (try clear hb ho0); obtain ⟨hcz39_0, hcz39_1, hcz39_2, hfz39_0, hfz39_1, hfz39_2⟩ := cz3_ BK493; obtain ⟨Ao40, co40, eo40⟩ := Kd.N_slice HO498.out; subst eo40))
            (try simp only [Act.put, List.setIfInBounds_toArray, List.set_cons_zero, List.set_cons_succ])
            go_cut [67] (fun v67 wc => ∃ (kq : Nat) (x67_30 : Bool), v67 = .bool x67_30 ∧ Aside0 (transeptref08_Recover.j2 kq l0 x6_2 x7_2 t496 t499 x67_30 x494000_2 x494001_2 ((rd_T87 l0 x7_2).f0) ((rd_T87 l0 x7_2).f1) = some (r1, r2, r3, r4, r5)) ∧ Aside0 (kq ≤ k2) ∧ Aside0 (Kd.N (Kd.slice 5 (Kd.int .u8)) 26 wc w.heap.size (fun k_ => (w.heap.size ≤ k_) ∧ some k_ ≠ ((.slice Ao40 t496.length co40) : Value).ownBlock ∧ some k_ ≠ (u494000 : Value).ownBlock ∧ k_ ≠ gb489 ∧ k_ ≠ gb493 ∧ k_ ≠ gb495) u6 x6_2) ∧ Aside0 (Kd.N (Kd.slice 5 (Kd.int .u8)) 26 wc w.heap.size (fun k_ => (w.heap.size ≤ k_) ∧ some k_ ≠ (u6 : Value).ownBlock ∧ some k_ ≠ (u494000 : Value).ownBlock ∧ k_ ≠ gb489 ∧ k_ ≠ gb493 ∧ k_ ≠ gb495) (.slice Ao40 t496.length co40) t496) ∧ Aside0 (Kd.N k87 87 wc w.heap.size (fun k_ => (w.heap.size ≤ k_) ∧ some k_ ≠ (u6 : Value).ownBlock ∧ some k_ ≠ ((.slice Ao40 t496.length co40) : Value).ownBlock ∧ k_ ≠ gb489 ∧ k_ ≠ gb493 ∧ k_ ≠ gb495) u494000 x494000_2) ∧ Aside0 (wc.heap[gb489]? = some (.cells #[(.slice none 0 0), .int .i64 x490001_2, (.slice none 0 0)] 58 (0, 0))) ∧ Aside0 (wc.heap[gb493]? = some (.cells #[u494000, .int .i64 x494001_2, (.slice none 0 0)] 58 (0, 0))) ∧ Aside0 (wc.heap[gb495]? = some (.cells #[.int .i64 ((rd_T87 l0 x7_2).f0), (.slice A494_1 ((rd_T87 l0 x7_2).f1).length c494_1)] 87 (0, 0))) ∧ Aside0 (Below w.heap.size w wc))
            case first =>
             have H := HC31.out
             clear HC31
             by_cases c41 : t499 > 0
             ·rw [if_pos c41] at H
              have c41b0 : decide (0 < t499) = true := decide_eq_true c41
              clear c41
              (first | rw [c41b0] | (simp only [i64_w, i32_w]; rw [c41b0]) | skip)
              have H' := Aside0.mk H
              clear H
              go_wp2
              go_meet
              case rel => exact ⟨_, (true), (by first | rfl | (simp; done) | (simp [*]; done)), H', ⟨by have := HJ4.out; have := HK2.out; first | omega | exact Nat.le_refl _⟩, ⟨by (with_reducible repeat (first | apply Kd.N_alloc | apply Kd.N_drewN | apply Kd.N_drew)); exact Kd.N_mono HO_6.out (fun _ hk => ⟨hk.1.1.1, ⟨hk.2, ⟨hk.1.1.2.1, ⟨hk.1.1.2.2.1, ⟨hk.1.1.2.2.2, hk.1.2⟩⟩⟩⟩⟩)⟩, ⟨nA_ HO498⟩, ⟨by (with_reducible repeat (first | apply Kd.N_alloc | apply Kd.N_drewN | apply Kd.N_drew)); exact Kd.N_mono HO_494000.out (fun _ hk => ⟨hk.1.1.1, ⟨hk.1.1.2.1, ⟨hk.2, ⟨hk.1.1.2.2.1, ⟨hk.1.1.2.2.2, hk.1.2⟩⟩⟩⟩⟩)⟩, ⟨bA_ BK489⟩, ⟨bA_ BK493⟩, ⟨bA_ BK495⟩, ⟨bl_ HB⟩⟩
             ·rw [if_neg c41] at H
              have c41b0 : decide (0 < t499) = false := decide_eq_false c41
              clear c41
              (first | rw [c41b0] | (simp only [i64_w, i32_w]; rw [c41b0]) | skip)
              have H' := Aside0.mk H
              clear H
              go_wp2
              go_meet
              case rel => exact ⟨_, ((x7_2 == 0)), (by first | rfl | (simp; done) | (simp [*]; done)), H', ⟨by have := HJ4.out; have := HK2.out; first | omega | exact Nat.le_refl _⟩, ⟨by (with_reducible repeat (first | apply Kd.N_alloc | apply Kd.N_drewN | apply Kd.N_drew)); exact Kd.N_mono HO_6.out (fun _ hk => ⟨hk.1.1.1, ⟨hk.2, ⟨hk.1.1.2.1, ⟨hk.1.1.2.2.1, ⟨hk.1.1.2.2.2, hk.1.2⟩⟩⟩⟩⟩)⟩, ⟨nA_ HO498⟩, ⟨by (with_reducible repeat (first | apply Kd.N_alloc | apply Kd.N_drewN | apply Kd.N_drew)); exact Kd.N_mono HO_494000.out (fun _ hk => ⟨hk.1.1.1, ⟨hk.1.1.2.1, ⟨hk.2, ⟨hk.1.1.2.2.1, ⟨hk.1.1.2.2.2, hk.1.2⟩⟩⟩⟩⟩)⟩, ⟨bA_ BK489⟩, ⟨bA_ BK493⟩, ⟨bA_ BK495⟩, ⟨bl_ HB⟩⟩
            case rest =>
             clear HC31
             try clear c1
             try clear c2
             try clear c2b0
             try clear c2b1
             try clear c2b2
             try clear p2
             try clear c3
             try clear c4
             try clear p4
             try clear q4
             try clear hx4
             try clear qi4
             try clear p6
             try clear c7
             try clear c7b0
             try clear c7b1
             try clear c8
             try clear c8b0
             try clear c8b1
             try clear c10
             try clear c12
             try clear c12b0
             try clear c12b1
             try clear c14
             try clear c16
             try clear c16b0
             try clear c17
             try clear c17b0
             try clear c18
             try clear c18b0
             try clear c18b1
             try clear c20
             try clear c20b0
             try clear c22
             try clear c23
             try clear c25
             try clear c33
             try clear c34
             try clear c36
             try clear c41
             try clear c41b0
             try clear hcz11_0
             try clear hcz11_1
             try clear hcz11_2
             try clear hcz15_0
             try clear hcz15_1
             try clear hcz15_2
             try clear hcz24_0
             try clear hcz24_1
             try clear hcz26_0
             try clear hcz26_1
             try clear hcz26_2
             try clear hcz28_0
             try clear hcz28_1
             try clear hcz28_2
             try clear hcz30_0
             try clear hcz30_1
             try clear hcz30_2
             try clear hcz35_0
             try clear hcz35_1
             try clear hcz37_0
             try clear hcz37_1
             try clear hcz37_2
             try clear hcz39_0
             try clear hcz39_1
             try clear hcz39_2
             try clear hcz4_0
             try clear hcz4_1
             try clear hcz4_2
             try clear hfz11_0
             try clear hfz11_1
             try clear hfz11_2
             try clear hfz15_0
             try clear hfz15_1
             try clear hfz15_2
             try clear hfz24_0
             try clear hfz24_1
             try clear hfz26_0
             try clear hfz26_1
             try clear hfz26_2
             try clear hfz28_0
             try clear hfz28_1
             try clear hfz28_2
             try clear hfz30_0
             try clear hfz30_1
             try clear hfz30_2
             try clear hfz35_0
             try clear hfz35_1
             try clear hfz37_0
             try clear hfz37_1
             try clear hfz37_2
             try clear hfz39_0
             try clear hfz39_1
             try clear hfz39_2
             try clear hfz4_0
             try clear hfz4_1
             try clear hfz4_2
             try clear hx490_0
             try clear hx490_1
             try clear hx492_0
             try clear hx492_1
             try clear hx494_0
             try clear hx494_1
             try clear p2
             try clear p4
             try clear p490
             try clear p492
             try clear p494
             try clear q4
             try clear q490
             try clear q492
             try clear q494
             obtain ⟨kq, x67_30, rfl, HA, HJ30, HO_6, HO_9, HO_494000, BK489, BK493, BK495, HB⟩ := hcut
             cases kq with
             | zero => exact absurd HA.out (by simp [transeptref08_Recover.j2])
             | succ kj30 =>
              have H := HA.out
              clear HA
              simp only [transeptref08_Recover.j2] at H
              have HC42 := Aside0.mk H
              clear H
              go_upto_if 67 with (fail)
              go_cut [] (fun wc => ∃ (kq : Nat) (x494000_41 : List (S87)) (u494000 : Value), Aside0 (transeptref08_Recover.j3 kq l0 x6_2 x7_2 t496 t499 x494000_41 x494001_2 ((rd_T87 l0 x7_2).f0) ((rd_T87 l0 x7_2).f1) = some (r1, r2, r3, r4, r5)) ∧ Aside0 (kq ≤ kj30) ∧ Aside0 (Kd.N (Kd.slice 5 (Kd.int .u8)) 26 wc w.heap.size (fun k_ => (w.heap.size ≤ k_) ∧ some k_ ≠ ((.slice Ao40 t496.length co40) : Value).ownBlock ∧ some k_ ≠ (u494000 : Value).ownBlock ∧ k_ ≠ gb489 ∧ k_ ≠ gb493 ∧ k_ ≠ gb495) u6 x6_2) ∧ Aside0 (Kd.N (Kd.slice 5 (Kd.int .u8)) 26 wc w.heap.size (fun k_ => (w.heap.size ≤ k_) ∧ some k_ ≠ (u6 : Value).ownBlock ∧ some k_ ≠ (u494000 : Value).ownBlock ∧ k_ ≠ gb489 ∧ k_ ≠ gb493 ∧ k_ ≠ gb495) (.slice Ao40 t496.length co40) t496) ∧ Aside0 (Kd.N k87 87 wc w.heap.size (fun k_ => (w.heap.size ≤ k_) ∧ some k_ ≠ (u6 : Value).ownBlock ∧ some k_ ≠ ((.slice Ao40 t496.length co40) : Value).ownBlock ∧ k_ ≠ gb489 ∧ k_ ≠ gb493 ∧ k_ ≠ gb495) u494000 x494000_41) ∧ Aside0 (wc.heap[gb489]? = some (.cells #[(.slice none 0 0), .int .i64 x490001_2, (.slice none 0 0)] 58 (0, 0))) ∧ Aside0 (wc.heap[gb493]? = some (.cells #[u494000, .int .i64 x494001_2, (.slice none 0 0)] 58 (0, 0))) ∧ Aside0 (wc.heap[gb495]? = some (.cells #[.int .i64 ((rd_T87 l0 x7_2).f0), (.slice A494_1 ((rd_T87 l0 x7_2).f1).length c494_1)] 87 (0, 0))) ∧ Aside0 (Below w.heap.size w wc))
              case first =>
               have H := HC42.out
               clear HC42
               by_cases c43 : x67_30 = true
               ·subst c43
                rw [if_pos rfl] at H
                by_cases c44 : 0 ≤ t499
                ·rw [if_pos c44] at H
                 have c44b0 := eq_true c44
                 have c44b1 : decide (0 ≤ t499) = true := decide_eq_true c44
                 clear c44
                 by_cases c45 : t499 ≤ (((rd_T87 l0 x7_2).f1).length : Int)
                 ·rw [if_pos c45] at H
                  have c45b0 := eq_true c45
                  have c45b1 : decide (t499 ≤ (((rd_T87 l0 x7_2).f1).length : Int)) = true := decide_eq_true c45
                  clear c45
                  replace H := Option.bind_eq_some_iff.mp H
                  obtain ⟨t501, A460, H⟩ := H
                  try dsimp only at H
                  have A46 := Aside0.mk A460
                  clear A460
                  by_cases c47 : x494000_2.length < 4398046511104
                  ·rw [if_pos c47] at H
                   have LMc47 := Aside0.mk c47
                   clear c47
                   obtain ⟨y504, hy504⟩ : ∃ y_ : List (S87), y_ = (x494000_2 ++ [(⟨((rd_T87 l0 x7_2).f0), t501⟩ : S87)]) := ⟨_, rfl⟩
                   replace H : (transeptref08_Recover.j3 kj30 l0 x6_2 x7_2 t496 t499 y504 x494001_2 ((rd_T87 l0 x7_2).f0) ((rd_T87 l0 x7_2).f1)) = some (r1, r2, r3, r4, r5) := by first | (rw [hy504]; with_reducible exact H) | (have H2_ := (Option.bind_some _ _).symm.trans H; rw [hy504]; with_reducible exact H2_) | (have H2_ := (Option.bind_some _ _).symm.trans H; with_reducible exact H2_) | with_reducible exact H | (rw [hy504]; exact H) | exact H
                   have Ny504 := Aside0.mk hy504
                   clear hy504
                   have H' := Aside0.mk H
                   clear H
                   try go_wp2
                   replace HO_6 := Aside0.mk (Kd.N_drew HO_6.out)
                   replace HO_9 := Aside0.mk (Kd.N_drew HO_9.out)
                   replace HO_494000 := Aside0.mk (Kd.N_drew HO_494000.out)
                   replace BK489 := Aside0.mk (blk_drew BK489.out)
                   replace BK493 := Aside0.mk (blk_drew BK493.out)
                   replace BK495 := Aside0.mk (blk_drew BK495.out)
                   replace HB := Aside0.mk (below_drew1 HB.out)
                   obtain ⟨i049, hi049, _, hsz49, _⟩ := info_parts info5
                   obtain ⟨hcut49, hA49, hC49⟩ := print_take_of (P := Try.prog) (Value.int .u8) 0 26 5 .i64 Try.underlying26 hi049 hsz49 A494_1 c494_1 ((rd_T87 l0 x7_2).f1) t499 (of_decide_eq_true (by first | (with_reducible assumption) | assumption)) (of_decide_eq_true (by first | (with_reducible assumption) | assumption)) HC494_1.out
                   have HR500 := Aside0.mk (Kd.C_of_reads (h1 := fun _ => rfl) (hA49 _ (Kd.reads_of_C HR494_1.out)))
                   have HC500 := Aside0.mk hC49
                   clear hA49 hC49 hi049 hsz49
                   refine start_ (n := 14) (S := fun w' => w'.cell? ⟨gb493, 0, none⟩ = some (u494000) ∧ w'.cell? ⟨gb493, 1, none⟩ = some (.int .i64 x494001_2) ∧ w'.cell? ⟨gb493, 2, none⟩ = some (.slice none 0 0) ∧ w'.cell? ⟨gb495, 0, none⟩ = some (.int .i64 ((rd_T87 l0 x7_2).f0)) ∧ w'.cell? ⟨gb495, 1, none⟩ = some (.slice A494_1 ((rd_T87 l0 x7_2).f1).length c494_1)) (ds := [13]) #[false, false, false, false, false, false, false, false, false, false, false, false, false, false] (by kernel_rfl) rfl rfl ⟨(blk_cell BK493.out 0).trans rfl, (blk_cell BK493.out 1).trans rfl, (blk_cell BK493.out 2).trans rfl, (blk_cell BK495.out 0).trans rfl, (blk_cell BK495.out 1).trans rfl⟩ (fun hHeld => ?_); refine with_tabW transeptref08_Recover.tab17 transeptref08_Recover.bits17 (fun HT_ HW_ => ?_)
                   generalize wc.drew = w48 at HO_6 HO_9 HO_494000 BK489 BK493 BK495 HB HR500 hHeld ⊢
                   refine pu_ 0 (some 68) HT_ ?_
                   refine pu_ 2 (some 70) HT_ ?_
                   refine pu_ 4 (some 72) HT_ ?_
                   refine pu_ 6 (some 74) HT_ ?_
                   refine tk_ 1 (some 69) HT_ HW_ hHeld ?_
                   refine tk_ 3 (some 71) HT_ HW_ hHeld ?_
                   refine tk_ 5 (some 73) HT_ HW_ hHeld ?_
                   refine pu_ 7 (some 75) HT_ ?_
                   refine on_ 8 (some 76) HT_ (fun K hK => ?_)
                   refine goes_ Try.func72 (by kernel_rfl) rfl #[.slice A494_1 (((rd_T87 l0 x7_2).f1).take (t499 : Int).toNat).length c494_1] (by rfl) rfl rfl (by (try simp only [List.map_toArray, List.map_cons, List.map_nil]); first | done | (rw [show (((rd_T87 l0 x7_2).f1).take (t499 : Int).toNat).length = t499.toNat from (by rw [List.length_take]; have h_ : (t499 : Int) ≤ (((rd_T87 l0 x7_2).f1).length : Int) := of_decide_eq_true (by first | (with_reducible assumption) | assumption); omega)] <;> rfl) | rfl | (simp only [List.length_drop, List.length_take]; rfl)) ?_
                   with_reducible refine (transeptref03_Copied.calls _ _ (((rd_T87 l0 x7_2).f1).take (t499 : Int).toNat) t501 _ ?_ ?_ A46.out).mono ?_
                   exact cB_ HR500 HB
                   exact HC500.out
                   rintro e w50 ⟨v502, rfl, ho0, hb⟩
                   refine ⟨_, rfl, ?_⟩
                   replace HO_6 := Aside0.mk (Kd.N_elder' (nA_ HO_6) (Kd.R_base ho0) hb)
                   replace HO_9 := Aside0.mk (Kd.N_elder' (nA_ HO_9) (Kd.R_base ho0) hb)
                   replace HO_494000 := Aside0.mk (Kd.N_elder' (nA_ HO_494000) (Kd.R_base ho0) hb)
                   have HO503 := Aside0.mk (Kd.R_lower (Kd.R_newM (M := fun k_ => (w.heap.size ≤ k_)) ho0 (bs_ HB) (fun k_ h_ => h_)) (bs_ HB))
                   replace BK489 := bK_ BK489 hb
                   replace BK493 := bK_ BK493 hb
                   replace BK495 := bK_ BK495 hb
                   replace HB := bS_ HB hb
                   (try clear hb ho0)
                   obtain ⟨Ao51, co51, eo51⟩ := Kd.R_slice HO503.out
                   (first | subst eo51 | (injection eo51 with f1_ f2_ f3_; have f4_ := f1_.symm; have f5_ := f3_.symm; clear f1_ f2_ f3_; subst f4_; subst f5_))
                   refine hK.out _ _ ⟨(blk_cell BK493.out 0).trans rfl, (blk_cell BK493.out 1).trans rfl, (blk_cell BK493.out 2).trans rfl, (blk_cell BK495.out 0).trans rfl, (blk_cell BK495.out 1).trans rfl⟩ (fun hHeld => ?_)
                   clear hK K
                   refine norm_ (a' := ?_) ?_ ?_
                   rotate_left
                   ·show Act.put _ (some 76) _ = _
                    simp only [Act.put, List.setIfInBounds_toArray, List.set_cons_zero, List.set_cons_succ, i64_w, i32_w]
                    rfl
                   refine pu_ 9 (some 77) HT_ ?_
                   refine on_ 10 (some 78) HT_ (fun K hK => ?_)
                   refine value_ (w1 := ?_) (v := ?_) (by rfl) rfl ?_ ?_
                   rotate_left 2
                   ·go_simp
                    constructor
                    ·rfl
                    ·rfl
                   refine hK.out _ _ ⟨(blk_cell (blk_alloc BK493.out _) 0).trans rfl, (blk_cell (blk_alloc BK493.out _) 1).trans rfl, (blk_cell (blk_alloc BK493.out _) 2).trans rfl, (blk_cell (blk_alloc BK495.out _) 0).trans rfl, (blk_cell (blk_alloc BK495.out _) 1).trans rfl⟩ (fun hHeld => ?_)
                   clear hK K
                   refine norm_ (a' := ?_) ?_ ?_
                   rotate_left
                   ·show Act.put _ (some 78) _ = _
                    simp only [Act.put, List.setIfInBounds_toArray, List.set_cons_zero, List.set_cons_succ, i64_w, i32_w]
                    rfl
                   refine on_ 11 (some 79) HT_ (fun K hK => ?_)
                   refine Kd.N_append_step k87 (w0 := w) w.heap.size (by rfl) (.tmp 69) (.tmp 78) 55 87 (.agg #[(.int .i64 0), (.slice none 0 0)]) 32 rfl Try.underlying55 info87 rfl (by decide) (by omega) u494000 x494000_2 (⟨((rd_T87 l0 x7_2).f0), t501⟩ : S87) [.int .i64 ((rd_T87 l0 x7_2).f0), .slice Ao51 t501.length co51] (fun k_ => (w.heap.size ≤ k_) ∧ some k_ ≠ (u6 : Value).ownBlock ∧ some k_ ≠ (.slice Ao40 t496.length co40 : Value).ownBlock ∧ k_ ≠ gb489 ∧ k_ ≠ gb493 ∧ k_ ≠ gb495) (fun k_ => ((fun k_ => (w.heap.size ≤ k_) ∧ some k_ ≠ (u6 : Value).ownBlock ∧ some k_ ≠ (.slice Ao40 t496.length co40 : Value).ownBlock ∧ k_ ≠ gb489 ∧ k_ ≠ gb493 ∧ k_ ≠ gb495)) k_ ∧ some k_ ≠ (u494000 : Value).ownBlock) rfl rfl ?aP (fun _ hk => hk) ?aF ?aO ?aB ?aS ?aL ?_
                   (case aP => exact (k87_mkF _ _ (⟨((rd_T87 l0 x7_2).f0), t501⟩ : S87) (Kd.R_reads' (Kd.R_mono (ok' := (fun k_ => ((fun k_ => (w.heap.size ≤ k_) ∧ some k_ ≠ (u6 : Value).ownBlock ∧ some k_ ≠ (.slice Ao40 t496.length co40 : Value).ownBlock ∧ k_ ≠ gb489 ∧ k_ ≠ gb493 ∧ k_ ≠ gb495)) k_ ∧ some k_ ≠ (u494000 : Value).ownBlock)) (Kd.R_types (Kd.R_types (Kd.R_types (Kd.R_apart' (Kd.R_apart' (Kd.R_apart' (HO503.out) (Kd.N_typed HO_6.out) (by decide)) (Kd.N_typed HO_9.out) (by decide)) (Kd.N_typed HO_494000.out) (by decide)) BK489.out (by decide)) BK493.out (by decide)) BK495.out (by decide)) (fun k_ hk => ⟨⟨hk.1.1.1.1.1.1.1, ⟨hk.1.1.1.1.1.2, ⟨hk.1.1.1.1.2, ⟨hk.1.1.2, ⟨hk.1.2, hk.2⟩⟩⟩⟩⟩, hk.1.1.1.2⟩))).2.1 (Kd.R_F (Kd.R_mono (ok' := (fun k_ => ((fun k_ => (w.heap.size ≤ k_) ∧ some k_ ≠ (u6 : Value).ownBlock ∧ some k_ ≠ (.slice Ao40 t496.length co40 : Value).ownBlock ∧ k_ ≠ gb489 ∧ k_ ≠ gb493 ∧ k_ ≠ gb495)) k_ ∧ some k_ ≠ (u494000 : Value).ownBlock)) (Kd.R_types (Kd.R_types (Kd.R_types (Kd.R_apart' (Kd.R_apart' (Kd.R_apart' (HO503.out) (Kd.N_typed HO_6.out) (by decide)) (Kd.N_typed HO_9.out) (by decide)) (Kd.N_typed HO_494000.out) (by decide)) BK489.out (by decide)) BK493.out (by decide)) BK495.out (by decide)) (fun k_ hk => ⟨⟨hk.1.1.1.1.1.1.1, ⟨hk.1.1.1.1.1.2, ⟨hk.1.1.1.1.2, ⟨hk.1.1.2, ⟨hk.1.2, hk.2⟩⟩⟩⟩⟩, hk.1.1.1.2⟩)))))
                   (case aB => exact (bl_ HB))
                   (case aF => exact (fun k_ hk => ⟨(Nat.le_trans (bs_ HB) hk), Kd.fresh' (Kd.N_lt (nA_ HO_6)) k_ hk, Kd.fresh' (Kd.N_lt (nA_ HO_9)) k_ hk, Kd.freshB (bA_ BK489) k_ hk, Kd.freshB (bA_ BK493) k_ hk, Kd.freshB (bA_ BK495) k_ hk⟩))
                   (case aO => exact (by (with_reducible repeat (first | apply Kd.N_alloc | apply Kd.N_drewN | apply Kd.N_drew)); exact Kd.N_mono HO_494000.out (fun _ hk => ⟨hk.1.1, ⟨hk.1.2.1, ⟨hk.1.2.2.1, ⟨hk.1.2.2.2.1, ⟨hk.1.2.2.2.2.1, hk.1.2.2.2.2.2⟩⟩⟩⟩⟩)))
                   (case aS => exact (bs_ HB))
                   (case aL => have := LMc47.out; omega)
                   intro v505 w52 ho hb hg hat
                   rw [← Ny504.out] at ho
                   replace HO_6 := Aside0.mk (Kd.N_afterv (ok := (fun k_ => (w.heap.size ≤ k_) ∧ some k_ ≠ (.slice Ao40 t496.length co40 : Value).ownBlock ∧ some k_ ≠ (.slice Ao51 t501.length co51 : Value).ownBlock ∧ k_ ≠ gb489 ∧ k_ ≠ gb493 ∧ k_ ≠ gb495)) (by (with_reducible repeat (first | apply Kd.N_alloc | apply Kd.N_drewN | apply Kd.N_drew)); exact Kd.N_mono HO_6.out (fun _ hk => ⟨⟨hk.1.1, ⟨hk.1.2.1, ⟨hk.2, ⟨hk.1.2.2.2.1, ⟨hk.1.2.2.2.2.1, hk.1.2.2.2.2.2⟩⟩⟩⟩⟩, hk.1.2.2.1⟩)) hg hat)
                   replace HO_9 := Aside0.mk (Kd.N_afterv (ok := (fun k_ => (w.heap.size ≤ k_) ∧ some k_ ≠ (u6 : Value).ownBlock ∧ some k_ ≠ (.slice Ao51 t501.length co51 : Value).ownBlock ∧ k_ ≠ gb489 ∧ k_ ≠ gb493 ∧ k_ ≠ gb495)) (by (with_reducible repeat (first | apply Kd.N_alloc | apply Kd.N_drewN | apply Kd.N_drew)); exact Kd.N_mono HO_9.out (fun _ hk => ⟨⟨hk.1.1, ⟨hk.1.2.1, ⟨hk.2, ⟨hk.1.2.2.2.1, ⟨hk.1.2.2.2.2.1, hk.1.2.2.2.2.2⟩⟩⟩⟩⟩, hk.1.2.2.1⟩)) hg hat)
                   replace BK489 := Aside0.mk (blk_grown (bA_ BK489) hg (Kd.N_ne HO_494000.out BK489.out (by decide)))
                   replace BK493 := Aside0.mk (blk_grown (bA_ BK493) hg (Kd.N_ne HO_494000.out BK493.out (by decide)))
                   replace BK495 := Aside0.mk (blk_grown (bA_ BK495) hg (Kd.N_away HO_494000.out (fun _ hk => hk.1.2.2.2.2.2)))
                   replace HB := Aside0.mk (hb)
                   have HO506 := Aside0.mk (ho)
                   clear HO_494000 HO503
                   clear ho hb hg hat
                   obtain ⟨Ao53, co53, eo53⟩ := Kd.N_slice HO506.out
                   (first | subst eo53 | (injection eo53 with f1_ f2_ f3_; have f4_ := f1_.symm; have f5_ := f3_.symm; clear f1_ f2_ f3_; subst f4_; subst f5_))
                   refine hK.out _ _ ⟨(blk_cell BK493.out 0).trans rfl, (blk_cell BK493.out 1).trans rfl, (blk_cell BK493.out 2).trans rfl, (blk_cell BK495.out 0).trans rfl, (blk_cell BK495.out 1).trans rfl⟩ (fun hHeld => ?_)
                   clear hK K
                   refine norm_ (a' := ?_) ?_ ?_
                   rotate_left
                   ·show Act.put _ (some 79) _ = _
                    simp only [Act.put, List.setIfInBounds_toArray, List.set_cons_zero, List.set_cons_succ, i64_w, i32_w]
                    rfl
                   refine pu_ 12 (some 80) HT_ ?_
                   refine last_ (i := 13) (N := none) #[true, true, true, true, true, true, true, true, true, true, true, true, true, true] rfl rfl (one_of HT_.out (by kernel_rfl)) (by decide) (fun K hK => ?_)
                   have hs54 : w52.cell? ⟨gb493, 0, none⟩ = some (u494000) := (blk_cell BK493.out 0).trans rfl
                   have hfs54 := blk_frozen BK493.out 0
                   have hns54_0 := NB489_493.out
                   have hns54_2 := NB495_493.out
                   have hms54_0 := NB493_489.out
                   have hms54_2 := NB493_495.out
                   refine skip_ (w1 := ?_) (by rfl) rfl ?_ ?_
                   rotate_left
                   ·go_simp
                    rfl
                   refine hK.out _ _ ?_
                   clear hK K
                   refine done_ (done_of HT_.out (by kernel_rfl)) ?_
                   try go_wp2
                   go_meet
                   case rel => exact ⟨_, (y504), (.slice Ao53 y504.length co53), H', ⟨by have := HJ4.out; have := HK2.out; have := HJ30.out; first | omega | exact Nat.le_refl _⟩, ⟨Kd.N_mono (nD_ HO_6 (fun k_ hk => hk.1.2.2.2.2.1)) (fun _ hk => ⟨hk.1.1.1, ⟨hk.1.1.2.1, ⟨hk.1.2, ⟨hk.1.1.2.2.2.1, ⟨hk.1.1.2.2.2.2.1, hk.1.1.2.2.2.2.2⟩⟩⟩⟩⟩)⟩, ⟨Kd.N_mono (nD_ HO_9 (fun k_ hk => hk.1.2.2.2.2.1)) (fun _ hk => ⟨hk.1.1.1, ⟨hk.1.1.2.1, ⟨hk.1.2, ⟨hk.1.1.2.2.2.1, ⟨hk.1.1.2.2.2.2.1, hk.1.1.2.2.2.2.2⟩⟩⟩⟩⟩)⟩, ⟨Kd.N_mono (nD_ HO506 (fun k_ hk => hk.2.2.2.2.1)) (fun _ hk => ⟨hk.1.1, ⟨hk.1.2.1, ⟨hk.1.2.2.1, ⟨hk.1.2.2.2.1, ⟨hk.1.2.2.2.2.1, hk.1.2.2.2.2.2⟩⟩⟩⟩⟩)⟩, ⟨bA_ BK489⟩, ⟨by (with_reducible repeat (first | refine blk_drewN ?_ _ | refine blk_drew ?_ | refine blk_alloc ?_ _)); refine blk_put (cs := #[u494000, .int .i64 x494001_2, .slice none 0 0]) ?_ 0 _ rfl; (with_reducible repeat (first | refine blk_drewN ?_ _ | refine blk_drew ?_ | refine blk_alloc ?_ _)); exact BK493.out⟩, ⟨bA_ BK495⟩, ⟨bl_ HB⟩⟩
                  ·rw [if_neg c47] at H
                   exact absurd H (by simp)
                 ·rw [if_neg c45] at H
                  exact absurd H (by simp)
                ·rw [if_neg c44] at H
                 exact absurd H (by simp)
               ·replace c43 := Bool.eq_false_iff.mpr c43
                subst c43
                rw [if_neg (show ¬ (false = true) by decide)] at H
                have H' := Aside0.mk H
                clear H
                go_wp2
                go_meet
                case rel => exact ⟨_, (x494000_2), (u494000), H', ⟨by have := HJ4.out; have := HK2.out; have := HJ30.out; first | omega | exact Nat.le_refl _⟩, ⟨nA_ HO_6⟩, ⟨nA_ HO_9⟩, ⟨nA_ HO_494000⟩, ⟨bA_ BK489⟩, ⟨bA_ BK493⟩, ⟨bA_ BK495⟩, ⟨bl_ HB⟩⟩
              case rest =>
               clear HC42
               try clear c1
               try clear c2
               try clear c2b0
               try clear c2b1
               try clear c2b2
               try clear p2
               try clear c3
               try clear c4
               try clear p4
               try clear q4
               try clear hx4
               try clear qi4
               try clear p6
               try clear c7
               try clear c7b0
               try clear c7b1
               try clear c8
               try clear c8b0
               try clear c8b1
               try clear c10
               try clear c12
               try clear c12b0
               try clear c12b1
               try clear c14
               try clear c16
               try clear c16b0
               try clear c17
               try clear c17b0
               try clear c18
               try clear c18b0
               try clear c18b1
               try clear c20
               try clear c20b0
               try clear c22
               try clear c23
               try clear c25
               try clear c33
               try clear c34
               try clear c36
               try clear c41
               try clear c41b0
               try clear c43
               try clear c44
               try clear c44b0
               try clear c44b1
               try clear c45
               try clear c45b0
               try clear c45b1
               try clear c47
               try clear c49
               try clear p49
               try clear q49
               try clear hx49
               try clear qi49
               try clear hcz11_0
               try clear hcz11_1
               try clear hcz11_2
               try clear hcz15_0
               try clear hcz15_1
               try clear hcz15_2
               try clear hcz24_0
               try clear hcz24_1
               try clear hcz26_0
               try clear hcz26_1
               try clear hcz26_2
               try clear hcz28_0
               try clear hcz28_1
               try clear hcz28_2
               try clear hcz30_0
               try clear hcz30_1
               try clear hcz30_2
               try clear hcz35_0
               try clear hcz35_1
               try clear hcz37_0
               try clear hcz37_1
               try clear hcz37_2
               try clear hcz39_0
               try clear hcz39_1
               try clear hcz39_2
               try clear hcz4_0
               try clear hcz4_1
               try clear hcz4_2
               try clear hfz11_0
               try clear hfz11_1
               try clear hfz11_2
               try clear hfz15_0
               try clear hfz15_1
               try clear hfz15_2
               try clear hfz24_0
               try clear hfz24_1
               try clear hfz26_0
               try clear hfz26_1
               try clear hfz26_2
               try clear hfz28_0
               try clear hfz28_1
               try clear hfz28_2
               try clear hfz30_0
               try clear hfz30_1
               try clear hfz30_2
               try clear hfz35_0
               try clear hfz35_1
               try clear hfz37_0
               try clear hfz37_1
               try clear hfz37_2
               try clear hfz39_0
               try clear hfz39_1
               try clear hfz39_2
               try clear hfz4_0
               try clear hfz4_1
               try clear hfz4_2
               try clear hx490_0
               try clear hx490_1
               try clear hx492_0
               try clear hx492_1
               try clear hx494_0
               try clear hx494_1
               try clear p2
               try clear p4
               try clear p490
               try clear p492
               try clear p494
               try clear p6
               try clear q4
               try clear q490
               try clear q492
               try clear q494
               obtain ⟨kq, x494000_41, u494000, HA, HJ41, HO_6, HO_9, HO_494000, BK489, BK493, BK495, HB⟩ := hcut
               cases kq with
               | zero => exact absurd HA.out (by simp [transeptref08_Recover.j3])
               | succ kj41 =>
                have H := HA.out
                clear HA
                simp only [transeptref08_Recover.j3] at H
                by_cases c55 : x6_2.length + t496.length < 5864062014805
                ·rw [if_pos c55] at H
                 have LMc55 := Aside0.mk c55
                 clear c55
                 obtain ⟨y507, hy507⟩ : ∃ y_ : List (List Int), y_ = (x6_2 ++ t496) := ⟨_, rfl⟩
                 replace H : (if t499 = (((rd_T87 l0 x7_2).f1).length : Int) then (transeptref08_Recover.l0 kj41 l0 y507 (wrap64 (x7_2 + 1)) x494000_41 (wrap64 (x494001_2 + (t496.length : Int)))) else (if x7_2 < (wrap64 ((l0.length : Int) - 1)) then (some (x494000_41, wrap64 (x494001_2 + (t496.length : Int)), ([] : List (List Int)), y507, 21)) else (transeptref08_Recover.l0 kj41 l0 y507 (wrap64 (x7_2 + 1)) x494000_41 (wrap64 (x494001_2 + (t496.length : Int)))))) = some (r1, r2, r3, r4, r5) := by first | (rw [hy507]; with_reducible exact H) | (have H2_ := (Option.bind_some _ _).symm.trans H; rw [hy507]; with_reducible exact H2_) | (have H2_ := (Option.bind_some _ _).symm.trans H; with_reducible exact H2_) | with_reducible exact H | (rw [hy507]; exact H) | exact H
                 have Ny507 := Aside0.mk hy507
                 clear hy507
                 by_cases c56 : t499 = (((rd_T87 l0 x7_2).f1).length : Int)
                 ·rw [if_pos c56] at H
                  have c56b0 : (t499 == (((rd_T87 l0 x7_2).f1).length : Int)) = true := beq_iff_eq.mpr c56
                  have c56b1 : (t499 != (((rd_T87 l0 x7_2).f1).length : Int)) = false := bne_eq_false_iff_eq.mpr c56
                  clear c56
                  have H' := Aside0.mk H
                  clear H
                  go_wp2_with (first | ((with_reducible refine gate_builtin (b := .append) (xs := #[.tmp 81, .tmp 82]) rfl ?_); at_builtin; refine Kd.N_append_rows (Kd.slice 5 (Kd.int .u8)) (w0 := w) w.heap.size rfl (.tmp 81) (.tmp 82) 56 26 (.slice none 0 0) 24 rfl Try.underlying56 info26 rfl (by decide) (by omega) u6 x6_2 t496 _ _ _ (fun k_ => (w.heap.size ≤ k_) ∧ some k_ ≠ (u494000 : Value).ownBlock ∧ k_ ≠ gb489 ∧ k_ ≠ gb493 ∧ k_ ≠ gb495) (fun k_ => ((fun k_ => (w.heap.size ≤ k_) ∧ some k_ ≠ (u494000 : Value).ownBlock ∧ k_ ≠ gb489 ∧ k_ ≠ gb493 ∧ k_ ≠ gb495)) k_ ∧ some k_ ≠ (u6 : Value).ownBlock) rfl rfl ?aO ?aR (fun _ hk => hk) ?aF ?aB ?aS ?aL ?_; (case aR => exact (by skip; exact Kd.N_F (Kd.N_mono (ok' := (fun k_ => ((fun k_ => (w.heap.size ≤ k_) ∧ some k_ ≠ (u494000 : Value).ownBlock ∧ k_ ≠ gb489 ∧ k_ ≠ gb493 ∧ k_ ≠ gb495)) k_ ∧ some k_ ≠ (u6 : Value).ownBlock)) (HO_9.out) (fun k_ hk => ⟨⟨hk.1, ⟨hk.2.2.1, ⟨hk.2.2.2.1, ⟨hk.2.2.2.2.1, hk.2.2.2.2.2⟩⟩⟩⟩, hk.2.1⟩)))); (case aB => exact (bl_ HB)); (case aF => exact (fun k_ hk => ⟨(Nat.le_trans (bs_ HB) hk), Kd.fresh' (Kd.N_lt (nA_ HO_494000)) k_ hk, Kd.freshB (bA_ BK489) k_ hk, Kd.freshB (bA_ BK493) k_ hk, Kd.freshB (bA_ BK495) k_ hk⟩)); (case aO => exact (by (with_reducible repeat (first | apply Kd.N_alloc | apply Kd.N_drewN | apply Kd.N_drew)); exact Kd.N_mono HO_6.out (fun _ hk => ⟨hk.1, ⟨hk.2.2.1, ⟨hk.2.2.2.1, ⟨hk.2.2.2.2.1, hk.2.2.2.2.2⟩⟩⟩⟩))); (case aS => exact (bs_ HB)); (case aL => have := LMc55.out; omega); intro v508 w57 ho hb hg hat; rw [← Ny507.out] at ho; replace HO_9 := Aside0.mk (Kd.N_afterv (ok := (fun k_ => (w.heap.size ≤ k_) ∧ some k_ ≠ (u494000 : Value).ownBlock ∧ k_ ≠ gb489 ∧ k_ ≠ gb493 ∧ k_ ≠ gb495)) (by (with_reducible repeat (first | apply Kd.N_alloc | apply Kd.N_drewN | apply Kd.N_drew)); exact Kd.N_mono HO_9.out (fun _ hk => ⟨⟨hk.1, ⟨hk.2.2.1, ⟨hk.2.2.2.1, ⟨hk.2.2.2.2.1, hk.2.2.2.2.2⟩⟩⟩⟩, hk.2.1⟩)) hg hat); replace HO_494000 := Aside0.mk (Kd.N_afterv (ok := (fun k_ => (w.heap.size ≤ k_) ∧ some k_ ≠ (.slice Ao40 t496.length co40 : Value).ownBlock ∧ k_ ≠ gb489 ∧ k_ ≠ gb493 ∧ k_ ≠ gb495)) (by (with_reducible repeat (first | apply Kd.N_alloc | apply Kd.N_drewN | apply Kd.N_drew)); exact Kd.N_mono HO_494000.out (fun _ hk => ⟨⟨hk.1, ⟨hk.2.2.1, ⟨hk.2.2.2.1, ⟨hk.2.2.2.2.1, hk.2.2.2.2.2⟩⟩⟩⟩, hk.2.1⟩)) hg hat); replace BK489 := Aside0.mk (blk_grown (bA_ BK489) hg (Kd.N_ne HO_6.out BK489.out (by decide))); replace BK493 := Aside0.mk (blk_grown (bA_ BK493) hg (Kd.N_ne HO_6.out BK493.out (by decide))); replace BK495 := Aside0.mk (blk_grown (bA_ BK495) hg (Kd.N_ne HO_6.out BK495.out (by decide))); replace HB := Aside0.mk (hb); have HO509 := Aside0.mk (ho); clear HO_6; clear ho hb hg hat; have hnb58 := NB493_489.out; have hnc58 := NB489_493.out; have hnb59 := NB493_495.out; have hnc59 := NB495_493.out; obtain ⟨hcz60_0, hcz60_1, hcz60_2, hfz60_0, hfz60_1, hfz60_2⟩ := cz3_ BK493; have hnb61 := NB495_489.out; have hnc61 := NB489_495.out; obtain ⟨hcz62_0, hcz62_1, hfz62_0, hfz62_1⟩ := cz2_ BK495))
                  go_roundg kj41
                  case measure => have := HJ4.out; have := HK2.out; have := HJ30.out; have := HJ41.out; omega
                  case rel => exact ⟨(y507), (wrap64 (x7_2 + 1)), (x490001_2), (x494000_41), (wrap64 (x494001_2 + (t496.length : Int))), (u494000), (by first | rfl | (simp; done) | (simp [*]; done)), H', ⟨by have := HJ4.out; have := HK2.out; have := HJ30.out; have := HJ41.out; omega⟩, ⟨Kd.N_mono (nD_ HO509 (fun k_ hk => hk.2.2.2.1)) (fun _ hk => ⟨hk.1.1, ⟨hk.1.2.1, ⟨hk.1.2.2.1, hk.1.2.2.2.1⟩⟩⟩)⟩, ⟨Kd.N_mono (nD_ HO_494000 (fun k_ hk => hk.1.2.2.2.1)) (fun _ hk => ⟨hk.1.1.1, ⟨hk.1.2, ⟨hk.1.1.2.2.1, hk.1.1.2.2.2.1⟩⟩⟩)⟩, ⟨bA_ BK489⟩, ⟨by (with_reducible repeat (first | refine blk_drewN ?_ _ | refine blk_drew ?_ | refine blk_alloc ?_ _)); refine blk_put (cs := #[u494000, .int .i64 x494001_2, .slice none 0 0]) ?_ 1 _ rfl; (with_reducible repeat (first | refine blk_drewN ?_ _ | refine blk_drew ?_ | refine blk_alloc ?_ _)); exact BK493.out⟩, ⟨bl_ HB⟩⟩
                 ·rw [if_neg c56] at H
                  have c56b0 : (t499 == (((rd_T87 l0 x7_2).f1).length : Int)) = false := beq_eq_false_iff_ne.mpr c56
                  have c56b1 : (t499 != (((rd_T87 l0 x7_2).f1).length : Int)) = true := bne_iff_ne.mpr c56
                  by_cases c63 : x7_2 < (wrap64 ((l0.length : Int) - 1))
                  ·rw [if_pos c63] at H
                   have c63b0 : decide (x7_2 < (wrap64 ((l0.length : Int) - 1))) = true := decide_eq_true c63
                   clear c63
                   simp only [Option.some.injEq, Prod.mk.injEq] at H
                   obtain ⟨rfl, rfl, rfl, rfl, rfl⟩ := H
                   go_wp2_with (first | ((with_reducible refine gate_builtin (b := .append) (xs := #[.tmp 81, .tmp 82]) rfl ?_); at_builtin; refine Kd.N_append_rows (Kd.slice 5 (Kd.int .u8)) (w0 := w) w.heap.size rfl (.tmp 81) (.tmp 82) 56 26 (.slice none 0 0) 24 rfl Try.underlying56 info26 rfl (by decide) (by omega) u6 x6_2 t496 _ _ _ (fun k_ => (w.heap.size ≤ k_) ∧ some k_ ≠ (u494000 : Value).ownBlock ∧ k_ ≠ gb489 ∧ k_ ≠ gb493 ∧ k_ ≠ gb495) (fun k_ => ((fun k_ => (w.heap.size ≤ k_) ∧ some k_ ≠ (u494000 : Value).ownBlock ∧ k_ ≠ gb489 ∧ k_ ≠ gb493 ∧ k_ ≠ gb495)) k_ ∧ some k_ ≠ (u6 : Value).ownBlock) rfl rfl ?aO ?aR (fun _ hk => hk) ?aF ?aB ?aS ?aL ?_; (case aR => exact (by skip; exact Kd.N_F (Kd.N_mono (ok' := (fun k_ => ((fun k_ => (w.heap.size ≤ k_) ∧ some k_ ≠ (u494000 : Value).ownBlock ∧ k_ ≠ gb489 ∧ k_ ≠ gb493 ∧ k_ ≠ gb495)) k_ ∧ some k_ ≠ (u6 : Value).ownBlock)) (HO_9.out) (fun k_ hk => ⟨⟨hk.1, ⟨hk.2.2.1, ⟨hk.2.2.2.1, ⟨hk.2.2.2.2.1, hk.2.2.2.2.2⟩⟩⟩⟩, hk.2.1⟩)))); (case aB => exact (bl_ HB)); (case aF => exact (fun k_ hk => ⟨(Nat.le_trans (bs_ HB) hk), Kd.fresh' (Kd.N_lt (nA_ HO_494000)) k_ hk, Kd.freshB (bA_ BK489) k_ hk, Kd.freshB (bA_ BK493) k_ hk, Kd.freshB (bA_ BK495) k_ hk⟩)); (case aO => exact (by (with_reducible repeat (first | apply Kd.N_alloc | apply Kd.N_drewN | apply Kd.N_drew)); exact Kd.N_mono HO_6.out (fun _ hk => ⟨hk.1, ⟨hk.2.2.1, ⟨hk.2.2.2.1, ⟨hk.2.2.2.2.1, hk.2.2.2.2.2⟩⟩⟩⟩))); (case aS => exact (bs_ HB)); (case aL => have := LMc55.out; omega); intro v508 w64 ho hb hg hat; rw [← Ny507.out] at ho; replace HO_9 := Aside0.mk (Kd.N_afterv (ok := (fun k_ => (w.heap.size ≤ k_) ∧ some k_ ≠ (u494000 : Value).ownBlock ∧ k_ ≠ gb489 ∧ k_ ≠ gb493 ∧ k_ ≠ gb495)) (by (with_reducible repeat (first | apply Kd.N_alloc | apply Kd.N_drewN | apply Kd.N_drew)); exact Kd.N_mono HO_9.out (fun _ hk => ⟨⟨hk.1, ⟨hk.2.2.1, ⟨hk.2.2.2.1, ⟨hk.2.2.2.2.1, hk.2.2.2.2.2⟩⟩⟩⟩, hk.2.1⟩)) hg hat); replace HO_494000 := Aside0.mk (Kd.N_afterv (ok := (fun k_ => (w.heap.size ≤ k_) ∧ some k_ ≠ (.slice Ao40 t496.length co40 : Value).ownBlock ∧ k_ ≠ gb489 ∧ k_ ≠ gb493 ∧ k_ ≠ gb495)) (by (with_reducible repeat (first | apply Kd.N_alloc | apply Kd.N_drewN | apply Kd.N_drew)); exact Kd.N_mono HO_494000.out (fun _ hk => ⟨⟨hk.1, ⟨hk.2.2.1, ⟨hk.2.2.2.1, ⟨hk.2.2.2.2.1, hk.2.2.2.2.2⟩⟩⟩⟩, hk.2.1⟩)) hg hat); replace BK489 := Aside0.mk (blk_grown (bA_ BK489) hg (Kd.N_ne HO_6.out BK489.out (by decide))); replace BK493 := Aside0.mk (blk_grown (bA_ BK493) hg (Kd.N_ne HO_6.out BK493.out (by decide))); replace BK495 := Aside0.mk (blk_grown (bA_ BK495) hg (Kd.N_ne HO_6.out BK495.out (by decide))); replace HB := Aside0.mk (hb); have HO509 := Aside0.mk (ho); clear HO_6; clear ho hb hg hat; have hnb65 := NB493_489.out; have hnc65 := NB489_493.out; have hnb66 := NB493_495.out; have hnc66 := NB495_493.out; obtain ⟨hcz67_0, hcz67_1, hcz67_2, hfz67_0, hfz67_1, hfz67_2⟩ := cz3_ BK493; have hnb68 := NB495_489.out; have hnc68 := NB489_495.out; obtain ⟨hcz69_0, hcz69_1, hfz69_0, hfz69_1⟩ := cz2_ BK495; obtain ⟨Ao70, co70, eo70⟩ := Kd.N_slice HO_494000.out; subst eo70; obtain ⟨hcz71_0, hcz71_1, hcz71_2, hfz71_0, hfz71_1, hfz71_2⟩ := cz3_ BK489))
                   refine bodyPost_ret (results_ctt rfl _ _ gb489 58 #[.slice Ao70 x494000_41.length co70, .int .i64 (wrap64 (x494001_2 + (t496.length : Int))), .slice none 0 0] (0, 0) _ rfl (by (with_reducible repeat (first | refine blk_drewN ?_ _ | refine blk_drew ?_ | refine blk_alloc ?_ _)); refine blk_put (cs := #[.slice Ao70 x494000_41.length co70, .int .i64 (wrap64 (x494001_2 + (t496.length : Int))), .slice none 0 0]) ?_ 2 _ rfl; (with_reducible repeat (first | refine blk_drewN ?_ _ | refine blk_drew ?_ | refine blk_alloc ?_ _)); refine blk_put (cs := #[.slice Ao70 x494000_41.length co70, .int .i64 x490001_2, .slice none 0 0]) ?_ 1 _ rfl; (with_reducible repeat (first | refine blk_drewN ?_ _ | refine blk_drew ?_ | refine blk_alloc ?_ _)); refine blk_put (cs := #[.slice none 0 0, .int .i64 x490001_2, .slice none 0 0]) ?_ 0 _ rfl; (with_reducible repeat (first | refine blk_drewN ?_ _ | refine blk_drew ?_ | refine blk_alloc ?_ _)); refine blk_far ?_ NB489_493.out _; (with_reducible repeat (first | refine blk_drewN ?_ _ | refine blk_drew ?_ | refine blk_alloc ?_ _)); exact BK489.out) Try.underlying58 rfl (by kernel_rfl)) rfl ?_
                   exact ⟨_, _, _, fin_, by (with_reducible repeat (first | apply Kd.N_alloc | apply Kd.N_drewN | apply Kd.N_drew)); exact Kd.N_mono (Kd.N_far (p := ⟨gb489, 2, none⟩) (Kd.N_far (p := ⟨gb489, 1, none⟩) (Kd.N_far (p := ⟨gb489, 0, none⟩) (Kd.N_far (p := ⟨gb493, 1, none⟩) (Kd.N_mono (Kd.N_mono HO_494000.out (fun k_ hk => (⟨hk, hk.1.2.2.2.1⟩ : _ ∧ k_ ≠ gb493))) (fun k_ hk => (⟨hk, hk.1.1.2.2.1⟩ : _ ∧ k_ ≠ gb489))) (fun _ hk => hk.1.2) (.int .i64 (wrap64 (x494001_2 + (t496.length : Int))))) (fun _ hk => hk.2) (.slice Ao70 x494000_41.length co70)) (fun _ hk => hk.2) (.int .i64 (wrap64 (x494001_2 + (t496.length : Int))))) (fun _ hk => hk.2) (.slice none 0 0)) (fun _ hk => ⟨hk.1.1.1.1, ⟨(by simp [Value.ownBlock]), hk.1.1.2⟩⟩), nil_, by (with_reducible repeat (first | apply Kd.N_alloc | apply Kd.N_drewN | apply Kd.N_drew)); exact Kd.N_mono (Kd.N_far (p := ⟨gb489, 2, none⟩) (Kd.N_far (p := ⟨gb489, 1, none⟩) (Kd.N_far (p := ⟨gb489, 0, none⟩) (Kd.N_far (p := ⟨gb493, 1, none⟩) (Kd.N_mono (Kd.N_mono HO509.out (fun k_ hk => (⟨hk, hk.2.2.2.1⟩ : _ ∧ k_ ≠ gb493))) (fun k_ hk => (⟨hk, hk.1.2.2.1⟩ : _ ∧ k_ ≠ gb489))) (fun _ hk => hk.1.2) (.int .i64 (wrap64 (x494001_2 + (t496.length : Int))))) (fun _ hk => hk.2) (.slice Ao70 x494000_41.length co70)) (fun _ hk => hk.2) (.int .i64 (wrap64 (x494001_2 + (t496.length : Int))))) (fun _ hk => hk.2) (.slice none 0 0)) (fun _ hk => ⟨hk.1.1.1, ⟨hk.1.1.2.1, (by simp [Value.ownBlock])⟩⟩), bl_ HB⟩
                  ·rw [if_neg c63] at H
                   have c63b0 : decide (x7_2 < (wrap64 ((l0.length : Int) - 1))) = false := decide_eq_false c63
                   clear c63
                   have H' := Aside0.mk H
                   clear H
                   go_wp2_with (first | ((with_reducible refine gate_builtin (b := .append) (xs := #[.tmp 81, .tmp 82]) rfl ?_); at_builtin; refine Kd.N_append_rows (Kd.slice 5 (Kd.int .u8)) (w0 := w) w.heap.size rfl (.tmp 81) (.tmp 82) 56 26 (.slice none 0 0) 24 rfl Try.underlying56 info26 rfl (by decide) (by omega) u6 x6_2 t496 _ _ _ (fun k_ => (w.heap.size ≤ k_) ∧ some k_ ≠ (u494000 : Value).ownBlock ∧ k_ ≠ gb489 ∧ k_ ≠ gb493 ∧ k_ ≠ gb495) (fun k_ => ((fun k_ => (w.heap.size ≤ k_) ∧ some k_ ≠ (u494000 : Value).ownBlock ∧ k_ ≠ gb489 ∧ k_ ≠ gb493 ∧ k_ ≠ gb495)) k_ ∧ some k_ ≠ (u6 : Value).ownBlock) rfl rfl ?aO ?aR (fun _ hk => hk) ?aF ?aB ?aS ?aL ?_; (case aR => exact (by skip; exact Kd.N_F (Kd.N_mono (ok' := (fun k_ => ((fun k_ => (w.heap.size ≤ k_) ∧ some k_ ≠ (u494000 : Value).ownBlock ∧ k_ ≠ gb489 ∧ k_ ≠ gb493 ∧ k_ ≠ gb495)) k_ ∧ some k_ ≠ (u6 : Value).ownBlock)) (HO_9.out) (fun k_ hk => ⟨⟨hk.1, ⟨hk.2.2.1, ⟨hk.2.2.2.1, ⟨hk.2.2.2.2.1, hk.2.2.2.2.2⟩⟩⟩⟩, hk.2.1⟩)))); (case aB => exact (bl_ HB)); (case aF => exact (fun k_ hk => ⟨(Nat.le_trans (bs_ HB) hk), Kd.fresh' (Kd.N_lt (nA_ HO_494000)) k_ hk, Kd.freshB (bA_ BK489) k_ hk, Kd.freshB (bA_ BK493) k_ hk, Kd.freshB (bA_ BK495) k_ hk⟩)); (case aO => exact (by (with_reducible repeat (first | apply Kd.N_alloc | apply Kd.N_drewN | apply Kd.N_drew)); exact Kd.N_mono HO_6.out (fun _ hk => ⟨hk.1, ⟨hk.2.2.1, ⟨hk.2.2.2.1, ⟨hk.2.2.2.2.1, hk.2.2.2.2.2⟩⟩⟩⟩))); (case aS => exact (bs_ HB)); (case aL => have := LMc55.out; omega); intro v508 w72 ho hb hg hat; rw [← Ny507.out] at ho; replace HO_9 := Aside0.mk (Kd.N_afterv (ok := (fun k_ => (w.heap.size ≤ k_) ∧ some k_ ≠ (u494000 : Value).ownBlock ∧ k_ ≠ gb489 ∧ k_ ≠ gb493 ∧ k_ ≠ gb495)) (by (with_reducible repeat (first | apply Kd.N_alloc | apply Kd.N_drewN | apply Kd.N_drew)); exact Kd.N_mono HO_9.out (fun _ hk => ⟨⟨hk.1, ⟨hk.2.2.1, ⟨hk.2.2.2.1, ⟨hk.2.2.2.2.1, hk.2.2.2.2.2⟩⟩⟩⟩, hk.2.1⟩)) hg hat); replace HO_494000 := Aside0.mk (Kd.N_afterv (ok := (fun k_ => (w.heap.size ≤ k_) ∧ some k_ ≠ (.slice Ao40 t496.length co40 : Value).ownBlock ∧ k_ ≠ gb489 ∧ k_ ≠ gb493 ∧ k_ ≠ gb495)) (by (with_reducible repeat (first | apply Kd.N_alloc | apply Kd.N_drewN | apply Kd.N_drew)); exact Kd.N_mono HO_494000.out (fun _ hk => ⟨⟨hk.1, ⟨hk.2.2.1, ⟨hk.2.2.2.1, ⟨hk.2.2.2.2.1, hk.2.2.2.2.2⟩⟩⟩⟩, hk.2.1⟩)) hg hat); replace BK489 := Aside0.mk (blk_grown (bA_ BK489) hg (Kd.N_ne HO_6.out BK489.out (by decide))); replace BK493 := Aside0.mk (blk_grown (bA_ BK493) hg (Kd.N_ne HO_6.out BK493.out (by decide))); replace BK495 := Aside0.mk (blk_grown (bA_ BK495) hg (Kd.N_ne HO_6.out BK495.out (by decide))); replace HB := Aside0.mk (hb); have HO509 := Aside0.mk (ho); clear HO_6; clear ho hb hg hat; have hnb73 := NB493_489.out; have hnc73 := NB489_493.out; have hnb74 := NB493_495.out; have hnc74 := NB495_493.out; obtain ⟨hcz75_0, hcz75_1, hcz75_2, hfz75_0, hfz75_1, hfz75_2⟩ := cz3_ BK493; have hnb76 := NB495_489.out; have hnc76 := NB489_495.out; obtain ⟨hcz77_0, hcz77_1, hfz77_0, hfz77_1⟩ := cz2_ BK495))
                   go_roundg kj41
                   case measure => have := HJ4.out; have := HK2.out; have := HJ30.out; have := HJ41.out; omega
                   case rel => exact ⟨(y507), (wrap64 (x7_2 + 1)), (x490001_2), (x494000_41), (wrap64 (x494001_2 + (t496.length : Int))), (u494000), (by first | rfl | (simp; done) | (simp [*]; done)), H', ⟨by have := HJ4.out; have := HK2.out; have := HJ30.out; have := HJ41.out; omega⟩, ⟨Kd.N_mono (nD_ HO509 (fun k_ hk => hk.2.2.2.1)) (fun _ hk => ⟨hk.1.1, ⟨hk.1.2.1, ⟨hk.1.2.2.1, hk.1.2.2.2.1⟩⟩⟩)⟩, ⟨Kd.N_mono (nD_ HO_494000 (fun k_ hk => hk.1.2.2.2.1)) (fun _ hk => ⟨hk.1.1.1, ⟨hk.1.2, ⟨hk.1.1.2.2.1, hk.1.1.2.2.2.1⟩⟩⟩)⟩, ⟨bA_ BK489⟩, ⟨by (with_reducible repeat (first | refine blk_drewN ?_ _ | refine blk_drew ?_ | refine blk_alloc ?_ _)); refine blk_put (cs := #[u494000, .int .i64 x494001_2, .slice none 0 0]) ?_ 1 _ rfl; (with_reducible repeat (first | refine blk_drewN ?_ _ | refine blk_drew ?_ | refine blk_alloc ?_ _)); exact BK493.out⟩, ⟨bl_ HB⟩⟩
                ·rw [if_neg c55] at H
                 exact absurd H (by simp)
          ·rw [if_neg c18] at H
           have c18b0 : (((rd_T87 l0 x7_2).f0) == x494001_2) = false := beq_eq_false_iff_ne.mpr c18
           have c18b1 : (((rd_T87 l0 x7_2).f0) != x494001_2) = true := bne_iff_ne.mpr c18
           simp only [Option.some.injEq, Prod.mk.injEq] at H
           obtain ⟨rfl, rfl, rfl, rfl, rfl⟩ := H
           have p494 : 0 ≤ (x7_2 : Int) := of_decide_eq_true (by first | (with_reducible assumption) | assumption)
           have q494 : x7_2 < (l0.length : Int) := of_decide_eq_true (by first | (with_reducible assumption) | assumption)
           obtain ⟨ad494, A494_1, c494_1, e494, hx494_0, hx494_1, hl494_1, hi494_1⟩ := at_T87 HR0.out x7_2 p494 q494
           obtain rfl : ad492 = ad494 := (by injection e494)
           replace hx494_0 := (HB.out.cell (World.block_lt_of_cell? w _ hx494_0)).trans hx494_0
           replace hx494_1 := (HB.out.cell (World.block_lt_of_cell? w _ hx494_1)).trans hx494_1
           have HR494_1 := Aside0.mk hi494_1
           have HC494_1 := Aside0.mk hl494_1
           clear hi494_1 hl494_1
           replace p494 := eq_true p494
           replace q494 := eq_true q494
           go_wp2_with (first | ((with_reducible refine gate_dst (N := 8) rfl ?_); refine bx_ 8 #[.int .i64 0, .slice none 0 0] 87 ?_; intro gb495 hg w78 hbox hb; replace HO_6 := Aside0.mk (Kd.N_below (Kd.N_elderB (nA_ HO_6) gb495 (Nat.le_of_eq hg.symm)) hb); replace HO_494000 := Aside0.mk (Kd.N_below (Kd.N_elderB (nA_ HO_494000) gb495 (Nat.le_of_eq hg.symm)) hb); have BK495 := Aside0.mk (hbox); have GW495 := bG_ HB hg; have GE495 := bG_ HB hg; replace HB := bS_ HB hb; have NB489_495 := nL_ BK489 hg; have NB495_489 := nG_ BK489 hg; replace BK489 := bK_ BK489 hb; have NB493_495 := nL_ BK493 hg; have NB495_493 := nG_ BK493 hg; replace BK493 := bK_ BK493 hb; clear hb hbox hg; have hnb79 := NB495_489.out; have hnc79 := NB489_495.out; have hnb80 := NB495_493.out; have hnc80 := NB493_495.out; obtain ⟨hcz81_0, hcz81_1, hfz81_0, hfz81_1⟩ := cz2_ BK495; have hnb82 := NB493_489.out; have hnc82 := NB489_493.out; obtain ⟨hcz83_0, hcz83_1, hcz83_2, hfz83_0, hfz83_1, hfz83_2⟩ := cz3_ BK493; obtain ⟨Ao84, co84, eo84⟩ := Kd.N_slice HO_494000.out; subst eo84; obtain ⟨hcz85_0, hcz85_1, hcz85_2, hfz85_0, hfz85_1, hfz85_2⟩ := cz3_ BK489))
           refine bodyPost_ret (results_ctt rfl _ _ gb489 58 #[.slice Ao84 x494000_2.length co84, .int .i64 x494001_2, .slice none 0 0] (0, 0) _ rfl (by (with_reducible repeat (first | refine blk_drewN ?_ _ | refine blk_drew ?_ | refine blk_alloc ?_ _)); refine blk_put (cs := #[.slice Ao84 x494000_2.length co84, .int .i64 x494001_2, .slice none 0 0]) ?_ 2 _ rfl; (with_reducible repeat (first | refine blk_drewN ?_ _ | refine blk_drew ?_ | refine blk_alloc ?_ _)); refine blk_put (cs := #[.slice Ao84 x494000_2.length co84, .int .i64 x490001_2, .slice none 0 0]) ?_ 1 _ rfl; (with_reducible repeat (first | refine blk_drewN ?_ _ | refine blk_drew ?_ | refine blk_alloc ?_ _)); refine blk_put (cs := #[.slice none 0 0, .int .i64 x490001_2, .slice none 0 0]) ?_ 0 _ rfl; (with_reducible repeat (first | refine blk_drewN ?_ _ | refine blk_drew ?_ | refine blk_alloc ?_ _)); refine blk_far ?_ NB489_495.out _; (with_reducible repeat (first | refine blk_drewN ?_ _ | refine blk_drew ?_ | refine blk_alloc ?_ _)); refine blk_far ?_ NB489_495.out _; (with_reducible repeat (first | refine blk_drewN ?_ _ | refine blk_drew ?_ | refine blk_alloc ?_ _)); exact BK489.out) Try.underlying58 rfl (by kernel_rfl)) rfl ?_
           exact ⟨_, _, _, fin_, by (with_reducible repeat (first | apply Kd.N_alloc | apply Kd.N_drewN | apply Kd.N_drew)); exact Kd.N_mono (Kd.N_far (p := ⟨gb489, 2, none⟩) (Kd.N_far (p := ⟨gb489, 1, none⟩) (Kd.N_far (p := ⟨gb489, 0, none⟩) (Kd.N_far (p := ⟨gb495, 1, none⟩) (Kd.N_far (p := ⟨gb495, 0, none⟩) (Kd.N_mono (Kd.N_mono HO_494000.out (fun k_ hk => (⟨hk, hk.2⟩ : _ ∧ k_ ≠ gb495))) (fun k_ hk => (⟨hk, hk.1.1.2.2.1⟩ : _ ∧ k_ ≠ gb489))) (fun _ hk => hk.1.2) (.int .i64 ((rd_T87 l0 x7_2).f0))) (fun _ hk => hk.1.2) (.slice A494_1 ((rd_T87 l0 x7_2).f1).length c494_1)) (fun _ hk => hk.2) (.slice Ao84 x494000_2.length co84)) (fun _ hk => hk.2) (.int .i64 x494001_2)) (fun _ hk => hk.2) (.slice none 0 0)) (fun _ hk => ⟨hk.1.1.1.1, ⟨(by simp [Value.ownBlock]), hk.1.1.1.2.1⟩⟩), nil_, by (with_reducible repeat (first | apply Kd.N_alloc | apply Kd.N_drewN | apply Kd.N_drew)); exact Kd.N_mono (Kd.N_far (p := ⟨gb489, 2, none⟩) (Kd.N_far (p := ⟨gb489, 1, none⟩) (Kd.N_far (p := ⟨gb489, 0, none⟩) (Kd.N_far (p := ⟨gb495, 1, none⟩) (Kd.N_far (p := ⟨gb495, 0, none⟩) (Kd.N_mono (Kd.N_mono HO_6.out (fun k_ hk => (⟨hk, hk.2⟩ : _ ∧ k_ ≠ gb495))) (fun k_ hk => (⟨hk, hk.1.1.2.2.1⟩ : _ ∧ k_ ≠ gb489))) (fun _ hk => hk.1.2) (.int .i64 ((rd_T87 l0 x7_2).f0))) (fun _ hk => hk.1.2) (.slice A494_1 ((rd_T87 l0 x7_2).f1).length c494_1)) (fun _ hk => hk.2) (.slice Ao84 x494000_2.length co84)) (fun _ hk => hk.2) (.int .i64 x494001_2)) (fun _ hk => hk.2) (.slice none 0 0)) (fun _ hk => ⟨hk.1.1.1.1, ⟨hk.1.1.1.2.1, (by simp [Value.ownBlock])⟩⟩), bl_ HB⟩
         ·rw [if_neg c17] at H
          exact absurd H (by simp)
        ·rw [if_neg c16] at H
         have c16b0 : decide (x7_2 < (l0.length : Int)) = false := decide_eq_false c16
         clear c16
         simp only [Option.some.injEq, Prod.mk.injEq] at H
         obtain ⟨rfl, rfl, rfl, rfl, rfl⟩ := H
         have hnb86 := NB493_489.out
         have hnc86 := NB489_493.out
         obtain ⟨hcz87_0, hcz87_1, hcz87_2, hfz87_0, hfz87_1, hfz87_2⟩ := cz3_ BK493
         obtain ⟨Ao88, co88, eo88⟩ := Kd.N_slice HO_494000.out
         subst eo88
         obtain ⟨hcz89_0, hcz89_1, hcz89_2, hfz89_0, hfz89_1, hfz89_2⟩ := cz3_ BK489
         go_wp2
         refine bodyPost_ret (results_ctt rfl _ _ gb489 58 #[.slice Ao88 x494000_2.length co88, .int .i64 x494001_2, .slice none 0 0] (0, 0) _ rfl (by (with_reducible repeat (first | refine blk_drewN ?_ _ | refine blk_drew ?_ | refine blk_alloc ?_ _)); refine blk_put (cs := #[.slice Ao88 x494000_2.length co88, .int .i64 x494001_2, .slice none 0 0]) ?_ 2 _ rfl; (with_reducible repeat (first | refine blk_drewN ?_ _ | refine blk_drew ?_ | refine blk_alloc ?_ _)); refine blk_put (cs := #[.slice Ao88 x494000_2.length co88, .int .i64 x490001_2, .slice none 0 0]) ?_ 1 _ rfl; (with_reducible repeat (first | refine blk_drewN ?_ _ | refine blk_drew ?_ | refine blk_alloc ?_ _)); refine blk_put (cs := #[.slice none 0 0, .int .i64 x490001_2, .slice none 0 0]) ?_ 0 _ rfl; (with_reducible repeat (first | refine blk_drewN ?_ _ | refine blk_drew ?_ | refine blk_alloc ?_ _)); exact BK489.out) Try.underlying58 rfl (by kernel_rfl)) rfl ?_
         exact ⟨_, _, _, fin_, Kd.N_mono (nD_ HO_494000 (fun k_ hk => hk.2.2.1)) (fun _ hk => ⟨hk.1.1, ⟨(by simp [Value.ownBlock]), hk.1.2.1⟩⟩), nil_, Kd.N_mono (nD_ HO_6 (fun k_ hk => hk.2.2.1)) (fun _ hk => ⟨hk.1.1, ⟨hk.1.2.1, (by simp [Value.ownBlock])⟩⟩), bl_ HB⟩
     ·rw [if_neg c12] at H
      exact absurd H (by simp)
end Go.Proofs.Ytooabchnbmnchaa.Q
