-- Laid by this session's own program (wip/tools) out of the translation; Lean checks it. Thinned, shortened and merged for this claim.
import Derived.Test.YtooabchnbmnchaaQ0
import Derived.Test.YtooabchnbmnchaaSq
import Derived.Test.YtooabchnbmnchaaQ26
import Derived.Test.YtooabchnbmnchaaQ38
import Derived.Test.YtooabchnbmnchaaQ1
namespace Go.Proofs.Ytooabchnbmnchaa.Q
open Go.RowKit Go.Proofs.YtooabchnbmnchaaW.PrintWords Go.Proofs.YtooabchnbmnchaaW.PrintLast Go.Proofs.YtooabchnbmnchaaW.PrintMore
attribute [local go_sem] max2_int min2_int max_two min_two max_three min_three max_four min_four binOp_string_leq binOp_string_geq binOp_string_gtr   -- for this text's walks alone
set_option linter.unusedVariables false
set_option linter.unusedSimpArgs false
mutual
def transeptref08_Append.l0 : Nat → List (List Int) → Int → List (S87) → Int → List (List Int) → Option ((List (S87)) × Int × (List (List Int)) × Int)
 | 0, _, _, _, _, _ => none
 | k + 1, x1, x6, x284000, x284001, x284002 => if x6 < (x1.length : Int) then (if 0 ≤ x6 then (if ((rd_L1 x1 x6).length : Int) > 4096 then (some (([] : List (S87)), 0, ([] : List (List Int)), 5)) else (transeptref08_Append.l0 k x1 (wrap64 (x6 + 1)) x284000 x284001 x284002)) else (none)) else (if (wrap64 ((x284002.length : Int) + (x1.length : Int))) > 4096 then (some (([] : List (S87)), 0, ([] : List (List Int)), 3)) else ((transeptref08_Own.f k x284000 x284001 x284002).bind fun bt287 => (transeptref08_Append.l1 k x1 0 bt287.1 bt287.2.1 bt287.2.2)))
def transeptref08_Append.l1 : Nat → List (List Int) → Int → List (S87) → Int → List (List Int) → Option ((List (S87)) × Int × (List (List Int)) × Int)
 | 0, _, _, _, _, _ => none
 | k + 1, x1, x8, x295000, x295001, x295002 => if x8 < (x1.length : Int) then (if 0 ≤ x8 then ((transeptref03_Copied.f (rd_L1 x1 x8)).bind fun t296 => (if x295002.length < 5864062014805 then (transeptref08_Append.l1 k x1 (wrap64 (x8 + 1)) x295000 x295001 (x295002 ++ [t296])) else (none))) else (none)) else (some (x295000, x295001, x295002, 0))
end
def transeptref08_Append.f (k : Nat) (l0_0 : List (S87)) (a0_1 : Int) (l0_2 : List (List Int)) (l1 : List (List Int)) : Option ((List (S87)) × Int × (List (List Int)) × Int) := (transeptref08_Check.f k l0_0 a0_1 l0_2).bind fun t285 => (if t285 = 0 then (transeptref08_Append.l0 k l1 0 l0_0 a0_1 l0_2) else (some (([] : List (S87)), 0, ([] : List (List Int)), 9)))
theorem transeptref08_Append.mono_l : ∀ k, (∀ y0 y1 y2 y3 y4, LeO (transeptref08_Append.l0 k y0 y1 y2 y3 y4) (transeptref08_Append.l0 (k + 1) y0 y1 y2 y3 y4)) ∧ (∀ y0 y1 y2 y3 y4, LeO (transeptref08_Append.l1 k y0 y1 y2 y3 y4) (transeptref08_Append.l1 (k + 1) y0 y1 y2 y3 y4))
 | 0 => ⟨fun _ _ _ _ _ r h => by simp [transeptref08_Append.l0] at h, fun _ _ _ _ _ r h => by simp [transeptref08_Append.l1] at h⟩
 | k + 1 => by
  obtain ⟨ih0, ih1⟩ := transeptref08_Append.mono_l k
  refine ⟨?_, ?_⟩
  ·intro y0 y1 y2 y3 y4
   unfold transeptref08_Append.l0
   repeat' first
   | (with_reducible exact ih0 _ _ _ _ _)
   | (with_reducible exact ih1 _ _ _ _ _)
   | (with_reducible exact transeptref08_Check.mono _ _ _ _)
   | (with_reducible exact transeptref08_Own.mono _ _ _ _)
   | (with_reducible exact LeO.refl _)
   | (with_reducible exact LeO.none _)
   | (with_reducible refine LeO.ite ?_ ?_)
   | (with_reducible refine LeO.bind ?_ (fun _ => ?_))
   | exact ih0 _ _ _ _ _
   | exact ih1 _ _ _ _ _
   | exact transeptref08_Check.mono _ _ _ _
   | exact transeptref08_Own.mono _ _ _ _
   | exact LeO.none _
   | refine LeO.ite ?_ ?_
   | refine LeO.bind ?_ (fun _ => ?_)
  ·intro y0 y1 y2 y3 y4
   unfold transeptref08_Append.l1
   repeat' first
   | (with_reducible exact ih0 _ _ _ _ _)
   | (with_reducible exact ih1 _ _ _ _ _)
   | (with_reducible exact transeptref08_Check.mono _ _ _ _)
   | (with_reducible exact transeptref08_Own.mono _ _ _ _)
   | (with_reducible exact LeO.refl _)
   | (with_reducible exact LeO.none _)
   | (with_reducible refine LeO.ite ?_ ?_)
   | (with_reducible refine LeO.bind ?_ (fun _ => ?_))
   | exact ih0 _ _ _ _ _
   | exact ih1 _ _ _ _ _
   | exact transeptref08_Check.mono _ _ _ _
   | exact transeptref08_Own.mono _ _ _ _
   | exact LeO.none _
   | refine LeO.ite ?_ ?_
   | refine LeO.bind ?_ (fun _ => ?_)
theorem transeptref08_Append.mono : ∀ a0 a1 a2 a3 k, LeO (transeptref08_Append.f k a0 a1 a2 a3) (transeptref08_Append.f (k + 1) a0 a1 a2 a3) := by
 intro a0 a1 a2 a3 k
 obtain ⟨ih0, ih1⟩ := transeptref08_Append.mono_l k
 unfold transeptref08_Append.f
 repeat' first
   | (with_reducible exact ih0 _ _ _ _ _)
   | (with_reducible exact ih1 _ _ _ _ _)
   | (with_reducible exact transeptref08_Check.mono _ _ _ _)
   | (with_reducible exact transeptref08_Own.mono _ _ _ _)
   | (with_reducible exact LeO.refl _)
   | (with_reducible exact LeO.none _)
   | (with_reducible refine LeO.ite ?_ ?_)
   | (with_reducible refine LeO.bind ?_ (fun _ => ?_))
   | exact ih0 _ _ _ _ _
   | exact ih1 _ _ _ _ _
   | exact transeptref08_Check.mono _ _ _ _
   | exact transeptref08_Own.mono _ _ _ _
   | exact LeO.none _
   | refine LeO.ite ?_ ?_
   | refine LeO.bind ?_ (fun _ => ?_)
def transeptref08_Append.T14 : Bool × List (List Nat × List Nat) := (true, [([], []), ([0], [0]), ([], []), ([], []), ([2, 3], [2, 3]), ([4], [4]), ([5], [5]), ([6], [6]), ([1, 7, 6], [1, 7]), ([0, 1, 2, 3, 4, 5, 6, 7, 8], []), ([9, 8, 8, 0, 1, 2, 3, 4, 5, 6, 7, 8], [8, 9])])
def transeptref08_Append.B14 : List Nat := [0, 1, 0, 0, 12, 28, 60, 124, 255, 511, 1023]
theorem transeptref08_Append.tab14 : rtab .any (opsOf Try.f37 14) = transeptref08_Append.T14 := by kernel_rfl
theorem transeptref08_Append.bits14 : waitsOk transeptref08_Append.T14.2 transeptref08_Append.B14 = true := by kernel_rfl
set_option maxHeartbeats 8000000 in
set_option maxRecDepth 100000 in
theorem transeptref08_Append.calls (k : Nat) (A0_0 : Option Addr) (c0_0 : Nat) (l0_0 : List (S87)) (a0_1 : Int) (A0_2 : Option Addr) (c0_2 : Nat) (l0_2 : List (List Int)) (A1 : Option Addr) (c1 : Nat) (l1 : List (List Int)) (r1 : List (S87)) (r2 : Int) (r3 : List (List Int)) (r4 : Int) (w : World) (hr0_0 : Kd.C k87 w A0_0 l0_0.length l0_0) (hc0_0 : l0_0.length ≤ c0_0) (hr0_2 : Kd.C (Kd.slice 5 (Kd.int .u8)) w A0_2 l0_2.length l0_2) (hc0_2 : l0_2.length ≤ c0_2) (hr1 : Kd.C (Kd.slice 5 (Kd.int .u8)) w A1 l1.length l1) (hc1 : l1.length ≤ c1) (h : transeptref08_Append.f k l0_0 a0_1 l0_2 l1 = some (r1, r2, r3, r4)) :
  Calls Try.prog 37 #[.agg #[.slice A0_0 l0_0.length c0_0, .int .i64 a0_1, .slice A0_2 l0_2.length c0_2], .slice A1 l1.length c1] w fun e w' => ∃ v0_ v2_ : Value, e = .returned (.tuple #[.agg #[v0_, .int .i64 r2, v2_], .int .i64 r4]) ∧ Kd.S k87 87 w' w.heap.size (fun _ => True) v0_ r1 ∧ Kd.S (Kd.slice 5 (Kd.int .u8)) 26 w' w.heap.size (fun _ => True) v2_ r3 ∧ Below w.heap.size w w' := by
 have hu58 := Try.underlying58
 have HR0_0 := Aside0.mk hr0_0
 have HC0_0 := Aside0.mk hc0_0
 clear hr0_0 hc0_0
 have HR0_2 := Aside0.mk hr0_2
 have HC0_2 := Aside0.mk hc0_2
 clear hr0_2 hc0_2
 have HR1 := Aside0.mk hr1
 have HC1 := Aside0.mk hc1
 clear hr1 hc1
 have HB := Aside0.mk (Below.refl w.heap.size w)
 have H : ((transeptref08_Check.f k l0_0 a0_1 l0_2).bind fun t285 => (if t285 = 0 then (transeptref08_Append.l0 k l1 0 l0_0 a0_1 l0_2) else (some (([] : List (S87)), 0, ([] : List (List Int)), 9)))) = some (r1, r2, r3, r4) := h
 clear h
 replace H := Option.bind_eq_some_iff.mp H
 obtain ⟨t285, A30, H⟩ := H
 try dsimp only at H
 have A3 := Aside0.mk A30
 clear A30
 by_cases c4 : t285 = 0
 ·rw [if_pos c4] at H
  have c4b0 : (t285 == 0) = true := beq_iff_eq.mpr c4
  have c4b1 : (t285 != 0) = false := bne_eq_false_iff_eq.mpr c4
  clear c4
  have H' := Aside0.mk H
  clear H
  go_enter Try.func37, Try.ntmps37
  go_wp2_with (first | ((with_reducible refine gate_dst (N := 2) rfl ?_); refine bx_ 2 #[.slice A0_0 l0_0.length c0_0, .int .i64 a0_1, .slice A0_2 l0_2.length c0_2] 58 ?_; intro gb283 hg w5 hbox hb; have BK283 := Aside0.mk (hbox); have GW283 := bG_ HB hg; have GE283 := bG_ HB hg; replace HB := bS_ HB hb; clear hb hbox hg) | ((with_reducible refine gate_dst (N := 4) rfl ?_); refine bx_ 4 #[.slice none 0 0, .int .i64 0, .slice none 0 0] 58 ?_; intro gb284 hg w6 hbox hb; have BK284 := Aside0.mk (hbox); have GW284 := bG_ HB hg; have GE284 := bG_ HB hg; replace HB := bS_ HB hb; have NB283_284 := nL_ BK283 hg; have NB284_283 := nG_ BK283 hg; replace BK283 := bK_ BK283 hb; clear hb hbox hg; have hnb7 := NB283_284.out; have hnc7 := NB284_283.out; obtain ⟨hcz8_0, hcz8_1, hcz8_2, hfz8_0, hfz8_1, hfz8_2⟩ := cz3_ BK283) | ((with_reducible refine gate_callee (f := 70) rfl ?_); refine gL_ (some 10) Try.func70 #[.agg #[.slice A0_0 l0_0.length c0_0, .int .i64 a0_1, .slice A0_2 l0_2.length c0_2]] ?_; (with_reducible refine (transeptref08_Check.calls k _ _ l0_0 a0_1 _ _ l0_2 t285 _ ?_ ?_ ?_ ?_ A3.out).mono ?_); exact cB_ HR0_0 HB; exact HC0_0.out; exact cB_ HR0_2 HB; exact HC0_2.out; rintro e w9 ⟨rfl, hb⟩; refine ⟨_, rfl, ?_⟩; replace BK283 := bK_ BK283 hb; replace BK284 := bK_ BK284 hb; replace HB := bS_ HB hb; (try clear hb)))
  go_loopg [6] k (fun kq v6 w' => ∃ (x6_1 : Int) (x285001_1 : Int), v6 = .int .i64 x6_1 ∧ Aside0 (transeptref08_Append.l0 kq l1 x6_1 l0_0 a0_1 l0_2 = some (r1, r2, r3, r4)) ∧ Aside0 (kq ≤ k) ∧ Aside0 (w'.heap[gb283]? = some (.cells #[(.slice A0_0 l0_0.length c0_0), .int .i64 a0_1, (.slice A0_2 l0_2.length c0_2)] 58 (0, 0))) ∧ Aside0 (w'.heap[gb284]? = some (.cells #[(.slice none 0 0), .int .i64 x285001_1, (.slice none 0 0)] 58 (0, 0))) ∧ Aside0 (Below w.heap.size w w'))
  case atStart => exact ⟨(0), (0), (by first | rfl | (simp; done) | (simp [*]; done)), H', ⟨Nat.le_refl _⟩, ⟨bA_ BK283⟩, ⟨bA_ BK284⟩, ⟨bl_ HB⟩⟩
  case round =>
   clear H'
   try clear c1
   try clear p2
   try clear c3
   try clear c4
   try clear c4b0
   try clear c4b1
   try clear c7
   try clear hcz8_0
   try clear hcz8_1
   try clear hcz8_2
   try clear hfz8_0
   try clear hfz8_1
   try clear hfz8_2
   obtain ⟨x6_1, x285001_1, rfl, HA, HK1, BK283, BK284, HB⟩ := hrel
   cases gk with
   | zero => exact absurd HA.out (by simp [transeptref08_Append.l0])
   | succ k1 =>
    have H := HA.out
    clear HA
    simp only [transeptref08_Append.l0] at H
    by_cases c10 : x6_1 < (l1.length : Int)
    ·rw [if_pos c10] at H
     have c10b0 : decide (x6_1 < (l1.length : Int)) = true := decide_eq_true c10
     clear c10
     by_cases c11 : 0 ≤ x6_1
     ·rw [if_pos c11] at H
      have c11b0 : decide (0 ≤ x6_1) = true := decide_eq_true c11
      clear c11
      by_cases c12 : ((rd_L1 l1 x6_1).length : Int) > 4096
      ·rw [if_pos c12] at H
       have c12b0 : decide (4096 < ((rd_L1 l1 x6_1).length : Int)) = true := decide_eq_true c12
       have c12b1 : decide (4096 < (rd_L1 l1 x6_1).length) = true := decide_eq_true (by omega)
       clear c12
       simp only [Option.some.injEq, Prod.mk.injEq] at H
       obtain ⟨rfl, rfl, rfl, rfl⟩ := H
       have p286 : 0 ≤ (x6_1 : Int) := of_decide_eq_true (by first | (with_reducible assumption) | assumption)
       have q286 : x6_1 < (l1.length : Int) := of_decide_eq_true (by first | (with_reducible assumption) | assumption)
       obtain ⟨ad286, A286_0, c286_0, e286, hx286_0, hl286_0, hi286_0⟩ := at_L1 HR1.out x6_1 p286 q286
       cases e286
       replace hx286_0 := (HB.out.cell (World.block_lt_of_cell? w _ hx286_0)).trans hx286_0
       have HR286_0 := Aside0.mk hi286_0
       have HC286_0 := Aside0.mk hl286_0
       clear hi286_0 hl286_0
       replace p286 := eq_true p286
       replace q286 := eq_true q286
       have hnb13 := NB284_283.out
       have hnc13 := NB283_284.out
       obtain ⟨hcz14_0, hcz14_1, hcz14_2, hfz14_0, hfz14_1, hfz14_2⟩ := cz3_ BK284
       go_wp2
       refine bodyPost_ret (results_ct rfl _ _ gb284 58 #[.slice none 0 0, .int .i64 0, .slice none 0 0] (0, 0) _ rfl (by (with_reducible repeat (first | refine blk_drewN ?_ _ | refine blk_drew ?_ | refine blk_alloc ?_ _)); refine blk_put (cs := #[.slice none 0 0, .int .i64 0, .slice none 0 0]) ?_ 2 _ rfl; (with_reducible repeat (first | refine blk_drewN ?_ _ | refine blk_drew ?_ | refine blk_alloc ?_ _)); refine blk_put (cs := #[.slice none 0 0, .int .i64 x285001_1, .slice none 0 0]) ?_ 1 _ rfl; (with_reducible repeat (first | refine blk_drewN ?_ _ | refine blk_drew ?_ | refine blk_alloc ?_ _)); refine blk_put (cs := #[.slice none 0 0, .int .i64 x285001_1, .slice none 0 0]) ?_ 0 _ rfl; (with_reducible repeat (first | refine blk_drewN ?_ _ | refine blk_drew ?_ | refine blk_alloc ?_ _)); exact BK284.out) Try.underlying58 rfl (by kernel_rfl)) rfl ?_
       exact ⟨_, _, fin_, nil_, nil_, bl_ HB⟩
      ·rw [if_neg c12] at H
       have c12b0 : decide (4096 < ((rd_L1 l1 x6_1).length : Int)) = false := decide_eq_false c12
       have c12b1 : decide (4096 < (rd_L1 l1 x6_1).length) = false := decide_eq_false (by omega)
       clear c12
       have H' := Aside0.mk H
       clear H
       have p286 : 0 ≤ (x6_1 : Int) := of_decide_eq_true (by first | (with_reducible assumption) | assumption)
       have q286 : x6_1 < (l1.length : Int) := of_decide_eq_true (by first | (with_reducible assumption) | assumption)
       obtain ⟨ad286, A286_0, c286_0, e286, hx286_0, hl286_0, hi286_0⟩ := at_L1 HR1.out x6_1 p286 q286
       cases e286
       replace hx286_0 := (HB.out.cell (World.block_lt_of_cell? w _ hx286_0)).trans hx286_0
       have HR286_0 := Aside0.mk hi286_0
       have HC286_0 := Aside0.mk hl286_0
       clear hi286_0 hl286_0
       replace p286 := eq_true p286
       replace q286 := eq_true q286
       go_wp2
       go_roundg k1
       case measure => have := HK1.out; omega
       case rel => exact ⟨(wrap64 (x6_1 + 1)), (x285001_1), (by first | rfl | (simp; done) | (simp [*]; done)), H', ⟨by have := HK1.out; omega⟩, ⟨bA_ BK283⟩, ⟨bA_ BK284⟩, ⟨bl_ HB⟩⟩
     ·rw [if_neg c11] at H
      exact absurd H (by simp)
    ·rw [if_neg c10] at H
     have c10b0 : decide (x6_1 < (l1.length : Int)) = false := decide_eq_false c10
     clear c10
     by_cases c15 : (wrap64 ((l0_2.length : Int) + (l1.length : Int))) > 4096
     ·rw [if_pos c15] at H
      have c15b0 : decide (4096 < (wrap64 ((l0_2.length : Int) + (l1.length : Int)))) = true := decide_eq_true c15
      clear c15
      simp only [Option.some.injEq, Prod.mk.injEq] at H
      obtain ⟨rfl, rfl, rfl, rfl⟩ := H
      have hnb16 := NB283_284.out
      have hnc16 := NB284_283.out
      obtain ⟨hcz17_0, hcz17_1, hcz17_2, hfz17_0, hfz17_1, hfz17_2⟩ := cz3_ BK283
      obtain ⟨hcz18_0, hcz18_1, hcz18_2, hfz18_0, hfz18_1, hfz18_2⟩ := cz3_ BK284
      go_wp2
      refine bodyPost_ret (results_ct rfl _ _ gb284 58 #[.slice none 0 0, .int .i64 0, .slice none 0 0] (0, 0) _ rfl (by (with_reducible repeat (first | refine blk_drewN ?_ _ | refine blk_drew ?_ | refine blk_alloc ?_ _)); refine blk_put (cs := #[.slice none 0 0, .int .i64 0, .slice none 0 0]) ?_ 2 _ rfl; (with_reducible repeat (first | refine blk_drewN ?_ _ | refine blk_drew ?_ | refine blk_alloc ?_ _)); refine blk_put (cs := #[.slice none 0 0, .int .i64 x285001_1, .slice none 0 0]) ?_ 1 _ rfl; (with_reducible repeat (first | refine blk_drewN ?_ _ | refine blk_drew ?_ | refine blk_alloc ?_ _)); refine blk_put (cs := #[.slice none 0 0, .int .i64 x285001_1, .slice none 0 0]) ?_ 0 _ rfl; (with_reducible repeat (first | refine blk_drewN ?_ _ | refine blk_drew ?_ | refine blk_alloc ?_ _)); exact BK284.out) Try.underlying58 rfl (by kernel_rfl)) rfl ?_
      exact ⟨_, _, fin_, nil_, nil_, bl_ HB⟩
     ·rw [if_neg c15] at H
      have c15b0 : decide (4096 < (wrap64 ((l0_2.length : Int) + (l1.length : Int)))) = false := decide_eq_false c15
      clear c15
      replace H := Option.bind_eq_some_iff.mp H
      obtain ⟨⟨t287, t290, t291⟩, A190, H⟩ := H
      replace H : (transeptref08_Append.l1 k1 l1 0 t287 t290 t291) = some (r1, r2, r3, r4) := H
      have A19 := Aside0.mk A190
      clear A190
      have H' := Aside0.mk H
      clear H
      have hnb20 := NB283_284.out
      have hnc20 := NB284_283.out
      obtain ⟨hcz21_0, hcz21_1, hcz21_2, hfz21_0, hfz21_1, hfz21_2⟩ := cz3_ BK283
      go_wp2_with (first | ((with_reducible refine gate_callee (f := 71) rfl ?_); refine gL_ (some 35) Try.func71 #[.agg #[.slice A0_0 l0_0.length c0_0, .int .i64 a0_1, .slice A0_2 l0_2.length c0_2]] ?_; (with_reducible refine (transeptref08_Own.calls k1 _ _ l0_0 a0_1 _ _ l0_2 t287 t290 t291 _ ?_ ?_ ?_ ?_ A19.out).mono ?_); exact cB_ HR0_0 HB; exact HC0_0.out; exact cB_ HR0_2 HB; exact HC0_2.out; rintro e w22 ⟨v288, v292, rfl, ho0, ho1, hb⟩; refine ⟨_, rfl, ?_⟩; have HO289 := Aside0.mk (Kd.S_lower ho0 (bs_ HB)); have HO293 := Aside0.mk (Kd.S_lower ho1 (bs_ HB)); replace BK283 := bK_ BK283 hb; replace BK284 := bK_ BK284 hb; replace HB := bS_ HB hb; (try clear hb ho0 ho1)) | ((with_reducible refine gate_dst (N := 7) rfl ?_); refine bx_ 7 #[.slice none 0 0, .int .i64 0, .slice none 0 0] 58 ?_; intro gb294 hg w23 hbox hb; replace HO289 := sB_ HO289 hb; replace HO293 := sB_ HO293 hb; have BK294 := Aside0.mk (hbox); have GW294 := bG_ HB hg; have GE294 := bG_ HB hg; replace HB := bS_ HB hb; have NB283_294 := nL_ BK283 hg; have NB294_283 := nG_ BK283 hg; replace BK283 := bK_ BK283 hb; have NB284_294 := nL_ BK284 hg; have NB294_284 := nG_ BK284 hg; replace BK284 := bK_ BK284 hb; clear hb hbox hg; obtain ⟨Ao24, co24, eo24⟩ := Kd.S_slice HO289.out; subst eo24; have hnb25 := NB294_283.out; have hnc25 := NB283_294.out; have hnb26 := NB294_284.out; have hnc26 := NB284_294.out; obtain ⟨hcz27_0, hcz27_1, hcz27_2, hfz27_0, hfz27_1, hfz27_2⟩ := cz3_ BK294; obtain ⟨Ao28, co28, eo28⟩ := Kd.S_slice HO293.out; subst eo28))
      go_loopg [8] k1 (fun kq v8 w' => ∃ (x8_2 : Int) (x295002_2 : List (List Int)) (u295002 : Value), v8 = .int .i64 x8_2 ∧ Aside0 (transeptref08_Append.l1 kq l1 x8_2 t287 t290 x295002_2 = some (r1, r2, r3, r4)) ∧ Aside0 (kq ≤ k1) ∧ Aside0 (Kd.S k87 87 w' w.heap.size (fun _ => True) (.slice Ao24 t287.length co24) t287) ∧ Aside0 (Kd.S (Kd.slice 5 (Kd.int .u8)) 26 w' w.heap.size (fun _ => True) u295002 x295002_2) ∧ Aside0 (w'.heap[gb283]? = some (.cells #[(.slice A0_0 l0_0.length c0_0), .int .i64 a0_1, (.slice A0_2 l0_2.length c0_2)] 58 (0, 0))) ∧ Aside0 (w'.heap[gb284]? = some (.cells #[(.slice none 0 0), .int .i64 x285001_1, (.slice none 0 0)] 58 (0, 0))) ∧ Aside0 (w'.heap[gb294]? = some (.cells #[(.slice Ao24 t287.length co24), .int .i64 t290, u295002] 58 (0, 0))) ∧ Aside0 (Below w.heap.size w w'))
      case atStart => exact ⟨(0), (t291), (.slice Ao28 t291.length co28), (by first | rfl | (simp; done) | (simp [*]; done)), H', ⟨Nat.le_refl _⟩, ⟨by (with_reducible repeat (first | apply Kd.S_alloc | apply Kd.S_drewN | apply Kd.S_drew)); exact Kd.S_mono (Kd.S_far (p := ⟨gb294, 2, none⟩) (Kd.S_far (p := ⟨gb294, 1, none⟩) (Kd.S_far (p := ⟨gb294, 0, none⟩) (Kd.S_types HO289.out BK294.out (by decide)) (fun _ hk => hk.2) (.slice Ao24 t287.length co24)) (fun _ hk => hk.2) (.int .i64 t290)) (fun _ hk => hk.2) (.slice Ao28 t291.length co28)) (fun _ hk => trivial)⟩, ⟨by (with_reducible repeat (first | apply Kd.S_alloc | apply Kd.S_drewN | apply Kd.S_drew)); exact Kd.S_mono (Kd.S_far (p := ⟨gb294, 2, none⟩) (Kd.S_far (p := ⟨gb294, 1, none⟩) (Kd.S_far (p := ⟨gb294, 0, none⟩) (Kd.S_types HO293.out BK294.out (by decide)) (fun _ hk => hk.2) (.slice Ao24 t287.length co24)) (fun _ hk => hk.2) (.int .i64 t290)) (fun _ hk => hk.2) (.slice Ao28 t291.length co28)) (fun _ hk => trivial)⟩, ⟨bA_ BK283⟩, ⟨bA_ BK284⟩, ⟨by (with_reducible repeat (first | refine blk_drewN ?_ _ | refine blk_drew ?_ | refine blk_alloc ?_ _)); refine blk_put (cs := #[.slice Ao24 t287.length co24, .int .i64 t290, .slice none 0 0]) ?_ 2 _ rfl; (with_reducible repeat (first | refine blk_drewN ?_ _ | refine blk_drew ?_ | refine blk_alloc ?_ _)); refine blk_put (cs := #[.slice Ao24 t287.length co24, .int .i64 0, .slice none 0 0]) ?_ 1 _ rfl; (with_reducible repeat (first | refine blk_drewN ?_ _ | refine blk_drew ?_ | refine blk_alloc ?_ _)); refine blk_put (cs := #[.slice none 0 0, .int .i64 0, .slice none 0 0]) ?_ 0 _ rfl; (with_reducible repeat (first | refine blk_drewN ?_ _ | refine blk_drew ?_ | refine blk_alloc ?_ _)); exact BK294.out⟩, ⟨bl_ HB⟩⟩
      case round =>
       clear H'
       try clear c1
       try clear c2
       try clear p2
       try clear q2
       try clear hx2
       try clear c3
       try clear c4
       try clear c4b0
       try clear c4b1
       try clear p6
       try clear c7
       try clear c10
       try clear c10b0
       try clear c11
       try clear c11b0
       try clear c12
       try clear c12b0
       try clear c12b1
       try clear c13
       try clear c15
       try clear c15b0
       try clear c16
       try clear c20
       try clear c25
       try clear c26
       try clear c28
       try clear p28
       try clear q28
       try clear hx28
       try clear hcz14_0
       try clear hcz14_1
       try clear hcz14_2
       try clear hcz17_0
       try clear hcz17_1
       try clear hcz17_2
       try clear hcz18_0
       try clear hcz18_1
       try clear hcz18_2
       try clear hcz21_0
       try clear hcz21_1
       try clear hcz21_2
       try clear hcz27_0
       try clear hcz27_1
       try clear hcz27_2
       try clear hcz8_0
       try clear hcz8_1
       try clear hcz8_2
       try clear hfz14_0
       try clear hfz14_1
       try clear hfz14_2
       try clear hfz17_0
       try clear hfz17_1
       try clear hfz17_2
       try clear hfz18_0
       try clear hfz18_1
       try clear hfz18_2
       try clear hfz21_0
       try clear hfz21_1
       try clear hfz21_2
       try clear hfz27_0
       try clear hfz27_1
       try clear hfz27_2
       try clear hfz8_0
       try clear hfz8_1
       try clear hfz8_2
       try clear hx286_0
       try clear p2
       try clear p286
       try clear q286
       obtain ⟨x8_2, x295002_2, u295002, rfl, HA, HK2, HO_295000, HO_295002, BK283, BK284, BK294, HB⟩ := hrel
       cases gk with
       | zero => exact absurd HA.out (by simp [transeptref08_Append.l1])
       | succ k2 =>
        have H := HA.out
        clear HA
        simp only [transeptref08_Append.l1] at H
        by_cases c29 : x8_2 < (l1.length : Int)
        ·rw [if_pos c29] at H
         have c29b0 : decide (x8_2 < (l1.length : Int)) = true := decide_eq_true c29
         clear c29
         by_cases c30 : 0 ≤ x8_2
         ·rw [if_pos c30] at H
          have c30b0 : decide (0 ≤ x8_2) = true := decide_eq_true c30
          clear c30
          replace H := Option.bind_eq_some_iff.mp H
          obtain ⟨t296, A310, H⟩ := H
          try dsimp only at H
          have A31 := Aside0.mk A310
          clear A310
          by_cases c32 : x295002_2.length < 5864062014805
          ·rw [if_pos c32] at H
           have LMc32 := Aside0.mk c32
           clear c32
           obtain ⟨y299, hy299⟩ : ∃ y_ : List (List Int), y_ = (x295002_2 ++ [t296]) := ⟨_, rfl⟩
           replace H : (transeptref08_Append.l1 k2 l1 (wrap64 (x8_2 + 1)) t287 t290 y299) = some (r1, r2, r3, r4) := by first | (rw [hy299]; with_reducible exact H) | (have H2_ := (Option.bind_some _ _).symm.trans H; rw [hy299]; with_reducible exact H2_) | (have H2_ := (Option.bind_some _ _).symm.trans H; with_reducible exact H2_) | with_reducible exact H | (rw [hy299]; exact H) | exact H
           have Ny299 := Aside0.mk hy299
           clear hy299
           have H' := Aside0.mk H
           clear H
           try go_wp2
           replace HO_295000 := Aside0.mk (Kd.S_drew HO_295000.out)
           replace HO_295002 := Aside0.mk (Kd.S_drew HO_295002.out)
           replace BK283 := Aside0.mk (blk_drew BK283.out)
           replace BK284 := Aside0.mk (blk_drew BK284.out)
           replace BK294 := Aside0.mk (blk_drew BK294.out)
           replace HB := Aside0.mk (below_drew1 HB.out)
           have p295 : 0 ≤ (x8_2 : Int) := of_decide_eq_true (by first | (with_reducible assumption) | assumption)
           have q295 : x8_2 < (l1.length : Int) := of_decide_eq_true (by first | (with_reducible assumption) | assumption)
           obtain ⟨ad295, A295_0, c295_0, e295, hx295_0, hl295_0, hi295_0⟩ := at_L1 HR1.out x8_2 p295 q295
           have hw295_0 := hx295_0
           cases e295
           replace hx295_0 := (HB.out.cell (World.block_lt_of_cell? w _ hx295_0)).trans hx295_0
           have HR295_0 := Aside0.mk hi295_0
           have HC295_0 := Aside0.mk hl295_0
           clear hi295_0 hl295_0
           replace p295 := eq_true p295
           replace q295 := eq_true q295
           refine start_ (n := 11) (S := fun w' => w'.cell? ⟨gb294, 0, none⟩ = some (.slice Ao24 t287.length co24) ∧ w'.cell? ⟨gb294, 1, none⟩ = some (.int .i64 t290) ∧ w'.cell? ⟨gb294, 2, none⟩ = some (u295002) ∧ w'.cell? (ad295.add (x8_2).toNat) = some (.slice A295_0 (rd_L1 l1 x8_2).length c295_0)) (ds := [10]) #[false, false, false, false, false, false, false, false, false, false, false] (by kernel_rfl) rfl rfl ⟨(blk_cell BK294.out 0).trans rfl, (blk_cell BK294.out 1).trans rfl, (blk_cell BK294.out 2).trans rfl, ((HB.out.cell (World.block_lt_of_cell? w _ hw295_0)).trans hw295_0)⟩ (fun hHeld => ?_); refine with_tabW transeptref08_Append.tab14 transeptref08_Append.bits14 (fun HT_ HW_ => ?_)
           generalize wr.drew = w33 at HO_295000 HO_295002 BK283 BK284 BK294 HB HR295_0 hx295_0 hHeld ⊢
           refine pu_ 0 (some 42) HT_ ?_
           refine pu_ 2 (some 44) HT_ ?_
           refine pu_ 3 (some 45) HT_ ?_
           refine pu_ 4 (some 46) HT_ ?_
           refine tk_ 1 (some 43) HT_ HW_ hHeld ?_
           refine tk_ 5 (some 47) HT_ HW_ hHeld ?_
           refine on_ 6 (some 48) HT_ (fun K hK => ?_)
           refine goes_ Try.func72 (by kernel_rfl) rfl #[.slice A295_0 (rd_L1 l1 x8_2).length c295_0] (by rfl) rfl rfl (by (try simp only [List.map_toArray, List.map_cons, List.map_nil]); first | done | rfl | (simp only [List.length_drop, List.length_take]; rfl)) ?_
           with_reducible refine (transeptref03_Copied.calls _ _ (rd_L1 l1 x8_2) t296 _ ?_ ?_ A31.out).mono ?_
           exact cB_ HR295_0 HB
           exact HC295_0.out
           rintro e w34 ⟨v297, rfl, ho0, hb⟩
           refine ⟨_, rfl, ?_⟩
           replace HO_295000 := Aside0.mk (Kd.S_elder' (sA_ HO_295000) (Kd.R_base ho0) hb)
           replace HO_295002 := Aside0.mk (Kd.S_elder' (sA_ HO_295002) (Kd.R_base ho0) hb)
           have HO298 := Aside0.mk (Kd.R_lower ho0 (bs_ HB))
           replace BK283 := bK_ BK283 hb
           replace BK284 := bK_ BK284 hb
           replace BK294 := bK_ BK294 hb
           replace HB := bS_ HB hb
           (try clear hb ho0)
           obtain ⟨Ao36, co36, eo36⟩ := Kd.R_slice HO298.out
           (first | subst eo36 | (injection eo36 with f1_ f2_ f3_; have f4_ := f1_.symm; have f5_ := f3_.symm; clear f1_ f2_ f3_; subst f4_; subst f5_))
           refine hK.out _ _ ⟨(blk_cell BK294.out 0).trans rfl, (blk_cell BK294.out 1).trans rfl, (blk_cell BK294.out 2).trans rfl, ((HB.out.cell (World.block_lt_of_cell? w _ hw295_0)).trans hw295_0)⟩ (fun hHeld => ?_)
           clear hK K
           refine norm_ (a' := ?_) ?_ ?_
           rotate_left
           ·show Act.put _ (some 48) _ = _
            simp only [Act.put, List.setIfInBounds_toArray, List.set_cons_zero, List.set_cons_succ, i64_w, i32_w]
            rfl
           refine on_ 7 (some 49) HT_ (fun K hK => ?_)
           refine value_ (w1 := ?_) (v := ?_) (by rfl) rfl ?_ ?_
           rotate_left 2
           ·go_simp
            constructor
            ·rfl
            ·rfl
           refine hK.out _ _ ⟨(blk_cell (blk_alloc BK294.out _) 0).trans rfl, (blk_cell (blk_alloc BK294.out _) 1).trans rfl, (blk_cell (blk_alloc BK294.out _) 2).trans rfl, (World.cell?_alloc_lt _ _ _ (World.block_lt_of_cell? _ _ (((HB.out.cell (World.block_lt_of_cell? w _ hw295_0)).trans hw295_0)))).trans (((HB.out.cell (World.block_lt_of_cell? w _ hw295_0)).trans hw295_0))⟩ (fun hHeld => ?_)
           clear hK K
           refine norm_ (a' := ?_) ?_ ?_
           rotate_left
           ·show Act.put _ (some 49) _ = _
            simp only [Act.put, List.setIfInBounds_toArray, List.set_cons_zero, List.set_cons_succ, i64_w, i32_w]
            rfl
           refine on_ 8 (some 50) HT_ (fun K hK => ?_)
           refine Kd.S_append_step (Kd.slice 5 (Kd.int .u8)) (w0 := w) w.heap.size (by rfl) (.tmp 43) (.tmp 49) 56 26 (.slice none 0 0) 24 rfl Try.underlying56 info26 rfl (by decide) (by omega) u295002 x295002_2 t296 [.slice Ao36 t296.length co36] (fun _ => True) (fun k_ => some k_ = (.slice Ao36 t296.length co36 : Value).ownBlock) rfl rfl ?aP (fun k_ hk_ => ((Kd.R_mono (ok' := fun k_ => ((fun _ => True)) k_ ∧ some k_ ≠ (u295002 : Value).ownBlock) (Kd.R_apart' (HO298.out) (Kd.S_typed HO_295002.out) (by decide)) (fun k_ hk => ⟨trivial, hk.2⟩))).1 k_ hk_.symm) ?aF ?aO ?aB ?aS ?aL ?_
           (case aP => exact Kd.M_row (Kd.R_mono (Kd.R_tight rfl (Kd.R_mono (ok' := fun k_ => ((fun _ => True)) k_ ∧ some k_ ≠ (u295002 : Value).ownBlock) (Kd.R_apart' (HO298.out) (Kd.S_typed HO_295002.out) (by decide)) (fun k_ hk => ⟨trivial, hk.2⟩))) (fun _ h_ => h_)))
           (case aB => exact (bl_ HB))
           (case aF => exact (fun _ _ => trivial))
           (case aO => exact (by (with_reducible repeat (first | apply Kd.S_alloc | apply Kd.S_drewN | apply Kd.S_drew)); exact Kd.S_mono HO_295002.out (fun k_ hk => ⟨trivial, fun e_ => hk.2 e_⟩)))
           (case aS => exact (bs_ HB))
           (case aL => have := LMc32.out; omega)
           intro v300 w35 ho hb hg hat
           rw [← Ny299.out] at ho
           replace HO_295000 := Aside0.mk (Kd.S_over' (sA_ HO_295000) (Kd.S_typed (sA_ HO_295002)) (by decide) hg)
           replace BK283 := Aside0.mk (blk_grown (bA_ BK283) hg (Kd.S_ne HO_295002.out BK283.out (by decide)))
           replace BK284 := Aside0.mk (blk_grown (bA_ BK284) hg (Kd.S_ne HO_295002.out BK284.out (by decide)))
           replace BK294 := Aside0.mk (blk_grown (bA_ BK294) hg (Kd.S_ne HO_295002.out BK294.out (by decide)))
           replace HB := Aside0.mk (hb)
           have HO301 := Aside0.mk (ho)
           clear HO_295002 HO298
           clear ho hb hg hat
           obtain ⟨Ao37, co37, eo37⟩ := Kd.S_slice HO301.out
           (first | subst eo37 | (injection eo37 with f1_ f2_ f3_; have f4_ := f1_.symm; have f5_ := f3_.symm; clear f1_ f2_ f3_; subst f4_; subst f5_))
           refine hK.out _ _ ⟨(blk_cell BK294.out 0).trans rfl, (blk_cell BK294.out 1).trans rfl, (blk_cell BK294.out 2).trans rfl, ((HB.out.cell (World.block_lt_of_cell? w _ hw295_0)).trans hw295_0)⟩ (fun hHeld => ?_)
           clear hK K
           refine norm_ (a' := ?_) ?_ ?_
           rotate_left
           ·show Act.put _ (some 50) _ = _
            simp only [Act.put, List.setIfInBounds_toArray, List.set_cons_zero, List.set_cons_succ, i64_w, i32_w]
            rfl
           refine pu_ 9 (some 51) HT_ ?_
           refine last_ (i := 10) (N := none) #[true, true, true, true, true, true, true, true, true, true, true] rfl rfl (one_of HT_.out (by kernel_rfl)) (by decide) (fun K hK => ?_)
           have hs38 : w35.cell? ⟨gb294, 2, none⟩ = some (u295002) := (blk_cell BK294.out 2).trans rfl
           have hfs38 := blk_frozen BK294.out 2
           have hns38_0 := NB283_294.out
           have hns38_1 := NB284_294.out
           have hms38_0 := NB294_283.out
           have hms38_1 := NB294_284.out
           refine skip_ (w1 := ?_) (by rfl) rfl ?_ ?_
           rotate_left
           ·go_simp
            rfl
           refine hK.out _ _ ?_
           clear hK K
           refine done_ (done_of HT_.out (by kernel_rfl)) ?_
           try go_wp2
           go_roundg k2
           case measure => have := HK1.out; have := HK2.out; omega
           case rel => exact ⟨(wrap64 (x8_2 + 1)), (y299), (.slice Ao37 y299.length co37), (by first | rfl | (simp; done) | (simp [*]; done)), H', ⟨by have := HK1.out; have := HK2.out; omega⟩, ⟨by (with_reducible repeat (first | apply Kd.S_alloc | apply Kd.S_drewN | apply Kd.S_drew)); exact Kd.S_mono (Kd.S_far (p := ⟨gb294, 2, none⟩) (Kd.S_types HO_295000.out BK294.out (by decide)) (fun _ hk => hk.2) (.slice Ao37 y299.length co37)) (fun _ hk => trivial)⟩, ⟨by (with_reducible repeat (first | apply Kd.S_alloc | apply Kd.S_drewN | apply Kd.S_drew)); exact Kd.S_mono (Kd.S_far (p := ⟨gb294, 2, none⟩) (Kd.S_types HO301.out BK294.out (by decide)) (fun _ hk => hk.2) (.slice Ao37 y299.length co37)) (fun _ hk => trivial)⟩, ⟨bA_ BK283⟩, ⟨bA_ BK284⟩, ⟨by (with_reducible repeat (first | refine blk_drewN ?_ _ | refine blk_drew ?_ | refine blk_alloc ?_ _)); refine blk_put (cs := #[.slice Ao24 t287.length co24, .int .i64 t290, u295002]) ?_ 2 _ rfl; (with_reducible repeat (first | refine blk_drewN ?_ _ | refine blk_drew ?_ | refine blk_alloc ?_ _)); exact BK294.out⟩, ⟨bl_ HB⟩⟩
          ·rw [if_neg c32] at H
           exact absurd H (by simp)
         ·rw [if_neg c30] at H
          exact absurd H (by simp)
        ·rw [if_neg c29] at H
         have c29b0 : decide (x8_2 < (l1.length : Int)) = false := decide_eq_false c29
         clear c29
         simp only [Option.some.injEq, Prod.mk.injEq] at H
         obtain ⟨rfl, rfl, rfl, rfl⟩ := H
         have hnb39 := NB294_283.out
         have hnc39 := NB283_294.out
         have hnb40 := NB294_284.out
         have hnc40 := NB284_294.out
         obtain ⟨hcz41_0, hcz41_1, hcz41_2, hfz41_0, hfz41_1, hfz41_2⟩ := cz3_ BK294
         have hnb42 := NB284_283.out
         have hnc42 := NB283_284.out
         obtain ⟨hcz43_0, hcz43_1, hcz43_2, hfz43_0, hfz43_1, hfz43_2⟩ := cz3_ BK284
         obtain ⟨Ao44, co44, eo44⟩ := Kd.S_slice HO_295002.out
         subst eo44
         go_wp2
         refine bodyPost_ret (results_ct rfl _ _ gb284 58 #[.slice Ao24 t287.length co24, .int .i64 t290, .slice Ao44 x295002_2.length co44] (0, 0) _ rfl (by (with_reducible repeat (first | refine blk_drewN ?_ _ | refine blk_drew ?_ | refine blk_alloc ?_ _)); refine blk_put (cs := #[.slice Ao24 t287.length co24, .int .i64 t290, .slice none 0 0]) ?_ 2 _ rfl; (with_reducible repeat (first | refine blk_drewN ?_ _ | refine blk_drew ?_ | refine blk_alloc ?_ _)); refine blk_put (cs := #[.slice Ao24 t287.length co24, .int .i64 x285001_1, .slice none 0 0]) ?_ 1 _ rfl; (with_reducible repeat (first | refine blk_drewN ?_ _ | refine blk_drew ?_ | refine blk_alloc ?_ _)); refine blk_put (cs := #[.slice none 0 0, .int .i64 x285001_1, .slice none 0 0]) ?_ 0 _ rfl; (with_reducible repeat (first | refine blk_drewN ?_ _ | refine blk_drew ?_ | refine blk_alloc ?_ _)); exact BK284.out) Try.underlying58 rfl (by kernel_rfl)) rfl ?_
         exact ⟨_, _, fin_, by (with_reducible repeat (first | apply Kd.S_alloc | apply Kd.S_drewN | apply Kd.S_drew)); exact Kd.S_mono (Kd.S_far (p := ⟨gb284, 2, none⟩) (Kd.S_far (p := ⟨gb284, 1, none⟩) (Kd.S_far (p := ⟨gb284, 0, none⟩) (Kd.S_types HO_295000.out BK284.out (by decide)) (fun _ hk => hk.2) (.slice Ao24 t287.length co24)) (fun _ hk => hk.2) (.int .i64 t290)) (fun _ hk => hk.2) (.slice Ao44 x295002_2.length co44)) (fun _ hk => trivial), by (with_reducible repeat (first | apply Kd.S_alloc | apply Kd.S_drewN | apply Kd.S_drew)); exact Kd.S_mono (Kd.S_far (p := ⟨gb284, 2, none⟩) (Kd.S_far (p := ⟨gb284, 1, none⟩) (Kd.S_far (p := ⟨gb284, 0, none⟩) (Kd.S_types HO_295002.out BK284.out (by decide)) (fun _ hk => hk.2) (.slice Ao24 t287.length co24)) (fun _ hk => hk.2) (.int .i64 t290)) (fun _ hk => hk.2) (.slice Ao44 x295002_2.length co44)) (fun _ hk => trivial), bl_ HB⟩
 ·rw [if_neg c4] at H
  have c4b0 : (t285 == 0) = false := beq_eq_false_iff_ne.mpr c4
  have c4b1 : (t285 != 0) = true := bne_iff_ne.mpr c4
  simp only [Option.some.injEq, Prod.mk.injEq] at H
  obtain ⟨rfl, rfl, rfl, rfl⟩ := H
  go_enter Try.func37, Try.ntmps37
  go_wp2_with (first | ((with_reducible refine gate_dst (N := 2) rfl ?_); refine bx_ 2 #[.slice A0_0 l0_0.length c0_0, .int .i64 a0_1, .slice A0_2 l0_2.length c0_2] 58 ?_; intro gb283 hg w45 hbox hb; have BK283 := Aside0.mk (hbox); have GW283 := bG_ HB hg; have GE283 := bG_ HB hg; replace HB := bS_ HB hb; clear hb hbox hg) | ((with_reducible refine gate_dst (N := 4) rfl ?_); refine bx_ 4 #[.slice none 0 0, .int .i64 0, .slice none 0 0] 58 ?_; intro gb284 hg w46 hbox hb; have BK284 := Aside0.mk (hbox); have GW284 := bG_ HB hg; have GE284 := bG_ HB hg; replace HB := bS_ HB hb; have NB283_284 := nL_ BK283 hg; have NB284_283 := nG_ BK283 hg; replace BK283 := bK_ BK283 hb; clear hb hbox hg; have hnb47 := NB283_284.out; have hnc47 := NB284_283.out; obtain ⟨hcz48_0, hcz48_1, hcz48_2, hfz48_0, hfz48_1, hfz48_2⟩ := cz3_ BK283) | ((with_reducible refine gate_callee (f := 70) rfl ?_); refine gL_ (some 10) Try.func70 #[.agg #[.slice A0_0 l0_0.length c0_0, .int .i64 a0_1, .slice A0_2 l0_2.length c0_2]] ?_; (with_reducible refine (transeptref08_Check.calls k _ _ l0_0 a0_1 _ _ l0_2 t285 _ ?_ ?_ ?_ ?_ A3.out).mono ?_); exact cB_ HR0_0 HB; exact HC0_0.out; exact cB_ HR0_2 HB; exact HC0_2.out; rintro e w49 ⟨rfl, hb⟩; refine ⟨_, rfl, ?_⟩; replace BK283 := bK_ BK283 hb; replace BK284 := bK_ BK284 hb; replace HB := bS_ HB hb; (try clear hb); obtain ⟨hcz50_0, hcz50_1, hcz50_2, hfz50_0, hfz50_1, hfz50_2⟩ := cz3_ BK284))
  refine bodyPost_ret (results_ct rfl _ _ gb284 58 #[.slice none 0 0, .int .i64 0, .slice none 0 0] (0, 0) _ rfl (by (with_reducible repeat (first | refine blk_drewN ?_ _ | refine blk_drew ?_ | refine blk_alloc ?_ _)); refine blk_put (cs := #[.slice none 0 0, .int .i64 0, .slice none 0 0]) ?_ 2 _ rfl; (with_reducible repeat (first | refine blk_drewN ?_ _ | refine blk_drew ?_ | refine blk_alloc ?_ _)); refine blk_put (cs := #[.slice none 0 0, .int .i64 0, .slice none 0 0]) ?_ 1 _ rfl; (with_reducible repeat (first | refine blk_drewN ?_ _ | refine blk_drew ?_ | refine blk_alloc ?_ _)); refine blk_put (cs := #[.slice none 0 0, .int .i64 0, .slice none 0 0]) ?_ 0 _ rfl; (with_reducible repeat (first | refine blk_drewN ?_ _ | refine blk_drew ?_ | refine blk_alloc ?_ _)); exact BK284.out) Try.underlying58 rfl (by kernel_rfl)) rfl ?_
  exact ⟨_, _, fin_, nil_, nil_, bl_ HB⟩
end Go.Proofs.Ytooabchnbmnchaa.Q
namespace Go.Proofs.Ytooabchnbmnchaa.Q
open Go.RowKit Go.Proofs.YtooabchnbmnchaaW.PrintWords Go.Proofs.YtooabchnbmnchaaW.PrintLast Go.Proofs.YtooabchnbmnchaaW.PrintMore
attribute [local go_sem] max2_int min2_int max_two min_two max_three min_three max_four min_four binOp_string_leq binOp_string_geq binOp_string_gtr   -- for this text's walks alone
set_option linter.unusedVariables false
set_option linter.unusedSimpArgs false
def transeptplain_Spoil.l0 : Nat → List Int → Int → Option (List Int)
 | 0, _, _ => none
 | k + 1, x0, x2 => if x2 < (x0.length : Int) then (if 0 ≤ x2 then (transeptplain_Spoil.l0 k (x0.set (x2 : Int).toNat (Go.bits .xor .u8 (rd x0 x2) 85)) (wrap64 (x2 + 1))) else (none)) else (some x0)
def transeptplain_Spoil.f (k : Nat) (l0 : List Int) : Option (List Int) := transeptplain_Spoil.l0 k l0 0
theorem transeptplain_Spoil.mono_l : ∀ k, (∀ y0 y1, LeO (transeptplain_Spoil.l0 k y0 y1) (transeptplain_Spoil.l0 (k + 1) y0 y1))
 | 0 => fun _ _ r h => by simp [transeptplain_Spoil.l0] at h
 | k + 1 => by
  have ih0 := transeptplain_Spoil.mono_l k
  ·intro y0 y1
   unfold transeptplain_Spoil.l0
   repeat' first
   | (with_reducible exact ih0 _ _)
   | (with_reducible exact LeO.refl _)
   | (with_reducible exact LeO.none _)
   | (with_reducible refine LeO.ite ?_ ?_)
   | (with_reducible refine LeO.bind ?_ (fun _ => ?_))
   | exact ih0 _ _
   | exact LeO.none _
   | refine LeO.ite ?_ ?_
   | refine LeO.bind ?_ (fun _ => ?_)
theorem transeptplain_Spoil.mono : ∀ a0 k, LeO (transeptplain_Spoil.f k a0) (transeptplain_Spoil.f (k + 1) a0) := by
 intro a0 k
 have ih0 := transeptplain_Spoil.mono_l k
 unfold transeptplain_Spoil.f
 repeat' first
   | (with_reducible exact ih0 _ _)
   | (with_reducible exact LeO.refl _)
   | (with_reducible exact LeO.none _)
   | (with_reducible refine LeO.ite ?_ ?_)
   | (with_reducible refine LeO.bind ?_ (fun _ => ?_))
   | exact ih0 _ _
   | exact LeO.none _
   | refine LeO.ite ?_ ?_
   | refine LeO.bind ?_ (fun _ => ?_)
set_option maxHeartbeats 8000000 in
set_option maxRecDepth 100000 in
theorem transeptplain_Spoil.calls (k : Nat) (P0_ : Nat → Prop) (u9000_ : Value) (l0 : List Int) (r : List Int) (w0 w : World) (hB : Below w0.heap.size w0 w) (ho0 : Kd.R (Kd.int .u8) 5 w w0.heap.size P0_ u9000_ l0) (h : transeptplain_Spoil.f k l0 = some r) :
  Calls Try.prog 38 #[u9000_] w fun e w' => e = .returned (.tuple #[]) ∧ Kd.R (Kd.int .u8) 5 w' w0.heap.size (fun k_ => (P0_ k_ ∨ w.heap.size ≤ k_)) u9000_ r ∧ Below w0.heap.size w0 w' ∧ Kept w w' (fun k_ => P0_ k_) := by
 have HO0 := Aside0.mk (show Kd.R (Kd.int .u8) 5 w w0.heap.size (fun k_ => (P0_ k_ ∨ w.heap.size ≤ k_)) u9000_ l0 from Kd.R_mono ho0 (fun k_ hk => (.inl hk)))
 have HK := Aside0.mk (Kept.refl w (fun k_ => P0_ k_))
 have HW0 := Aside0.mk hB.size
 have HB := Aside0.mk hB
 clear hB
 have H : (transeptplain_Spoil.l0 k l0 0) = some r := h
 clear h
 have H' := Aside0.mk H
 clear H
 go_enter Try.func38, Try.ntmps38
 go_wp2
 go_loopg [2] k (fun kq v2 w' => ∃ (x0_1 : List Int) (x2_1 : Int), v2 = .int .i64 x2_1 ∧ Aside0 (transeptplain_Spoil.l0 kq x0_1 x2_1 = some r) ∧ Aside0 (kq ≤ k) ∧ Aside0 (Kd.R (Kd.int .u8) 5 w' w0.heap.size (fun k_ => (P0_ k_ ∨ w.heap.size ≤ k_)) u9000_ x0_1) ∧ Aside0 (Kept w w' (fun k_ => P0_ k_)) ∧ Aside0 (Below w0.heap.size w0 w'))
 case atStart => exact ⟨(l0), (0), (by first | rfl | (simp; done) | (simp [*]; done)), H', ⟨Nat.le_refl _⟩, ⟨rA_ HO0⟩, ⟨by repeat (first | (with_reducible first | exact HK.out | apply Kept.alloc | apply Kept.drewN | apply Kept.drew) | exact HK.out)⟩, ⟨bl_ HB⟩⟩
 case round =>
  clear H'
  obtain ⟨x0_1, x2_1, rfl, HA, HK1, HO_0, HK, HB⟩ := hrel
  cases gk with
  | zero => exact absurd HA.out (by simp [transeptplain_Spoil.l0])
  | succ k1 =>
   have H := HA.out
   clear HA
   simp only [transeptplain_Spoil.l0] at H
   by_cases c2 : x2_1 < (x0_1.length : Int)
   ·rw [if_pos c2] at H
    have c2b0 : decide (x2_1 < (x0_1.length : Int)) = true := decide_eq_true c2
    clear c2
    by_cases c3 : 0 ≤ x2_1
    ·rw [if_pos c3] at H
     have c3b0 : decide (0 ≤ x2_1) = true := decide_eq_true c3
     clear c3
     obtain ⟨y303, hy303⟩ : ∃ y_ : List Int, y_ = (x0_1.set (x2_1 : Int).toNat (Go.bits .xor .u8 (rd x0_1 x2_1) 85)) := ⟨_, rfl⟩
     replace H : (transeptplain_Spoil.l0 k1 y303 (wrap64 (x2_1 + 1))) = some r := by first | (rw [hy303]; with_reducible exact H) | (have H2_ := (Option.bind_some _ _).symm.trans H; rw [hy303]; with_reducible exact H2_) | (have H2_ := (Option.bind_some _ _).symm.trans H; with_reducible exact H2_) | with_reducible exact H | (rw [hy303]; exact H) | exact H
     have Ny303 := Aside0.mk hy303
     clear hy303
     have H' := Aside0.mk H
     clear H
     obtain ⟨Ao5, co5, eo5⟩ := Kd.R_slice HO_0.out
     subst eo5
     have p302 : 0 ≤ (x2_1 : Int) := of_decide_eq_true (by first | (with_reducible assumption) | assumption)
     have q302 : x2_1 < (x0_1.length : Int) := of_decide_eq_true (by first | (with_reducible assumption) | assumption)
     obtain ⟨ad302, e302, hx302_0⟩ := Kd.at_int (Kd.R_reads' HO_0.out).2.2 x2_1 p302 q302
     cases e302
     replace p302 := eq_true p302
     replace q302 := eq_true q302
     have p4 : 0 ≤ (x2_1 : Int) := of_decide_eq_true (by first | (with_reducible assumption) | assumption)
     have q4 : (x2_1 : Int) < ((x0_1.length : Int) : Int) := of_decide_eq_true (by first | (with_reducible assumption) | assumption)
     obtain ⟨go4, co4, eo4, gb4, gl4, cl4, HG4⟩ := Kd.R_form HO_0.out (by omega)
     (first | cases eo4 | (injection eo4 with ea_ en_ ec_; (first | subst ea_ | (injection ea_ with ea_; subst ea_)); subst ec_; clear en_))
     have GB4 := Aside0.mk gb4
     have GG4 := Aside0.mk HG4
     clear gb4 gl4 HG4
     have HMgo4 := Aside0.mk (show (P0_ go4 ∨ w.heap.size ≤ go4) from (HO_0.out.1 _ rfl))
     (first | simp only [add_plain] at hx302_0 | skip)
     obtain ⟨hx4_0, hf4_0⟩ := Kd.R_celln 0 HO_0.out (x2_1 : Int) p4 q4
     replace p4 := eq_true p4
     replace q4 := eq_true q4
     have HP6 := Kd.R_putg HO_0.out (x2_1 : Int) (Go.bits .xor .u8 (rd x0_1 x2_1) 85)
     go_wp2_with (first | ((with_reducible refine gate_store (t := 5) (p := 14) rfl ?_); refine store_event (t := 5) (p := 14) (v := ?vo_w7) (w1 := (wr.setCell ⟨go4, (x2_1 : Int).toNat, none⟩ (.int .u8 (Go.bits .xor .u8 (rd x0_1 x2_1) 85)))) ?hg ?ho ?hn ?hr ?_; (case ho => rfl); (case hg => rfl); (case hn => rfl); (case hr => first | (go_simp; done) | (go_simp; rfl)); intro w7 hw; have hg : wr.grownBy w7 (some go4) := (by rw [hw]; exact HP6.2); have hp_ : Kd.R (Kd.int .u8) 5 w7 w0.heap.size (fun k_ => (P0_ k_ ∨ w.heap.size ≤ k_)) (.slice (some ⟨go4, 0, none⟩) x0_1.length co5) y303 := (by rw [hw, Ny303.out]; exact HP6.1); clear HP6; replace HB := Aside0.mk ((by rw [hw]; exact below_set (HB.out) GB4.out : Below w0.heap.size w0 w7)); replace HK := Aside0.mk (Kept.of_grown (S := (fun k_ => P0_ k_)) hg (by repeat (first | (with_reducible first | exact HK.out | apply Kept.alloc | apply Kept.drewN | apply Kept.drew) | exact HK.out)) (fun k_ e_ => (HO_0.out.1 k_ e_))); replace HO_0 := Aside0.mk (hp_); clear hg hw hp_))
     go_roundg k1
     case measure => have := HK1.out; omega
     case rel => exact ⟨(y303), (wrap64 (x2_1 + 1)), (by first | rfl | (simp; done) | (simp [*]; done)), H', ⟨by have := HK1.out; omega⟩, ⟨rA_ HO_0⟩, ⟨by repeat (first | (with_reducible first | exact HK.out | apply Kept.alloc | apply Kept.drewN | apply Kept.drew) | exact HK.out)⟩, ⟨bl_ HB⟩⟩
    ·rw [if_neg c3] at H
     exact absurd H (by simp)
   ·rw [if_neg c2] at H
    have c2b0 : decide (x2_1 < (x0_1.length : Int)) = false := decide_eq_false c2
    clear c2
    obtain rfl := Option.some.inj H
    obtain ⟨Ao8, co8, eo8⟩ := Kd.R_slice HO_0.out
    subst eo8
    go_wp2
    first | go_end0 | ((try simp only [Exit.inBlock, Exit.then]); refine bodyPost_ret (results_none rfl _ _ _) rfl ?_)
    exact ⟨fin_, rA_ HO_0, bl_ HB, by repeat (first | (with_reducible first | exact HK.out | apply Kept.alloc | apply Kept.drewN | apply Kept.drew) | exact HK.out)⟩
end Go.Proofs.Ytooabchnbmnchaa.Q
namespace Go.Proofs.Ytooabchnbmnchaa.Q
open Go.RowKit Go.Proofs.YtooabchnbmnchaaW.PrintWords Go.Proofs.YtooabchnbmnchaaW.PrintLast Go.Proofs.YtooabchnbmnchaaW.PrintMore
attribute [local go_sem] max2_int min2_int max_two min_two max_three min_three max_four min_four binOp_string_leq binOp_string_geq binOp_string_gtr   -- for this text's walks alone
set_option linter.unusedVariables false
set_option linter.unusedSimpArgs false
def transeptplain_SameBytes.l0 : Nat → List Int → List Int → Int → Option (Bool)
 | 0, _, _, _ => none
 | k + 1, x0, x1, x5 => if x5 < (x0.length : Int) then (if 0 ≤ x5 then (if x5 < (x1.length : Int) then (if (rd x0 x5) = (rd x1 x5) then (transeptplain_SameBytes.l0 k x0 x1 (wrap64 (x5 + 1))) else (some false)) else (none)) else (none)) else (some true)
def transeptplain_SameBytes.f (k : Nat) (l0 : List Int) (l1 : List Int) : Option (Bool) := if (l0.length : Int) = (l1.length : Int) then (transeptplain_SameBytes.l0 k l0 l1 0) else (some false)
theorem transeptplain_SameBytes.mono_l : ∀ k, (∀ y0 y1 y2, LeO (transeptplain_SameBytes.l0 k y0 y1 y2) (transeptplain_SameBytes.l0 (k + 1) y0 y1 y2))
 | 0 => fun _ _ _ r h => by simp [transeptplain_SameBytes.l0] at h
 | k + 1 => by
  have ih0 := transeptplain_SameBytes.mono_l k
  ·intro y0 y1 y2
   unfold transeptplain_SameBytes.l0
   repeat' first
   | (with_reducible exact ih0 _ _ _)
   | (with_reducible exact LeO.refl _)
   | (with_reducible exact LeO.none _)
   | (with_reducible refine LeO.ite ?_ ?_)
   | (with_reducible refine LeO.bind ?_ (fun _ => ?_))
   | exact ih0 _ _ _
   | exact LeO.none _
   | refine LeO.ite ?_ ?_
   | refine LeO.bind ?_ (fun _ => ?_)
theorem transeptplain_SameBytes.mono : ∀ a0 a1 k, LeO (transeptplain_SameBytes.f k a0 a1) (transeptplain_SameBytes.f (k + 1) a0 a1) := by
 intro a0 a1 k
 have ih0 := transeptplain_SameBytes.mono_l k
 unfold transeptplain_SameBytes.f
 repeat' first
   | (with_reducible exact ih0 _ _ _)
   | (with_reducible exact LeO.refl _)
   | (with_reducible exact LeO.none _)
   | (with_reducible refine LeO.ite ?_ ?_)
   | (with_reducible refine LeO.bind ?_ (fun _ => ?_))
   | exact ih0 _ _ _
   | exact LeO.none _
   | refine LeO.ite ?_ ?_
   | refine LeO.bind ?_ (fun _ => ?_)
set_option maxHeartbeats 8000000 in
set_option maxRecDepth 100000 in
theorem transeptplain_SameBytes.calls (k : Nat) (A0 : Option Addr) (c0 : Nat) (l0 : List Int) (A1 : Option Addr) (c1 : Nat) (l1 : List Int) (r : Bool) (w : World) (hr0 : Kd.C (Kd.int .u8) w A0 l0.length l0) (hc0 : l0.length ≤ c0) (hr1 : Kd.C (Kd.int .u8) w A1 l1.length l1) (hc1 : l1.length ≤ c1) (h : transeptplain_SameBytes.f k l0 l1 = some r) :
  Calls Try.prog 21 #[.slice A0 l0.length c0, .slice A1 l1.length c1] w fun e w' => e = .returned (.bool r) ∧ Drawn0 w w' := by
 have HR0 := Aside0.mk hr0
 have HC0 := Aside0.mk hc0
 clear hr0 hc0
 have HR1 := Aside0.mk hr1
 have HC1 := Aside0.mk hc1
 clear hr1 hc1
 have H : (if (l0.length : Int) = (l1.length : Int) then (transeptplain_SameBytes.l0 k l0 l1 0) else (some false)) = some r := h
 clear h
 by_cases c3 : (l0.length : Int) = (l1.length : Int)
 ·rw [if_pos c3] at H
  have c3b0 : ((l0.length : Int) == (l1.length : Int)) = true := beq_iff_eq.mpr c3
  have c3b1 : ((l0.length : Int) != (l1.length : Int)) = false := bne_eq_false_iff_eq.mpr c3
  have c3b2 : (l0.length == l1.length) = true := by first | simpa using c3 | (simp at c3 ⊢; omega)
  clear c3
  have H' := Aside0.mk H
  clear H
  go_enter Try.func21, Try.ntmps21
  go_wp2
  repeat (go_quiet (fail); try go_wp2)
  go_loopg [5] k (fun kq v5 w' => ∃ (x5_1 : Int), v5 = .int .i64 x5_1 ∧ Aside0 (transeptplain_SameBytes.l0 kq l0 l1 x5_1 = some r) ∧ Aside0 (kq ≤ k) ∧ Drawn0 w w')
  case atStart => exact ⟨(0), (by first | rfl | (simp; done) | (simp [*]; done)), H', ⟨Nat.le_refl _⟩, by repeat (first | exact Drawn0.refl _ | apply Drawn0.step)⟩
  case round =>
   clear H'
   try clear c1
   try clear c2
   try clear p2
   try clear c3
   try clear c3b0
   try clear c3b1
   try clear c3b2
   obtain ⟨x5_1, rfl, HA, HK1, ⟨m1, rfl⟩⟩ := hrel
   cases gk with
   | zero => exact absurd HA.out (by simp [transeptplain_SameBytes.l0])
   | succ k1 =>
    have H := HA.out
    clear HA
    simp only [transeptplain_SameBytes.l0] at H
    by_cases c4 : x5_1 < (l0.length : Int)
    ·rw [if_pos c4] at H
     have c4b0 : decide (x5_1 < (l0.length : Int)) = true := decide_eq_true c4
     clear c4
     by_cases c5 : 0 ≤ x5_1
     ·rw [if_pos c5] at H
      have c5b0 : decide (0 ≤ x5_1) = true := decide_eq_true c5
      clear c5
      by_cases c6 : x5_1 < (l1.length : Int)
      ·rw [if_pos c6] at H
       have c6b0 : decide (x5_1 < (l1.length : Int)) = true := decide_eq_true c6
       clear c6
       by_cases c7 : (rd l0 x5_1) = (rd l1 x5_1)
       ·rw [if_pos c7] at H
        have c7b0 : ((rd l0 x5_1) == (rd l1 x5_1)) = true := beq_iff_eq.mpr c7
        have c7b1 : ((rd l0 x5_1) != (rd l1 x5_1)) = false := bne_eq_false_iff_eq.mpr c7
        clear c7
        have H' := Aside0.mk H
        clear H
        have p304 : 0 ≤ (x5_1 : Int) := of_decide_eq_true (by first | (with_reducible assumption) | assumption)
        have q304 : x5_1 < (l0.length : Int) := of_decide_eq_true (by first | (with_reducible assumption) | assumption)
        obtain ⟨ad304, e304, hx304_0⟩ := Kd.at_int HR0.out x5_1 p304 q304
        cases e304
        replace p304 := eq_true p304
        replace q304 := eq_true q304
        have p305 : 0 ≤ (x5_1 : Int) := of_decide_eq_true (by first | (with_reducible assumption) | assumption)
        have q305 : x5_1 < (l1.length : Int) := of_decide_eq_true (by first | (with_reducible assumption) | assumption)
        obtain ⟨ad305, e305, hx305_0⟩ := Kd.at_int HR1.out x5_1 p305 q305
        cases e305
        replace p305 := eq_true p305
        replace q305 := eq_true q305
        go_wp2
        repeat (go_quiet (fail); try go_wp2)
        go_roundg k1
        case measure => have := HK1.out; omega
        case rel => exact ⟨(wrap64 (x5_1 + 1)), (by first | rfl | (simp; done) | (simp [*]; done)), H', ⟨by have := HK1.out; omega⟩, by repeat (first | exact Drawn0.refl _ | apply Drawn0.step)⟩
       ·rw [if_neg c7] at H
        have c7b0 : ((rd l0 x5_1) == (rd l1 x5_1)) = false := beq_eq_false_iff_ne.mpr c7
        have c7b1 : ((rd l0 x5_1) != (rd l1 x5_1)) = true := bne_iff_ne.mpr c7
        obtain rfl := Option.some.inj H
        have p304 : 0 ≤ (x5_1 : Int) := of_decide_eq_true (by first | (with_reducible assumption) | assumption)
        have q304 : x5_1 < (l0.length : Int) := of_decide_eq_true (by first | (with_reducible assumption) | assumption)
        obtain ⟨ad304, e304, hx304_0⟩ := Kd.at_int HR0.out x5_1 p304 q304
        cases e304
        replace p304 := eq_true p304
        replace q304 := eq_true q304
        have p305 : 0 ≤ (x5_1 : Int) := of_decide_eq_true (by first | (with_reducible assumption) | assumption)
        have q305 : x5_1 < (l1.length : Int) := of_decide_eq_true (by first | (with_reducible assumption) | assumption)
        obtain ⟨ad305, e305, hx305_0⟩ := Kd.at_int HR1.out x5_1 p305 q305
        cases e305
        replace p305 := eq_true p305
        replace q305 := eq_true q305
        go_wp2
        repeat (go_quiet (fail); try go_wp2)
        go_ret
        exact ⟨by first | rfl | (simp; done) | (simp [*]; done), by repeat (first | exact Drawn0.refl _ | apply Drawn0.step)⟩
      ·rw [if_neg c6] at H
       exact absurd H (by simp)
     ·rw [if_neg c5] at H
      exact absurd H (by simp)
    ·rw [if_neg c4] at H
     have c4b0 : decide (x5_1 < (l0.length : Int)) = false := decide_eq_false c4
     clear c4
     obtain rfl := Option.some.inj H
     go_wp2
     repeat (go_quiet (fail); try go_wp2)
     go_ret
     exact ⟨by first | rfl | (simp; done) | (simp [*]; done), by repeat (first | exact Drawn0.refl _ | apply Drawn0.step)⟩
 ·rw [if_neg c3] at H
  have c3b0 : ((l0.length : Int) == (l1.length : Int)) = false := beq_eq_false_iff_ne.mpr c3
  have c3b1 : ((l0.length : Int) != (l1.length : Int)) = true := bne_iff_ne.mpr c3
  have c3b2 : (l0.length == l1.length) = false := by first | simpa using c3 | (simp at c3 ⊢; omega)
  obtain rfl := Option.some.inj H
  go_enter Try.func21, Try.ntmps21
  go_wp2
  repeat (go_quiet (fail); try go_wp2)
  go_ret
  exact ⟨by first | rfl | (simp; done) | (simp [*]; done), by repeat (first | exact Drawn0.refl _ | apply Drawn0.step)⟩
end Go.Proofs.Ytooabchnbmnchaa.Q
namespace Go.Proofs.Ytooabchnbmnchaa.Q
open Go.RowKit Go.Proofs.YtooabchnbmnchaaW.PrintWords Go.Proofs.YtooabchnbmnchaaW.PrintLast Go.Proofs.YtooabchnbmnchaaW.PrintMore
attribute [local go_sem] max2_int min2_int max_two min_two max_three min_three max_four min_four binOp_string_leq binOp_string_geq binOp_string_gtr   -- for this text's walks alone
set_option linter.unusedVariables false
set_option linter.unusedSimpArgs false
def transeptplain_SameLists.l0 : Nat → List (List Int) → List (List Int) → Int → Option (Bool)
 | 0, _, _, _ => none
 | k + 1, x0, x1, x5 => if x5 < (x0.length : Int) then (if 0 ≤ x5 then (if x5 < (x1.length : Int) then ((transeptplain_SameBytes.f k (rd_L1 x0 x5) (rd_L1 x1 x5)).bind fun t308 => (if t308 = true then (transeptplain_SameLists.l0 k x0 x1 (wrap64 (x5 + 1))) else (some false))) else (none)) else (none)) else (some true)
def transeptplain_SameLists.f (k : Nat) (l0 : List (List Int)) (l1 : List (List Int)) : Option (Bool) := if (l0.length : Int) = (l1.length : Int) then (transeptplain_SameLists.l0 k l0 l1 0) else (some false)
theorem transeptplain_SameLists.mono_l : ∀ k, (∀ y0 y1 y2, LeO (transeptplain_SameLists.l0 k y0 y1 y2) (transeptplain_SameLists.l0 (k + 1) y0 y1 y2))
 | 0 => fun _ _ _ r h => by simp [transeptplain_SameLists.l0] at h
 | k + 1 => by
  have ih0 := transeptplain_SameLists.mono_l k
  ·intro y0 y1 y2
   unfold transeptplain_SameLists.l0
   repeat' first
   | (with_reducible exact ih0 _ _ _)
   | (with_reducible exact transeptplain_SameBytes.mono _ _ _)
   | (with_reducible exact LeO.refl _)
   | (with_reducible exact LeO.none _)
   | (with_reducible refine LeO.ite ?_ ?_)
   | (with_reducible refine LeO.bind ?_ (fun _ => ?_))
   | exact ih0 _ _ _
   | exact transeptplain_SameBytes.mono _ _ _
   | exact LeO.none _
   | refine LeO.ite ?_ ?_
   | refine LeO.bind ?_ (fun _ => ?_)
theorem transeptplain_SameLists.mono : ∀ a0 a1 k, LeO (transeptplain_SameLists.f k a0 a1) (transeptplain_SameLists.f (k + 1) a0 a1) := by
 intro a0 a1 k
 have ih0 := transeptplain_SameLists.mono_l k
 unfold transeptplain_SameLists.f
 repeat' first
   | (with_reducible exact ih0 _ _ _)
   | (with_reducible exact transeptplain_SameBytes.mono _ _ _)
   | (with_reducible exact LeO.refl _)
   | (with_reducible exact LeO.none _)
   | (with_reducible refine LeO.ite ?_ ?_)
   | (with_reducible refine LeO.bind ?_ (fun _ => ?_))
   | exact ih0 _ _ _
   | exact transeptplain_SameBytes.mono _ _ _
   | exact LeO.none _
   | refine LeO.ite ?_ ?_
   | refine LeO.bind ?_ (fun _ => ?_)
set_option maxHeartbeats 8000000 in
set_option maxRecDepth 100000 in
theorem transeptplain_SameLists.calls (k : Nat) (A0 : Option Addr) (c0 : Nat) (l0 : List (List Int)) (A1 : Option Addr) (c1 : Nat) (l1 : List (List Int)) (r : Bool) (w : World) (hr0 : Kd.C (Kd.slice 5 (Kd.int .u8)) w A0 l0.length l0) (hc0 : l0.length ≤ c0) (hr1 : Kd.C (Kd.slice 5 (Kd.int .u8)) w A1 l1.length l1) (hc1 : l1.length ≤ c1) (h : transeptplain_SameLists.f k l0 l1 = some r) :
  Calls Try.prog 43 #[.slice A0 l0.length c0, .slice A1 l1.length c1] w fun e w' => e = .returned (.bool r) ∧ Drawn0 w w' := by
 have HR0 := Aside0.mk hr0
 have HC0 := Aside0.mk hc0
 clear hr0 hc0
 have HR1 := Aside0.mk hr1
 have HC1 := Aside0.mk hc1
 clear hr1 hc1
 have H : (if (l0.length : Int) = (l1.length : Int) then (transeptplain_SameLists.l0 k l0 l1 0) else (some false)) = some r := h
 clear h
 by_cases c3 : (l0.length : Int) = (l1.length : Int)
 ·rw [if_pos c3] at H
  have c3b0 : ((l0.length : Int) == (l1.length : Int)) = true := beq_iff_eq.mpr c3
  have c3b1 : ((l0.length : Int) != (l1.length : Int)) = false := bne_eq_false_iff_eq.mpr c3
  have c3b2 : (l0.length == l1.length) = true := by first | simpa using c3 | (simp at c3 ⊢; omega)
  clear c3
  have H' := Aside0.mk H
  clear H
  go_enter Try.func43, Try.ntmps43
  go_wp2
  repeat (go_quiet (fail); try go_wp2)
  go_loopg [5] k (fun kq v5 w' => ∃ (x5_1 : Int), v5 = .int .i64 x5_1 ∧ Aside0 (transeptplain_SameLists.l0 kq l0 l1 x5_1 = some r) ∧ Aside0 (kq ≤ k) ∧ Drawn0 w w')
  case atStart => exact ⟨(0), (by first | rfl | (simp; done) | (simp [*]; done)), H', ⟨Nat.le_refl _⟩, by repeat (first | exact Drawn0.refl _ | apply Drawn0.step)⟩
  case round =>
   clear H'
   try clear c1
   try clear p2
   try clear c3
   try clear c3b0
   try clear c3b1
   try clear c3b2
   obtain ⟨x5_1, rfl, HA, HK1, ⟨m1, rfl⟩⟩ := hrel
   cases gk with
   | zero => exact absurd HA.out (by simp [transeptplain_SameLists.l0])
   | succ k1 =>
    have H := HA.out
    clear HA
    simp only [transeptplain_SameLists.l0] at H
    by_cases c4 : x5_1 < (l0.length : Int)
    ·rw [if_pos c4] at H
     have c4b0 : decide (x5_1 < (l0.length : Int)) = true := decide_eq_true c4
     clear c4
     by_cases c5 : 0 ≤ x5_1
     ·rw [if_pos c5] at H
      have c5b0 : decide (0 ≤ x5_1) = true := decide_eq_true c5
      clear c5
      by_cases c6 : x5_1 < (l1.length : Int)
      ·rw [if_pos c6] at H
       have c6b0 : decide (x5_1 < (l1.length : Int)) = true := decide_eq_true c6
       clear c6
       replace H := Option.bind_eq_some_iff.mp H
       obtain ⟨t308, A70, H⟩ := H
       try dsimp only at H
       have A7 := Aside0.mk A70
       clear A70
       by_cases c8 : t308 = true
       ·subst c8
        rw [if_pos rfl] at H
        have H' := Aside0.mk H
        clear H
        have p306 : 0 ≤ (x5_1 : Int) := of_decide_eq_true (by first | (with_reducible assumption) | assumption)
        have q306 : x5_1 < (l0.length : Int) := of_decide_eq_true (by first | (with_reducible assumption) | assumption)
        obtain ⟨ad306, A306_0, c306_0, e306, hx306_0, hl306_0, hi306_0⟩ := at_L1 HR0.out x5_1 p306 q306
        cases e306
        have HR306_0 := Aside0.mk hi306_0
        have HC306_0 := Aside0.mk hl306_0
        clear hi306_0 hl306_0
        replace p306 := eq_true p306
        replace q306 := eq_true q306
        have p307 : 0 ≤ (x5_1 : Int) := of_decide_eq_true (by first | (with_reducible assumption) | assumption)
        have q307 : x5_1 < (l1.length : Int) := of_decide_eq_true (by first | (with_reducible assumption) | assumption)
        obtain ⟨ad307, A307_0, c307_0, e307, hx307_0, hl307_0, hi307_0⟩ := at_L1 HR1.out x5_1 p307 q307
        cases e307
        have HR307_0 := Aside0.mk hi307_0
        have HC307_0 := Aside0.mk hl307_0
        clear hi307_0 hl307_0
        replace p307 := eq_true p307
        replace q307 := eq_true q307
        go_wp2_with (first | (go_at_call 21; (with_reducible refine (transeptplain_SameBytes.calls k1 _ _ (rd_L1 l0 x5_1) _ _ (rd_L1 l1 x5_1) true _ ?_ ?_ ?_ ?_ A7.out).mono ?_); exact cO_ HR306_0.out; exact HC306_0.out; exact cO_ HR307_0.out; exact HC307_0.out; rintro e w' ⟨rfl, ⟨nd, rfl⟩⟩; (try first | exact ⟨rfl, _, World.drewN_drewN _ _ _⟩ | exact ⟨rfl, _, Eq.trans (World.drewN_drewN _ _ _) (congrArg (World.drewN _) (Nat.add_assoc _ _ _))⟩)))
        repeat (go_quiet (first | (go_at_call 21; (with_reducible refine (transeptplain_SameBytes.calls k1 _ _ (rd_L1 l0 x5_1) _ _ (rd_L1 l1 x5_1) true _ ?_ ?_ ?_ ?_ A7.out).mono ?_); exact cO_ HR306_0.out; exact HC306_0.out; exact cO_ HR307_0.out; exact HC307_0.out; rintro e w' ⟨rfl, ⟨nd, rfl⟩⟩; (try first | exact ⟨rfl, _, World.drewN_drewN _ _ _⟩ | exact ⟨rfl, _, Eq.trans (World.drewN_drewN _ _ _) (congrArg (World.drewN _) (Nat.add_assoc _ _ _))⟩))); try go_wp2_with (first | (go_at_call 21; (with_reducible refine (transeptplain_SameBytes.calls k1 _ _ (rd_L1 l0 x5_1) _ _ (rd_L1 l1 x5_1) true _ ?_ ?_ ?_ ?_ A7.out).mono ?_); exact cO_ HR306_0.out; exact HC306_0.out; exact cO_ HR307_0.out; exact HC307_0.out; rintro e w' ⟨rfl, ⟨nd, rfl⟩⟩; (try first | exact ⟨rfl, _, World.drewN_drewN _ _ _⟩ | exact ⟨rfl, _, Eq.trans (World.drewN_drewN _ _ _) (congrArg (World.drewN _) (Nat.add_assoc _ _ _))⟩))))
        go_roundg k1
        case measure => have := HK1.out; omega
        case rel => exact ⟨(wrap64 (x5_1 + 1)), (by first | rfl | (simp; done) | (simp [*]; done)), H', ⟨by have := HK1.out; omega⟩, by repeat (first | exact Drawn0.refl _ | apply Drawn0.step)⟩
       ·replace c8 := Bool.eq_false_iff.mpr c8
        subst c8
        rw [if_neg (show ¬ (false = true) by decide)] at H
        obtain rfl := Option.some.inj H
        have p306 : 0 ≤ (x5_1 : Int) := of_decide_eq_true (by first | (with_reducible assumption) | assumption)
        have q306 : x5_1 < (l0.length : Int) := of_decide_eq_true (by first | (with_reducible assumption) | assumption)
        obtain ⟨ad306, A306_0, c306_0, e306, hx306_0, hl306_0, hi306_0⟩ := at_L1 HR0.out x5_1 p306 q306
        cases e306
        have HR306_0 := Aside0.mk hi306_0
        have HC306_0 := Aside0.mk hl306_0
        clear hi306_0 hl306_0
        replace p306 := eq_true p306
        replace q306 := eq_true q306
        have p307 : 0 ≤ (x5_1 : Int) := of_decide_eq_true (by first | (with_reducible assumption) | assumption)
        have q307 : x5_1 < (l1.length : Int) := of_decide_eq_true (by first | (with_reducible assumption) | assumption)
        obtain ⟨ad307, A307_0, c307_0, e307, hx307_0, hl307_0, hi307_0⟩ := at_L1 HR1.out x5_1 p307 q307
        cases e307
        have HR307_0 := Aside0.mk hi307_0
        have HC307_0 := Aside0.mk hl307_0
        clear hi307_0 hl307_0
        replace p307 := eq_true p307
        replace q307 := eq_true q307
        go_wp2_with (first | (go_at_call 21; (with_reducible refine (transeptplain_SameBytes.calls k1 _ _ (rd_L1 l0 x5_1) _ _ (rd_L1 l1 x5_1) false _ ?_ ?_ ?_ ?_ A7.out).mono ?_); exact cO_ HR306_0.out; exact HC306_0.out; exact cO_ HR307_0.out; exact HC307_0.out; rintro e w' ⟨rfl, ⟨nd, rfl⟩⟩; (try first | exact ⟨rfl, _, World.drewN_drewN _ _ _⟩ | exact ⟨rfl, _, Eq.trans (World.drewN_drewN _ _ _) (congrArg (World.drewN _) (Nat.add_assoc _ _ _))⟩)))
        repeat (go_quiet (first | (go_at_call 21; (with_reducible refine (transeptplain_SameBytes.calls k1 _ _ (rd_L1 l0 x5_1) _ _ (rd_L1 l1 x5_1) false _ ?_ ?_ ?_ ?_ A7.out).mono ?_); exact cO_ HR306_0.out; exact HC306_0.out; exact cO_ HR307_0.out; exact HC307_0.out; rintro e w' ⟨rfl, ⟨nd, rfl⟩⟩; (try first | exact ⟨rfl, _, World.drewN_drewN _ _ _⟩ | exact ⟨rfl, _, Eq.trans (World.drewN_drewN _ _ _) (congrArg (World.drewN _) (Nat.add_assoc _ _ _))⟩))); try go_wp2_with (first | (go_at_call 21; (with_reducible refine (transeptplain_SameBytes.calls k1 _ _ (rd_L1 l0 x5_1) _ _ (rd_L1 l1 x5_1) false _ ?_ ?_ ?_ ?_ A7.out).mono ?_); exact cO_ HR306_0.out; exact HC306_0.out; exact cO_ HR307_0.out; exact HC307_0.out; rintro e w' ⟨rfl, ⟨nd, rfl⟩⟩; (try first | exact ⟨rfl, _, World.drewN_drewN _ _ _⟩ | exact ⟨rfl, _, Eq.trans (World.drewN_drewN _ _ _) (congrArg (World.drewN _) (Nat.add_assoc _ _ _))⟩))))
        go_ret
        exact ⟨by first | rfl | (simp; done) | (simp [*]; done), by repeat (first | exact Drawn0.refl _ | apply Drawn0.step)⟩
      ·rw [if_neg c6] at H
       exact absurd H (by simp)
     ·rw [if_neg c5] at H
      exact absurd H (by simp)
    ·rw [if_neg c4] at H
     have c4b0 : decide (x5_1 < (l0.length : Int)) = false := decide_eq_false c4
     clear c4
     obtain rfl := Option.some.inj H
     go_wp2
     repeat (go_quiet (fail); try go_wp2)
     go_ret
     exact ⟨by first | rfl | (simp; done) | (simp [*]; done), by repeat (first | exact Drawn0.refl _ | apply Drawn0.step)⟩
 ·rw [if_neg c3] at H
  have c3b0 : ((l0.length : Int) == (l1.length : Int)) = false := beq_eq_false_iff_ne.mpr c3
  have c3b1 : ((l0.length : Int) != (l1.length : Int)) = true := bne_iff_ne.mpr c3
  have c3b2 : (l0.length == l1.length) = false := by first | simpa using c3 | (simp at c3 ⊢; omega)
  obtain rfl := Option.some.inj H
  go_enter Try.func43, Try.ntmps43
  go_wp2
  repeat (go_quiet (fail); try go_wp2)
  go_ret
  exact ⟨by first | rfl | (simp; done) | (simp [*]; done), by repeat (first | exact Drawn0.refl _ | apply Drawn0.step)⟩
end Go.Proofs.Ytooabchnbmnchaa.Q
namespace Go.Proofs.Ytooabchnbmnchaa.Q
open Go.RowKit Go.Proofs.YtooabchnbmnchaaW.PrintWords Go.Proofs.YtooabchnbmnchaaW.PrintLast Go.Proofs.YtooabchnbmnchaaW.PrintMore
attribute [local go_sem] max2_int min2_int max_two min_two max_three min_three max_four min_four binOp_string_leq binOp_string_geq binOp_string_gtr   -- for this text's walks alone
set_option linter.unusedVariables false
set_option linter.unusedSimpArgs false
mutual
def transeptlaw08_same.j0 : Nat → Bool → List (S70) → Int → List (List Int) → List (S87) → Int → List (List Int) → Option (Bool)
 | 0, _, _, _, _, _, _, _ => none
 | k + 1, x27, x310000, x310001, x310002, x311000, x311001, x311002 => if x27 = true then (some false) else (transeptlaw08_same.l0 k 0 x310000 x310001 x310002 x311000 x311001 x311002)
def transeptlaw08_same.l0 : Nat → Int → List (S70) → Int → List (List Int) → List (S87) → Int → List (List Int) → Option (Bool)
 | 0, _, _, _, _, _, _, _ => none
 | k + 1, x5, x310000, x310001, x310002, x311000, x311001, x311002 => if x5 < (x310000.length : Int) then (if 0 ≤ x5 then (if x5 < (x311000.length : Int) then (if ((rd_T70 x310000 x5).f0) = ((rd_T87 x311000 x5).f0) then ((transeptplain_SameBytes.f k ((rd_T70 x310000 x5).f1) ((rd_T87 x311000 x5).f1)).bind fun t316 => (if t316 = true then (transeptlaw08_same.l0 k (wrap64 (x5 + 1)) x310000 x310001 x310002 x311000 x311001 x311002) else (some false))) else (some false)) else (none)) else (none)) else (some true)
end
def transeptlaw08_same.f (k : Nat) (l0_0 : List (S70)) (a0_1 : Int) (l0_2 : List (List Int)) (l1_0 : List (S87)) (a1_1 : Int) (l1_2 : List (List Int)) : Option (Bool) := if a0_1 = a1_1 then ((transeptplain_SameLists.f k l0_2 l1_2).bind fun t311 => (if t311 = true then (transeptlaw08_same.j0 k ((l0_0.length : Int) != (l1_0.length : Int)) l0_0 a0_1 l0_2 l1_0 a1_1 l1_2) else (transeptlaw08_same.j0 k true l0_0 a0_1 l0_2 l1_0 a1_1 l1_2))) else (transeptlaw08_same.j0 k true l0_0 a0_1 l0_2 l1_0 a1_1 l1_2)
theorem transeptlaw08_same.mono_l : ∀ k, (∀ y0 y1 y2 y3 y4 y5 y6, LeO (transeptlaw08_same.j0 k y0 y1 y2 y3 y4 y5 y6) (transeptlaw08_same.j0 (k + 1) y0 y1 y2 y3 y4 y5 y6)) ∧ (∀ y0 y1 y2 y3 y4 y5 y6, LeO (transeptlaw08_same.l0 k y0 y1 y2 y3 y4 y5 y6) (transeptlaw08_same.l0 (k + 1) y0 y1 y2 y3 y4 y5 y6))
 | 0 => ⟨fun _ _ _ _ _ _ _ r h => by simp [transeptlaw08_same.j0] at h, fun _ _ _ _ _ _ _ r h => by simp [transeptlaw08_same.l0] at h⟩
 | k + 1 => by
  obtain ⟨ih0, ih1⟩ := transeptlaw08_same.mono_l k
  refine ⟨?_, ?_⟩
  ·intro y0 y1 y2 y3 y4 y5 y6
   unfold transeptlaw08_same.j0
   repeat' first
   | (with_reducible exact ih0 _ _ _ _ _ _ _)
   | (with_reducible exact ih1 _ _ _ _ _ _ _)
   | (with_reducible exact transeptplain_SameBytes.mono _ _ _)
   | (with_reducible exact transeptplain_SameLists.mono _ _ _)
   | (with_reducible exact LeO.refl _)
   | (with_reducible exact LeO.none _)
   | (with_reducible refine LeO.ite ?_ ?_)
   | (with_reducible refine LeO.bind ?_ (fun _ => ?_))
   | exact ih0 _ _ _ _ _ _ _
   | exact ih1 _ _ _ _ _ _ _
   | exact transeptplain_SameBytes.mono _ _ _
   | exact transeptplain_SameLists.mono _ _ _
   | exact LeO.none _
   | refine LeO.ite ?_ ?_
   | refine LeO.bind ?_ (fun _ => ?_)
  ·intro y0 y1 y2 y3 y4 y5 y6
   unfold transeptlaw08_same.l0
   repeat' first
   | (with_reducible exact ih0 _ _ _ _ _ _ _)
   | (with_reducible exact ih1 _ _ _ _ _ _ _)
   | (with_reducible exact transeptplain_SameBytes.mono _ _ _)
   | (with_reducible exact transeptplain_SameLists.mono _ _ _)
   | (with_reducible exact LeO.refl _)
   | (with_reducible exact LeO.none _)
   | (with_reducible refine LeO.ite ?_ ?_)
   | (with_reducible refine LeO.bind ?_ (fun _ => ?_))
   | exact ih0 _ _ _ _ _ _ _
   | exact ih1 _ _ _ _ _ _ _
   | exact transeptplain_SameBytes.mono _ _ _
   | exact transeptplain_SameLists.mono _ _ _
   | exact LeO.none _
   | refine LeO.ite ?_ ?_
   | refine LeO.bind ?_ (fun _ => ?_)
theorem transeptlaw08_same.mono : ∀ a0 a1 a2 a3 a4 a5 k, LeO (transeptlaw08_same.f k a0 a1 a2 a3 a4 a5) (transeptlaw08_same.f (k + 1) a0 a1 a2 a3 a4 a5) := by
 intro a0 a1 a2 a3 a4 a5 k
 obtain ⟨ih0, ih1⟩ := transeptlaw08_same.mono_l k
 unfold transeptlaw08_same.f
 repeat' first
   | (with_reducible exact ih0 _ _ _ _ _ _ _)
   | (with_reducible exact ih1 _ _ _ _ _ _ _)
   | (with_reducible exact transeptplain_SameBytes.mono _ _ _)
   | (with_reducible exact transeptplain_SameLists.mono _ _ _)
   | (with_reducible exact LeO.refl _)
   | (with_reducible exact LeO.none _)
   | (with_reducible refine LeO.ite ?_ ?_)
   | (with_reducible refine LeO.bind ?_ (fun _ => ?_))
   | exact ih0 _ _ _ _ _ _ _
   | exact ih1 _ _ _ _ _ _ _
   | exact transeptplain_SameBytes.mono _ _ _
   | exact transeptplain_SameLists.mono _ _ _
   | exact LeO.none _
   | refine LeO.ite ?_ ?_
   | refine LeO.bind ?_ (fun _ => ?_)
set_option maxHeartbeats 8000000 in
set_option maxRecDepth 100000 in
theorem transeptlaw08_same.calls (k : Nat) (A0_0 : Option Addr) (c0_0 : Nat) (l0_0 : List (S70)) (a0_1 : Int) (A0_2 : Option Addr) (c0_2 : Nat) (l0_2 : List (List Int)) (A1_0 : Option Addr) (c1_0 : Nat) (l1_0 : List (S87)) (a1_1 : Int) (A1_2 : Option Addr) (c1_2 : Nat) (l1_2 : List (List Int)) (r : Bool) (w : World) (hr0_0 : Kd.C k70 w A0_0 l0_0.length l0_0) (hc0_0 : l0_0.length ≤ c0_0) (hr0_2 : Kd.C (Kd.slice 5 (Kd.int .u8)) w A0_2 l0_2.length l0_2) (hc0_2 : l0_2.length ≤ c0_2) (hr1_0 : Kd.C k87 w A1_0 l1_0.length l1_0) (hc1_0 : l1_0.length ≤ c1_0) (hr1_2 : Kd.C (Kd.slice 5 (Kd.int .u8)) w A1_2 l1_2.length l1_2) (hc1_2 : l1_2.length ≤ c1_2) (h : transeptlaw08_same.f k l0_0 a0_1 l0_2 l1_0 a1_1 l1_2 = some r) :
  Calls Try.prog 39 #[.agg #[.slice A0_0 l0_0.length c0_0, .int .i64 a0_1, .slice A0_2 l0_2.length c0_2], .agg #[.slice A1_0 l1_0.length c1_0, .int .i64 a1_1, .slice A1_2 l1_2.length c1_2]] w fun e w' => e = .returned (.bool r) ∧ Below w.heap.size w w' := by
 have hu61 := Try.underlying61
 have hu58 := Try.underlying58
 have HR0_0 := Aside0.mk hr0_0
 have HC0_0 := Aside0.mk hc0_0
 clear hr0_0 hc0_0
 have HR0_2 := Aside0.mk hr0_2
 have HC0_2 := Aside0.mk hc0_2
 clear hr0_2 hc0_2
 have HR1_0 := Aside0.mk hr1_0
 have HC1_0 := Aside0.mk hc1_0
 clear hr1_0 hc1_0
 have HR1_2 := Aside0.mk hr1_2
 have HC1_2 := Aside0.mk hc1_2
 clear hr1_2 hc1_2
 have HB := Aside0.mk (Below.refl w.heap.size w)
 have H : (if a0_1 = a1_1 then ((transeptplain_SameLists.f k l0_2 l1_2).bind fun t311 => (if t311 = true then (transeptlaw08_same.j0 k ((l0_0.length : Int) != (l1_0.length : Int)) l0_0 a0_1 l0_2 l1_0 a1_1 l1_2) else (transeptlaw08_same.j0 k true l0_0 a0_1 l0_2 l1_0 a1_1 l1_2))) else (transeptlaw08_same.j0 k true l0_0 a0_1 l0_2 l1_0 a1_1 l1_2)) = some r := h
 clear h
 have HC3 := Aside0.mk H
 clear H
 go_enter Try.func39, Try.ntmps39
 go_upto_region 1 with (first | ((with_reducible refine gate_dst (N := 2) rfl ?_); (try (refine gate_guard (by rfl) ?_; dsimp only)); refine bx_ 2 #[.slice A0_0 l0_0.length c0_0, .int .i64 a0_1, .slice A0_2 l0_2.length c0_2] 61 ?_; intro gb309 hg w4 hbox hb; have BK309 := Aside0.mk (hbox); have GW309 := bG_ HB hg; have GE309 := bG_ HB hg; replace HB := bS_ HB hb; clear hb hbox hg) | ((with_reducible refine gate_dst (N := 3) rfl ?_); (try (refine gate_guard (by rfl) ?_; dsimp only)); refine bx_ 3 #[.slice A1_0 l1_0.length c1_0, .int .i64 a1_1, .slice A1_2 l1_2.length c1_2] 58 ?_; intro gb310 hg w5 hbox hb; have BK310 := Aside0.mk (hbox); have GW310 := bG_ HB hg; have GE310 := bG_ HB hg; replace HB := bS_ HB hb; have NB309_310 := nL_ BK309 hg; have NB310_309 := nG_ BK309 hg; replace BK309 := bK_ BK309 hb; clear hb hbox hg))
 repeat (go_quiet (first | ((with_reducible refine gate_dst (N := 2) rfl ?_); (try (refine gate_guard (by rfl) ?_; dsimp only)); refine bx_ 2 #[.slice A0_0 l0_0.length c0_0, .int .i64 a0_1, .slice A0_2 l0_2.length c0_2] 61 ?_; intro gb309 hg w4 hbox hb; have BK309 := Aside0.mk (hbox); have GW309 := bG_ HB hg; have GE309 := bG_ HB hg; replace HB := bS_ HB hb; clear hb hbox hg) | ((with_reducible refine gate_dst (N := 3) rfl ?_); (try (refine gate_guard (by rfl) ?_; dsimp only)); refine bx_ 3 #[.slice A1_0 l1_0.length c1_0, .int .i64 a1_1, .slice A1_2 l1_2.length c1_2] 58 ?_; intro gb310 hg w5 hbox hb; have BK310 := Aside0.mk (hbox); have GW310 := bG_ HB hg; have GE310 := bG_ HB hg; replace HB := bS_ HB hb; have NB309_310 := nL_ BK309 hg; have NB310_309 := nG_ BK309 hg; replace BK309 := bK_ BK309 hb; clear hb hbox hg)); go_upto_region 1 with (first | ((with_reducible refine gate_dst (N := 2) rfl ?_); (try (refine gate_guard (by rfl) ?_; dsimp only)); refine bx_ 2 #[.slice A0_0 l0_0.length c0_0, .int .i64 a0_1, .slice A0_2 l0_2.length c0_2] 61 ?_; intro gb309 hg w4 hbox hb; have BK309 := Aside0.mk (hbox); have GW309 := bG_ HB hg; have GE309 := bG_ HB hg; replace HB := bS_ HB hb; clear hb hbox hg) | ((with_reducible refine gate_dst (N := 3) rfl ?_); (try (refine gate_guard (by rfl) ?_; dsimp only)); refine bx_ 3 #[.slice A1_0 l1_0.length c1_0, .int .i64 a1_1, .slice A1_2 l1_2.length c1_2] 58 ?_; intro gb310 hg w5 hbox hb; have BK310 := Aside0.mk (hbox); have GW310 := bG_ HB hg; have GE310 := bG_ HB hg; replace HB := bS_ HB hb; have NB309_310 := nL_ BK309 hg; have NB310_309 := nG_ BK309 hg; replace BK309 := bK_ BK309 hb; clear hb hbox hg)))
 (try simp only [Act.put, List.setIfInBounds_toArray, List.set_cons_zero, List.set_cons_succ])
 go_cut [27] (fun v27 wc => ∃ (kq : Nat) (x27_2 : Bool), v27 = .bool x27_2 ∧ Aside0 (transeptlaw08_same.j0 kq x27_2 l0_0 a0_1 l0_2 l1_0 a1_1 l1_2 = some r) ∧ Aside0 (kq ≤ k) ∧ Aside0 (wc.heap[gb309]? = some (.cells #[(.slice A0_0 l0_0.length c0_0), .int .i64 a0_1, (.slice A0_2 l0_2.length c0_2)] 61 (0, 0))) ∧ Aside0 (wc.heap[gb310]? = some (.cells #[(.slice A1_0 l1_0.length c1_0), .int .i64 a1_1, (.slice A1_2 l1_2.length c1_2)] 58 (0, 0))) ∧ Aside0 (Below w.heap.size w wc))
 case first =>
  have H := HC3.out
  clear HC3
  by_cases c6 : a0_1 = a1_1
  ·rw [if_pos c6] at H
   have c6b0 : (a0_1 == a1_1) = true := beq_iff_eq.mpr c6
   have c6b1 : (a0_1 != a1_1) = false := bne_eq_false_iff_eq.mpr c6
   clear c6
   (first | rw [c6b0] | (simp only [i64_w, i32_w]; rw [c6b0]) | skip)
   replace H := Option.bind_eq_some_iff.mp H
   obtain ⟨t311, A70, H⟩ := H
   try dsimp only at H
   have A7 := Aside0.mk A70
   clear A70
   by_cases c8 : t311 = true
   ·subst c8
    rw [if_pos rfl] at H
    have H' := Aside0.mk H
    clear H
    have hnb9 := NB309_310.out
    have hnc9 := NB310_309.out
    obtain ⟨hcz10_0, hcz10_1, hcz10_2, hfz10_0, hfz10_1, hfz10_2⟩ := cz3_ BK309
    obtain ⟨hcz11_0, hcz11_1, hcz11_2, hfz11_0, hfz11_1, hfz11_2⟩ := cz3_ BK310
    go_wp2_with (first | (go_at_call 43; (with_reducible refine (transeptplain_SameLists.calls k _ _ l0_2 _ _ l1_2 true _ ?_ ?_ ?_ ?_ A7.out).mono ?_); exact cB_ HR0_2 HB; exact HC0_2.out; exact cB_ HR1_2 HB; exact HC1_2.out; rintro e w' ⟨rfl, ⟨nd, rfl⟩⟩; (try first | exact ⟨rfl, _, World.drewN_drewN _ _ _⟩ | exact ⟨rfl, _, Eq.trans (World.drewN_drewN _ _ _) (congrArg (World.drewN _) (Nat.add_assoc _ _ _))⟩)))
    repeat (go_quiet (first | (go_at_call 43; (with_reducible refine (transeptplain_SameLists.calls k _ _ l0_2 _ _ l1_2 true _ ?_ ?_ ?_ ?_ A7.out).mono ?_); exact cB_ HR0_2 HB; exact HC0_2.out; exact cB_ HR1_2 HB; exact HC1_2.out; rintro e w' ⟨rfl, ⟨nd, rfl⟩⟩; (try first | exact ⟨rfl, _, World.drewN_drewN _ _ _⟩ | exact ⟨rfl, _, Eq.trans (World.drewN_drewN _ _ _) (congrArg (World.drewN _) (Nat.add_assoc _ _ _))⟩))); try go_wp2_with (first | (go_at_call 43; (with_reducible refine (transeptplain_SameLists.calls k _ _ l0_2 _ _ l1_2 true _ ?_ ?_ ?_ ?_ A7.out).mono ?_); exact cB_ HR0_2 HB; exact HC0_2.out; exact cB_ HR1_2 HB; exact HC1_2.out; rintro e w' ⟨rfl, ⟨nd, rfl⟩⟩; (try first | exact ⟨rfl, _, World.drewN_drewN _ _ _⟩ | exact ⟨rfl, _, Eq.trans (World.drewN_drewN _ _ _) (congrArg (World.drewN _) (Nat.add_assoc _ _ _))⟩))))
    go_meet
    case rel => exact ⟨_, (((l0_0.length : Int) != (l1_0.length : Int))), (by first | rfl | (simp; done) | (simp [*]; done)), H', ⟨by first | omega | exact Nat.le_refl _⟩, ⟨bA_ BK309⟩, ⟨bA_ BK310⟩, ⟨bl_ HB⟩⟩
   ·replace c8 := Bool.eq_false_iff.mpr c8
    subst c8
    rw [if_neg (show ¬ (false = true) by decide)] at H
    have H' := Aside0.mk H
    clear H
    have hnb12 := NB309_310.out
    have hnc12 := NB310_309.out
    obtain ⟨hcz13_0, hcz13_1, hcz13_2, hfz13_0, hfz13_1, hfz13_2⟩ := cz3_ BK309
    obtain ⟨hcz14_0, hcz14_1, hcz14_2, hfz14_0, hfz14_1, hfz14_2⟩ := cz3_ BK310
    go_wp2_with (first | (go_at_call 43; (with_reducible refine (transeptplain_SameLists.calls k _ _ l0_2 _ _ l1_2 false _ ?_ ?_ ?_ ?_ A7.out).mono ?_); exact cB_ HR0_2 HB; exact HC0_2.out; exact cB_ HR1_2 HB; exact HC1_2.out; rintro e w' ⟨rfl, ⟨nd, rfl⟩⟩; (try first | exact ⟨rfl, _, World.drewN_drewN _ _ _⟩ | exact ⟨rfl, _, Eq.trans (World.drewN_drewN _ _ _) (congrArg (World.drewN _) (Nat.add_assoc _ _ _))⟩)))
    repeat (go_quiet (first | (go_at_call 43; (with_reducible refine (transeptplain_SameLists.calls k _ _ l0_2 _ _ l1_2 false _ ?_ ?_ ?_ ?_ A7.out).mono ?_); exact cB_ HR0_2 HB; exact HC0_2.out; exact cB_ HR1_2 HB; exact HC1_2.out; rintro e w' ⟨rfl, ⟨nd, rfl⟩⟩; (try first | exact ⟨rfl, _, World.drewN_drewN _ _ _⟩ | exact ⟨rfl, _, Eq.trans (World.drewN_drewN _ _ _) (congrArg (World.drewN _) (Nat.add_assoc _ _ _))⟩))); try go_wp2_with (first | (go_at_call 43; (with_reducible refine (transeptplain_SameLists.calls k _ _ l0_2 _ _ l1_2 false _ ?_ ?_ ?_ ?_ A7.out).mono ?_); exact cB_ HR0_2 HB; exact HC0_2.out; exact cB_ HR1_2 HB; exact HC1_2.out; rintro e w' ⟨rfl, ⟨nd, rfl⟩⟩; (try first | exact ⟨rfl, _, World.drewN_drewN _ _ _⟩ | exact ⟨rfl, _, Eq.trans (World.drewN_drewN _ _ _) (congrArg (World.drewN _) (Nat.add_assoc _ _ _))⟩))))
    go_meet
    case rel => exact ⟨_, (true), (by first | rfl | (simp; done) | (simp [*]; done)), H', ⟨by first | omega | exact Nat.le_refl _⟩, ⟨bA_ BK309⟩, ⟨bA_ BK310⟩, ⟨bl_ HB⟩⟩
  ·rw [if_neg c6] at H
   have c6b0 : (a0_1 == a1_1) = false := beq_eq_false_iff_ne.mpr c6
   have c6b1 : (a0_1 != a1_1) = true := bne_iff_ne.mpr c6
   (first | rw [c6b0] | (simp only [i64_w, i32_w]; rw [c6b0]) | skip)
   have H' := Aside0.mk H
   clear H
   have hnb15 := NB309_310.out
   have hnc15 := NB310_309.out
   obtain ⟨hcz16_0, hcz16_1, hcz16_2, hfz16_0, hfz16_1, hfz16_2⟩ := cz3_ BK309
   obtain ⟨hcz17_0, hcz17_1, hcz17_2, hfz17_0, hfz17_1, hfz17_2⟩ := cz3_ BK310
   go_wp2
   repeat (go_quiet (fail); try go_wp2)
   go_meet
   case rel => exact ⟨_, (true), (by first | rfl | (simp; done) | (simp [*]; done)), H', ⟨by first | omega | exact Nat.le_refl _⟩, ⟨bA_ BK309⟩, ⟨bA_ BK310⟩, ⟨bl_ HB⟩⟩
 case rest =>
  clear HC3
  try clear c1
  try clear p2
  try clear c3
  try clear c6
  try clear c6b0
  try clear c6b1
  try clear c8
  try clear c9
  try clear c12
  try clear c15
  try clear hcz10_0
  try clear hcz10_1
  try clear hcz10_2
  try clear hcz11_0
  try clear hcz11_1
  try clear hcz11_2
  try clear hcz13_0
  try clear hcz13_1
  try clear hcz13_2
  try clear hcz14_0
  try clear hcz14_1
  try clear hcz14_2
  try clear hcz16_0
  try clear hcz16_1
  try clear hcz16_2
  try clear hcz17_0
  try clear hcz17_1
  try clear hcz17_2
  try clear hfz10_0
  try clear hfz10_1
  try clear hfz10_2
  try clear hfz11_0
  try clear hfz11_1
  try clear hfz11_2
  try clear hfz13_0
  try clear hfz13_1
  try clear hfz13_2
  try clear hfz14_0
  try clear hfz14_1
  try clear hfz14_2
  try clear hfz16_0
  try clear hfz16_1
  try clear hfz16_2
  try clear hfz17_0
  try clear hfz17_1
  try clear hfz17_2
  obtain ⟨kq, x27_2, rfl, HA, HJ2, BK309, BK310, HB⟩ := hcut
  cases kq with
  | zero => exact absurd HA.out (by simp [transeptlaw08_same.j0])
  | succ kj2 =>
   have H := HA.out
   clear HA
   simp only [transeptlaw08_same.j0] at H
   by_cases c18 : x27_2 = true
   ·subst c18
    rw [if_pos rfl] at H
    obtain rfl := Option.some.inj H
    go_wp2
    repeat (go_quiet (fail); try go_wp2)
    go_ret
    exact ⟨fin_, bl_ HB⟩
   ·replace c18 := Bool.eq_false_iff.mpr c18
    subst c18
    rw [if_neg (show ¬ (false = true) by decide)] at H
    have H' := Aside0.mk H
    clear H
    go_wp2
    repeat (go_quiet (fail); try go_wp2)
    go_loopg [5] kj2 (fun kq v5 w' => ∃ (x5_2 : Int), v5 = .int .i64 x5_2 ∧ Aside0 (transeptlaw08_same.l0 kq x5_2 l0_0 a0_1 l0_2 l1_0 a1_1 l1_2 = some r) ∧ Aside0 (kq ≤ kj2) ∧ Aside0 (w'.heap[gb309]? = some (.cells #[(.slice A0_0 l0_0.length c0_0), .int .i64 a0_1, (.slice A0_2 l0_2.length c0_2)] 61 (0, 0))) ∧ Aside0 (w'.heap[gb310]? = some (.cells #[(.slice A1_0 l1_0.length c1_0), .int .i64 a1_1, (.slice A1_2 l1_2.length c1_2)] 58 (0, 0))) ∧ Aside0 (Below w.heap.size w w'))
    case atStart => exact ⟨(0), (by first | rfl | (simp; done) | (simp [*]; done)), H', ⟨Nat.le_refl _⟩, ⟨bA_ BK309⟩, ⟨bA_ BK310⟩, ⟨bl_ HB⟩⟩
    case round =>
     clear H'
     try clear c1
     try clear p2
     try clear c3
     try clear c6
     try clear c6b0
     try clear c6b1
     try clear c8
     try clear c9
     try clear c12
     try clear c15
     try clear c18
     try clear hcz10_0
     try clear hcz10_1
     try clear hcz10_2
     try clear hcz11_0
     try clear hcz11_1
     try clear hcz11_2
     try clear hcz13_0
     try clear hcz13_1
     try clear hcz13_2
     try clear hcz14_0
     try clear hcz14_1
     try clear hcz14_2
     try clear hcz16_0
     try clear hcz16_1
     try clear hcz16_2
     try clear hcz17_0
     try clear hcz17_1
     try clear hcz17_2
     try clear hfz10_0
     try clear hfz10_1
     try clear hfz10_2
     try clear hfz11_0
     try clear hfz11_1
     try clear hfz11_2
     try clear hfz13_0
     try clear hfz13_1
     try clear hfz13_2
     try clear hfz14_0
     try clear hfz14_1
     try clear hfz14_2
     try clear hfz16_0
     try clear hfz16_1
     try clear hfz16_2
     try clear hfz17_0
     try clear hfz17_1
     try clear hfz17_2
     try clear p2
     obtain ⟨x5_2, rfl, HA, HK2, BK309, BK310, HB⟩ := hrel
     cases gk with
     | zero => exact absurd HA.out (by simp [transeptlaw08_same.l0])
     | succ k2 =>
      have H := HA.out
      clear HA
      simp only [transeptlaw08_same.l0] at H
      by_cases c19 : x5_2 < (l0_0.length : Int)
      ·rw [if_pos c19] at H
       have c19b0 : decide (x5_2 < (l0_0.length : Int)) = true := decide_eq_true c19
       clear c19
       by_cases c20 : 0 ≤ x5_2
       ·rw [if_pos c20] at H
        have c20b0 : decide (0 ≤ x5_2) = true := decide_eq_true c20
        clear c20
        by_cases c21 : x5_2 < (l1_0.length : Int)
        ·rw [if_pos c21] at H
         have c21b0 : decide (x5_2 < (l1_0.length : Int)) = true := decide_eq_true c21
         clear c21
         by_cases c22 : ((rd_T70 l0_0 x5_2).f0) = ((rd_T87 l1_0 x5_2).f0)
         ·rw [if_pos c22] at H
          have c22b0 : (((rd_T70 l0_0 x5_2).f0) == ((rd_T87 l1_0 x5_2).f0)) = true := beq_iff_eq.mpr c22
          have c22b1 : (((rd_T70 l0_0 x5_2).f0) != ((rd_T87 l1_0 x5_2).f0)) = false := bne_eq_false_iff_eq.mpr c22
          clear c22
          replace H := Option.bind_eq_some_iff.mp H
          obtain ⟨t316, A230, H⟩ := H
          try dsimp only at H
          have A23 := Aside0.mk A230
          clear A230
          by_cases c24 : t316 = true
          ·subst c24
           rw [if_pos rfl] at H
           have H' := Aside0.mk H
           clear H
           have hnb25 := NB309_310.out
           have hnc25 := NB310_309.out
           obtain ⟨hcz26_0, hcz26_1, hcz26_2, hfz26_0, hfz26_1, hfz26_2⟩ := cz3_ BK309
           have p312 : 0 ≤ (x5_2 : Int) := of_decide_eq_true (by first | (with_reducible assumption) | assumption)
           have q312 : x5_2 < (l0_0.length : Int) := of_decide_eq_true (by first | (with_reducible assumption) | assumption)
           obtain ⟨ad312, A312_1, c312_1, e312, hx312_0, hx312_1, hl312_1, hi312_1⟩ := at_T70 HR0_0.out x5_2 p312 q312
           cases e312
           replace hx312_0 := (HB.out.cell (World.block_lt_of_cell? w _ hx312_0)).trans hx312_0
           replace hx312_1 := (HB.out.cell (World.block_lt_of_cell? w _ hx312_1)).trans hx312_1
           have HR312_1 := Aside0.mk hi312_1
           have HC312_1 := Aside0.mk hl312_1
           clear hi312_1 hl312_1
           replace p312 := eq_true p312
           replace q312 := eq_true q312
           obtain ⟨hcz27_0, hcz27_1, hcz27_2, hfz27_0, hfz27_1, hfz27_2⟩ := cz3_ BK310
           have p313 : 0 ≤ (x5_2 : Int) := of_decide_eq_true (by first | (with_reducible assumption) | assumption)
           have q313 : x5_2 < (l1_0.length : Int) := of_decide_eq_true (by first | (with_reducible assumption) | assumption)
           obtain ⟨ad313, A313_1, c313_1, e313, hx313_0, hx313_1, hl313_1, hi313_1⟩ := at_T87 HR1_0.out x5_2 p313 q313
           cases e313
           replace hx313_0 := (HB.out.cell (World.block_lt_of_cell? w _ hx313_0)).trans hx313_0
           replace hx313_1 := (HB.out.cell (World.block_lt_of_cell? w _ hx313_1)).trans hx313_1
           have HR313_1 := Aside0.mk hi313_1
           have HC313_1 := Aside0.mk hl313_1
           clear hi313_1 hl313_1
           replace p313 := eq_true p313
           replace q313 := eq_true q313
           have p314 : 0 ≤ (x5_2 : Int) := of_decide_eq_true (by first | (with_reducible assumption) | assumption)
           have q314 : x5_2 < (l0_0.length : Int) := of_decide_eq_true (by first | (with_reducible assumption) | assumption)
           obtain ⟨ad314, A314_1, c314_1, e314, hx314_0, hx314_1, hl314_1, hi314_1⟩ := at_T70 HR0_0.out x5_2 p314 q314
           obtain rfl : ad312 = ad314 := (by injection e314)
           replace hx314_0 := (HB.out.cell (World.block_lt_of_cell? w _ hx314_0)).trans hx314_0
           replace hx314_1 := (HB.out.cell (World.block_lt_of_cell? w _ hx314_1)).trans hx314_1
           have HR314_1 := Aside0.mk hi314_1
           have HC314_1 := Aside0.mk hl314_1
           clear hi314_1 hl314_1
           replace p314 := eq_true p314
           replace q314 := eq_true q314
           have ea_ := Option.some.inj (hx312_1.symm.trans hx314_1)
           injection ea_ with ea_ en_ ec_
           subst ea_
           subst ec_
           clear en_
           have p315 : 0 ≤ (x5_2 : Int) := of_decide_eq_true (by first | (with_reducible assumption) | assumption)
           have q315 : x5_2 < (l1_0.length : Int) := of_decide_eq_true (by first | (with_reducible assumption) | assumption)
           obtain ⟨ad315, A315_1, c315_1, e315, hx315_0, hx315_1, hl315_1, hi315_1⟩ := at_T87 HR1_0.out x5_2 p315 q315
           obtain rfl : ad313 = ad315 := (by injection e315)
           replace hx315_0 := (HB.out.cell (World.block_lt_of_cell? w _ hx315_0)).trans hx315_0
           replace hx315_1 := (HB.out.cell (World.block_lt_of_cell? w _ hx315_1)).trans hx315_1
           have HR315_1 := Aside0.mk hi315_1
           have HC315_1 := Aside0.mk hl315_1
           clear hi315_1 hl315_1
           replace p315 := eq_true p315
           replace q315 := eq_true q315
           have ea_ := Option.some.inj (hx313_1.symm.trans hx315_1)
           injection ea_ with ea_ en_ ec_
           subst ea_
           subst ec_
           clear en_
           go_wp2_with (first | (go_at_call 21; (with_reducible refine (transeptplain_SameBytes.calls k2 _ _ ((rd_T70 l0_0 x5_2).f1) _ _ ((rd_T87 l1_0 x5_2).f1) true _ ?_ ?_ ?_ ?_ A23.out).mono ?_); exact cB_ HR314_1 HB; exact HC314_1.out; exact cB_ HR315_1 HB; exact HC315_1.out; rintro e w' ⟨rfl, ⟨nd, rfl⟩⟩; (try first | exact ⟨rfl, _, World.drewN_drewN _ _ _⟩ | exact ⟨rfl, _, Eq.trans (World.drewN_drewN _ _ _) (congrArg (World.drewN _) (Nat.add_assoc _ _ _))⟩)))
           repeat (go_quiet (first | (go_at_call 21; (with_reducible refine (transeptplain_SameBytes.calls k2 _ _ ((rd_T70 l0_0 x5_2).f1) _ _ ((rd_T87 l1_0 x5_2).f1) true _ ?_ ?_ ?_ ?_ A23.out).mono ?_); exact cB_ HR314_1 HB; exact HC314_1.out; exact cB_ HR315_1 HB; exact HC315_1.out; rintro e w' ⟨rfl, ⟨nd, rfl⟩⟩; (try first | exact ⟨rfl, _, World.drewN_drewN _ _ _⟩ | exact ⟨rfl, _, Eq.trans (World.drewN_drewN _ _ _) (congrArg (World.drewN _) (Nat.add_assoc _ _ _))⟩))); try go_wp2_with (first | (go_at_call 21; (with_reducible refine (transeptplain_SameBytes.calls k2 _ _ ((rd_T70 l0_0 x5_2).f1) _ _ ((rd_T87 l1_0 x5_2).f1) true _ ?_ ?_ ?_ ?_ A23.out).mono ?_); exact cB_ HR314_1 HB; exact HC314_1.out; exact cB_ HR315_1 HB; exact HC315_1.out; rintro e w' ⟨rfl, ⟨nd, rfl⟩⟩; (try first | exact ⟨rfl, _, World.drewN_drewN _ _ _⟩ | exact ⟨rfl, _, Eq.trans (World.drewN_drewN _ _ _) (congrArg (World.drewN _) (Nat.add_assoc _ _ _))⟩))))
           go_roundg k2
           case measure => have := HJ2.out; have := HK2.out; omega
           case rel => exact ⟨(wrap64 (x5_2 + 1)), (by first | rfl | (simp; done) | (simp [*]; done)), H', ⟨by have := HJ2.out; have := HK2.out; omega⟩, ⟨bA_ BK309⟩, ⟨bA_ BK310⟩, ⟨bl_ HB⟩⟩
          ·replace c24 := Bool.eq_false_iff.mpr c24
           subst c24
           rw [if_neg (show ¬ (false = true) by decide)] at H
           obtain rfl := Option.some.inj H
           have hnb28 := NB309_310.out
           have hnc28 := NB310_309.out
           obtain ⟨hcz29_0, hcz29_1, hcz29_2, hfz29_0, hfz29_1, hfz29_2⟩ := cz3_ BK309
           have p312 : 0 ≤ (x5_2 : Int) := of_decide_eq_true (by first | (with_reducible assumption) | assumption)
           have q312 : x5_2 < (l0_0.length : Int) := of_decide_eq_true (by first | (with_reducible assumption) | assumption)
           obtain ⟨ad312, A312_1, c312_1, e312, hx312_0, hx312_1, hl312_1, hi312_1⟩ := at_T70 HR0_0.out x5_2 p312 q312
           cases e312
           replace hx312_0 := (HB.out.cell (World.block_lt_of_cell? w _ hx312_0)).trans hx312_0
           replace hx312_1 := (HB.out.cell (World.block_lt_of_cell? w _ hx312_1)).trans hx312_1
           have HR312_1 := Aside0.mk hi312_1
           have HC312_1 := Aside0.mk hl312_1
           clear hi312_1 hl312_1
           replace p312 := eq_true p312
           replace q312 := eq_true q312
           obtain ⟨hcz30_0, hcz30_1, hcz30_2, hfz30_0, hfz30_1, hfz30_2⟩ := cz3_ BK310
           have p313 : 0 ≤ (x5_2 : Int) := of_decide_eq_true (by first | (with_reducible assumption) | assumption)
           have q313 : x5_2 < (l1_0.length : Int) := of_decide_eq_true (by first | (with_reducible assumption) | assumption)
           obtain ⟨ad313, A313_1, c313_1, e313, hx313_0, hx313_1, hl313_1, hi313_1⟩ := at_T87 HR1_0.out x5_2 p313 q313
           cases e313
           replace hx313_0 := (HB.out.cell (World.block_lt_of_cell? w _ hx313_0)).trans hx313_0
           replace hx313_1 := (HB.out.cell (World.block_lt_of_cell? w _ hx313_1)).trans hx313_1
           have HR313_1 := Aside0.mk hi313_1
           have HC313_1 := Aside0.mk hl313_1
           clear hi313_1 hl313_1
           replace p313 := eq_true p313
           replace q313 := eq_true q313
           have p314 : 0 ≤ (x5_2 : Int) := of_decide_eq_true (by first | (with_reducible assumption) | assumption)
           have q314 : x5_2 < (l0_0.length : Int) := of_decide_eq_true (by first | (with_reducible assumption) | assumption)
           obtain ⟨ad314, A314_1, c314_1, e314, hx314_0, hx314_1, hl314_1, hi314_1⟩ := at_T70 HR0_0.out x5_2 p314 q314
           obtain rfl : ad312 = ad314 := (by injection e314)
           replace hx314_0 := (HB.out.cell (World.block_lt_of_cell? w _ hx314_0)).trans hx314_0
           replace hx314_1 := (HB.out.cell (World.block_lt_of_cell? w _ hx314_1)).trans hx314_1
           have HR314_1 := Aside0.mk hi314_1
           have HC314_1 := Aside0.mk hl314_1
           clear hi314_1 hl314_1
           replace p314 := eq_true p314
           replace q314 := eq_true q314
           have ea_ := Option.some.inj (hx312_1.symm.trans hx314_1)
           injection ea_ with ea_ en_ ec_
           subst ea_
           subst ec_
           clear en_
           have p315 : 0 ≤ (x5_2 : Int) := of_decide_eq_true (by first | (with_reducible assumption) | assumption)
           have q315 : x5_2 < (l1_0.length : Int) := of_decide_eq_true (by first | (with_reducible assumption) | assumption)
           obtain ⟨ad315, A315_1, c315_1, e315, hx315_0, hx315_1, hl315_1, hi315_1⟩ := at_T87 HR1_0.out x5_2 p315 q315
           obtain rfl : ad313 = ad315 := (by injection e315)
           replace hx315_0 := (HB.out.cell (World.block_lt_of_cell? w _ hx315_0)).trans hx315_0
           replace hx315_1 := (HB.out.cell (World.block_lt_of_cell? w _ hx315_1)).trans hx315_1
           have HR315_1 := Aside0.mk hi315_1
           have HC315_1 := Aside0.mk hl315_1
           clear hi315_1 hl315_1
           replace p315 := eq_true p315
           replace q315 := eq_true q315
           have ea_ := Option.some.inj (hx313_1.symm.trans hx315_1)
           injection ea_ with ea_ en_ ec_
           subst ea_
           subst ec_
           clear en_
           go_wp2_with (first | (go_at_call 21; (with_reducible refine (transeptplain_SameBytes.calls k2 _ _ ((rd_T70 l0_0 x5_2).f1) _ _ ((rd_T87 l1_0 x5_2).f1) false _ ?_ ?_ ?_ ?_ A23.out).mono ?_); exact cB_ HR314_1 HB; exact HC314_1.out; exact cB_ HR315_1 HB; exact HC315_1.out; rintro e w' ⟨rfl, ⟨nd, rfl⟩⟩; (try first | exact ⟨rfl, _, World.drewN_drewN _ _ _⟩ | exact ⟨rfl, _, Eq.trans (World.drewN_drewN _ _ _) (congrArg (World.drewN _) (Nat.add_assoc _ _ _))⟩)))
           repeat (go_quiet (first | (go_at_call 21; (with_reducible refine (transeptplain_SameBytes.calls k2 _ _ ((rd_T70 l0_0 x5_2).f1) _ _ ((rd_T87 l1_0 x5_2).f1) false _ ?_ ?_ ?_ ?_ A23.out).mono ?_); exact cB_ HR314_1 HB; exact HC314_1.out; exact cB_ HR315_1 HB; exact HC315_1.out; rintro e w' ⟨rfl, ⟨nd, rfl⟩⟩; (try first | exact ⟨rfl, _, World.drewN_drewN _ _ _⟩ | exact ⟨rfl, _, Eq.trans (World.drewN_drewN _ _ _) (congrArg (World.drewN _) (Nat.add_assoc _ _ _))⟩))); try go_wp2_with (first | (go_at_call 21; (with_reducible refine (transeptplain_SameBytes.calls k2 _ _ ((rd_T70 l0_0 x5_2).f1) _ _ ((rd_T87 l1_0 x5_2).f1) false _ ?_ ?_ ?_ ?_ A23.out).mono ?_); exact cB_ HR314_1 HB; exact HC314_1.out; exact cB_ HR315_1 HB; exact HC315_1.out; rintro e w' ⟨rfl, ⟨nd, rfl⟩⟩; (try first | exact ⟨rfl, _, World.drewN_drewN _ _ _⟩ | exact ⟨rfl, _, Eq.trans (World.drewN_drewN _ _ _) (congrArg (World.drewN _) (Nat.add_assoc _ _ _))⟩))))
           go_ret
           exact ⟨fin_, bl_ HB⟩
         ·rw [if_neg c22] at H
          have c22b0 : (((rd_T70 l0_0 x5_2).f0) == ((rd_T87 l1_0 x5_2).f0)) = false := beq_eq_false_iff_ne.mpr c22
          have c22b1 : (((rd_T70 l0_0 x5_2).f0) != ((rd_T87 l1_0 x5_2).f0)) = true := bne_iff_ne.mpr c22
          obtain rfl := Option.some.inj H
          have hnb31 := NB309_310.out
          have hnc31 := NB310_309.out
          obtain ⟨hcz32_0, hcz32_1, hcz32_2, hfz32_0, hfz32_1, hfz32_2⟩ := cz3_ BK309
          have p312 : 0 ≤ (x5_2 : Int) := of_decide_eq_true (by first | (with_reducible assumption) | assumption)
          have q312 : x5_2 < (l0_0.length : Int) := of_decide_eq_true (by first | (with_reducible assumption) | assumption)
          obtain ⟨ad312, A312_1, c312_1, e312, hx312_0, hx312_1, hl312_1, hi312_1⟩ := at_T70 HR0_0.out x5_2 p312 q312
          cases e312
          replace hx312_0 := (HB.out.cell (World.block_lt_of_cell? w _ hx312_0)).trans hx312_0
          replace hx312_1 := (HB.out.cell (World.block_lt_of_cell? w _ hx312_1)).trans hx312_1
          have HR312_1 := Aside0.mk hi312_1
          have HC312_1 := Aside0.mk hl312_1
          clear hi312_1 hl312_1
          replace p312 := eq_true p312
          replace q312 := eq_true q312
          obtain ⟨hcz33_0, hcz33_1, hcz33_2, hfz33_0, hfz33_1, hfz33_2⟩ := cz3_ BK310
          have p313 : 0 ≤ (x5_2 : Int) := of_decide_eq_true (by first | (with_reducible assumption) | assumption)
          have q313 : x5_2 < (l1_0.length : Int) := of_decide_eq_true (by first | (with_reducible assumption) | assumption)
          obtain ⟨ad313, A313_1, c313_1, e313, hx313_0, hx313_1, hl313_1, hi313_1⟩ := at_T87 HR1_0.out x5_2 p313 q313
          cases e313
          replace hx313_0 := (HB.out.cell (World.block_lt_of_cell? w _ hx313_0)).trans hx313_0
          replace hx313_1 := (HB.out.cell (World.block_lt_of_cell? w _ hx313_1)).trans hx313_1
          have HR313_1 := Aside0.mk hi313_1
          have HC313_1 := Aside0.mk hl313_1
          clear hi313_1 hl313_1
          replace p313 := eq_true p313
          replace q313 := eq_true q313
          go_wp2
          repeat (go_quiet (fail); try go_wp2)
          go_ret
          exact ⟨fin_, bl_ HB⟩
        ·rw [if_neg c21] at H
         exact absurd H (by simp)
       ·rw [if_neg c20] at H
        exact absurd H (by simp)
      ·rw [if_neg c19] at H
       have c19b0 : decide (x5_2 < (l0_0.length : Int)) = false := decide_eq_false c19
       clear c19
       obtain rfl := Option.some.inj H
       have hnb34 := NB309_310.out
       have hnc34 := NB310_309.out
       obtain ⟨hcz35_0, hcz35_1, hcz35_2, hfz35_0, hfz35_1, hfz35_2⟩ := cz3_ BK309
       go_wp2
       repeat (go_quiet (fail); try go_wp2)
       go_ret
       exact ⟨fin_, bl_ HB⟩
end Go.Proofs.Ytooabchnbmnchaa.Q
namespace Go.Proofs.Ytooabchnbmnchaa.Q
open Go.RowKit Go.Proofs.YtooabchnbmnchaaW.PrintWords Go.Proofs.YtooabchnbmnchaaW.PrintLast Go.Proofs.YtooabchnbmnchaaW.PrintMore
attribute [local go_sem] max2_int min2_int max_two min_two max_three min_three max_four min_four binOp_string_leq binOp_string_geq binOp_string_gtr   -- for this text's walks alone
set_option linter.unusedVariables false
set_option linter.unusedSimpArgs false
mutual
def wal_Recover.j0 : Nat → List (S70) → List (List Int) → Int → Bool → Int → Option ((List (S70)) × Int × (List (List Int)) × (List (List Int)) × Int)
 | 0, _, _, _, _, _ => none
 | k + 1, x0, x3, x4, x23, x470001 => if x23 = true then (some (([] : List (S70)), x470001, ([] : List (List Int)), ([] : List (List Int)), 81)) else (if 0 < (x0.length : Int) then (wal_Recover.l0 k x0 x3 x4 x0 (x0.length : Int) 0 ([] : List (S70)) ((rd_T70 x0 0).f0)) else (none))
def wal_Recover.l0 : Nat → List (S70) → List (List Int) → Int → List (S70) → Int → Int → List (S70) → Int → Option ((List (S70)) × Int × (List (List Int)) × (List (List Int)) × Int)
 | 0, _, _, _, _, _, _, _, _ => none
 | k + 1, x0, x3, x4, x30, x31, x32, x470000, x470001 => if x32 < x31 then (if 0 ≤ x32 then (if x32 < (x30.length : Int) then (if ((rd_T70 x30 x32).f0) = x470001 then ((wal_records.f k ((rd_T70 x30 x32).f1)).bind fun bt475 => (if (wrap64 (x470001 + (bt475.1.length : Int))) > 1099511627776 then (some (([] : List (S70)), 0, ([] : List (List Int)), ([] : List (List Int)), 81)) else (if x3.length + bt475.1.length < 5864062014805 then ((some (x3 ++ bt475.1 : List (List Int))).bind fun y479 => (if x32 = 0 then (wal_Recover.j2 k x0 y479 x4 x32 bt475.2 x30 x31 x32 true x470000 (wrap64 (x470001 + (bt475.1.length : Int))) ((rd_T70 x30 x32).f0) ((rd_T70 x30 x32).f1)) else (wal_Recover.j2 k x0 y479 x4 x32 bt475.2 x30 x31 x32 (decide (bt475.2 > 0)) x470000 (wrap64 (x470001 + (bt475.1.length : Int))) ((rd_T70 x30 x32).f0) ((rd_T70 x30 x32).f1)))) else (none)))) else (some (x470000, x470001, ([] : List (List Int)), x3, 21))) else (none)) else (none)) else (some (x470000, x470001, ([] : List (List Int)), x3, x4))
def wal_Recover.j2 : Nat → List (S70) → List (List Int) → Int → Int → Int → List (S70) → Int → Int → Bool → List (S70) → Int → Int → List Int → Option ((List (S70)) × Int × (List (List Int)) × (List (List Int)) × Int)
 | 0, _, _, _, _, _, _, _, _, _, _, _, _, _ => none
 | k + 1, x0, x3, x4, x5, x8, x30, x31, x32, x68, x470000, x470001, x475000, x475001 => if x68 = true then (if 0 ≤ x8 then (if x8 ≤ (x475001.length : Int) then ((bytes_Clone.f (x475001.take (x8 : Int).toNat)).bind fun t483 => (if x470000.length < 4398046511104 then (wal_Recover.j3 k x0 x3 x4 x5 x8 x30 x31 x32 (x470000 ++ [(⟨x475000, t483⟩ : S70)]) x470001 x475000 x475001) else (none))) else (none)) else (none)) else (wal_Recover.j3 k x0 x3 x4 x5 x8 x30 x31 x32 x470000 x470001 x475000 x475001)
def wal_Recover.j3 : Nat → List (S70) → List (List Int) → Int → Int → Int → List (S70) → Int → Int → List (S70) → Int → Int → List Int → Option ((List (S70)) × Int × (List (List Int)) × (List (List Int)) × Int)
 | 0, _, _, _, _, _, _, _, _, _, _, _, _ => none
 | k + 1, x0, x3, x4, x5, x8, x30, x31, x32, x470000, x470001, x475000, x475001 => if x8 < (x475001.length : Int) then (if (wrap64 (x5 + 1)) < (x0.length : Int) then (some (x470000, x470001, ([] : List (List Int)), x3, 21)) else (some (x470000, x470001, ([] : List (List Int)), x3, x4))) else (wal_Recover.l0 k x0 x3 x4 x30 x31 (wrap64 (x32 + 1)) x470000 x470001)
end
def wal_Recover.f (k : Nat) (l0 : List (S70)) : Option ((List (S70)) × Int × (List (List Int)) × (List (List Int)) × Int) := if (l0.length : Int) = 0 then (some (([] : List (S70)), 0, ([] : List (List Int)), ([] : List (List Int)), 0)) else (if (l0.length : Int) > 4096 then (wal_Recover.j0 k l0 ([] : List (List Int)) 0 true 0) else (if 0 < (l0.length : Int) then ((wal_index.f ((rd_T70 l0 0).f0)).bind fun t471 => (wal_Recover.j0 k l0 ([] : List (List Int)) 0 (!t471) 0)) else (none)))
theorem wal_Recover.mono_l : ∀ k, (∀ y0 y1 y2 y3 y4, LeO (wal_Recover.j0 k y0 y1 y2 y3 y4) (wal_Recover.j0 (k + 1) y0 y1 y2 y3 y4)) ∧ (∀ y0 y1 y2 y3 y4 y5 y6 y7, LeO (wal_Recover.l0 k y0 y1 y2 y3 y4 y5 y6 y7) (wal_Recover.l0 (k + 1) y0 y1 y2 y3 y4 y5 y6 y7)) ∧ (∀ y0 y1 y2 y3 y4 y5 y6 y7 y8 y9 y10 y11 y12, LeO (wal_Recover.j2 k y0 y1 y2 y3 y4 y5 y6 y7 y8 y9 y10 y11 y12) (wal_Recover.j2 (k + 1) y0 y1 y2 y3 y4 y5 y6 y7 y8 y9 y10 y11 y12)) ∧ (∀ y0 y1 y2 y3 y4 y5 y6 y7 y8 y9 y10 y11, LeO (wal_Recover.j3 k y0 y1 y2 y3 y4 y5 y6 y7 y8 y9 y10 y11) (wal_Recover.j3 (k + 1) y0 y1 y2 y3 y4 y5 y6 y7 y8 y9 y10 y11))
 | 0 => ⟨fun _ _ _ _ _ r h => by simp [wal_Recover.j0] at h, fun _ _ _ _ _ _ _ _ r h => by simp [wal_Recover.l0] at h, fun _ _ _ _ _ _ _ _ _ _ _ _ _ r h => by simp [wal_Recover.j2] at h, fun _ _ _ _ _ _ _ _ _ _ _ _ r h => by simp [wal_Recover.j3] at h⟩
 | k + 1 => by
  obtain ⟨ih0, ih1, ih2, ih3⟩ := wal_Recover.mono_l k
  refine ⟨?_, ?_, ?_, ?_⟩
  ·intro y0 y1 y2 y3 y4
   unfold wal_Recover.j0
   repeat' first
   | (with_reducible exact ih0 _ _ _ _ _)
   | (with_reducible exact ih1 _ _ _ _ _ _ _ _)
   | (with_reducible exact ih2 _ _ _ _ _ _ _ _ _ _ _ _ _)
   | (with_reducible exact ih3 _ _ _ _ _ _ _ _ _ _ _ _)
   | (with_reducible exact wal_records.mono _ _)
   | (with_reducible exact LeO.refl _)
   | (with_reducible exact LeO.none _)
   | (with_reducible refine LeO.ite ?_ ?_)
   | (with_reducible refine LeO.bind ?_ (fun _ => ?_))
   | exact ih0 _ _ _ _ _
   | exact ih1 _ _ _ _ _ _ _ _
   | exact ih2 _ _ _ _ _ _ _ _ _ _ _ _ _
   | exact ih3 _ _ _ _ _ _ _ _ _ _ _ _
   | exact wal_records.mono _ _
   | exact LeO.none _
   | refine LeO.ite ?_ ?_
   | refine LeO.bind ?_ (fun _ => ?_)
  ·intro y0 y1 y2 y3 y4 y5 y6 y7
   unfold wal_Recover.l0
   repeat' first
   | (with_reducible exact ih0 _ _ _ _ _)
   | (with_reducible exact ih1 _ _ _ _ _ _ _ _)
   | (with_reducible exact ih2 _ _ _ _ _ _ _ _ _ _ _ _ _)
   | (with_reducible exact ih3 _ _ _ _ _ _ _ _ _ _ _ _)
   | (with_reducible exact wal_records.mono _ _)
   | (with_reducible exact LeO.refl _)
   | (with_reducible exact LeO.none _)
   | (with_reducible refine LeO.ite ?_ ?_)
   | (with_reducible refine LeO.bind ?_ (fun _ => ?_))
   | exact ih0 _ _ _ _ _
   | exact ih1 _ _ _ _ _ _ _ _
   | exact ih2 _ _ _ _ _ _ _ _ _ _ _ _ _
   | exact ih3 _ _ _ _ _ _ _ _ _ _ _ _
   | exact wal_records.mono _ _
   | exact LeO.none _
   | refine LeO.ite ?_ ?_
   | refine LeO.bind ?_ (fun _ => ?_)
  ·intro y0 y1 y2 y3 y4 y5 y6 y7 y8 y9 y10 y11 y12
   unfold wal_Recover.j2
   repeat' first
   | (with_reducible exact ih0 _ _ _ _ _)
   | (with_reducible exact ih1 _ _ _ _ _ _ _ _)
   | (with_reducible exact ih2 _ _ _ _ _ _ _ _ _ _ _ _ _)
   | (with_reducible exact ih3 _ _ _ _ _ _ _ _ _ _ _ _)
   | (with_reducible exact wal_records.mono _ _)
   | (with_reducible exact LeO.refl _)
   | (with_reducible exact LeO.none _)
   | (with_reducible refine LeO.ite ?_ ?_)
   | (with_reducible refine LeO.bind ?_ (fun _ => ?_))
   | exact ih0 _ _ _ _ _
   | exact ih1 _ _ _ _ _ _ _ _
   | exact ih2 _ _ _ _ _ _ _ _ _ _ _ _ _
   | exact ih3 _ _ _ _ _ _ _ _ _ _ _ _
   | exact wal_records.mono _ _
   | exact LeO.none _
   | refine LeO.ite ?_ ?_
   | refine LeO.bind ?_ (fun _ => ?_)
  ·intro y0 y1 y2 y3 y4 y5 y6 y7 y8 y9 y10 y11
   unfold wal_Recover.j3
   repeat' first
   | (with_reducible exact ih0 _ _ _ _ _)
   | (with_reducible exact ih1 _ _ _ _ _ _ _ _)
   | (with_reducible exact ih2 _ _ _ _ _ _ _ _ _ _ _ _ _)
   | (with_reducible exact ih3 _ _ _ _ _ _ _ _ _ _ _ _)
   | (with_reducible exact wal_records.mono _ _)
   | (with_reducible exact LeO.refl _)
   | (with_reducible exact LeO.none _)
   | (with_reducible refine LeO.ite ?_ ?_)
   | (with_reducible refine LeO.bind ?_ (fun _ => ?_))
   | exact ih0 _ _ _ _ _
   | exact ih1 _ _ _ _ _ _ _ _
   | exact ih2 _ _ _ _ _ _ _ _ _ _ _ _ _
   | exact ih3 _ _ _ _ _ _ _ _ _ _ _ _
   | exact wal_records.mono _ _
   | exact LeO.none _
   | refine LeO.ite ?_ ?_
   | refine LeO.bind ?_ (fun _ => ?_)
theorem wal_Recover.mono : ∀ a0 k, LeO (wal_Recover.f k a0) (wal_Recover.f (k + 1) a0) := by
 intro a0 k
 obtain ⟨ih0, ih1, ih2, ih3⟩ := wal_Recover.mono_l k
 unfold wal_Recover.f
 repeat' first
   | (with_reducible exact ih0 _ _ _ _ _)
   | (with_reducible exact ih1 _ _ _ _ _ _ _ _)
   | (with_reducible exact ih2 _ _ _ _ _ _ _ _ _ _ _ _ _)
   | (with_reducible exact ih3 _ _ _ _ _ _ _ _ _ _ _ _)
   | (with_reducible exact wal_records.mono _ _)
   | (with_reducible exact LeO.refl _)
   | (with_reducible exact LeO.none _)
   | (with_reducible refine LeO.ite ?_ ?_)
   | (with_reducible refine LeO.bind ?_ (fun _ => ?_))
   | exact ih0 _ _ _ _ _
   | exact ih1 _ _ _ _ _ _ _ _
   | exact ih2 _ _ _ _ _ _ _ _ _ _ _ _ _
   | exact ih3 _ _ _ _ _ _ _ _ _ _ _ _
   | exact wal_records.mono _ _
   | exact LeO.none _
   | refine LeO.ite ?_ ?_
   | refine LeO.bind ?_ (fun _ => ?_)
def wal_Recover.T17 : Bool × List (List Nat × List Nat) := (true, [([], []), ([0], [0]), ([], []), ([2], [2]), ([], []), ([4], [4]), ([], []), ([5, 6], [5, 6]), ([7], [7]), ([3, 8], [3, 8]), ([9], [9]), ([1, 10, 8], [1, 10]), ([0, 1, 2, 3, 4, 5, 6, 7, 8, 9, 10, 11], []), ([12, 11, 11, 0, 1, 2, 3, 4, 5, 6, 7, 8, 9, 10, 11], [11, 12])])
def wal_Recover.B17 : List Nat := [0, 1, 0, 4, 0, 16, 0, 112, 240, 508, 1020, 2047, 4095, 8191]
theorem wal_Recover.tab17 : rtab .any (opsOf Try.f45 17) = wal_Recover.T17 := by kernel_rfl
theorem wal_Recover.bits17 : waitsOk wal_Recover.T17.2 wal_Recover.B17 = true := by kernel_rfl
set_option maxHeartbeats 8000000 in
set_option maxRecDepth 100000 in
theorem wal_Recover.calls (k : Nat) (A0 : Option Addr) (c0 : Nat) (l0 : List (S70)) (r1 : List (S70)) (r2 : Int) (r3 : List (List Int)) (r4 : List (List Int)) (r5 : Int) (w : World) (hr0 : Kd.C k70 w A0 l0.length l0) (hc0 : l0.length ≤ c0) (h : wal_Recover.f k l0 = some (r1, r2, r3, r4, r5)) :
  Calls Try.prog 45 #[.slice A0 l0.length c0] w fun e w' => ∃ v0_ v2_ v3_ : Value, e = .returned (.tuple #[.agg #[v0_, .int .i64 r2, v2_], v3_, .int .i64 r5]) ∧ Kd.N k70 70 w' w.heap.size (fun k_ => (w.heap.size ≤ k_) ∧ some k_ ≠ (v2_ : Value).ownBlock ∧ some k_ ≠ (v3_ : Value).ownBlock) v0_ r1 ∧ Kd.N (Kd.slice 5 (Kd.int .u8)) 26 w' w.heap.size (fun k_ => (w.heap.size ≤ k_) ∧ some k_ ≠ (v0_ : Value).ownBlock ∧ some k_ ≠ (v3_ : Value).ownBlock) v2_ r3 ∧ Kd.N (Kd.slice 5 (Kd.int .u8)) 26 w' w.heap.size (fun k_ => (w.heap.size ≤ k_) ∧ some k_ ≠ (v0_ : Value).ownBlock ∧ some k_ ≠ (v2_ : Value).ownBlock) v3_ r4 ∧ Below w.heap.size w w' := by
 have hu61 := Try.underlying61
 have hu70 := Try.underlying70
 have HR0 := Aside0.mk hr0
 have HC0 := Aside0.mk hc0
 clear hr0 hc0
 have HB := Aside0.mk (Below.refl w.heap.size w)
 have H : (if (l0.length : Int) = 0 then (some (([] : List (S70)), 0, ([] : List (List Int)), ([] : List (List Int)), 0)) else (if (l0.length : Int) > 4096 then (wal_Recover.j0 k l0 ([] : List (List Int)) 0 true 0) else (if 0 < (l0.length : Int) then ((wal_index.f ((rd_T70 l0 0).f0)).bind fun t471 => (wal_Recover.j0 k l0 ([] : List (List Int)) 0 (!t471) 0)) else (none)))) = some (r1, r2, r3, r4, r5) := h
 clear h
 by_cases c2 : (l0.length : Int) = 0
 ·rw [if_pos c2] at H
  have c2b0 : ((l0.length : Int) == 0) = true := beq_iff_eq.mpr c2
  have c2b1 : ((l0.length : Int) != 0) = false := bne_eq_false_iff_eq.mpr c2
  clear c2
  simp only [Option.some.injEq, Prod.mk.injEq] at H
  obtain ⟨rfl, rfl, rfl, rfl, rfl⟩ := H
  go_enter Try.func45, Try.ntmps45
  go_wp2_with (first | ((with_reducible refine gate_dst (N := 2) rfl ?_); refine bx_ 2 #[.slice none 0 0, .int .i64 0, .slice none 0 0] 61 ?_; intro gb469 hg w3 hbox hb; have BK469 := Aside0.mk (hbox); have GW469 := bG_ HB hg; have GE469 := bG_ HB hg; replace HB := bS_ HB hb; clear hb hbox hg; obtain ⟨hcz4_0, hcz4_1, hcz4_2, hfz4_0, hfz4_1, hfz4_2⟩ := cz3_ BK469))
  refine bodyPost_ret (results_ctt rfl _ _ gb469 61 #[.slice none 0 0, .int .i64 0, .slice none 0 0] (0, 0) _ rfl (by (with_reducible repeat (first | refine blk_drewN ?_ _ | refine blk_drew ?_ | refine blk_alloc ?_ _)); refine blk_put (cs := #[.slice none 0 0, .int .i64 0, .slice none 0 0]) ?_ 2 _ rfl; (with_reducible repeat (first | refine blk_drewN ?_ _ | refine blk_drew ?_ | refine blk_alloc ?_ _)); refine blk_put (cs := #[.slice none 0 0, .int .i64 0, .slice none 0 0]) ?_ 1 _ rfl; (with_reducible repeat (first | refine blk_drewN ?_ _ | refine blk_drew ?_ | refine blk_alloc ?_ _)); refine blk_put (cs := #[.slice none 0 0, .int .i64 0, .slice none 0 0]) ?_ 0 _ rfl; (with_reducible repeat (first | refine blk_drewN ?_ _ | refine blk_drew ?_ | refine blk_alloc ?_ _)); exact BK469.out) Try.underlying61 rfl (by kernel_rfl)) rfl ?_
  exact ⟨_, _, _, fin_, nil_, nil_, nil_, bl_ HB⟩
 ·rw [if_neg c2] at H
  have c2b0 : ((l0.length : Int) == 0) = false := beq_eq_false_iff_ne.mpr c2
  have c2b1 : ((l0.length : Int) != 0) = true := bne_iff_ne.mpr c2
  have c2b2 : ¬ (l0 = []) := fun h_ => c2 (by rw [h_]; rfl)
  have HC5 := Aside0.mk H
  clear H
  go_enter Try.func45, Try.ntmps45
  go_upto_region 3 with (first | ((with_reducible refine gate_dst (N := 2) rfl ?_); refine bx_ 2 #[.slice none 0 0, .int .i64 0, .slice none 0 0] 61 ?_; intro gb469 hg w6 hbox hb; have BK469 := Aside0.mk (hbox); have GW469 := bG_ HB hg; have GE469 := bG_ HB hg; replace HB := bS_ HB hb; clear hb hbox hg))
  (try simp only [Act.put, List.setIfInBounds_toArray, List.set_cons_zero, List.set_cons_succ])
  go_cut [23] (fun v23 wc => ∃ (kq : Nat) (x23_4 : Bool), v23 = .bool x23_4 ∧ Aside0 (wal_Recover.j0 kq l0 ([] : List (List Int)) 0 x23_4 0 = some (r1, r2, r3, r4, r5)) ∧ Aside0 (kq ≤ k) ∧ Aside0 (Kd.N (Kd.slice 5 (Kd.int .u8)) 26 wc w.heap.size (fun k_ => (w.heap.size ≤ k_) ∧ k_ ≠ gb469) (.slice none 0 0) ([] : List (List Int))) ∧ Aside0 (wc.heap[gb469]? = some (.cells #[(.slice none 0 0), .int .i64 0, (.slice none 0 0)] 61 (0, 0))) ∧ Aside0 (Below w.heap.size w wc))
  case first =>
   have H := HC5.out
   clear HC5
   by_cases c7 : (l0.length : Int) > 4096
   ·rw [if_pos c7] at H
    have c7b0 : decide (4096 < (l0.length : Int)) = true := decide_eq_true c7
    have c7b1 : decide (4096 < l0.length) = true := decide_eq_true (by omega)
    clear c7
    (first | rw [c7b0] | (simp only [i64_w, i32_w]; rw [c7b0]) | skip)
    have H' := Aside0.mk H
    clear H
    go_wp2
    go_meet
    case rel => exact ⟨_, (true), (by first | rfl | (simp; done) | (simp [*]; done)), H', ⟨by first | omega | exact Nat.le_refl _⟩, ⟨nil_⟩, ⟨bA_ BK469⟩, ⟨bl_ HB⟩⟩
   ·rw [if_neg c7] at H
    have c7b0 : decide (4096 < (l0.length : Int)) = false := decide_eq_false c7
    have c7b1 : decide (4096 < l0.length) = false := decide_eq_false (by omega)
    clear c7
    (first | rw [c7b0] | (simp only [i64_w, i32_w]; rw [c7b0]) | skip)
    by_cases c8 : 0 < (l0.length : Int)
    ·rw [if_pos c8] at H
     have c8b0 : decide (0 < (l0.length : Int)) = true := decide_eq_true c8
     have c8b1 : decide (0 < l0.length) = true := decide_eq_true (by omega)
     clear c8
     replace H := Option.bind_eq_some_iff.mp H
     obtain ⟨t471, A90, H⟩ := H
     replace H : (wal_Recover.j0 k l0 ([] : List (List Int)) 0 (!t471) 0) = some (r1, r2, r3, r4, r5) := H
     have A9 := Aside0.mk A90
     clear A90
     have H' := Aside0.mk H
     clear H
     have p470 : 0 ≤ (0 : Int) := (by omega)
     have q470 : 0 < (l0.length : Int) := of_decide_eq_true (by first | (with_reducible assumption) | assumption)
     obtain ⟨ad470, A470_1, c470_1, e470, hx470_0, hx470_1, hl470_1, hi470_1⟩ := at_T70 HR0.out 0 p470 q470
     cases e470
     have qi470 : (0 < l0.length) = True := eq_true (by omega)
     (try rw [show ((0 : Int)).toNat = 0 from rfl] at hx470_0)
     (try rw [show 0 * 2 = 0 from rfl] at hx470_0)
     (try rw [Addr.add_zero'] at hx470_0)
     (try rw [show ((0 : Int)).toNat = 0 from rfl] at hx470_1)
     (try rw [show 0 * 2 = 0 from rfl] at hx470_1)
     (try rw [Addr.add_zero'] at hx470_1)
     replace hx470_0 := (HB.out.cell (World.block_lt_of_cell? w _ hx470_0)).trans hx470_0
     replace hx470_1 := (HB.out.cell (World.block_lt_of_cell? w _ hx470_1)).trans hx470_1
     have HR470_1 := Aside0.mk hi470_1
     have HC470_1 := Aside0.mk hl470_1
     clear hi470_1 hl470_1
     replace p470 := eq_true p470
     replace q470 := eq_true q470
     go_wp2_with (first | (go_at_call 74; (with_reducible refine (wal_index.calls ((rd_T70 l0 0).f0) t471 _ A9.out).mono ?_); rintro e w' ⟨rfl, ⟨nd, rfl⟩⟩))
     go_meet
     case rel => exact ⟨_, (!t471), (by first | rfl | (simp; done) | (simp [*]; done)), H', ⟨by first | omega | exact Nat.le_refl _⟩, ⟨nil_⟩, ⟨bA_ BK469⟩, ⟨bl_ HB⟩⟩
    ·rw [if_neg c8] at H
     exact absurd H (by simp)
  case rest =>
   clear HC5
   try clear c2
   try clear c2b0
   try clear c2b1
   try clear c2b2
   try clear p2
   try clear c4
   try clear p4
   try clear q4
   try clear hx4
   try clear qi4
   try clear c7
   try clear c7b0
   try clear c7b1
   try clear c8
   try clear c8b0
   try clear c8b1
   try clear hcz4_0
   try clear hcz4_1
   try clear hcz4_2
   try clear hfz4_0
   try clear hfz4_1
   try clear hfz4_2
   try clear hx470_0
   try clear hx470_1
   try clear p470
   try clear q470
   obtain ⟨kq, x23_4, rfl, HA, HJ4, HO_3, BK469, HB⟩ := hcut
   cases kq with
   | zero => exact absurd HA.out (by simp [wal_Recover.j0])
   | succ kj4 =>
    have H := HA.out
    clear HA
    simp only [wal_Recover.j0] at H
    by_cases c10 : x23_4 = true
    ·subst c10
     rw [if_pos rfl] at H
     simp only [Option.some.injEq, Prod.mk.injEq] at H
     obtain ⟨rfl, rfl, rfl, rfl, rfl⟩ := H
     obtain ⟨hcz11_0, hcz11_1, hcz11_2, hfz11_0, hfz11_1, hfz11_2⟩ := cz3_ BK469
     go_wp2
     refine bodyPost_ret (results_ctt rfl _ _ gb469 61 #[.slice none 0 0, .int .i64 0, .slice none 0 0] (0, 0) _ rfl (by (with_reducible repeat (first | refine blk_drewN ?_ _ | refine blk_drew ?_ | refine blk_alloc ?_ _)); refine blk_put (cs := #[.slice none 0 0, .int .i64 0, .slice none 0 0]) ?_ 2 _ rfl; (with_reducible repeat (first | refine blk_drewN ?_ _ | refine blk_drew ?_ | refine blk_alloc ?_ _)); refine blk_put (cs := #[.slice none 0 0, .int .i64 0, .slice none 0 0]) ?_ 1 _ rfl; (with_reducible repeat (first | refine blk_drewN ?_ _ | refine blk_drew ?_ | refine blk_alloc ?_ _)); refine blk_put (cs := #[.slice none 0 0, .int .i64 0, .slice none 0 0]) ?_ 0 _ rfl; (with_reducible repeat (first | refine blk_drewN ?_ _ | refine blk_drew ?_ | refine blk_alloc ?_ _)); exact BK469.out) Try.underlying61 rfl (by kernel_rfl)) rfl ?_
     exact ⟨_, _, _, fin_, nil_, nil_, nil_, bl_ HB⟩
    ·replace c10 := Bool.eq_false_iff.mpr c10
     subst c10
     rw [if_neg (show ¬ (false = true) by decide)] at H
     by_cases c12 : 0 < (l0.length : Int)
     ·rw [if_pos c12] at H
      have c12b0 : decide (0 < (l0.length : Int)) = true := decide_eq_true c12
      have c12b1 : decide (0 < l0.length) = true := decide_eq_true (by omega)
      clear c12
      have H' := Aside0.mk H
      clear H
      have p472 : 0 ≤ (0 : Int) := (by omega)
      have q472 : 0 < (l0.length : Int) := of_decide_eq_true (by first | (with_reducible assumption) | assumption)
      obtain ⟨ad472, A472_1, c472_1, e472, hx472_0, hx472_1, hl472_1, hi472_1⟩ := at_T70 HR0.out 0 p472 q472
      cases e472
      have qi472 : (0 < l0.length) = True := eq_true (by omega)
      (try rw [show ((0 : Int)).toNat = 0 from rfl] at hx472_0)
      (try rw [show 0 * 2 = 0 from rfl] at hx472_0)
      (try rw [Addr.add_zero'] at hx472_0)
      (try rw [show ((0 : Int)).toNat = 0 from rfl] at hx472_1)
      (try rw [show 0 * 2 = 0 from rfl] at hx472_1)
      (try rw [Addr.add_zero'] at hx472_1)
      replace hx472_0 := (HB.out.cell (World.block_lt_of_cell? w _ hx472_0)).trans hx472_0
      replace hx472_1 := (HB.out.cell (World.block_lt_of_cell? w _ hx472_1)).trans hx472_1
      have HR472_1 := Aside0.mk hi472_1
      have HC472_1 := Aside0.mk hl472_1
      clear hi472_1 hl472_1
      replace p472 := eq_true p472
      replace q472 := eq_true q472
      obtain ⟨hcz13_0, hcz13_1, hcz13_2, hfz13_0, hfz13_1, hfz13_2⟩ := cz3_ BK469
      go_wp2
      go_loopg [3, 4, 32] kj4 (fun kq v3 v4 v32 w' => ∃ (x3_2 : List (List Int)) (x4_2 : Int) (x32_2 : Int) (x470000_2 : List (S70)) (x470001_2 : Int) (u470000 : Value), v4 = .int .i64 x4_2 ∧ v32 = .int .i64 x32_2 ∧ Aside0 (wal_Recover.l0 kq l0 x3_2 x4_2 l0 (l0.length : Int) x32_2 x470000_2 x470001_2 = some (r1, r2, r3, r4, r5)) ∧ Aside0 (kq ≤ kj4) ∧ Aside0 (Kd.N (Kd.slice 5 (Kd.int .u8)) 26 w' w.heap.size (fun k_ => (w.heap.size ≤ k_) ∧ some k_ ≠ (u470000 : Value).ownBlock ∧ k_ ≠ gb469) v3 x3_2) ∧ Aside0 (Kd.N k70 70 w' w.heap.size (fun k_ => (w.heap.size ≤ k_) ∧ some k_ ≠ (v3 : Value).ownBlock ∧ k_ ≠ gb469) u470000 x470000_2) ∧ Aside0 (w'.heap[gb469]? = some (.cells #[u470000, .int .i64 x470001_2, (.slice none 0 0)] 61 (0, 0))) ∧ Aside0 (Below w.heap.size w w'))
      case atStart => exact ⟨(([] : List (List Int))), (0), (0), (([] : List (S70))), ((rd_T70 l0 0).f0), (.slice none 0 0), (by first | rfl | (simp; done) | (simp [*]; done)), (by first | rfl | (simp; done) | (simp [*]; done)), H', ⟨Nat.le_refl _⟩, ⟨Kd.N_mono (nD_ HO_3 (fun k_ hk => hk.2)) (fun _ hk => ⟨hk.1.1, ⟨(by simp [Value.ownBlock]), hk.1.2⟩⟩)⟩, ⟨nil_⟩, ⟨by (with_reducible repeat (first | refine blk_drewN ?_ _ | refine blk_drew ?_ | refine blk_alloc ?_ _)); refine blk_put (cs := #[.slice none 0 0, .int .i64 0, .slice none 0 0]) ?_ 1 _ rfl; (with_reducible repeat (first | refine blk_drewN ?_ _ | refine blk_drew ?_ | refine blk_alloc ?_ _)); exact BK469.out⟩, ⟨bl_ HB⟩⟩
      case round =>
       clear H'
       try clear c1
       try clear c2
       try clear c2b0
       try clear c2b1
       try clear c2b2
       try clear p2
       try clear c4
       try clear p4
       try clear q4
       try clear hx4
       try clear qi4
       try clear c7
       try clear c7b0
       try clear c7b1
       try clear c8
       try clear c8b0
       try clear c8b1
       try clear c10
       try clear c12
       try clear c12b0
       try clear c12b1
       try clear hcz11_0
       try clear hcz11_1
       try clear hcz11_2
       try clear hcz13_0
       try clear hcz13_1
       try clear hcz13_2
       try clear hcz4_0
       try clear hcz4_1
       try clear hcz4_2
       try clear hfz11_0
       try clear hfz11_1
       try clear hfz11_2
       try clear hfz13_0
       try clear hfz13_1
       try clear hfz13_2
       try clear hfz4_0
       try clear hfz4_1
       try clear hfz4_2
       try clear hx470_0
       try clear hx470_1
       try clear hx472_0
       try clear hx472_1
       try clear p2
       try clear p4
       try clear p470
       try clear p472
       try clear q4
       try clear q470
       try clear q472
       obtain ⟨x3_2, x4_2, x32_2, x470000_2, x470001_2, u470000, rfl, rfl, HA, HK2, HO_3, HO_470000, BK469, HB⟩ := hrel
       cases gk with
       | zero => exact absurd HA.out (by simp [wal_Recover.l0])
       | succ k2 =>
        have H := HA.out
        clear HA
        simp only [wal_Recover.l0] at H
        by_cases c14 : x32_2 < (l0.length : Int)
        ·rw [if_pos c14] at H
         have c14b0 : decide (x32_2 < (l0.length : Int)) = true := decide_eq_true c14
         clear c14
         by_cases c15 : 0 ≤ x32_2
         ·rw [if_pos c15] at H
          have c15b0 : decide (0 ≤ x32_2) = true := decide_eq_true c15
          clear c15
          by_cases c16 : x32_2 < (l0.length : Int)
          ·rw [if_pos c16] at H
           have c16b0 : decide (x32_2 < (l0.length : Int)) = true := decide_eq_true c16
           clear c16
           by_cases c17 : ((rd_T70 l0 x32_2).f0) = x470001_2
           ·rw [if_pos c17] at H
            have c17b0 : (((rd_T70 l0 x32_2).f0) == x470001_2) = true := beq_iff_eq.mpr c17
            have c17b1 : (((rd_T70 l0 x32_2).f0) != x470001_2) = false := bne_eq_false_iff_eq.mpr c17
            clear c17
            replace H := Option.bind_eq_some_iff.mp H
            obtain ⟨⟨t475, t478⟩, A180, H⟩ := H
            try dsimp only at H
            have A18 := Aside0.mk A180
            clear A180
            by_cases c19 : (wrap64 (x470001_2 + (t475.length : Int))) > 1099511627776
            ·rw [if_pos c19] at H
             have c19b0 : decide (1099511627776 < (wrap64 (x470001_2 + (t475.length : Int)))) = true := decide_eq_true c19
             clear c19
             simp only [Option.some.injEq, Prod.mk.injEq] at H
             obtain ⟨rfl, rfl, rfl, rfl, rfl⟩ := H
             have p473 : 0 ≤ (x32_2 : Int) := of_decide_eq_true (by first | (with_reducible assumption) | assumption)
             have q473 : x32_2 < (l0.length : Int) := of_decide_eq_true (by first | (with_reducible assumption) | assumption)
             obtain ⟨ad473, A473_1, c473_1, e473, hx473_0, hx473_1, hl473_1, hi473_1⟩ := at_T70 HR0.out x32_2 p473 q473
             obtain rfl : ad472 = ad473 := (by injection e473)
             replace hx473_0 := (HB.out.cell (World.block_lt_of_cell? w _ hx473_0)).trans hx473_0
             replace hx473_1 := (HB.out.cell (World.block_lt_of_cell? w _ hx473_1)).trans hx473_1
             have HR473_1 := Aside0.mk hi473_1
             have HC473_1 := Aside0.mk hl473_1
             clear hi473_1 hl473_1
             replace p473 := eq_true p473
             replace q473 := eq_true q473
             go_wp2_with (first | ((with_reducible refine gate_dst (N := 6) rfl ?_); refine bx_ 6 #[.int .i64 0, .slice none 0 0] 70 ?_; intro gb474 hg w20 hbox hb; replace HO_3 := Aside0.mk (Kd.N_below (Kd.N_elderB (nA_ HO_3) gb474 (Nat.le_of_eq hg.symm)) hb); replace HO_470000 := Aside0.mk (Kd.N_below (Kd.N_elderB (nA_ HO_470000) gb474 (Nat.le_of_eq hg.symm)) hb); have BK474 := Aside0.mk (hbox); have GW474 := bG_ HB hg; have GE474 := bG_ HB hg; replace HB := bS_ HB hb; have NB469_474 := nL_ BK469 hg; have NB474_469 := nG_ BK469 hg; replace BK469 := bK_ BK469 hb; clear hb hbox hg; have hnb21 := NB474_469.out; have hnc21 := NB469_474.out; obtain ⟨hcz22_0, hcz22_1, hfz22_0, hfz22_1⟩ := cz2_ BK474; obtain ⟨hcz23_0, hcz23_1, hcz23_2, hfz23_0, hfz23_1, hfz23_2⟩ := cz3_ BK469) | ((with_reducible refine gate_callee (f := 73) rfl ?_); refine gL_ (some 47) Try.func73 #[.slice A473_1 ((rd_T70 l0 x32_2).f1).length c473_1] ?_; (with_reducible refine (wal_records.calls k2 _ _ ((rd_T70 l0 x32_2).f1) t475 t478 _ ?_ ?_ A18.out).mono ?_); exact Kd.C_below HR473_1.out (bl_ HB); exact HC473_1.out; rintro e w24 ⟨v476, rfl, ho0, hb⟩; refine ⟨_, rfl, ?_⟩; have HO477 := Aside0.mk (Kd.N_lower (Kd.N_mono (ok' := fun k_ => (w.heap.size ≤ k_) ∧ some k_ ≠ (u3 : Value).ownBlock ∧ some k_ ≠ (u470000 : Value).ownBlock ∧ k_ ≠ gb469 ∧ k_ ≠ gb474) ho0 (fun k_ hk_ => ⟨(Nat.le_trans (bs_ HB) hk_), (Kd.fresh' (Kd.N_lt (nC_ HO_3 (fun k_ hk => hk.2))) k_ hk_), (Kd.fresh' (Kd.N_lt (nC_ HO_470000 (fun k_ hk => hk.2))) k_ hk_), (Kd.freshB (bA_ BK469) k_ hk_), (Kd.freshB (g := gb474) (o := .cells #[.int .i64 ((rd_T70 l0 x32_2).f0), .slice A473_1 ((rd_T70 l0 x32_2).f1).length c473_1] 70 (0, 0)) (by (with_reducible repeat (first | refine blk_drewN ?_ _ | refine blk_drew ?_ | refine blk_alloc ?_ _)); refine blk_put (cs := #[.int .i64 ((rd_T70 l0 x32_2).f0), .slice none 0 0]) ?_ 1 _ rfl; (with_reducible repeat (first | refine blk_drewN ?_ _ | refine blk_drew ?_ | refine blk_alloc ?_ _)); refine blk_put (cs := #[.int .i64 0, .slice none 0 0]) ?_ 0 _ rfl; (with_reducible repeat (first | refine blk_drewN ?_ _ | refine blk_drew ?_ | refine blk_alloc ?_ _)); exact BK474.out) k_ hk_)⟩)) (bs_ HB)); replace HO_3 := Aside0.mk (Kd.N_elder' (nC_ HO_3 (fun k_ hk => hk.2)) (Kd.N_base ho0) hb); replace HO_470000 := Aside0.mk (Kd.N_elder' (nC_ HO_470000 (fun k_ hk => hk.2)) (Kd.N_base ho0) hb); replace BK469 := bK_ BK469 hb; replace BK474 := Aside0.mk (blk_below (g := gb474) (o := .cells #[.int .i64 ((rd_T70 l0 x32_2).f0), .slice A473_1 ((rd_T70 l0 x32_2).f1).length c473_1] 70 (0, 0)) (by (with_reducible repeat (first | refine blk_drewN ?_ _ | refine blk_drew ?_ | refine blk_alloc ?_ _)); refine blk_put (cs := #[.int .i64 ((rd_T70 l0 x32_2).f0), .slice none 0 0]) ?_ 1 _ rfl; (with_reducible repeat (first | refine blk_drewN ?_ _ | refine blk_drew ?_ | refine blk_alloc ?_ _)); refine blk_put (cs := #[.int .i64 0, .slice none 0 0]) ?_ 0 _ rfl; (with_reducible repeat (first | refine blk_drewN ?_ _ | refine blk_drew ?_ | refine blk_alloc ?_ _)); exact BK474.out) hb); replace HB := bS_ HB hb; (try clear hb ho0); obtain ⟨hcz25_0, hcz25_1, hcz25_2, hfz25_0, hfz25_1, hfz25_2⟩ := cz3_ BK469; obtain ⟨Ao26, co26, eo26⟩ := Kd.N_slice HO477.out; subst eo26))
             refine bodyPost_ret (results_ctt rfl _ _ gb469 61 #[.slice none 0 0, .int .i64 0, .slice none 0 0] (0, 0) _ rfl (by (with_reducible repeat (first | refine blk_drewN ?_ _ | refine blk_drew ?_ | refine blk_alloc ?_ _)); refine blk_put (cs := #[.slice none 0 0, .int .i64 0, .slice none 0 0]) ?_ 2 _ rfl; (with_reducible repeat (first | refine blk_drewN ?_ _ | refine blk_drew ?_ | refine blk_alloc ?_ _)); refine blk_put (cs := #[.slice none 0 0, .int .i64 (wrap64 (x470001_2 + (t475.length : Int))), .slice none 0 0]) ?_ 1 _ rfl; (with_reducible repeat (first | refine blk_drewN ?_ _ | refine blk_drew ?_ | refine blk_alloc ?_ _)); refine blk_put (cs := #[u470000, .int .i64 (wrap64 (x470001_2 + (t475.length : Int))), .slice none 0 0]) ?_ 0 _ rfl; (with_reducible repeat (first | refine blk_drewN ?_ _ | refine blk_drew ?_ | refine blk_alloc ?_ _)); refine blk_put (cs := #[u470000, .int .i64 x470001_2, .slice none 0 0]) ?_ 1 _ rfl; (with_reducible repeat (first | refine blk_drewN ?_ _ | refine blk_drew ?_ | refine blk_alloc ?_ _)); exact BK469.out) Try.underlying61 rfl (by kernel_rfl)) rfl ?_
             exact ⟨_, _, _, fin_, nil_, nil_, nil_, bl_ HB⟩
            ·rw [if_neg c19] at H
             have c19b0 : decide (1099511627776 < (wrap64 (x470001_2 + (t475.length : Int)))) = false := decide_eq_false c19
             clear c19
             by_cases c27 : x3_2.length + t475.length < 5864062014805
             ·rw [if_pos c27] at H
              have LMc27 := Aside0.mk c27
              clear c27
              obtain ⟨y479, hy479⟩ : ∃ y_ : List (List Int), y_ = (x3_2 ++ t475) := ⟨_, rfl⟩
              replace H : (if x32_2 = 0 then (wal_Recover.j2 k2 l0 y479 x4_2 x32_2 t478 l0 (l0.length : Int) x32_2 true x470000_2 (wrap64 (x470001_2 + (t475.length : Int))) ((rd_T70 l0 x32_2).f0) ((rd_T70 l0 x32_2).f1)) else (wal_Recover.j2 k2 l0 y479 x4_2 x32_2 t478 l0 (l0.length : Int) x32_2 (decide (t478 > 0)) x470000_2 (wrap64 (x470001_2 + (t475.length : Int))) ((rd_T70 l0 x32_2).f0) ((rd_T70 l0 x32_2).f1))) = some (r1, r2, r3, r4, r5) := by first | (rw [hy479]; with_reducible exact H) | (have H2_ := (Option.bind_some _ _).symm.trans H; rw [hy479]; with_reducible exact H2_) | (have H2_ := (Option.bind_some _ _).symm.trans H; with_reducible exact H2_) | with_reducible exact H | (rw [hy479]; exact H) | exact H
              have Ny479 := Aside0.mk hy479
              clear hy479
              have HC28 := Aside0.mk H
              clear H
              have p473 : 0 ≤ (x32_2 : Int) := of_decide_eq_true (by first | (with_reducible assumption) | assumption)
              have q473 : x32_2 < (l0.length : Int) := of_decide_eq_true (by first | (with_reducible assumption) | assumption)
              obtain ⟨ad473, A473_1, c473_1, e473, hx473_0, hx473_1, hl473_1, hi473_1⟩ := at_T70 HR0.out x32_2 p473 q473
              obtain rfl : ad472 = ad473 := (by injection e473)
              replace hx473_0 := (HB.out.cell (World.block_lt_of_cell? w _ hx473_0)).trans hx473_0
              replace hx473_1 := (HB.out.cell (World.block_lt_of_cell? w _ hx473_1)).trans hx473_1
              have HR473_1 := Aside0.mk hi473_1
              have HC473_1 := Aside0.mk hl473_1
              clear hi473_1 hl473_1
              replace p473 := eq_true p473
              replace q473 := eq_true q473
              go_upto_region 16 with (first | ((with_reducible refine gate_dst (N := 6) rfl ?_); refine bx_ 6 #[.int .i64 0, .slice none 0 0] 70 ?_; intro gb474 hg w29 hbox hb; replace HO_3 := Aside0.mk (Kd.N_below (Kd.N_elderB (nA_ HO_3) gb474 (Nat.le_of_eq hg.symm)) hb); replace HO_470000 := Aside0.mk (Kd.N_below (Kd.N_elderB (nA_ HO_470000) gb474 (Nat.le_of_eq hg.symm)) hb); have BK474 := Aside0.mk (hbox); have GW474 := bG_ HB hg; have GE474 := bG_ HB hg; replace HB := bS_ HB hb; have NB469_474 := nL_ BK469 hg; have NB474_469 := nG_ BK469 hg; replace BK469 := bK_ BK469 hb; clear hb hbox hg; have hnb30 := NB474_469.out; have hnc30 := NB469_474.out; obtain ⟨hcz31_0, hcz31_1, hfz31_0, hfz31_1⟩ := cz2_ BK474; obtain ⟨hcz32_0, hcz32_1, hcz32_2, hfz32_0, hfz32_1, hfz32_2⟩ := cz3_ BK469) | ((with_reducible refine gate_callee (f := 73) rfl ?_); refine gL_ (some 47) Try.func73 #[.slice A473_1 ((rd_T70 l0 x32_2).f1).length c473_1] ?_; (with_reducible refine (wal_records.calls k2 _ _ ((rd_T70 l0 x32_2).f1) t475 t478 _ ?_ ?_ A18.out).mono ?_); exact Kd.C_below HR473_1.out (bl_ HB); exact HC473_1.out; rintro e w33 ⟨v476, rfl, ho0, hb⟩; refine ⟨_, rfl, ?_⟩; have HO477 := Aside0.mk (Kd.N_lower (Kd.N_mono (ok' := fun k_ => (w.heap.size ≤ k_) ∧ some k_ ≠ (u3 : Value).ownBlock ∧ some k_ ≠ (u470000 : Value).ownBlock ∧ k_ ≠ gb469 ∧ k_ ≠ gb474) ho0 (fun k_ hk_ => ⟨(Nat.le_trans (bs_ HB) hk_), (Kd.fresh' (Kd.N_lt (nC_ HO_3 (fun k_ hk => hk.2))) k_ hk_), (Kd.fresh' (Kd.N_lt (nC_ HO_470000 (fun k_ hk => hk.2))) k_ hk_), (Kd.freshB (bA_ BK469) k_ hk_), (Kd.freshB (g := gb474) (o := .cells #[.int .i64 ((rd_T70 l0 x32_2).f0), .slice A473_1 ((rd_T70 l0 x32_2).f1).length c473_1] 70 (0, 0)) (by (with_reducible repeat (first | refine blk_drewN ?_ _ | refine blk_drew ?_ | refine blk_alloc ?_ _)); refine blk_put (cs := #[.int .i64 ((rd_T70 l0 x32_2).f0), .slice none 0 0]) ?_ 1 _ rfl; (with_reducible repeat (first | refine blk_drewN ?_ _ | refine blk_drew ?_ | refine blk_alloc ?_ _)); refine blk_put (cs := #[.int .i64 0, .slice none 0 0]) ?_ 0 _ rfl; (with_reducible repeat (first | refine blk_drewN ?_ _ | refine blk_drew ?_ | refine blk_alloc ?_ _)); exact BK474.out) k_ hk_)⟩)) (bs_ HB)); replace HO_3 := Aside0.mk (Kd.N_elder' (nC_ HO_3 (fun k_ hk => hk.2)) (Kd.N_base ho0) hb); replace HO_470000 := Aside0.mk (Kd.N_elder' (nC_ HO_470000 (fun k_ hk => hk.2)) (Kd.N_base ho0) hb); replace BK469 := bK_ BK469 hb; replace BK474 := Aside0.mk (blk_below (g := gb474) (o := .cells #[.int .i64 ((rd_T70 l0 x32_2).f0), .slice A473_1 ((rd_T70 l0 x32_2).f1).length c473_1] 70 (0, 0)) (by (with_reducible repeat (first | refine blk_drewN ?_ _ | refine blk_drew ?_ | refine blk_alloc ?_ _)); refine blk_put (cs := #[.int .i64 ((rd_T70 l0 x32_2).f0), .slice none 0 0]) ?_ 1 _ rfl; (with_reducible repeat (first | refine blk_drewN ?_ _ | refine blk_drew ?_ | refine blk_alloc ?_ _)); refine blk_put (cs := #[.int .i64 0, .slice none 0 0]) ?_ 0 _ rfl; (with_reducible repeat (first | refine blk_drewN ?_ _ | refine blk_drew ?_ | refine blk_alloc ?_ _)); exact BK474.out) hb); replace HB := bS_ HB hb; (try clear hb ho0); obtain ⟨hcz34_0, hcz34_1, hcz34_2, hfz34_0, hfz34_1, hfz34_2⟩ := cz3_ BK469; obtain ⟨Ao35, co35, eo35⟩ := Kd.N_slice HO477.out; subst eo35) | ((with_reducible refine gate_builtin (b := .append) (xs := #[.tmp 60, .tmp 61]) rfl ?_); at_builtin; refine Kd.N_append_rows (Kd.slice 5 (Kd.int .u8)) (w0 := w) w.heap.size rfl (.tmp 60) (.tmp 61) 56 26 (.slice none 0 0) 24 rfl Try.underlying56 info26 rfl (by decide) (by omega) u3 x3_2 t475 _ _ _ (fun k_ => (w.heap.size ≤ k_) ∧ some k_ ≠ (u470000 : Value).ownBlock ∧ k_ ≠ gb469 ∧ k_ ≠ gb474) (fun k_ => ((fun k_ => (w.heap.size ≤ k_) ∧ some k_ ≠ (u470000 : Value).ownBlock ∧ k_ ≠ gb469 ∧ k_ ≠ gb474)) k_ ∧ some k_ ≠ (u3 : Value).ownBlock) rfl rfl ?aO ?aR (fun _ hk => hk) ?aF ?aB ?aS ?aL ?_; (case aR => exact (by skip; exact Kd.N_F (Kd.N_mono (ok' := (fun k_ => ((fun k_ => (w.heap.size ≤ k_) ∧ some k_ ≠ (u470000 : Value).ownBlock ∧ k_ ≠ gb469 ∧ k_ ≠ gb474)) k_ ∧ some k_ ≠ (u3 : Value).ownBlock)) ((Kd.N_far (p := ⟨gb469, 1, none⟩) (Kd.N_mono HO477.out (fun k_ hk => (⟨hk, hk.2.2.2.1⟩ : _ ∧ k_ ≠ gb469))) (fun _ hk => hk.2) (.int .i64 (wrap64 (x470001_2 + (t475.length : Int)))))) (fun k_ hk => ⟨⟨hk.1.1, ⟨hk.1.2.2.1, ⟨hk.1.2.2.2.1, hk.1.2.2.2.2⟩⟩⟩, hk.1.2.1⟩)))); (case aB => exact (bl_ HB)); (case aF => exact (fun k_ hk => ⟨(Nat.le_trans (bs_ HB) hk), Kd.fresh' (Kd.N_lt (nC_ HO_470000 (fun k_ hk => hk.1.1.2.2))) k_ hk, Kd.freshB (g := gb469) (o := .cells #[u470000, .int .i64 (wrap64 (x470001_2 + (t475.length : Int))), .slice none 0 0] 61 (0, 0)) (by (with_reducible repeat (first | refine blk_drewN ?_ _ | refine blk_drew ?_ | refine blk_alloc ?_ _)); refine blk_put (cs := #[u470000, .int .i64 x470001_2, .slice none 0 0]) ?_ 1 _ rfl; (with_reducible repeat (first | refine blk_drewN ?_ _ | refine blk_drew ?_ | refine blk_alloc ?_ _)); exact BK469.out) k_ hk, Kd.freshB (bA_ BK474) k_ hk⟩)); (case aO => exact (Kd.N_mono (nD_ HO_3 (fun k_ hk => hk.1.1.2.2)) (fun _ hk => ⟨hk.1.1.1.1, ⟨hk.1.1.1.2.1, ⟨hk.1.1.1.2.2, hk.1.1.2⟩⟩⟩))); (case aS => exact (bs_ HB)); (case aL => have := LMc27.out; omega); intro v480 w36 ho hb hg hat; rw [← Ny479.out] at ho; replace HO_470000 := Aside0.mk (Kd.N_afterv (ok := (fun k_ => (w.heap.size ≤ k_) ∧ some k_ ≠ (.slice Ao35 t475.length co35 : Value).ownBlock ∧ k_ ≠ gb469 ∧ k_ ≠ gb474)) (Kd.N_mono (nD_ HO_470000 (fun k_ hk => hk.1.1.2.2)) (fun _ hk => ⟨⟨hk.1.1.1.1, ⟨hk.1.2, ⟨hk.1.1.1.2.2, hk.1.1.2⟩⟩⟩, hk.1.1.1.2.1⟩)) hg hat); replace BK469 := Aside0.mk (blk_grown (g := gb469) (o := .cells #[u470000, .int .i64 (wrap64 (x470001_2 + (t475.length : Int))), .slice none 0 0] 61 (0, 0)) (by (with_reducible repeat (first | refine blk_drewN ?_ _ | refine blk_drew ?_ | refine blk_alloc ?_ _)); refine blk_put (cs := #[u470000, .int .i64 x470001_2, .slice none 0 0]) ?_ 1 _ rfl; (with_reducible repeat (first | refine blk_drewN ?_ _ | refine blk_drew ?_ | refine blk_alloc ?_ _)); exact BK469.out) hg (Kd.N_ne HO_3.out BK469.out (by decide))); replace BK474 := Aside0.mk (blk_grown (bA_ BK474) hg (Kd.N_ne HO_3.out BK474.out (by decide))); replace HO477 := Aside0.mk (Kd.N_afterv (ok := (fun k_ => (w.heap.size ≤ k_) ∧ some k_ ≠ (u470000 : Value).ownBlock ∧ k_ ≠ gb469 ∧ k_ ≠ gb474)) (Kd.N_mono (nD_ HO477 (fun k_ hk => hk.2.2.2.1)) (fun _ hk => ⟨⟨hk.1.1, ⟨hk.1.2.2.1, ⟨hk.1.2.2.2.1, hk.1.2.2.2.2⟩⟩⟩, hk.1.2.1⟩)) hg hat); replace HB := Aside0.mk (hb); have HO481 := Aside0.mk (ho); clear HO_3; clear ho hb hg hat))
              (try simp only [Act.put, List.setIfInBounds_toArray, List.set_cons_zero, List.set_cons_succ])
              go_cut [68] (fun v68 wc => ∃ (kq : Nat) (x68_27 : Bool), v68 = .bool x68_27 ∧ Aside0 (wal_Recover.j2 kq l0 y479 x4_2 x32_2 t478 l0 (l0.length : Int) x32_2 x68_27 x470000_2 (wrap64 (x470001_2 + (t475.length : Int))) ((rd_T70 l0 x32_2).f0) ((rd_T70 l0 x32_2).f1) = some (r1, r2, r3, r4, r5)) ∧ Aside0 (kq ≤ k2) ∧ Aside0 (Kd.N (Kd.slice 5 (Kd.int .u8)) 26 wc w.heap.size (fun k_ => (w.heap.size ≤ k_) ∧ some k_ ≠ (u470000 : Value).ownBlock ∧ k_ ≠ gb469 ∧ k_ ≠ gb474) v480 y479) ∧ Aside0 (Kd.N k70 70 wc w.heap.size (fun k_ => (w.heap.size ≤ k_) ∧ some k_ ≠ (v480 : Value).ownBlock ∧ k_ ≠ gb469 ∧ k_ ≠ gb474) u470000 x470000_2) ∧ Aside0 (wc.heap[gb469]? = some (.cells #[u470000, .int .i64 (wrap64 (x470001_2 + (t475.length : Int))), (.slice none 0 0)] 61 (0, 0))) ∧ Aside0 (wc.heap[gb474]? = some (.cells #[.int .i64 ((rd_T70 l0 x32_2).f0), (.slice A473_1 ((rd_T70 l0 x32_2).f1).length c473_1)] 70 (0, 0))) ∧ Aside0 (Below w.heap.size w wc))
              case first =>
               have H := HC28.out
               clear HC28
               by_cases c37 : x32_2 = 0
               ·rw [if_pos c37] at H
                have c37b0 : (x32_2 == 0) = true := beq_iff_eq.mpr c37
                have c37b1 : (x32_2 != 0) = false := bne_eq_false_iff_eq.mpr c37
                clear c37
                (first | rw [c37b0] | (simp only [i64_w, i32_w]; rw [c37b0]) | skip)
                have H' := Aside0.mk H
                clear H
                go_wp2
                go_meet
                case rel => exact ⟨_, (true), (by first | rfl | (simp; done) | (simp [*]; done)), H', ⟨by have := HJ4.out; have := HK2.out; first | omega | exact Nat.le_refl _⟩, ⟨nA_ HO481⟩, ⟨by (with_reducible repeat (first | apply Kd.N_alloc | apply Kd.N_drewN | apply Kd.N_drew)); exact Kd.N_mono HO_470000.out (fun _ hk => ⟨hk.1.1, ⟨hk.2, ⟨hk.1.2.2.1, hk.1.2.2.2⟩⟩⟩)⟩, ⟨bA_ BK469⟩, ⟨bA_ BK474⟩, ⟨bl_ HB⟩⟩
               ·rw [if_neg c37] at H
                have c37b0 : (x32_2 == 0) = false := beq_eq_false_iff_ne.mpr c37
                have c37b1 : (x32_2 != 0) = true := bne_iff_ne.mpr c37
                (first | rw [c37b0] | (simp only [i64_w, i32_w]; rw [c37b0]) | skip)
                have H' := Aside0.mk H
                clear H
                go_wp2
                go_meet
                case rel => exact ⟨_, (decide (t478 > 0)), (by first | rfl | (simp; done) | (simp [*]; done)), H', ⟨by have := HJ4.out; have := HK2.out; first | omega | exact Nat.le_refl _⟩, ⟨nA_ HO481⟩, ⟨by (with_reducible repeat (first | apply Kd.N_alloc | apply Kd.N_drewN | apply Kd.N_drew)); exact Kd.N_mono HO_470000.out (fun _ hk => ⟨hk.1.1, ⟨hk.2, ⟨hk.1.2.2.1, hk.1.2.2.2⟩⟩⟩)⟩, ⟨bA_ BK469⟩, ⟨bA_ BK474⟩, ⟨bl_ HB⟩⟩
              case rest =>
               clear HC28
               try clear c1
               try clear c2
               try clear c2b0
               try clear c2b1
               try clear c2b2
               try clear p2
               try clear c3
               try clear c4
               try clear p4
               try clear q4
               try clear hx4
               try clear qi4
               try clear p6
               try clear c7
               try clear c7b0
               try clear c7b1
               try clear c8
               try clear c8b0
               try clear c8b1
               try clear c10
               try clear c12
               try clear c12b0
               try clear c12b1
               try clear c14
               try clear c14b0
               try clear c15
               try clear c15b0
               try clear c16
               try clear c16b0
               try clear c17
               try clear c17b0
               try clear c17b1
               try clear c19
               try clear c19b0
               try clear c21
               try clear c27
               try clear c30
               try clear c37
               try clear c37b0
               try clear c37b1
               try clear hcz11_0
               try clear hcz11_1
               try clear hcz11_2
               try clear hcz13_0
               try clear hcz13_1
               try clear hcz13_2
               try clear hcz22_0
               try clear hcz22_1
               try clear hcz23_0
               try clear hcz23_1
               try clear hcz23_2
               try clear hcz25_0
               try clear hcz25_1
               try clear hcz25_2
               try clear hcz31_0
               try clear hcz31_1
               try clear hcz32_0
               try clear hcz32_1
               try clear hcz32_2
               try clear hcz34_0
               try clear hcz34_1
               try clear hcz34_2
               try clear hcz4_0
               try clear hcz4_1
               try clear hcz4_2
               try clear hfz11_0
               try clear hfz11_1
               try clear hfz11_2
               try clear hfz13_0
               try clear hfz13_1
               try clear hfz13_2
               try clear hfz22_0
               try clear hfz22_1
               try clear hfz23_0
               try clear hfz23_1
               try clear hfz23_2
               try clear hfz25_0
               try clear hfz25_1
               try clear hfz25_2
               try clear hfz31_0
               try clear hfz31_1
               try clear hfz32_0
               try clear hfz32_1
               try clear hfz32_2
               try clear hfz34_0
               try clear hfz34_1
               try clear hfz34_2
               try clear hfz4_0
               try clear hfz4_1
               try clear hfz4_2
               try clear hx470_0
               try clear hx470_1
               try clear hx472_0
               try clear hx472_1
               try clear hx473_0
               try clear hx473_1
               try clear p2
               try clear p4
               try clear p470
               try clear p472
               try clear p473
               try clear q4
               try clear q470
               try clear q472
               try clear q473
               obtain ⟨kq, x68_27, rfl, HA, HJ27, HO_3, HO_470000, BK469, BK474, HB⟩ := hcut
               cases kq with
               | zero => exact absurd HA.out (by simp [wal_Recover.j2])
               | succ kj27 =>
                have H := HA.out
                clear HA
                simp only [wal_Recover.j2] at H
                have HC38 := Aside0.mk H
                clear H
                go_upto_if 68 with (fail)
                go_cut [] (fun wc => ∃ (kq : Nat) (x470000_37 : List (S70)) (u470000 : Value), Aside0 (wal_Recover.j3 kq l0 y479 x4_2 x32_2 t478 l0 (l0.length : Int) x32_2 x470000_37 (wrap64 (x470001_2 + (t475.length : Int))) ((rd_T70 l0 x32_2).f0) ((rd_T70 l0 x32_2).f1) = some (r1, r2, r3, r4, r5)) ∧ Aside0 (kq ≤ kj27) ∧ Aside0 (Kd.N (Kd.slice 5 (Kd.int .u8)) 26 wc w.heap.size (fun k_ => (w.heap.size ≤ k_) ∧ some k_ ≠ (u470000 : Value).ownBlock ∧ k_ ≠ gb469 ∧ k_ ≠ gb474) v480 y479) ∧ Aside0 (Kd.N k70 70 wc w.heap.size (fun k_ => (w.heap.size ≤ k_) ∧ some k_ ≠ (v480 : Value).ownBlock ∧ k_ ≠ gb469 ∧ k_ ≠ gb474) u470000 x470000_37) ∧ Aside0 (wc.heap[gb469]? = some (.cells #[u470000, .int .i64 (wrap64 (x470001_2 + (t475.length : Int))), (.slice none 0 0)] 61 (0, 0))) ∧ Aside0 (wc.heap[gb474]? = some (.cells #[.int .i64 ((rd_T70 l0 x32_2).f0), (.slice A473_1 ((rd_T70 l0 x32_2).f1).length c473_1)] 70 (0, 0))) ∧ Aside0 (Below w.heap.size w wc))
                case first =>
                 have H := HC38.out
                 clear HC38
                 by_cases c39 : x68_27 = true
                 ·subst c39
                  rw [if_pos rfl] at H
                  by_cases c40 : 0 ≤ t478
                  ·rw [if_pos c40] at H
                   have c40b0 := eq_true c40
                   have c40b1 : decide (0 ≤ t478) = true := decide_eq_true c40
                   clear c40
                   by_cases c41 : t478 ≤ (((rd_T70 l0 x32_2).f1).length : Int)
                   ·rw [if_pos c41] at H
                    have c41b0 := eq_true c41
                    have c41b1 : decide (t478 ≤ (((rd_T70 l0 x32_2).f1).length : Int)) = true := decide_eq_true c41
                    clear c41
                    replace H := Option.bind_eq_some_iff.mp H
                    obtain ⟨t483, A420, H⟩ := H
                    try dsimp only at H
                    have A42 := Aside0.mk A420
                    clear A420
                    by_cases c43 : x470000_2.length < 4398046511104
                    ·rw [if_pos c43] at H
                     have LMc43 := Aside0.mk c43
                     clear c43
                     obtain ⟨y486, hy486⟩ : ∃ y_ : List (S70), y_ = (x470000_2 ++ [(⟨((rd_T70 l0 x32_2).f0), t483⟩ : S70)]) := ⟨_, rfl⟩
                     replace H : (wal_Recover.j3 kj27 l0 y479 x4_2 x32_2 t478 l0 (l0.length : Int) x32_2 y486 (wrap64 (x470001_2 + (t475.length : Int))) ((rd_T70 l0 x32_2).f0) ((rd_T70 l0 x32_2).f1)) = some (r1, r2, r3, r4, r5) := by first | (rw [hy486]; with_reducible exact H) | (have H2_ := (Option.bind_some _ _).symm.trans H; rw [hy486]; with_reducible exact H2_) | (have H2_ := (Option.bind_some _ _).symm.trans H; with_reducible exact H2_) | with_reducible exact H | (rw [hy486]; exact H) | exact H
                     have Ny486 := Aside0.mk hy486
                     clear hy486
                     have H' := Aside0.mk H
                     clear H
                     try go_wp2
                     replace HO_3 := Aside0.mk (Kd.N_drew HO_3.out)
                     replace HO_470000 := Aside0.mk (Kd.N_drew HO_470000.out)
                     replace BK469 := Aside0.mk (blk_drew BK469.out)
                     replace BK474 := Aside0.mk (blk_drew BK474.out)
                     replace HB := Aside0.mk (below_drew1 HB.out)
                     obtain ⟨i045, hi045, _, hsz45, _⟩ := info_parts info5
                     obtain ⟨hcut45, hA45, hC45⟩ := print_take_of (P := Try.prog) (Value.int .u8) 0 26 5 .i64 Try.underlying26 hi045 hsz45 A473_1 c473_1 ((rd_T70 l0 x32_2).f1) t478 (of_decide_eq_true (by first | (with_reducible assumption) | assumption)) (of_decide_eq_true (by first | (with_reducible assumption) | assumption)) HC473_1.out
                     have HR482 := Aside0.mk (Kd.C_of_reads (h1 := fun _ => rfl) (hA45 _ (Kd.reads_of_C HR473_1.out)))
                     have HC482 := Aside0.mk hC45
                     clear hA45 hC45 hi045 hsz45
                     refine start_ (n := 14) (S := fun w' => w'.cell? ⟨gb469, 0, none⟩ = some (u470000) ∧ w'.cell? ⟨gb469, 1, none⟩ = some (.int .i64 (wrap64 (x470001_2 + (t475.length : Int)))) ∧ w'.cell? ⟨gb469, 2, none⟩ = some (.slice none 0 0) ∧ w'.cell? ⟨gb474, 0, none⟩ = some (.int .i64 ((rd_T70 l0 x32_2).f0)) ∧ w'.cell? ⟨gb474, 1, none⟩ = some (.slice A473_1 ((rd_T70 l0 x32_2).f1).length c473_1)) (ds := [13]) #[false, false, false, false, false, false, false, false, false, false, false, false, false, false] (by kernel_rfl) rfl rfl ⟨(blk_cell BK469.out 0).trans rfl, (blk_cell BK469.out 1).trans rfl, (blk_cell BK469.out 2).trans rfl, (blk_cell BK474.out 0).trans rfl, (blk_cell BK474.out 1).trans rfl⟩ (fun hHeld => ?_); refine with_tabW wal_Recover.tab17 wal_Recover.bits17 (fun HT_ HW_ => ?_)
                     generalize wc.drew = w44 at HO_3 HO_470000 BK469 BK474 HB HR482 hHeld ⊢
                     refine pu_ 0 (some 69) HT_ ?_
                     refine pu_ 2 (some 71) HT_ ?_
                     refine pu_ 4 (some 73) HT_ ?_
                     refine pu_ 6 (some 75) HT_ ?_
                     refine tk_ 1 (some 70) HT_ HW_ hHeld ?_
                     refine tk_ 3 (some 72) HT_ HW_ hHeld ?_
                     refine tk_ 5 (some 74) HT_ HW_ hHeld ?_
                     refine pu_ 7 (some 76) HT_ ?_
                     refine on_ 8 (some 77) HT_ (fun K hK => ?_)
                     refine goes_ Try.func75 (by kernel_rfl) rfl #[.slice A473_1 (((rd_T70 l0 x32_2).f1).take (t478 : Int).toNat).length c473_1] (by rfl) rfl rfl (by (try simp only [List.map_toArray, List.map_cons, List.map_nil]); first | done | (rw [show (((rd_T70 l0 x32_2).f1).take (t478 : Int).toNat).length = t478.toNat from (by rw [List.length_take]; have h_ : (t478 : Int) ≤ (((rd_T70 l0 x32_2).f1).length : Int) := of_decide_eq_true (by first | (with_reducible assumption) | assumption); omega)] <;> rfl) | rfl | (simp only [List.length_drop, List.length_take]; rfl)) ?_
                     with_reducible refine (bytes_Clone.calls _ _ (((rd_T70 l0 x32_2).f1).take (t478 : Int).toNat) t483 _ ?_ ?_ A42.out).mono ?_
                     exact cB_ HR482 HB
                     exact HC482.out
                     rintro e w46 ⟨v484, rfl, ho0, hb⟩
                     refine ⟨_, rfl, ?_⟩
                     replace HO_3 := Aside0.mk (Kd.N_elder' (nA_ HO_3) (Kd.R_base ho0) hb)
                     replace HO_470000 := Aside0.mk (Kd.N_elder' (nA_ HO_470000) (Kd.R_base ho0) hb)
                     have HO485 := Aside0.mk (Kd.R_lower (Kd.R_newM (M := fun k_ => (w.heap.size ≤ k_)) ho0 (bs_ HB) (fun k_ h_ => h_)) (bs_ HB))
                     replace BK469 := bK_ BK469 hb
                     replace BK474 := bK_ BK474 hb
                     replace HB := bS_ HB hb
                     (try clear hb ho0)
                     obtain ⟨Ao47, co47, eo47⟩ := Kd.R_slice HO485.out
                     (first | subst eo47 | (injection eo47 with f1_ f2_ f3_; have f4_ := f1_.symm; have f5_ := f3_.symm; clear f1_ f2_ f3_; subst f4_; subst f5_))
                     refine hK.out _ _ ⟨(blk_cell BK469.out 0).trans rfl, (blk_cell BK469.out 1).trans rfl, (blk_cell BK469.out 2).trans rfl, (blk_cell BK474.out 0).trans rfl, (blk_cell BK474.out 1).trans rfl⟩ (fun hHeld => ?_)
                     clear hK K
                     refine norm_ (a' := ?_) ?_ ?_
                     rotate_left
                     ·show Act.put _ (some 77) _ = _
                      simp only [Act.put, List.setIfInBounds_toArray, List.set_cons_zero, List.set_cons_succ, i64_w, i32_w]
                      rfl
                     refine pu_ 9 (some 78) HT_ ?_
                     refine on_ 10 (some 79) HT_ (fun K hK => ?_)
                     refine value_ (w1 := ?_) (v := ?_) (by rfl) rfl ?_ ?_
                     rotate_left 2
                     ·go_simp
                      constructor
                      ·rfl
                      ·rfl
                     refine hK.out _ _ ⟨(blk_cell (blk_alloc BK469.out _) 0).trans rfl, (blk_cell (blk_alloc BK469.out _) 1).trans rfl, (blk_cell (blk_alloc BK469.out _) 2).trans rfl, (blk_cell (blk_alloc BK474.out _) 0).trans rfl, (blk_cell (blk_alloc BK474.out _) 1).trans rfl⟩ (fun hHeld => ?_)
                     clear hK K
                     refine norm_ (a' := ?_) ?_ ?_
                     rotate_left
                     ·show Act.put _ (some 79) _ = _
                      simp only [Act.put, List.setIfInBounds_toArray, List.set_cons_zero, List.set_cons_succ, i64_w, i32_w]
                      rfl
                     refine on_ 11 (some 80) HT_ (fun K hK => ?_)
                     refine Kd.N_append_step k70 (w0 := w) w.heap.size (by rfl) (.tmp 70) (.tmp 79) 59 70 (.agg #[(.int .i64 0), (.slice none 0 0)]) 32 rfl Try.underlying59 info70 rfl (by decide) (by omega) u470000 x470000_2 (⟨((rd_T70 l0 x32_2).f0), t483⟩ : S70) [.int .i64 ((rd_T70 l0 x32_2).f0), .slice Ao47 t483.length co47] (fun k_ => (w.heap.size ≤ k_) ∧ some k_ ≠ (v480 : Value).ownBlock ∧ k_ ≠ gb469 ∧ k_ ≠ gb474) (fun k_ => ((fun k_ => (w.heap.size ≤ k_) ∧ some k_ ≠ (v480 : Value).ownBlock ∧ k_ ≠ gb469 ∧ k_ ≠ gb474)) k_ ∧ some k_ ≠ (u470000 : Value).ownBlock) rfl rfl ?aP (fun _ hk => hk) ?aF ?aO ?aB ?aS ?aL ?_
                     (case aP => exact (k70_mkF _ _ (⟨((rd_T70 l0 x32_2).f0), t483⟩ : S70) (Kd.R_reads' (Kd.R_mono (ok' := (fun k_ => ((fun k_ => (w.heap.size ≤ k_) ∧ some k_ ≠ (v480 : Value).ownBlock ∧ k_ ≠ gb469 ∧ k_ ≠ gb474)) k_ ∧ some k_ ≠ (u470000 : Value).ownBlock)) (Kd.R_types (Kd.R_types (Kd.R_apart' (Kd.R_apart' (HO485.out) (Kd.N_typed HO_3.out) (by decide)) (Kd.N_typed HO_470000.out) (by decide)) BK469.out (by decide)) BK474.out (by decide)) (fun k_ hk => ⟨⟨hk.1.1.1.1.1, ⟨hk.1.1.1.2, ⟨hk.1.2, hk.2⟩⟩⟩, hk.1.1.2⟩))).2.1 (Kd.R_F (Kd.R_mono (ok' := (fun k_ => ((fun k_ => (w.heap.size ≤ k_) ∧ some k_ ≠ (v480 : Value).ownBlock ∧ k_ ≠ gb469 ∧ k_ ≠ gb474)) k_ ∧ some k_ ≠ (u470000 : Value).ownBlock)) (Kd.R_types (Kd.R_types (Kd.R_apart' (Kd.R_apart' (HO485.out) (Kd.N_typed HO_3.out) (by decide)) (Kd.N_typed HO_470000.out) (by decide)) BK469.out (by decide)) BK474.out (by decide)) (fun k_ hk => ⟨⟨hk.1.1.1.1.1, ⟨hk.1.1.1.2, ⟨hk.1.2, hk.2⟩⟩⟩, hk.1.1.2⟩)))))
                     (case aB => exact (bl_ HB))
                     (case aF => exact (fun k_ hk => ⟨(Nat.le_trans (bs_ HB) hk), Kd.fresh' (Kd.N_lt (nA_ HO_3)) k_ hk, Kd.freshB (bA_ BK469) k_ hk, Kd.freshB (bA_ BK474) k_ hk⟩))
                     (case aO => exact (by (with_reducible repeat (first | apply Kd.N_alloc | apply Kd.N_drewN | apply Kd.N_drew)); exact Kd.N_mono HO_470000.out (fun _ hk => ⟨hk.1.1, ⟨hk.1.2.1, ⟨hk.1.2.2.1, hk.1.2.2.2⟩⟩⟩)))
                     (case aS => exact (bs_ HB))
                     (case aL => have := LMc43.out; omega)
                     intro v487 w48 ho hb hg hat
                     rw [← Ny486.out] at ho
                     replace HO_3 := Aside0.mk (Kd.N_afterv (ok := (fun k_ => (w.heap.size ≤ k_) ∧ some k_ ≠ (.slice Ao47 t483.length co47 : Value).ownBlock ∧ k_ ≠ gb469 ∧ k_ ≠ gb474)) (by (with_reducible repeat (first | apply Kd.N_alloc | apply Kd.N_drewN | apply Kd.N_drew)); exact Kd.N_mono HO_3.out (fun _ hk => ⟨⟨hk.1.1, ⟨hk.2, ⟨hk.1.2.2.1, hk.1.2.2.2⟩⟩⟩, hk.1.2.1⟩)) hg hat)
                     replace BK469 := Aside0.mk (blk_grown (bA_ BK469) hg (Kd.N_ne HO_470000.out BK469.out (by decide)))
                     replace BK474 := Aside0.mk (blk_grown (bA_ BK474) hg (Kd.N_away HO_470000.out (fun _ hk => hk.1.2.2.2)))
                     replace HB := Aside0.mk (hb)
                     have HO488 := Aside0.mk (ho)
                     clear HO_470000 HO485
                     clear ho hb hg hat
                     obtain ⟨Ao49, co49, eo49⟩ := Kd.N_slice HO488.out
                     (first | subst eo49 | (injection eo49 with f1_ f2_ f3_; have f4_ := f1_.symm; have f5_ := f3_.symm; clear f1_ f2_ f3_; subst f4_; subst f5_))
                     refine hK.out _ _ ⟨(blk_cell BK469.out 0).trans rfl, (blk_cell BK469.out 1).trans rfl, (blk_cell BK469.out 2).trans rfl, (blk_cell BK474.out 0).trans rfl, (blk_cell BK474.out 1).trans rfl⟩ (fun hHeld => ?_)
                     clear hK K
                     refine norm_ (a' := ?_) ?_ ?_
                     rotate_left
                     ·show Act.put _ (some 80) _ = _
                      simp only [Act.put, List.setIfInBounds_toArray, List.set_cons_zero, List.set_cons_succ, i64_w, i32_w]
                      rfl
                     refine pu_ 12 (some 81) HT_ ?_
                     refine last_ (i := 13) (N := none) #[true, true, true, true, true, true, true, true, true, true, true, true, true, true] rfl rfl (one_of HT_.out (by kernel_rfl)) (by decide) (fun K hK => ?_)
                     have hs50 : w48.cell? ⟨gb469, 0, none⟩ = some (u470000) := (blk_cell BK469.out 0).trans rfl
                     have hfs50 := blk_frozen BK469.out 0
                     have hns50_1 := NB474_469.out
                     have hms50_1 := NB469_474.out
                     refine skip_ (w1 := ?_) (by rfl) rfl ?_ ?_
                     rotate_left
                     ·go_simp
                      rfl
                     refine hK.out _ _ ?_
                     clear hK K
                     refine done_ (done_of HT_.out (by kernel_rfl)) ?_
                     try go_wp2
                     go_meet
                     case rel => exact ⟨_, (y486), (.slice Ao49 y486.length co49), H', ⟨by have := HJ4.out; have := HK2.out; have := HJ27.out; first | omega | exact Nat.le_refl _⟩, ⟨Kd.N_mono (nD_ HO_3 (fun k_ hk => hk.1.2.2.1)) (fun _ hk => ⟨hk.1.1.1, ⟨hk.1.2, ⟨hk.1.1.2.2.1, hk.1.1.2.2.2⟩⟩⟩)⟩, ⟨Kd.N_mono (nD_ HO488 (fun k_ hk => hk.2.2.1)) (fun _ hk => ⟨hk.1.1, ⟨hk.1.2.1, ⟨hk.1.2.2.1, hk.1.2.2.2⟩⟩⟩)⟩, ⟨by (with_reducible repeat (first | refine blk_drewN ?_ _ | refine blk_drew ?_ | refine blk_alloc ?_ _)); refine blk_put (cs := #[u470000, .int .i64 (wrap64 (x470001_2 + (t475.length : Int))), .slice none 0 0]) ?_ 0 _ rfl; (with_reducible repeat (first | refine blk_drewN ?_ _ | refine blk_drew ?_ | refine blk_alloc ?_ _)); exact BK469.out⟩, ⟨bA_ BK474⟩, ⟨bl_ HB⟩⟩
                    ·rw [if_neg c43] at H
                     exact absurd H (by simp)
                   ·rw [if_neg c41] at H
                    exact absurd H (by simp)
                  ·rw [if_neg c40] at H
                   exact absurd H (by simp)
                 ·replace c39 := Bool.eq_false_iff.mpr c39
                  subst c39
                  rw [if_neg (show ¬ (false = true) by decide)] at H
                  have H' := Aside0.mk H
                  clear H
                  go_wp2
                  go_meet
                  case rel => exact ⟨_, (x470000_2), (u470000), H', ⟨by have := HJ4.out; have := HK2.out; have := HJ27.out; first | omega | exact Nat.le_refl _⟩, ⟨nA_ HO_3⟩, ⟨nA_ HO_470000⟩, ⟨bA_ BK469⟩, ⟨bA_ BK474⟩, ⟨bl_ HB⟩⟩
                case rest =>
                 clear HC38
                 try clear c1
                 try clear c2
                 try clear c2b0
                 try clear c2b1
                 try clear c2b2
                 try clear p2
                 try clear c3
                 try clear c4
                 try clear p4
                 try clear q4
                 try clear hx4
                 try clear qi4
                 try clear p6
                 try clear c7
                 try clear c7b0
                 try clear c7b1
                 try clear c8
                 try clear c8b0
                 try clear c8b1
                 try clear c10
                 try clear c12
                 try clear c12b0
                 try clear c12b1
                 try clear c14
                 try clear c14b0
                 try clear c15
                 try clear c15b0
                 try clear c16
                 try clear c16b0
                 try clear c17
                 try clear c17b0
                 try clear c17b1
                 try clear c19
                 try clear c19b0
                 try clear c21
                 try clear c27
                 try clear c30
                 try clear c37
                 try clear c37b0
                 try clear c37b1
                 try clear c39
                 try clear c40
                 try clear c40b0
                 try clear c40b1
                 try clear c41
                 try clear c41b0
                 try clear c41b1
                 try clear c43
                 try clear c47
                 try clear p47
                 try clear q47
                 try clear hx47
                 try clear qi47
                 try clear hcz11_0
                 try clear hcz11_1
                 try clear hcz11_2
                 try clear hcz13_0
                 try clear hcz13_1
                 try clear hcz13_2
                 try clear hcz22_0
                 try clear hcz22_1
                 try clear hcz23_0
                 try clear hcz23_1
                 try clear hcz23_2
                 try clear hcz25_0
                 try clear hcz25_1
                 try clear hcz25_2
                 try clear hcz31_0
                 try clear hcz31_1
                 try clear hcz32_0
                 try clear hcz32_1
                 try clear hcz32_2
                 try clear hcz34_0
                 try clear hcz34_1
                 try clear hcz34_2
                 try clear hcz4_0
                 try clear hcz4_1
                 try clear hcz4_2
                 try clear hfz11_0
                 try clear hfz11_1
                 try clear hfz11_2
                 try clear hfz13_0
                 try clear hfz13_1
                 try clear hfz13_2
                 try clear hfz22_0
                 try clear hfz22_1
                 try clear hfz23_0
                 try clear hfz23_1
                 try clear hfz23_2
                 try clear hfz25_0
                 try clear hfz25_1
                 try clear hfz25_2
                 try clear hfz31_0
                 try clear hfz31_1
                 try clear hfz32_0
                 try clear hfz32_1
                 try clear hfz32_2
                 try clear hfz34_0
                 try clear hfz34_1
                 try clear hfz34_2
                 try clear hfz4_0
                 try clear hfz4_1
                 try clear hfz4_2
                 try clear hx470_0
                 try clear hx470_1
                 try clear hx472_0
                 try clear hx472_1
                 try clear hx473_0
                 try clear hx473_1
                 try clear p2
                 try clear p4
                 try clear p470
                 try clear p472
                 try clear p473
                 try clear p6
                 try clear q4
                 try clear q470
                 try clear q472
                 try clear q473
                 obtain ⟨kq, x470000_37, u470000, HA, HJ37, HO_3, HO_470000, BK469, BK474, HB⟩ := hcut
                 cases kq with
                 | zero => exact absurd HA.out (by simp [wal_Recover.j3])
                 | succ kj37 =>
                  have H := HA.out
                  clear HA
                  simp only [wal_Recover.j3] at H
                  by_cases c51 : t478 < (((rd_T70 l0 x32_2).f1).length : Int)
                  ·rw [if_pos c51] at H
                   have c51b0 : decide (t478 < (((rd_T70 l0 x32_2).f1).length : Int)) = true := decide_eq_true c51
                   clear c51
                   by_cases c52 : (wrap64 (x32_2 + 1)) < (l0.length : Int)
                   ·rw [if_pos c52] at H
                    have c52b0 : decide ((wrap64 (x32_2 + 1)) < (l0.length : Int)) = true := decide_eq_true c52
                    clear c52
                    simp only [Option.some.injEq, Prod.mk.injEq] at H
                    obtain ⟨rfl, rfl, rfl, rfl, rfl⟩ := H
                    have hnb53 := NB474_469.out
                    have hnc53 := NB469_474.out
                    obtain ⟨hcz54_0, hcz54_1, hfz54_0, hfz54_1⟩ := cz2_ BK474
                    have hcz55_0 : wc.cell? ⟨gb469, 0, none⟩ = some (u470000) := (blk_cell BK469.out 0).trans rfl
                    have hcz55_1 : wc.cell? ⟨gb469, 1, none⟩ = some (.int .i64 (wrap64 (x470001_2 + (t475.length : Int)))) := (blk_cell BK469.out 1).trans rfl
                    have hcz55_2 : wc.cell? ⟨gb469, 2, none⟩ = some (.slice none 0 0) := (blk_cell BK469.out 2).trans rfl
                    have hfz55_0 := blk_frozen BK469.out 0
                    have hfz55_1 := blk_frozen BK469.out 1
                    have hfz55_2 := blk_frozen BK469.out 2
                    obtain ⟨Ao56, co56, eo56⟩ := Kd.N_slice HO_470000.out
                    subst eo56
                    go_wp2
                    refine bodyPost_ret (results_ctt rfl _ _ gb469 61 #[.slice Ao56 x470000_37.length co56, .int .i64 (wrap64 (x470001_2 + (t475.length : Int))), .slice none 0 0] (0, 0) _ rfl (by (with_reducible repeat (first | refine blk_drewN ?_ _ | refine blk_drew ?_ | refine blk_alloc ?_ _)); refine blk_put (cs := #[.slice Ao56 x470000_37.length co56, .int .i64 (wrap64 (x470001_2 + (t475.length : Int))), .slice none 0 0]) ?_ 2 _ rfl; (with_reducible repeat (first | refine blk_drewN ?_ _ | refine blk_drew ?_ | refine blk_alloc ?_ _)); refine blk_put (cs := #[.slice Ao56 x470000_37.length co56, .int .i64 (wrap64 (x470001_2 + (t475.length : Int))), .slice none 0 0]) ?_ 1 _ rfl; (with_reducible repeat (first | refine blk_drewN ?_ _ | refine blk_drew ?_ | refine blk_alloc ?_ _)); refine blk_put (cs := #[.slice Ao56 x470000_37.length co56, .int .i64 (wrap64 (x470001_2 + (t475.length : Int))), .slice none 0 0]) ?_ 0 _ rfl; (with_reducible repeat (first | refine blk_drewN ?_ _ | refine blk_drew ?_ | refine blk_alloc ?_ _)); exact BK469.out) Try.underlying61 rfl (by kernel_rfl)) rfl ?_
                    exact ⟨_, _, _, fin_, Kd.N_mono (nD_ HO_470000 (fun k_ hk => hk.2.2.1)) (fun _ hk => ⟨hk.1.1, ⟨(by simp [Value.ownBlock]), hk.1.2.1⟩⟩), nil_, Kd.N_mono (nD_ HO_3 (fun k_ hk => hk.2.2.1)) (fun _ hk => ⟨hk.1.1, ⟨hk.1.2.1, (by simp [Value.ownBlock])⟩⟩), bl_ HB⟩
                   ·rw [if_neg c52] at H
                    have c52b0 : decide ((wrap64 (x32_2 + 1)) < (l0.length : Int)) = false := decide_eq_false c52
                    clear c52
                    simp only [Option.some.injEq, Prod.mk.injEq] at H
                    obtain ⟨rfl, rfl, rfl, rfl, rfl⟩ := H
                    have hnb57 := NB474_469.out
                    have hnc57 := NB469_474.out
                    obtain ⟨hcz58_0, hcz58_1, hfz58_0, hfz58_1⟩ := cz2_ BK474
                    have hcz59_0 : wc.cell? ⟨gb469, 0, none⟩ = some (u470000) := (blk_cell BK469.out 0).trans rfl
                    have hcz59_1 : wc.cell? ⟨gb469, 1, none⟩ = some (.int .i64 (wrap64 (x470001_2 + (t475.length : Int)))) := (blk_cell BK469.out 1).trans rfl
                    have hcz59_2 : wc.cell? ⟨gb469, 2, none⟩ = some (.slice none 0 0) := (blk_cell BK469.out 2).trans rfl
                    have hfz59_0 := blk_frozen BK469.out 0
                    have hfz59_1 := blk_frozen BK469.out 1
                    have hfz59_2 := blk_frozen BK469.out 2
                    obtain ⟨Ao60, co60, eo60⟩ := Kd.N_slice HO_470000.out
                    subst eo60
                    go_wp2
                    refine bodyPost_ret (results_ctt rfl _ _ gb469 61 #[.slice Ao60 x470000_37.length co60, .int .i64 (wrap64 (x470001_2 + (t475.length : Int))), .slice none 0 0] (0, 0) _ rfl (by (with_reducible repeat (first | refine blk_drewN ?_ _ | refine blk_drew ?_ | refine blk_alloc ?_ _)); refine blk_put (cs := #[.slice Ao60 x470000_37.length co60, .int .i64 (wrap64 (x470001_2 + (t475.length : Int))), .slice none 0 0]) ?_ 2 _ rfl; (with_reducible repeat (first | refine blk_drewN ?_ _ | refine blk_drew ?_ | refine blk_alloc ?_ _)); refine blk_put (cs := #[.slice Ao60 x470000_37.length co60, .int .i64 (wrap64 (x470001_2 + (t475.length : Int))), .slice none 0 0]) ?_ 1 _ rfl; (with_reducible repeat (first | refine blk_drewN ?_ _ | refine blk_drew ?_ | refine blk_alloc ?_ _)); refine blk_put (cs := #[.slice Ao60 x470000_37.length co60, .int .i64 (wrap64 (x470001_2 + (t475.length : Int))), .slice none 0 0]) ?_ 0 _ rfl; (with_reducible repeat (first | refine blk_drewN ?_ _ | refine blk_drew ?_ | refine blk_alloc ?_ _)); exact BK469.out) Try.underlying61 rfl (by kernel_rfl)) rfl ?_
                    exact ⟨_, _, _, fin_, Kd.N_mono (nD_ HO_470000 (fun k_ hk => hk.2.2.1)) (fun _ hk => ⟨hk.1.1, ⟨(by simp [Value.ownBlock]), hk.1.2.1⟩⟩), nil_, Kd.N_mono (nD_ HO_3 (fun k_ hk => hk.2.2.1)) (fun _ hk => ⟨hk.1.1, ⟨hk.1.2.1, (by simp [Value.ownBlock])⟩⟩), bl_ HB⟩
                  ·rw [if_neg c51] at H
                   have c51b0 : decide (t478 < (((rd_T70 l0 x32_2).f1).length : Int)) = false := decide_eq_false c51
                   clear c51
                   have H' := Aside0.mk H
                   clear H
                   have hnb61 := NB474_469.out
                   have hnc61 := NB469_474.out
                   obtain ⟨hcz62_0, hcz62_1, hfz62_0, hfz62_1⟩ := cz2_ BK474
                   go_wp2
                   go_roundg kj37
                   case measure => have := HJ4.out; have := HK2.out; have := HJ27.out; have := HJ37.out; omega
                   case rel => exact ⟨(y479), (x4_2), (wrap64 (x32_2 + 1)), (x470000_37), ((wrap64 (x470001_2 + (t475.length : Int)))), (u470000), (by first | rfl | (simp; done) | (simp [*]; done)), (by first | rfl | (simp; done) | (simp [*]; done)), H', ⟨by have := HJ4.out; have := HK2.out; have := HJ27.out; have := HJ37.out; omega⟩, ⟨by (with_reducible repeat (first | apply Kd.N_alloc | apply Kd.N_drewN | apply Kd.N_drew)); exact Kd.N_mono HO_3.out (fun _ hk => ⟨hk.1, ⟨hk.2.1, hk.2.2.1⟩⟩)⟩, ⟨by (with_reducible repeat (first | apply Kd.N_alloc | apply Kd.N_drewN | apply Kd.N_drew)); exact Kd.N_mono HO_470000.out (fun _ hk => ⟨hk.1, ⟨hk.2.1, hk.2.2.1⟩⟩)⟩, ⟨bA_ BK469⟩, ⟨bl_ HB⟩⟩
             ·rw [if_neg c27] at H
              exact absurd H (by simp)
           ·rw [if_neg c17] at H
            have c17b0 : (((rd_T70 l0 x32_2).f0) == x470001_2) = false := beq_eq_false_iff_ne.mpr c17
            have c17b1 : (((rd_T70 l0 x32_2).f0) != x470001_2) = true := bne_iff_ne.mpr c17
            simp only [Option.some.injEq, Prod.mk.injEq] at H
            obtain ⟨rfl, rfl, rfl, rfl, rfl⟩ := H
            have p473 : 0 ≤ (x32_2 : Int) := of_decide_eq_true (by first | (with_reducible assumption) | assumption)
            have q473 : x32_2 < (l0.length : Int) := of_decide_eq_true (by first | (with_reducible assumption) | assumption)
            obtain ⟨ad473, A473_1, c473_1, e473, hx473_0, hx473_1, hl473_1, hi473_1⟩ := at_T70 HR0.out x32_2 p473 q473
            obtain rfl : ad472 = ad473 := (by injection e473)
            replace hx473_0 := (HB.out.cell (World.block_lt_of_cell? w _ hx473_0)).trans hx473_0
            replace hx473_1 := (HB.out.cell (World.block_lt_of_cell? w _ hx473_1)).trans hx473_1
            have HR473_1 := Aside0.mk hi473_1
            have HC473_1 := Aside0.mk hl473_1
            clear hi473_1 hl473_1
            replace p473 := eq_true p473
            replace q473 := eq_true q473
            go_wp2_with (first | ((with_reducible refine gate_dst (N := 6) rfl ?_); refine bx_ 6 #[.int .i64 0, .slice none 0 0] 70 ?_; intro gb474 hg w63 hbox hb; replace HO_3 := Aside0.mk (Kd.N_below (Kd.N_elderB (nA_ HO_3) gb474 (Nat.le_of_eq hg.symm)) hb); replace HO_470000 := Aside0.mk (Kd.N_below (Kd.N_elderB (nA_ HO_470000) gb474 (Nat.le_of_eq hg.symm)) hb); have BK474 := Aside0.mk (hbox); have GW474 := bG_ HB hg; have GE474 := bG_ HB hg; replace HB := bS_ HB hb; have NB469_474 := nL_ BK469 hg; have NB474_469 := nG_ BK469 hg; replace BK469 := bK_ BK469 hb; clear hb hbox hg; have hnb64 := NB474_469.out; have hnc64 := NB469_474.out; obtain ⟨hcz65_0, hcz65_1, hfz65_0, hfz65_1⟩ := cz2_ BK474; obtain ⟨hcz66_0, hcz66_1, hcz66_2, hfz66_0, hfz66_1, hfz66_2⟩ := cz3_ BK469; obtain ⟨Ao67, co67, eo67⟩ := Kd.N_slice HO_470000.out; subst eo67))
            refine bodyPost_ret (results_ctt rfl _ _ gb469 61 #[.slice Ao67 x470000_2.length co67, .int .i64 x470001_2, .slice none 0 0] (0, 0) _ rfl (by (with_reducible repeat (first | refine blk_drewN ?_ _ | refine blk_drew ?_ | refine blk_alloc ?_ _)); refine blk_put (cs := #[.slice Ao67 x470000_2.length co67, .int .i64 x470001_2, .slice none 0 0]) ?_ 2 _ rfl; (with_reducible repeat (first | refine blk_drewN ?_ _ | refine blk_drew ?_ | refine blk_alloc ?_ _)); refine blk_put (cs := #[.slice Ao67 x470000_2.length co67, .int .i64 x470001_2, .slice none 0 0]) ?_ 1 _ rfl; (with_reducible repeat (first | refine blk_drewN ?_ _ | refine blk_drew ?_ | refine blk_alloc ?_ _)); refine blk_put (cs := #[.slice Ao67 x470000_2.length co67, .int .i64 x470001_2, .slice none 0 0]) ?_ 0 _ rfl; (with_reducible repeat (first | refine blk_drewN ?_ _ | refine blk_drew ?_ | refine blk_alloc ?_ _)); refine blk_far ?_ NB469_474.out _; (with_reducible repeat (first | refine blk_drewN ?_ _ | refine blk_drew ?_ | refine blk_alloc ?_ _)); refine blk_far ?_ NB469_474.out _; (with_reducible repeat (first | refine blk_drewN ?_ _ | refine blk_drew ?_ | refine blk_alloc ?_ _)); exact BK469.out) Try.underlying61 rfl (by kernel_rfl)) rfl ?_
            exact ⟨_, _, _, fin_, by (with_reducible repeat (first | apply Kd.N_alloc | apply Kd.N_drewN | apply Kd.N_drew)); exact Kd.N_mono (Kd.N_far (p := ⟨gb469, 2, none⟩) (Kd.N_far (p := ⟨gb469, 1, none⟩) (Kd.N_far (p := ⟨gb469, 0, none⟩) (Kd.N_far (p := ⟨gb474, 1, none⟩) (Kd.N_far (p := ⟨gb474, 0, none⟩) (Kd.N_mono (Kd.N_mono HO_470000.out (fun k_ hk => (⟨hk, hk.2⟩ : _ ∧ k_ ≠ gb474))) (fun k_ hk => (⟨hk, hk.1.1.2.2⟩ : _ ∧ k_ ≠ gb469))) (fun _ hk => hk.1.2) (.int .i64 ((rd_T70 l0 x32_2).f0))) (fun _ hk => hk.1.2) (.slice A473_1 ((rd_T70 l0 x32_2).f1).length c473_1)) (fun _ hk => hk.2) (.slice Ao67 x470000_2.length co67)) (fun _ hk => hk.2) (.int .i64 x470001_2)) (fun _ hk => hk.2) (.slice none 0 0)) (fun _ hk => ⟨hk.1.1.1.1, ⟨(by simp [Value.ownBlock]), hk.1.1.1.2.1⟩⟩), nil_, by (with_reducible repeat (first | apply Kd.N_alloc | apply Kd.N_drewN | apply Kd.N_drew)); exact Kd.N_mono (Kd.N_far (p := ⟨gb469, 2, none⟩) (Kd.N_far (p := ⟨gb469, 1, none⟩) (Kd.N_far (p := ⟨gb469, 0, none⟩) (Kd.N_far (p := ⟨gb474, 1, none⟩) (Kd.N_far (p := ⟨gb474, 0, none⟩) (Kd.N_mono (Kd.N_mono HO_3.out (fun k_ hk => (⟨hk, hk.2⟩ : _ ∧ k_ ≠ gb474))) (fun k_ hk => (⟨hk, hk.1.1.2.2⟩ : _ ∧ k_ ≠ gb469))) (fun _ hk => hk.1.2) (.int .i64 ((rd_T70 l0 x32_2).f0))) (fun _ hk => hk.1.2) (.slice A473_1 ((rd_T70 l0 x32_2).f1).length c473_1)) (fun _ hk => hk.2) (.slice Ao67 x470000_2.length co67)) (fun _ hk => hk.2) (.int .i64 x470001_2)) (fun _ hk => hk.2) (.slice none 0 0)) (fun _ hk => ⟨hk.1.1.1.1, ⟨hk.1.1.1.2.1, (by simp [Value.ownBlock])⟩⟩), bl_ HB⟩
          ·rw [if_neg c16] at H
           exact absurd H (by simp)
         ·rw [if_neg c15] at H
          exact absurd H (by simp)
        ·rw [if_neg c14] at H
         have c14b0 : decide (x32_2 < (l0.length : Int)) = false := decide_eq_false c14
         clear c14
         simp only [Option.some.injEq, Prod.mk.injEq] at H
         obtain ⟨rfl, rfl, rfl, rfl, rfl⟩ := H
         obtain ⟨hcz68_0, hcz68_1, hcz68_2, hfz68_0, hfz68_1, hfz68_2⟩ := cz3_ BK469
         obtain ⟨Ao69, co69, eo69⟩ := Kd.N_slice HO_470000.out
         subst eo69
         go_wp2
         refine bodyPost_ret (results_ctt rfl _ _ gb469 61 #[.slice Ao69 x470000_2.length co69, .int .i64 x470001_2, .slice none 0 0] (0, 0) _ rfl (by (with_reducible repeat (first | refine blk_drewN ?_ _ | refine blk_drew ?_ | refine blk_alloc ?_ _)); refine blk_put (cs := #[.slice Ao69 x470000_2.length co69, .int .i64 x470001_2, .slice none 0 0]) ?_ 2 _ rfl; (with_reducible repeat (first | refine blk_drewN ?_ _ | refine blk_drew ?_ | refine blk_alloc ?_ _)); refine blk_put (cs := #[.slice Ao69 x470000_2.length co69, .int .i64 x470001_2, .slice none 0 0]) ?_ 1 _ rfl; (with_reducible repeat (first | refine blk_drewN ?_ _ | refine blk_drew ?_ | refine blk_alloc ?_ _)); refine blk_put (cs := #[.slice Ao69 x470000_2.length co69, .int .i64 x470001_2, .slice none 0 0]) ?_ 0 _ rfl; (with_reducible repeat (first | refine blk_drewN ?_ _ | refine blk_drew ?_ | refine blk_alloc ?_ _)); exact BK469.out) Try.underlying61 rfl (by kernel_rfl)) rfl ?_
         exact ⟨_, _, _, fin_, Kd.N_mono (nD_ HO_470000 (fun k_ hk => hk.2.2)) (fun _ hk => ⟨hk.1.1, ⟨(by simp [Value.ownBlock]), hk.1.2.1⟩⟩), nil_, Kd.N_mono (nD_ HO_3 (fun k_ hk => hk.2.2)) (fun _ hk => ⟨hk.1.1, ⟨hk.1.2.1, (by simp [Value.ownBlock])⟩⟩), bl_ HB⟩
     ·rw [if_neg c12] at H
      exact absurd H (by simp)
end Go.Proofs.Ytooabchnbmnchaa.Q
