-- Laid by this session's own program (wip/tools) out of the translation; Lean checks it. Thinned, shortened and merged for this claim.
import Derived.Test.YtooabchnbmnchaaQ0
import Derived.Test.YtooabchnbmnchaaSq
import Derived.Test.YtooabchnbmnchaaQ16
import Derived.Test.YtooabchnbmnchaaQ9
import Derived.Test.YtooabchnbmnchaaQ14
namespace Go.Proofs.Ytooabchnbmnchaa.Q
open Go.RowKit Go.Proofs.YtooabchnbmnchaaW.PrintWords Go.Proofs.YtooabchnbmnchaaW.PrintLast Go.Proofs.YtooabchnbmnchaaW.PrintMore
attribute [local go_sem] max2_int min2_int max_two min_two max_three min_three max_four min_four binOp_string_leq binOp_string_geq binOp_string_gtr   -- for this text's walks alone
set_option linter.unusedVariables false
set_option linter.unusedSimpArgs false
def wal_Truncate.l0 : Nat → Int → Int → List (S70) → Int → List (List Int) → Option ((List (S70)) × Int × (List (List Int)) × Int)
 | 0, _, _, _, _, _ => none
 | k + 1, x1, x8, x404000, x404001, x404002 => if (wrap64 (x8 + 1)) < (x404000.length : Int) then (if 0 ≤ (wrap64 (x8 + 1)) then (if ((rd_T70 x404000 (wrap64 (x8 + 1))).f0) ≤ x1 then (wal_Truncate.l0 k x1 (wrap64 (x8 + 1)) x404000 x404001 x404002) else (if 0 ≤ x8 then (if x8 ≤ (x404000.length : Int) then (some ((x404000.drop (x8 : Int).toNat), x404001, x404002, 0)) else (none)) else (none))) else (none)) else (if 0 ≤ x8 then (if x8 ≤ (x404000.length : Int) then (some ((x404000.drop (x8 : Int).toNat), x404001, x404002, 0)) else (none)) else (none))
def wal_Truncate.f (k : Nat) (l0_0 : List (S70)) (a0_1 : Int) (l0_2 : List (List Int)) (a1 : Int) : Option ((List (S70)) × Int × (List (List Int)) × Int) := (wal_own.f k l0_0 a0_1 l0_2).bind fun bt395 => (if bt395.2.2.2 = 0 then (wal_Truncate.l0 k a1 0 bt395.1 bt395.2.1 bt395.2.2.1) else (some (([] : List (S70)), 0, ([] : List (List Int)), bt395.2.2.2)))
theorem wal_Truncate.mono_l : ∀ k, (∀ y0 y1 y2 y3 y4, LeO (wal_Truncate.l0 k y0 y1 y2 y3 y4) (wal_Truncate.l0 (k + 1) y0 y1 y2 y3 y4))
 | 0 => fun _ _ _ _ _ r h => by simp [wal_Truncate.l0] at h
 | k + 1 => by
  have ih0 := wal_Truncate.mono_l k
  ·intro y0 y1 y2 y3 y4
   unfold wal_Truncate.l0
   repeat' first
   | (with_reducible exact ih0 _ _ _ _ _)
   | (with_reducible exact wal_own.mono _ _ _ _)
   | (with_reducible exact LeO.refl _)
   | (with_reducible exact LeO.none _)
   | (with_reducible refine LeO.ite ?_ ?_)
   | (with_reducible refine LeO.bind ?_ (fun _ => ?_))
   | exact ih0 _ _ _ _ _
   | exact wal_own.mono _ _ _ _
   | exact LeO.none _
   | refine LeO.ite ?_ ?_
   | refine LeO.bind ?_ (fun _ => ?_)
theorem wal_Truncate.mono : ∀ a0 a1 a2 a3 k, LeO (wal_Truncate.f k a0 a1 a2 a3) (wal_Truncate.f (k + 1) a0 a1 a2 a3) := by
 intro a0 a1 a2 a3 k
 have ih0 := wal_Truncate.mono_l k
 unfold wal_Truncate.f
 repeat' first
   | (with_reducible exact ih0 _ _ _ _ _)
   | (with_reducible exact wal_own.mono _ _ _ _)
   | (with_reducible exact LeO.refl _)
   | (with_reducible exact LeO.none _)
   | (with_reducible refine LeO.ite ?_ ?_)
   | (with_reducible refine LeO.bind ?_ (fun _ => ?_))
   | exact ih0 _ _ _ _ _
   | exact wal_own.mono _ _ _ _
   | exact LeO.none _
   | refine LeO.ite ?_ ?_
   | refine LeO.bind ?_ (fun _ => ?_)
set_option maxHeartbeats 8000000 in
set_option maxRecDepth 100000 in
theorem wal_Truncate.calls (k : Nat) (A0_0 : Option Addr) (c0_0 : Nat) (l0_0 : List (S70)) (a0_1 : Int) (A0_2 : Option Addr) (c0_2 : Nat) (l0_2 : List (List Int)) (a1 : Int) (r1 : List (S70)) (r2 : Int) (r3 : List (List Int)) (r4 : Int) (w : World) (hr0_0 : Kd.C k70 w A0_0 l0_0.length l0_0) (hc0_0 : l0_0.length ≤ c0_0) (hr0_2 : Kd.C (Kd.slice 5 (Kd.int .u8)) w A0_2 l0_2.length l0_2) (hc0_2 : l0_2.length ≤ c0_2) (h : wal_Truncate.f k l0_0 a0_1 l0_2 a1 = some (r1, r2, r3, r4)) :
  Calls Try.prog 41 #[.agg #[.slice A0_0 l0_0.length c0_0, .int .i64 a0_1, .slice A0_2 l0_2.length c0_2], .int .i64 a1] w fun e w' => ∃ v0_ v2_ : Value, e = .returned (.tuple #[.agg #[v0_, .int .i64 r2, v2_], .int .i64 r4]) ∧ Kd.Q k70 70 w' w.heap.size (fun _ => True) v0_ r1 ∧ Kd.S (Kd.slice 5 (Kd.int .u8)) 26 w' w.heap.size (fun _ => True) v2_ r3 ∧ Below w.heap.size w w' := by
 have hu61 := Try.underlying61
 have HR0_0 := Aside0.mk hr0_0
 have HC0_0 := Aside0.mk hc0_0
 clear hr0_0 hc0_0
 have HR0_2 := Aside0.mk hr0_2
 have HC0_2 := Aside0.mk hc0_2
 clear hr0_2 hc0_2
 have HB := Aside0.mk (Below.refl w.heap.size w)
 have H : ((wal_own.f k l0_0 a0_1 l0_2).bind fun bt395 => (if bt395.2.2.2 = 0 then (wal_Truncate.l0 k a1 0 bt395.1 bt395.2.1 bt395.2.2.1) else (some (([] : List (S70)), 0, ([] : List (List Int)), bt395.2.2.2)))) = some (r1, r2, r3, r4) := h
 clear h
 replace H := Option.bind_eq_some_iff.mp H
 obtain ⟨⟨t395, t398, t399, t402⟩, A30, H⟩ := H
 try dsimp only at H
 have A3 := Aside0.mk A30
 clear A30
 by_cases c4 : t402 = 0
 ·rw [if_pos c4] at H
  have c4b0 : (t402 == 0) = true := beq_iff_eq.mpr c4
  have c4b1 : (t402 != 0) = false := bne_eq_false_iff_eq.mpr c4
  clear c4
  have H' := Aside0.mk H
  clear H
  go_enter Try.func41, Try.ntmps41
  go_wp2_with (first | ((with_reducible refine gate_dst (N := 2) rfl ?_); refine bx_ 2 #[.slice A0_0 l0_0.length c0_0, .int .i64 a0_1, .slice A0_2 l0_2.length c0_2] 61 ?_; intro gb393 hg w5 hbox hb; have BK393 := Aside0.mk (hbox); have GW393 := bG_ HB hg; have GE393 := bG_ HB hg; replace HB := bS_ HB hb; clear hb hbox hg) | ((with_reducible refine gate_dst (N := 4) rfl ?_); refine bx_ 4 #[.slice none 0 0, .int .i64 0, .slice none 0 0] 61 ?_; intro gb394 hg w6 hbox hb; have BK394 := Aside0.mk (hbox); have GW394 := bG_ HB hg; have GE394 := bG_ HB hg; replace HB := bS_ HB hb; have NB393_394 := nL_ BK393 hg; have NB394_393 := nG_ BK393 hg; replace BK393 := bK_ BK393 hb; clear hb hbox hg; have hnb7 := NB393_394.out; have hnc7 := NB394_393.out; obtain ⟨hcz8_0, hcz8_1, hcz8_2, hfz8_0, hfz8_1, hfz8_2⟩ := cz3_ BK393) | ((with_reducible refine gate_callee (f := 66) rfl ?_); refine gL_ (some 11) Try.func66 #[.agg #[.slice A0_0 l0_0.length c0_0, .int .i64 a0_1, .slice A0_2 l0_2.length c0_2]] ?_; (with_reducible refine (wal_own.calls k _ _ l0_0 a0_1 _ _ l0_2 t395 t398 t399 t402 _ ?_ ?_ ?_ ?_ A3.out).mono ?_); exact cB_ HR0_0 HB; exact HC0_0.out; exact cB_ HR0_2 HB; exact HC0_2.out; rintro e w9 ⟨v396, v400, rfl, ho0, ho1, hb⟩; refine ⟨_, rfl, ?_⟩; have HO397 := Aside0.mk (Kd.S_lower ho0 (bs_ HB)); have HO401 := Aside0.mk (Kd.S_lower ho1 (bs_ HB)); replace BK393 := bK_ BK393 hb; replace BK394 := bK_ BK394 hb; replace HB := bS_ HB hb; (try clear hb ho0 ho1)) | ((with_reducible refine gate_dst (N := 6) rfl ?_); refine bx_ 6 #[.slice none 0 0, .int .i64 0, .slice none 0 0] 61 ?_; intro gb403 hg w10 hbox hb; replace HO397 := sB_ HO397 hb; replace HO401 := sB_ HO401 hb; have BK403 := Aside0.mk (hbox); have GW403 := bG_ HB hg; have GE403 := bG_ HB hg; replace HB := bS_ HB hb; have NB393_403 := nL_ BK393 hg; have NB403_393 := nG_ BK393 hg; replace BK393 := bK_ BK393 hb; have NB394_403 := nL_ BK394 hg; have NB403_394 := nG_ BK394 hg; replace BK394 := bK_ BK394 hb; clear hb hbox hg; obtain ⟨Ao11, co11, eo11⟩ := Kd.S_slice HO397.out; subst eo11; have hnb12 := NB403_393.out; have hnc12 := NB393_403.out; have hnb13 := NB403_394.out; have hnc13 := NB394_403.out; obtain ⟨hcz14_0, hcz14_1, hcz14_2, hfz14_0, hfz14_1, hfz14_2⟩ := cz3_ BK403; obtain ⟨Ao15, co15, eo15⟩ := Kd.S_slice HO401.out; subst eo15))
  go_loopg [8] k (fun kq v8 w' => ∃ (x8_1 : Int), v8 = .int .i64 x8_1 ∧ Aside0 (wal_Truncate.l0 kq a1 x8_1 t395 t398 t399 = some (r1, r2, r3, r4)) ∧ Aside0 (kq ≤ k) ∧ Aside0 (Kd.Q k70 70 w' w.heap.size (fun _ => True) (.slice Ao11 t395.length co11) t395) ∧ Aside0 (Kd.S (Kd.slice 5 (Kd.int .u8)) 26 w' w.heap.size (fun _ => True) (.slice Ao15 t399.length co15) t399) ∧ Aside0 (w'.heap[gb393]? = some (.cells #[(.slice A0_0 l0_0.length c0_0), .int .i64 a0_1, (.slice A0_2 l0_2.length c0_2)] 61 (0, 0))) ∧ Aside0 (w'.heap[gb394]? = some (.cells #[(.slice none 0 0), .int .i64 0, (.slice none 0 0)] 61 (0, 0))) ∧ Aside0 (w'.heap[gb403]? = some (.cells #[(.slice Ao11 t395.length co11), .int .i64 t398, (.slice Ao15 t399.length co15)] 61 (0, 0))) ∧ Aside0 (Below w.heap.size w w'))
  case atStart => exact ⟨(0), (by first | rfl | (simp; done) | (simp [*]; done)), H', ⟨Nat.le_refl _⟩, ⟨Kd.Q_of_R ((Kd.S_R (by (with_reducible repeat (first | apply Kd.S_alloc | apply Kd.S_drewN | apply Kd.S_drew)); exact Kd.S_mono (Kd.S_far (p := ⟨gb403, 2, none⟩) (Kd.S_far (p := ⟨gb403, 1, none⟩) (Kd.S_far (p := ⟨gb403, 0, none⟩) (Kd.S_types HO397.out BK403.out (by decide)) (fun _ hk => hk.2) (.slice Ao11 t395.length co11)) (fun _ hk => hk.2) (.int .i64 t398)) (fun _ hk => hk.2) (.slice Ao15 t399.length co15)) (fun _ hk => trivial))))⟩, ⟨by (with_reducible repeat (first | apply Kd.S_alloc | apply Kd.S_drewN | apply Kd.S_drew)); exact Kd.S_mono (Kd.S_far (p := ⟨gb403, 2, none⟩) (Kd.S_far (p := ⟨gb403, 1, none⟩) (Kd.S_far (p := ⟨gb403, 0, none⟩) (Kd.S_types HO401.out BK403.out (by decide)) (fun _ hk => hk.2) (.slice Ao11 t395.length co11)) (fun _ hk => hk.2) (.int .i64 t398)) (fun _ hk => hk.2) (.slice Ao15 t399.length co15)) (fun _ hk => trivial)⟩, ⟨bA_ BK393⟩, ⟨bA_ BK394⟩, ⟨by (with_reducible repeat (first | refine blk_drewN ?_ _ | refine blk_drew ?_ | refine blk_alloc ?_ _)); refine blk_put (cs := #[.slice Ao11 t395.length co11, .int .i64 t398, .slice none 0 0]) ?_ 2 _ rfl; (with_reducible repeat (first | refine blk_drewN ?_ _ | refine blk_drew ?_ | refine blk_alloc ?_ _)); refine blk_put (cs := #[.slice Ao11 t395.length co11, .int .i64 0, .slice none 0 0]) ?_ 1 _ rfl; (with_reducible repeat (first | refine blk_drewN ?_ _ | refine blk_drew ?_ | refine blk_alloc ?_ _)); refine blk_put (cs := #[.slice none 0 0, .int .i64 0, .slice none 0 0]) ?_ 0 _ rfl; (with_reducible repeat (first | refine blk_drewN ?_ _ | refine blk_drew ?_ | refine blk_alloc ?_ _)); exact BK403.out⟩, ⟨bl_ HB⟩⟩
  case round =>
   clear H'
   try clear c1
   try clear p2
   try clear c4
   try clear c4b0
   try clear c4b1
   try clear c6
   try clear c7
   try clear c12
   try clear c13
   try clear hcz14_0
   try clear hcz14_1
   try clear hcz14_2
   try clear hcz8_0
   try clear hcz8_1
   try clear hcz8_2
   try clear hfz14_0
   try clear hfz14_1
   try clear hfz14_2
   try clear hfz8_0
   try clear hfz8_1
   try clear hfz8_2
   obtain ⟨x8_1, rfl, HA, HK1, HO_404000, HO_404002, BK393, BK394, BK403, HB⟩ := hrel
   cases gk with
   | zero => exact absurd HA.out (by simp [wal_Truncate.l0])
   | succ k1 =>
    have H := HA.out
    clear HA
    simp only [wal_Truncate.l0] at H
    by_cases c16 : (wrap64 (x8_1 + 1)) < (t395.length : Int)
    ·rw [if_pos c16] at H
     have c16b0 : decide ((wrap64 (x8_1 + 1)) < (t395.length : Int)) = true := decide_eq_true c16
     clear c16
     obtain ⟨ji17, hji17⟩ : ∃ j_ : Int, (wrap64 (x8_1 + 1)) = j_ := ⟨_, rfl⟩
     replace H : (if 0 ≤ (ji17) then (if ((rd_T70 t395 (ji17)).f0) ≤ a1 then (wal_Truncate.l0 k1 a1 ji17 t395 t398 t399) else (if 0 ≤ x8_1 then (if x8_1 ≤ (t395.length : Int) then (some ((t395.drop (x8_1 : Int).toNat), t398, t399, 0)) else (none)) else (none))) else (none)) = some (r1, r2, r3, r4) := by first | (rw [hji17] at H; exact H) | (simp only [hji17] at H ⊢; exact H)
     (try rw [hji17] at c16b0)
     have hji17w : (IntKind.i64.wrap (x8_1 + 1)) = ji17 := (i64_w _).trans hji17
     by_cases c18 : 0 ≤ (ji17)
     ·rw [if_pos c18] at H
      have c18b0 : decide (0 ≤ (ji17)) = true := decide_eq_true c18
      clear c18
      by_cases c19 : ((rd_T70 t395 (ji17)).f0) ≤ a1
      ·rw [if_pos c19] at H
       have c19b0 : decide (((rd_T70 t395 (ji17)).f0) ≤ a1) = true := decide_eq_true c19
       clear c19
       have H' := Aside0.mk H
       clear H
       have hnb20 := NB403_393.out
       have hnc20 := NB393_403.out
       have hnb21 := NB403_394.out
       have hnc21 := NB394_403.out
       obtain ⟨hcz22_0, hcz22_1, hcz22_2, hfz22_0, hfz22_1, hfz22_2⟩ := cz3_ BK403
       have p404 : 0 ≤ ((ji17) : Int) := of_decide_eq_true (by first | (with_reducible assumption) | assumption)
       have q404 : (ji17) < (t395.length : Int) := of_decide_eq_true (by first | (with_reducible assumption) | assumption)
       obtain ⟨ad404, A404_1, c404_1, e404, hx404_0, hx404_1, hl404_1, hi404_1⟩ := at_T70 (Kd.Q_reads' HO_404000.out).2.2 (ji17) p404 q404
       cases e404
       have HR404_1 := Aside0.mk hi404_1
       have HC404_1 := Aside0.mk hl404_1
       clear hi404_1 hl404_1
       replace p404 := eq_true p404
       replace q404 := eq_true q404
       go_wp2
       go_roundg k1
       case measure => have := HK1.out; omega
       case rel => exact ⟨(ji17), (by first | rfl | (simp; done) | (simp only [← hji17] <;> (first | rfl | simp)) | (simp [*]; done)), H', ⟨by have := HK1.out; omega⟩, ⟨by (with_reducible repeat (first | apply Kd.Q_alloc | apply Kd.Q_drewN | apply Kd.Q_drew)); exact HO_404000.out⟩, ⟨sA_ HO_404002⟩, ⟨bA_ BK393⟩, ⟨bA_ BK394⟩, ⟨bA_ BK403⟩, ⟨bl_ HB⟩⟩
      ·rw [if_neg c19] at H
       have c19b0 : decide (((rd_T70 t395 (ji17)).f0) ≤ a1) = false := decide_eq_false c19
       clear c19
       by_cases c23 : 0 ≤ x8_1
       ·rw [if_pos c23] at H
        have c23b0 := eq_true c23
        have c23b1 : decide (0 ≤ x8_1) = true := decide_eq_true c23
        clear c23
        by_cases c24 : x8_1 ≤ (t395.length : Int)
        ·rw [if_pos c24] at H
         have c24b0 := eq_true c24
         have c24b1 : decide (x8_1 ≤ (t395.length : Int)) = true := decide_eq_true c24
         clear c24
         obtain ⟨y405, hy405⟩ : ∃ y_ : List (S70), y_ = (t395.drop (x8_1 : Int).toNat) := ⟨_, rfl⟩
         replace H : (some (y405, t398, t399, 0)) = some (r1, r2, r3, r4) := by first | (rw [hy405]; with_reducible exact H) | (have H2_ := (Option.bind_some _ _).symm.trans H; rw [hy405]; with_reducible exact H2_) | (have H2_ := (Option.bind_some _ _).symm.trans H; with_reducible exact H2_) | with_reducible exact H | (rw [hy405]; exact H) | exact H
         have Ny405 := Aside0.mk hy405
         clear hy405
         simp only [Option.some.injEq, Prod.mk.injEq] at H
         obtain ⟨rfl, rfl, rfl, rfl⟩ := H
         have hnb25 := NB403_393.out
         have hnc25 := NB393_403.out
         have hnb26 := NB403_394.out
         have hnc26 := NB394_403.out
         obtain ⟨hcz27_0, hcz27_1, hcz27_2, hfz27_0, hfz27_1, hfz27_2⟩ := cz3_ BK403
         have p404 : 0 ≤ ((ji17) : Int) := of_decide_eq_true (by first | (with_reducible assumption) | assumption)
         have q404 : (ji17) < (t395.length : Int) := of_decide_eq_true (by first | (with_reducible assumption) | assumption)
         obtain ⟨ad404, A404_1, c404_1, e404, hx404_0, hx404_1, hl404_1, hi404_1⟩ := at_T70 (Kd.Q_reads' HO_404000.out).2.2 (ji17) p404 q404
         cases e404
         have HR404_1 := Aside0.mk hi404_1
         have HC404_1 := Aside0.mk hl404_1
         clear hi404_1 hl404_1
         replace p404 := eq_true p404
         replace q404 := eq_true q404
         have q28 : (x8_1 : Int) ≤ ((t395.length : Int) : Int) := of_decide_eq_true (by first | (with_reducible assumption) | assumption)
         obtain ⟨i028, hi028, _, hsz28, _⟩ := info_parts info70
         have hcut28 := cut_from (P := Try.prog) 59 70 .i64 Try.underlying59 hi028 2 hsz28 (some ad404) t395.length co11 x8_1 (of_decide_eq_true (by first | (with_reducible assumption) | assumption)) q28
         have hr28 := Kd.Q_drop (k := (x8_1 : Int).toNat) HO_404000.out (by omega)
         obtain ⟨A28, hA28⟩ : ∃ A1, A1 = (if co11 = (x8_1 : Int).toNat then (some ad404) else ((some ad404) : Option Addr).map (·.add ((x8_1 : Int).toNat * 2))) := ⟨_, rfl⟩
         obtain ⟨c28, hc28⟩ : ∃ c1, c1 = co11 - (x8_1 : Int).toNat := ⟨_, rfl⟩
         have hy28 : y405.length = t395.length - (x8_1 : Int).toNat := (by rw [Ny405.out, List.length_drop])
         rw [← Ny405.out] at hr28
         rw [← hy28, ← hA28, ← hc28] at hcut28
         replace hr28 : Kd.Q k70 70 wr w.heap.size (fun _ => True) (.slice A28 y405.length c28) y405 := (by rw [hA28, hc28, hy28]; exact hr28)
         have HE28 : Aside0 ((Value.slice A28 y405.length c28).ownBlock = (.slice (some ad404) t395.length co11 : Value).ownBlock) := ⟨by rw [hA28]; split <;> (first | rfl | (cases ((some ad404) : Option Addr) <;> (first | rfl | (simp [Value.ownBlock, Addr.add]; done) | (simp [Value.ownBlock, Addr.add]; split <;> rfl))))⟩
         clear hy28 hi028 hsz28 HO_404000 hA28 hc28
         have HO407 := Aside0.mk hr28
         clear hr28
         replace q28 := eq_true q28
         have hnb29 := NB394_393.out
         have hnc29 := NB393_394.out
         obtain ⟨hcz30_0, hcz30_1, hcz30_2, hfz30_0, hfz30_1, hfz30_2⟩ := cz3_ BK394
         go_wp2
         refine bodyPost_ret (results_ct rfl _ _ gb394 61 #[.slice A28 y405.length c28, .int .i64 t398, .slice Ao15 t399.length co15] (0, 0) _ rfl (by (with_reducible repeat (first | refine blk_drewN ?_ _ | refine blk_drew ?_ | refine blk_alloc ?_ _)); refine blk_put (cs := #[.slice A28 y405.length c28, .int .i64 t398, .slice none 0 0]) ?_ 2 _ rfl; (with_reducible repeat (first | refine blk_drewN ?_ _ | refine blk_drew ?_ | refine blk_alloc ?_ _)); refine blk_put (cs := #[.slice A28 y405.length c28, .int .i64 0, .slice none 0 0]) ?_ 1 _ rfl; (with_reducible repeat (first | refine blk_drewN ?_ _ | refine blk_drew ?_ | refine blk_alloc ?_ _)); refine blk_put (cs := #[.slice none 0 0, .int .i64 0, .slice none 0 0]) ?_ 0 _ rfl; (with_reducible repeat (first | refine blk_drewN ?_ _ | refine blk_drew ?_ | refine blk_alloc ?_ _)); refine blk_far ?_ NB394_403.out _; (with_reducible repeat (first | refine blk_drewN ?_ _ | refine blk_drew ?_ | refine blk_alloc ?_ _)); exact BK394.out) Try.underlying61 rfl (by kernel_rfl)) rfl ?_
         exact ⟨_, _, by first | rfl | (simp [errW_none, errW_some] <;> rfl) | (simp only [← hji17]; first | rfl | (simp [errW_none, errW_some] <;> rfl)) | (simp [*, errW_none, errW_some] <;> rfl), by (with_reducible repeat (first | apply Kd.Q_alloc | apply Kd.Q_drewN | apply Kd.Q_drew)); exact Kd.Q_mono (Kd.Q_far (p := ⟨gb394, 2, none⟩) (Kd.Q_far (p := ⟨gb394, 1, none⟩) (Kd.Q_far (p := ⟨gb394, 0, none⟩) (Kd.Q_far (p := ⟨gb403, 0, none⟩) (Kd.Q_types (Kd.Q_types HO407.out BK403.out (by decide)) BK394.out (by decide)) (fun _ hk => hk.1.2) (.slice A28 y405.length c28)) (fun _ hk => hk.2) (.slice A28 y405.length c28)) (fun _ hk => hk.2) (.int .i64 t398)) (fun _ hk => hk.2) (.slice Ao15 t399.length co15)) (fun _ hk => trivial), by (with_reducible repeat (first | apply Kd.S_alloc | apply Kd.S_drewN | apply Kd.S_drew)); exact Kd.S_mono (Kd.S_far (p := ⟨gb394, 2, none⟩) (Kd.S_far (p := ⟨gb394, 1, none⟩) (Kd.S_far (p := ⟨gb394, 0, none⟩) (Kd.S_far (p := ⟨gb403, 0, none⟩) (Kd.S_types (Kd.S_types HO_404002.out BK403.out (by decide)) BK394.out (by decide)) (fun _ hk => hk.1.2) (.slice A28 y405.length c28)) (fun _ hk => hk.2) (.slice A28 y405.length c28)) (fun _ hk => hk.2) (.int .i64 t398)) (fun _ hk => hk.2) (.slice Ao15 t399.length co15)) (fun _ hk => trivial), bl_ HB⟩
        ·rw [if_neg c24] at H
         exact absurd H (by simp)
       ·rw [if_neg c23] at H
        exact absurd H (by simp)
     ·rw [if_neg c18] at H
      exact absurd H (by simp)
    ·rw [if_neg c16] at H
     have c16b0 : decide ((wrap64 (x8_1 + 1)) < (t395.length : Int)) = false := decide_eq_false c16
     clear c16
     by_cases c31 : 0 ≤ x8_1
     ·rw [if_pos c31] at H
      have c31b0 := eq_true c31
      have c31b1 : decide (0 ≤ x8_1) = true := decide_eq_true c31
      clear c31
      by_cases c32 : x8_1 ≤ (t395.length : Int)
      ·rw [if_pos c32] at H
       have c32b0 := eq_true c32
       have c32b1 : decide (x8_1 ≤ (t395.length : Int)) = true := decide_eq_true c32
       clear c32
       obtain ⟨y408, hy408⟩ : ∃ y_ : List (S70), y_ = (t395.drop (x8_1 : Int).toNat) := ⟨_, rfl⟩
       replace H : (some (y408, t398, t399, 0)) = some (r1, r2, r3, r4) := by first | (rw [hy408]; with_reducible exact H) | (have H2_ := (Option.bind_some _ _).symm.trans H; rw [hy408]; with_reducible exact H2_) | (have H2_ := (Option.bind_some _ _).symm.trans H; with_reducible exact H2_) | with_reducible exact H | (rw [hy408]; exact H) | exact H
       have Ny408 := Aside0.mk hy408
       clear hy408
       simp only [Option.some.injEq, Prod.mk.injEq] at H
       obtain ⟨rfl, rfl, rfl, rfl⟩ := H
       have hnb33 := NB403_393.out
       have hnc33 := NB393_403.out
       have hnb34 := NB403_394.out
       have hnc34 := NB394_403.out
       obtain ⟨hcz35_0, hcz35_1, hcz35_2, hfz35_0, hfz35_1, hfz35_2⟩ := cz3_ BK403
       have q36 : (x8_1 : Int) ≤ ((t395.length : Int) : Int) := of_decide_eq_true (by first | (with_reducible assumption) | assumption)
       obtain ⟨i036, hi036, _, hsz36, _⟩ := info_parts info70
       have hcut36 := cut_from (P := Try.prog) 59 70 .i64 Try.underlying59 hi036 2 hsz36 Ao11 t395.length co11 x8_1 (of_decide_eq_true (by first | (with_reducible assumption) | assumption)) q36
       have hr36 := Kd.Q_drop (k := (x8_1 : Int).toNat) HO_404000.out (by omega)
       obtain ⟨A36, hA36⟩ : ∃ A1, A1 = (if co11 = (x8_1 : Int).toNat then Ao11 else (Ao11 : Option Addr).map (·.add ((x8_1 : Int).toNat * 2))) := ⟨_, rfl⟩
       obtain ⟨c36, hc36⟩ : ∃ c1, c1 = co11 - (x8_1 : Int).toNat := ⟨_, rfl⟩
       have hy36 : y408.length = t395.length - (x8_1 : Int).toNat := (by rw [Ny408.out, List.length_drop])
       rw [← Ny408.out] at hr36
       rw [← hy36, ← hA36, ← hc36] at hcut36
       replace hr36 : Kd.Q k70 70 wr w.heap.size (fun _ => True) (.slice A36 y408.length c36) y408 := (by rw [hA36, hc36, hy36]; exact hr36)
       have HE36 : Aside0 ((Value.slice A36 y408.length c36).ownBlock = (.slice Ao11 t395.length co11 : Value).ownBlock) := ⟨by rw [hA36]; split <;> (first | rfl | (cases (Ao11 : Option Addr) <;> (first | rfl | (simp [Value.ownBlock, Addr.add]; done) | (simp [Value.ownBlock, Addr.add]; split <;> rfl))))⟩
       clear hy36 hi036 hsz36 HO_404000 hA36 hc36
       have HO410 := Aside0.mk hr36
       clear hr36
       replace q36 := eq_true q36
       have hnb37 := NB394_393.out
       have hnc37 := NB393_394.out
       obtain ⟨hcz38_0, hcz38_1, hcz38_2, hfz38_0, hfz38_1, hfz38_2⟩ := cz3_ BK394
       go_wp2
       refine bodyPost_ret (results_ct rfl _ _ gb394 61 #[.slice A36 y408.length c36, .int .i64 t398, .slice Ao15 t399.length co15] (0, 0) _ rfl (by (with_reducible repeat (first | refine blk_drewN ?_ _ | refine blk_drew ?_ | refine blk_alloc ?_ _)); refine blk_put (cs := #[.slice A36 y408.length c36, .int .i64 t398, .slice none 0 0]) ?_ 2 _ rfl; (with_reducible repeat (first | refine blk_drewN ?_ _ | refine blk_drew ?_ | refine blk_alloc ?_ _)); refine blk_put (cs := #[.slice A36 y408.length c36, .int .i64 0, .slice none 0 0]) ?_ 1 _ rfl; (with_reducible repeat (first | refine blk_drewN ?_ _ | refine blk_drew ?_ | refine blk_alloc ?_ _)); refine blk_put (cs := #[.slice none 0 0, .int .i64 0, .slice none 0 0]) ?_ 0 _ rfl; (with_reducible repeat (first | refine blk_drewN ?_ _ | refine blk_drew ?_ | refine blk_alloc ?_ _)); refine blk_far ?_ NB394_403.out _; (with_reducible repeat (first | refine blk_drewN ?_ _ | refine blk_drew ?_ | refine blk_alloc ?_ _)); exact BK394.out) Try.underlying61 rfl (by kernel_rfl)) rfl ?_
       exact ⟨_, _, fin_, by (with_reducible repeat (first | apply Kd.Q_alloc | apply Kd.Q_drewN | apply Kd.Q_drew)); exact Kd.Q_mono (Kd.Q_far (p := ⟨gb394, 2, none⟩) (Kd.Q_far (p := ⟨gb394, 1, none⟩) (Kd.Q_far (p := ⟨gb394, 0, none⟩) (Kd.Q_far (p := ⟨gb403, 0, none⟩) (Kd.Q_types (Kd.Q_types HO410.out BK403.out (by decide)) BK394.out (by decide)) (fun _ hk => hk.1.2) (.slice A36 y408.length c36)) (fun _ hk => hk.2) (.slice A36 y408.length c36)) (fun _ hk => hk.2) (.int .i64 t398)) (fun _ hk => hk.2) (.slice Ao15 t399.length co15)) (fun _ hk => trivial), by (with_reducible repeat (first | apply Kd.S_alloc | apply Kd.S_drewN | apply Kd.S_drew)); exact Kd.S_mono (Kd.S_far (p := ⟨gb394, 2, none⟩) (Kd.S_far (p := ⟨gb394, 1, none⟩) (Kd.S_far (p := ⟨gb394, 0, none⟩) (Kd.S_far (p := ⟨gb403, 0, none⟩) (Kd.S_types (Kd.S_types HO_404002.out BK403.out (by decide)) BK394.out (by decide)) (fun _ hk => hk.1.2) (.slice A36 y408.length c36)) (fun _ hk => hk.2) (.slice A36 y408.length c36)) (fun _ hk => hk.2) (.int .i64 t398)) (fun _ hk => hk.2) (.slice Ao15 t399.length co15)) (fun _ hk => trivial), bl_ HB⟩
      ·rw [if_neg c32] at H
       exact absurd H (by simp)
     ·rw [if_neg c31] at H
      exact absurd H (by simp)
 ·rw [if_neg c4] at H
  have c4b0 : (t402 == 0) = false := beq_eq_false_iff_ne.mpr c4
  have c4b1 : (t402 != 0) = true := bne_iff_ne.mpr c4
  simp only [Option.some.injEq, Prod.mk.injEq] at H
  obtain ⟨rfl, rfl, rfl, rfl⟩ := H
  go_enter Try.func41, Try.ntmps41
  go_wp2_with (first | ((with_reducible refine gate_dst (N := 2) rfl ?_); refine bx_ 2 #[.slice A0_0 l0_0.length c0_0, .int .i64 a0_1, .slice A0_2 l0_2.length c0_2] 61 ?_; intro gb393 hg w39 hbox hb; have BK393 := Aside0.mk (hbox); have GW393 := bG_ HB hg; have GE393 := bG_ HB hg; replace HB := bS_ HB hb; clear hb hbox hg) | ((with_reducible refine gate_dst (N := 4) rfl ?_); refine bx_ 4 #[.slice none 0 0, .int .i64 0, .slice none 0 0] 61 ?_; intro gb394 hg w40 hbox hb; have BK394 := Aside0.mk (hbox); have GW394 := bG_ HB hg; have GE394 := bG_ HB hg; replace HB := bS_ HB hb; have NB393_394 := nL_ BK393 hg; have NB394_393 := nG_ BK393 hg; replace BK393 := bK_ BK393 hb; clear hb hbox hg; have hnb41 := NB393_394.out; have hnc41 := NB394_393.out; obtain ⟨hcz42_0, hcz42_1, hcz42_2, hfz42_0, hfz42_1, hfz42_2⟩ := cz3_ BK393) | ((with_reducible refine gate_callee (f := 66) rfl ?_); refine gL_ (some 11) Try.func66 #[.agg #[.slice A0_0 l0_0.length c0_0, .int .i64 a0_1, .slice A0_2 l0_2.length c0_2]] ?_; (with_reducible refine (wal_own.calls k _ _ l0_0 a0_1 _ _ l0_2 t395 t398 t399 t402 _ ?_ ?_ ?_ ?_ A3.out).mono ?_); exact cB_ HR0_0 HB; exact HC0_0.out; exact cB_ HR0_2 HB; exact HC0_2.out; rintro e w43 ⟨v396, v400, rfl, ho0, ho1, hb⟩; refine ⟨_, rfl, ?_⟩; have HO397 := Aside0.mk (Kd.S_lower ho0 (bs_ HB)); have HO401 := Aside0.mk (Kd.S_lower ho1 (bs_ HB)); replace BK393 := bK_ BK393 hb; replace BK394 := bK_ BK394 hb; replace HB := bS_ HB hb; (try clear hb ho0 ho1)) | ((with_reducible refine gate_dst (N := 6) rfl ?_); refine bx_ 6 #[.slice none 0 0, .int .i64 0, .slice none 0 0] 61 ?_; intro gb403 hg w44 hbox hb; replace HO397 := sB_ HO397 hb; replace HO401 := sB_ HO401 hb; have BK403 := Aside0.mk (hbox); have GW403 := bG_ HB hg; have GE403 := bG_ HB hg; replace HB := bS_ HB hb; have NB393_403 := nL_ BK393 hg; have NB403_393 := nG_ BK393 hg; replace BK393 := bK_ BK393 hb; have NB394_403 := nL_ BK394 hg; have NB403_394 := nG_ BK394 hg; replace BK394 := bK_ BK394 hb; clear hb hbox hg; obtain ⟨Ao45, co45, eo45⟩ := Kd.S_slice HO397.out; subst eo45; have hnb46 := NB403_393.out; have hnc46 := NB393_403.out; have hnb47 := NB403_394.out; have hnc47 := NB394_403.out; obtain ⟨hcz48_0, hcz48_1, hcz48_2, hfz48_0, hfz48_1, hfz48_2⟩ := cz3_ BK403; obtain ⟨Ao49, co49, eo49⟩ := Kd.S_slice HO401.out; subst eo49; obtain ⟨hcz50_0, hcz50_1, hcz50_2, hfz50_0, hfz50_1, hfz50_2⟩ := cz3_ BK394))
  refine bodyPost_ret (results_ct rfl _ _ gb394 61 #[.slice none 0 0, .int .i64 0, .slice none 0 0] (0, 0) _ rfl (by (with_reducible repeat (first | refine blk_drewN ?_ _ | refine blk_drew ?_ | refine blk_alloc ?_ _)); refine blk_put (cs := #[.slice none 0 0, .int .i64 0, .slice none 0 0]) ?_ 2 _ rfl; (with_reducible repeat (first | refine blk_drewN ?_ _ | refine blk_drew ?_ | refine blk_alloc ?_ _)); refine blk_put (cs := #[.slice none 0 0, .int .i64 0, .slice none 0 0]) ?_ 1 _ rfl; (with_reducible repeat (first | refine blk_drewN ?_ _ | refine blk_drew ?_ | refine blk_alloc ?_ _)); refine blk_put (cs := #[.slice none 0 0, .int .i64 0, .slice none 0 0]) ?_ 0 _ rfl; (with_reducible repeat (first | refine blk_drewN ?_ _ | refine blk_drew ?_ | refine blk_alloc ?_ _)); refine blk_far ?_ NB394_403.out _; (with_reducible repeat (first | refine blk_drewN ?_ _ | refine blk_drew ?_ | refine blk_alloc ?_ _)); refine blk_far ?_ NB394_403.out _; (with_reducible repeat (first | refine blk_drewN ?_ _ | refine blk_drew ?_ | refine blk_alloc ?_ _)); refine blk_far ?_ NB394_403.out _; (with_reducible repeat (first | refine blk_drewN ?_ _ | refine blk_drew ?_ | refine blk_alloc ?_ _)); exact BK394.out) Try.underlying61 rfl (by kernel_rfl)) rfl ?_
  exact ⟨_, _, fin_, Kd.Q_of_R ((Kd.S_R (nil_))), nil_, bl_ HB⟩
end Go.Proofs.Ytooabchnbmnchaa.Q
namespace Go.Proofs.Ytooabchnbmnchaa.Q
open Go.RowKit Go.Proofs.YtooabchnbmnchaaW.PrintWords Go.Proofs.YtooabchnbmnchaaW.PrintLast Go.Proofs.YtooabchnbmnchaaW.PrintMore
attribute [local go_sem] max2_int min2_int max_two min_two max_three min_three max_four min_four binOp_string_leq binOp_string_geq binOp_string_gtr   -- for this text's walks alone
set_option linter.unusedVariables false
set_option linter.unusedSimpArgs false
def wal_Records.l0 : Nat → List (List Int) → List (S70) → Int → Int → List (S70) → Int → List (List Int) → Option ((List (List Int)) × Int × Int)
 | 0, _, _, _, _, _, _, _ => none
 | k + 1, x2, x15, x16, x17, x412000, x412001, x412002 => if x17 < x16 then (if 0 ≤ x17 then (if x17 < (x15.length : Int) then ((wal_records.f k ((rd_T70 x15 x17).f1)).bind fun bt415 => (if x2.length + bt415.1.length < 5864062014805 then (wal_Records.l0 k (x2 ++ bt415.1) x15 x16 (wrap64 (x17 + 1)) x412000 x412001 x412002) else (none))) else (none)) else (none)) else (some (x2, wrap64 (x412001 - (x2.length : Int)), 0))
def wal_Records.f (k : Nat) (l0_0 : List (S70)) (a0_1 : Int) (l0_2 : List (List Int)) : Option ((List (List Int)) × Int × Int) := (wal_Check.f k l0_0 a0_1 l0_2).bind fun t412 => (if t412 = 0 then (wal_Records.l0 k ([] : List (List Int)) l0_0 (l0_0.length : Int) 0 l0_0 a0_1 l0_2) else (some (([] : List (List Int)), 0, t412)))
theorem wal_Records.mono_l : ∀ k, (∀ y0 y1 y2 y3 y4 y5 y6, LeO (wal_Records.l0 k y0 y1 y2 y3 y4 y5 y6) (wal_Records.l0 (k + 1) y0 y1 y2 y3 y4 y5 y6))
 | 0 => fun _ _ _ _ _ _ _ r h => by simp [wal_Records.l0] at h
 | k + 1 => by
  have ih0 := wal_Records.mono_l k
  ·intro y0 y1 y2 y3 y4 y5 y6
   unfold wal_Records.l0
   repeat' first
   | (with_reducible exact ih0 _ _ _ _ _ _ _)
   | (with_reducible exact wal_Check.mono _ _ _ _)
   | (with_reducible exact wal_records.mono _ _)
   | (with_reducible exact LeO.refl _)
   | (with_reducible exact LeO.none _)
   | (with_reducible refine LeO.ite ?_ ?_)
   | (with_reducible refine LeO.bind ?_ (fun _ => ?_))
   | exact ih0 _ _ _ _ _ _ _
   | exact wal_Check.mono _ _ _ _
   | exact wal_records.mono _ _
   | exact LeO.none _
   | refine LeO.ite ?_ ?_
   | refine LeO.bind ?_ (fun _ => ?_)
theorem wal_Records.mono : ∀ a0 a1 a2 k, LeO (wal_Records.f k a0 a1 a2) (wal_Records.f (k + 1) a0 a1 a2) := by
 intro a0 a1 a2 k
 have ih0 := wal_Records.mono_l k
 unfold wal_Records.f
 repeat' first
   | (with_reducible exact ih0 _ _ _ _ _ _ _)
   | (with_reducible exact wal_Check.mono _ _ _ _)
   | (with_reducible exact wal_records.mono _ _)
   | (with_reducible exact LeO.refl _)
   | (with_reducible exact LeO.none _)
   | (with_reducible refine LeO.ite ?_ ?_)
   | (with_reducible refine LeO.bind ?_ (fun _ => ?_))
   | exact ih0 _ _ _ _ _ _ _
   | exact wal_Check.mono _ _ _ _
   | exact wal_records.mono _ _
   | exact LeO.none _
   | refine LeO.ite ?_ ?_
   | refine LeO.bind ?_ (fun _ => ?_)
set_option maxHeartbeats 8000000 in
set_option maxRecDepth 100000 in
theorem wal_Records.calls (k : Nat) (A0_0 : Option Addr) (c0_0 : Nat) (l0_0 : List (S70)) (a0_1 : Int) (A0_2 : Option Addr) (c0_2 : Nat) (l0_2 : List (List Int)) (r1 : List (List Int)) (r2 : Int) (r3 : Int) (w : World) (hr0_0 : Kd.C k70 w A0_0 l0_0.length l0_0) (hc0_0 : l0_0.length ≤ c0_0) (hr0_2 : Kd.C (Kd.slice 5 (Kd.int .u8)) w A0_2 l0_2.length l0_2) (hc0_2 : l0_2.length ≤ c0_2) (h : wal_Records.f k l0_0 a0_1 l0_2 = some (r1, r2, r3)) :
  Calls Try.prog 42 #[.agg #[.slice A0_0 l0_0.length c0_0, .int .i64 a0_1, .slice A0_2 l0_2.length c0_2]] w fun e w' => ∃ v0_ : Value, e = .returned (.tuple #[v0_, .int .i64 r2, .int .i64 r3]) ∧ Kd.N (Kd.slice 5 (Kd.int .u8)) 26 w' w.heap.size (fun k_ => (w.heap.size ≤ k_)) v0_ r1 ∧ Below w.heap.size w w' := by
 have hu61 := Try.underlying61
 have hu70 := Try.underlying70
 have HR0_0 := Aside0.mk hr0_0
 have HC0_0 := Aside0.mk hc0_0
 clear hr0_0 hc0_0
 have HR0_2 := Aside0.mk hr0_2
 have HC0_2 := Aside0.mk hc0_2
 clear hr0_2 hc0_2
 have HB := Aside0.mk (Below.refl w.heap.size w)
 have H : ((wal_Check.f k l0_0 a0_1 l0_2).bind fun t412 => (if t412 = 0 then (wal_Records.l0 k ([] : List (List Int)) l0_0 (l0_0.length : Int) 0 l0_0 a0_1 l0_2) else (some (([] : List (List Int)), 0, t412)))) = some (r1, r2, r3) := h
 clear h
 replace H := Option.bind_eq_some_iff.mp H
 obtain ⟨t412, A20, H⟩ := H
 try dsimp only at H
 have A2 := Aside0.mk A20
 clear A20
 by_cases c3 : t412 = 0
 ·rw [if_pos c3] at H
  have c3b0 : (t412 == 0) = true := beq_iff_eq.mpr c3
  have c3b1 : (t412 != 0) = false := bne_eq_false_iff_eq.mpr c3
  clear c3
  have H' := Aside0.mk H
  clear H
  go_enter Try.func42, Try.ntmps42
  go_wp2_with (first | ((with_reducible refine gate_dst (N := 1) rfl ?_); refine bx_ 1 #[.slice A0_0 l0_0.length c0_0, .int .i64 a0_1, .slice A0_2 l0_2.length c0_2] 61 ?_; intro gb411 hg w4 hbox hb; have BK411 := Aside0.mk (hbox); have GW411 := bG_ HB hg; have GE411 := bG_ HB hg; replace HB := bS_ HB hb; clear hb hbox hg; obtain ⟨hcz5_0, hcz5_1, hcz5_2, hfz5_0, hfz5_1, hfz5_2⟩ := cz3_ BK411) | (go_at_call 47; (with_reducible refine (wal_Check.calls k _ _ l0_0 a0_1 _ _ l0_2 t412 _ ?_ ?_ ?_ ?_ A2.out).mono ?_); exact cB_ HR0_0 HB; exact HC0_0.out; exact cB_ HR0_2 HB; exact HC0_2.out; rintro e w6 ⟨rfl, hb⟩; replace BK411 := bK_ BK411 hb; replace HB := bS_ HB hb; (try clear hb); obtain ⟨hcz7_0, hcz7_1, hcz7_2, hfz7_0, hfz7_1, hfz7_2⟩ := cz3_ BK411))
  repeat (go_quiet (first | ((with_reducible refine gate_dst (N := 1) rfl ?_); refine bx_ 1 #[.slice A0_0 l0_0.length c0_0, .int .i64 a0_1, .slice A0_2 l0_2.length c0_2] 61 ?_; intro gb411 hg w4 hbox hb; have BK411 := Aside0.mk (hbox); have GW411 := bG_ HB hg; have GE411 := bG_ HB hg; replace HB := bS_ HB hb; clear hb hbox hg; obtain ⟨hcz5_0, hcz5_1, hcz5_2, hfz5_0, hfz5_1, hfz5_2⟩ := cz3_ BK411) | (go_at_call 47; (with_reducible refine (wal_Check.calls k _ _ l0_0 a0_1 _ _ l0_2 t412 _ ?_ ?_ ?_ ?_ A2.out).mono ?_); exact cB_ HR0_0 HB; exact HC0_0.out; exact cB_ HR0_2 HB; exact HC0_2.out; rintro e w6 ⟨rfl, hb⟩; replace BK411 := bK_ BK411 hb; replace HB := bS_ HB hb; (try clear hb); obtain ⟨hcz7_0, hcz7_1, hcz7_2, hfz7_0, hfz7_1, hfz7_2⟩ := cz3_ BK411)); try go_wp2_with (first | ((with_reducible refine gate_dst (N := 1) rfl ?_); refine bx_ 1 #[.slice A0_0 l0_0.length c0_0, .int .i64 a0_1, .slice A0_2 l0_2.length c0_2] 61 ?_; intro gb411 hg w4 hbox hb; have BK411 := Aside0.mk (hbox); have GW411 := bG_ HB hg; have GE411 := bG_ HB hg; replace HB := bS_ HB hb; clear hb hbox hg; obtain ⟨hcz5_0, hcz5_1, hcz5_2, hfz5_0, hfz5_1, hfz5_2⟩ := cz3_ BK411) | (go_at_call 47; (with_reducible refine (wal_Check.calls k _ _ l0_0 a0_1 _ _ l0_2 t412 _ ?_ ?_ ?_ ?_ A2.out).mono ?_); exact cB_ HR0_0 HB; exact HC0_0.out; exact cB_ HR0_2 HB; exact HC0_2.out; rintro e w6 ⟨rfl, hb⟩; replace BK411 := bK_ BK411 hb; replace HB := bS_ HB hb; (try clear hb); obtain ⟨hcz7_0, hcz7_1, hcz7_2, hfz7_0, hfz7_1, hfz7_2⟩ := cz3_ BK411)))
  go_loopg [2, 17] k (fun kq v2 v17 w' => ∃ (x2_1 : List (List Int)) (x17_1 : Int), v17 = .int .i64 x17_1 ∧ Aside0 (wal_Records.l0 kq x2_1 l0_0 (l0_0.length : Int) x17_1 l0_0 a0_1 l0_2 = some (r1, r2, r3)) ∧ Aside0 (kq ≤ k) ∧ Aside0 (Kd.N (Kd.slice 5 (Kd.int .u8)) 26 w' w.heap.size (fun k_ => (w.heap.size ≤ k_) ∧ k_ ≠ gb411) v2 x2_1) ∧ Aside0 (w'.heap[gb411]? = some (.cells #[(.slice A0_0 l0_0.length c0_0), .int .i64 a0_1, (.slice A0_2 l0_2.length c0_2)] 61 (0, 0))) ∧ Aside0 (Below w.heap.size w w'))
  case atStart => exact ⟨(([] : List (List Int))), (0), (by first | rfl | (simp; done) | (simp [*]; done)), H', ⟨Nat.le_refl _⟩, ⟨nil_⟩, ⟨bA_ BK411⟩, ⟨bl_ HB⟩⟩
  case round =>
   clear H'
   try clear p2
   try clear c3
   try clear c3b0
   try clear c3b1
   try clear c4
   try clear hcz5_0
   try clear hcz5_1
   try clear hcz5_2
   try clear hcz7_0
   try clear hcz7_1
   try clear hcz7_2
   try clear hfz5_0
   try clear hfz5_1
   try clear hfz5_2
   try clear hfz7_0
   try clear hfz7_1
   try clear hfz7_2
   obtain ⟨x2_1, x17_1, rfl, HA, HK1, HO_2, BK411, HB⟩ := hrel
   cases gk with
   | zero => exact absurd HA.out (by simp [wal_Records.l0])
   | succ k1 =>
    have H := HA.out
    clear HA
    simp only [wal_Records.l0] at H
    by_cases c8 : x17_1 < (l0_0.length : Int)
    ·rw [if_pos c8] at H
     have c8b0 : decide (x17_1 < (l0_0.length : Int)) = true := decide_eq_true c8
     clear c8
     by_cases c9 : 0 ≤ x17_1
     ·rw [if_pos c9] at H
      have c9b0 : decide (0 ≤ x17_1) = true := decide_eq_true c9
      clear c9
      by_cases c10 : x17_1 < (l0_0.length : Int)
      ·rw [if_pos c10] at H
       have c10b0 : decide (x17_1 < (l0_0.length : Int)) = true := decide_eq_true c10
       clear c10
       replace H := Option.bind_eq_some_iff.mp H
       obtain ⟨⟨t415, t418⟩, A110, H⟩ := H
       try dsimp only at H
       have A11 := Aside0.mk A110
       clear A110
       by_cases c12 : x2_1.length + t415.length < 5864062014805
       ·rw [if_pos c12] at H
        have LMc12 := Aside0.mk c12
        clear c12
        obtain ⟨y419, hy419⟩ : ∃ y_ : List (List Int), y_ = (x2_1 ++ t415) := ⟨_, rfl⟩
        replace H : (wal_Records.l0 k1 y419 l0_0 (l0_0.length : Int) (wrap64 (x17_1 + 1)) l0_0 a0_1 l0_2) = some (r1, r2, r3) := by first | (rw [hy419]; with_reducible exact H) | (have H2_ := (Option.bind_some _ _).symm.trans H; rw [hy419]; with_reducible exact H2_) | (have H2_ := (Option.bind_some _ _).symm.trans H; with_reducible exact H2_) | with_reducible exact H | (rw [hy419]; exact H) | exact H
        have Ny419 := Aside0.mk hy419
        clear hy419
        have H' := Aside0.mk H
        clear H
        have p413 : 0 ≤ (x17_1 : Int) := of_decide_eq_true (by first | (with_reducible assumption) | assumption)
        have q413 : x17_1 < (l0_0.length : Int) := of_decide_eq_true (by first | (with_reducible assumption) | assumption)
        obtain ⟨ad413, A413_1, c413_1, e413, hx413_0, hx413_1, hl413_1, hi413_1⟩ := at_T70 HR0_0.out x17_1 p413 q413
        cases e413
        replace hx413_0 := (HB.out.cell (World.block_lt_of_cell? w _ hx413_0)).trans hx413_0
        replace hx413_1 := (HB.out.cell (World.block_lt_of_cell? w _ hx413_1)).trans hx413_1
        have HR413_1 := Aside0.mk hi413_1
        have HC413_1 := Aside0.mk hl413_1
        clear hi413_1 hl413_1
        replace p413 := eq_true p413
        replace q413 := eq_true q413
        go_wp2_with (first | ((with_reducible refine gate_dst (N := 6) rfl ?_); refine bx_ 6 #[.int .i64 0, .slice none 0 0] 70 ?_; intro gb414 hg w13 hbox hb; replace HO_2 := Aside0.mk (Kd.N_below (Kd.N_elderB (nA_ HO_2) gb414 (Nat.le_of_eq hg.symm)) hb); have BK414 := Aside0.mk (hbox); have GW414 := bG_ HB hg; have GE414 := bG_ HB hg; replace HB := bS_ HB hb; have NB411_414 := nL_ BK411 hg; have NB414_411 := nG_ BK411 hg; replace BK411 := bK_ BK411 hb; clear hb hbox hg; have hnb14 := NB414_411.out; have hnc14 := NB411_414.out; obtain ⟨hcz15_0, hcz15_1, hfz15_0, hfz15_1⟩ := cz2_ BK414) | (go_at_call 73; (with_reducible refine (wal_records.calls k1 _ _ ((rd_T70 l0_0 x17_1).f1) t415 t418 _ ?_ ?_ A11.out).mono ?_); exact Kd.C_below HR413_1.out (bl_ HB); exact HC413_1.out; rintro e w16 ⟨v416, rfl, ho0, hb⟩; have HO417 := Aside0.mk (Kd.N_lower (Kd.N_mono (ok' := fun k_ => (w.heap.size ≤ k_) ∧ some k_ ≠ (u2 : Value).ownBlock ∧ k_ ≠ gb411 ∧ k_ ≠ gb414) ho0 (fun k_ hk_ => ⟨(Nat.le_trans (bs_ HB) hk_), (Kd.fresh' (Kd.N_lt (nC_ HO_2 (fun k_ hk => hk.2))) k_ hk_), (Kd.freshB (bA_ BK411) k_ hk_), (Kd.freshB (g := gb414) (o := .cells #[.int .i64 ((rd_T70 l0_0 x17_1).f0), .slice A413_1 ((rd_T70 l0_0 x17_1).f1).length c413_1] 70 (0, 0)) (by (with_reducible repeat (first | refine blk_drewN ?_ _ | refine blk_drew ?_ | refine blk_alloc ?_ _)); refine blk_put (cs := #[.int .i64 ((rd_T70 l0_0 x17_1).f0), .slice none 0 0]) ?_ 1 _ rfl; (with_reducible repeat (first | refine blk_drewN ?_ _ | refine blk_drew ?_ | refine blk_alloc ?_ _)); refine blk_put (cs := #[.int .i64 0, .slice none 0 0]) ?_ 0 _ rfl; (with_reducible repeat (first | refine blk_drewN ?_ _ | refine blk_drew ?_ | refine blk_alloc ?_ _)); exact BK414.out) k_ hk_)⟩)) (bs_ HB)); replace HO_2 := Aside0.mk (Kd.N_elder' (nC_ HO_2 (fun k_ hk => hk.2)) (Kd.N_base ho0) hb); replace BK411 := bK_ BK411 hb; replace BK414 := Aside0.mk (blk_below (g := gb414) (o := .cells #[.int .i64 ((rd_T70 l0_0 x17_1).f0), .slice A413_1 ((rd_T70 l0_0 x17_1).f1).length c413_1] 70 (0, 0)) (by (with_reducible repeat (first | refine blk_drewN ?_ _ | refine blk_drew ?_ | refine blk_alloc ?_ _)); refine blk_put (cs := #[.int .i64 ((rd_T70 l0_0 x17_1).f0), .slice none 0 0]) ?_ 1 _ rfl; (with_reducible repeat (first | refine blk_drewN ?_ _ | refine blk_drew ?_ | refine blk_alloc ?_ _)); refine blk_put (cs := #[.int .i64 0, .slice none 0 0]) ?_ 0 _ rfl; (with_reducible repeat (first | refine blk_drewN ?_ _ | refine blk_drew ?_ | refine blk_alloc ?_ _)); exact BK414.out) hb); replace HB := bS_ HB hb; (try clear hb ho0); obtain ⟨Ao18, co18, eo18⟩ := Kd.N_slice HO417.out; subst eo18) | ((with_reducible refine gate_builtin (b := .append) (xs := #[.tmp 27, .tmp 28]) rfl ?_); at_builtin; refine Kd.N_append_rows (Kd.slice 5 (Kd.int .u8)) (w0 := w) w.heap.size rfl (.tmp 27) (.tmp 28) 56 26 (.slice none 0 0) 24 rfl Try.underlying56 info26 rfl (by decide) (by omega) u2 x2_1 t415 _ _ _ (fun k_ => (w.heap.size ≤ k_) ∧ k_ ≠ gb411 ∧ k_ ≠ gb414) (fun k_ => ((fun k_ => (w.heap.size ≤ k_) ∧ k_ ≠ gb411 ∧ k_ ≠ gb414)) k_ ∧ some k_ ≠ (u2 : Value).ownBlock) rfl rfl ?aO ?aR (fun _ hk => hk) ?aF ?aB ?aS ?aL ?_; (case aR => exact (by skip; exact Kd.N_F (Kd.N_mono (ok' := (fun k_ => ((fun k_ => (w.heap.size ≤ k_) ∧ k_ ≠ gb411 ∧ k_ ≠ gb414)) k_ ∧ some k_ ≠ (u2 : Value).ownBlock)) (HO417.out) (fun k_ hk => ⟨⟨hk.1, ⟨hk.2.2.1, hk.2.2.2⟩⟩, hk.2.1⟩)))); (case aB => exact (bl_ HB)); (case aF => exact (fun k_ hk => ⟨(Nat.le_trans (bs_ HB) hk), Kd.freshB (bA_ BK411) k_ hk, Kd.freshB (bA_ BK414) k_ hk⟩)); (case aO => exact (by (with_reducible repeat (first | apply Kd.N_alloc | apply Kd.N_drewN | apply Kd.N_drew)); exact Kd.N_mono HO_2.out (fun _ hk => ⟨hk.1.1.1, ⟨hk.1.1.2, hk.1.2⟩⟩))); (case aS => exact (bs_ HB)); (case aL => have := LMc12.out; omega); intro v420 w17 ho hb hg hat; rw [← Ny419.out] at ho; replace BK411 := Aside0.mk (blk_grown (bA_ BK411) hg (Kd.N_ne HO_2.out BK411.out (by decide))); replace BK414 := Aside0.mk (blk_grown (bA_ BK414) hg (Kd.N_ne HO_2.out BK414.out (by decide))); replace HO417 := Aside0.mk (Kd.N_afterv (ok := (fun k_ => (w.heap.size ≤ k_) ∧ k_ ≠ gb411 ∧ k_ ≠ gb414)) (by (with_reducible repeat (first | apply Kd.N_alloc | apply Kd.N_drewN | apply Kd.N_drew)); exact Kd.N_mono HO417.out (fun _ hk => ⟨⟨hk.1, ⟨hk.2.2.1, hk.2.2.2⟩⟩, hk.2.1⟩)) hg hat); replace HB := Aside0.mk (hb); have HO421 := Aside0.mk (ho); clear HO_2; clear ho hb hg hat))
        repeat (go_quiet (first | ((with_reducible refine gate_dst (N := 6) rfl ?_); refine bx_ 6 #[.int .i64 0, .slice none 0 0] 70 ?_; intro gb414 hg w13 hbox hb; replace HO_2 := Aside0.mk (Kd.N_below (Kd.N_elderB (nA_ HO_2) gb414 (Nat.le_of_eq hg.symm)) hb); have BK414 := Aside0.mk (hbox); have GW414 := bG_ HB hg; have GE414 := bG_ HB hg; replace HB := bS_ HB hb; have NB411_414 := nL_ BK411 hg; have NB414_411 := nG_ BK411 hg; replace BK411 := bK_ BK411 hb; clear hb hbox hg; have hnb14 := NB414_411.out; have hnc14 := NB411_414.out; obtain ⟨hcz15_0, hcz15_1, hfz15_0, hfz15_1⟩ := cz2_ BK414) | (go_at_call 73; (with_reducible refine (wal_records.calls k1 _ _ ((rd_T70 l0_0 x17_1).f1) t415 t418 _ ?_ ?_ A11.out).mono ?_); exact Kd.C_below HR413_1.out (bl_ HB); exact HC413_1.out; rintro e w16 ⟨v416, rfl, ho0, hb⟩; have HO417 := Aside0.mk (Kd.N_lower (Kd.N_mono (ok' := fun k_ => (w.heap.size ≤ k_) ∧ some k_ ≠ (u2 : Value).ownBlock ∧ k_ ≠ gb411 ∧ k_ ≠ gb414) ho0 (fun k_ hk_ => ⟨(Nat.le_trans (bs_ HB) hk_), (Kd.fresh' (Kd.N_lt (nC_ HO_2 (fun k_ hk => hk.2))) k_ hk_), (Kd.freshB (bA_ BK411) k_ hk_), (Kd.freshB (g := gb414) (o := .cells #[.int .i64 ((rd_T70 l0_0 x17_1).f0), .slice A413_1 ((rd_T70 l0_0 x17_1).f1).length c413_1] 70 (0, 0)) (by (with_reducible repeat (first | refine blk_drewN ?_ _ | refine blk_drew ?_ | refine blk_alloc ?_ _)); refine blk_put (cs := #[.int .i64 ((rd_T70 l0_0 x17_1).f0), .slice none 0 0]) ?_ 1 _ rfl; (with_reducible repeat (first | refine blk_drewN ?_ _ | refine blk_drew ?_ | refine blk_alloc ?_ _)); refine blk_put (cs := #[.int .i64 0, .slice none 0 0]) ?_ 0 _ rfl; (with_reducible repeat (first | refine blk_drewN ?_ _ | refine blk_drew ?_ | refine blk_alloc ?_ _)); exact BK414.out) k_ hk_)⟩)) (bs_ HB)); replace HO_2 := Aside0.mk (Kd.N_elder' (nC_ HO_2 (fun k_ hk => hk.2)) (Kd.N_base ho0) hb); replace BK411 := bK_ BK411 hb; replace BK414 := Aside0.mk (blk_below (g := gb414) (o := .cells #[.int .i64 ((rd_T70 l0_0 x17_1).f0), .slice A413_1 ((rd_T70 l0_0 x17_1).f1).length c413_1] 70 (0, 0)) (by (with_reducible repeat (first | refine blk_drewN ?_ _ | refine blk_drew ?_ | refine blk_alloc ?_ _)); refine blk_put (cs := #[.int .i64 ((rd_T70 l0_0 x17_1).f0), .slice none 0 0]) ?_ 1 _ rfl; (with_reducible repeat (first | refine blk_drewN ?_ _ | refine blk_drew ?_ | refine blk_alloc ?_ _)); refine blk_put (cs := #[.int .i64 0, .slice none 0 0]) ?_ 0 _ rfl; (with_reducible repeat (first | refine blk_drewN ?_ _ | refine blk_drew ?_ | refine blk_alloc ?_ _)); exact BK414.out) hb); replace HB := bS_ HB hb; (try clear hb ho0); obtain ⟨Ao18, co18, eo18⟩ := Kd.N_slice HO417.out; subst eo18) | ((with_reducible refine gate_builtin (b := .append) (xs := #[.tmp 27, .tmp 28]) rfl ?_); at_builtin; refine Kd.N_append_rows (Kd.slice 5 (Kd.int .u8)) (w0 := w) w.heap.size rfl (.tmp 27) (.tmp 28) 56 26 (.slice none 0 0) 24 rfl Try.underlying56 info26 rfl (by decide) (by omega) u2 x2_1 t415 _ _ _ (fun k_ => (w.heap.size ≤ k_) ∧ k_ ≠ gb411 ∧ k_ ≠ gb414) (fun k_ => ((fun k_ => (w.heap.size ≤ k_) ∧ k_ ≠ gb411 ∧ k_ ≠ gb414)) k_ ∧ some k_ ≠ (u2 : Value).ownBlock) rfl rfl ?aO ?aR (fun _ hk => hk) ?aF ?aB ?aS ?aL ?_; (case aR => exact (by skip; exact Kd.N_F (Kd.N_mono (ok' := (fun k_ => ((fun k_ => (w.heap.size ≤ k_) ∧ k_ ≠ gb411 ∧ k_ ≠ gb414)) k_ ∧ some k_ ≠ (u2 : Value).ownBlock)) (HO417.out) (fun k_ hk => ⟨⟨hk.1, ⟨hk.2.2.1, hk.2.2.2⟩⟩, hk.2.1⟩)))); (case aB => exact (bl_ HB)); (case aF => exact (fun k_ hk => ⟨(Nat.le_trans (bs_ HB) hk), Kd.freshB (bA_ BK411) k_ hk, Kd.freshB (bA_ BK414) k_ hk⟩)); (case aO => exact (by (with_reducible repeat (first | apply Kd.N_alloc | apply Kd.N_drewN | apply Kd.N_drew)); exact Kd.N_mono HO_2.out (fun _ hk => ⟨hk.1.1.1, ⟨hk.1.1.2, hk.1.2⟩⟩))); (case aS => exact (bs_ HB)); (case aL => have := LMc12.out; omega); intro v420 w17 ho hb hg hat; rw [← Ny419.out] at ho; replace BK411 := Aside0.mk (blk_grown (bA_ BK411) hg (Kd.N_ne HO_2.out BK411.out (by decide))); replace BK414 := Aside0.mk (blk_grown (bA_ BK414) hg (Kd.N_ne HO_2.out BK414.out (by decide))); replace HO417 := Aside0.mk (Kd.N_afterv (ok := (fun k_ => (w.heap.size ≤ k_) ∧ k_ ≠ gb411 ∧ k_ ≠ gb414)) (by (with_reducible repeat (first | apply Kd.N_alloc | apply Kd.N_drewN | apply Kd.N_drew)); exact Kd.N_mono HO417.out (fun _ hk => ⟨⟨hk.1, ⟨hk.2.2.1, hk.2.2.2⟩⟩, hk.2.1⟩)) hg hat); replace HB := Aside0.mk (hb); have HO421 := Aside0.mk (ho); clear HO_2; clear ho hb hg hat)); try go_wp2_with (first | ((with_reducible refine gate_dst (N := 6) rfl ?_); refine bx_ 6 #[.int .i64 0, .slice none 0 0] 70 ?_; intro gb414 hg w13 hbox hb; replace HO_2 := Aside0.mk (Kd.N_below (Kd.N_elderB (nA_ HO_2) gb414 (Nat.le_of_eq hg.symm)) hb); have BK414 := Aside0.mk (hbox); have GW414 := bG_ HB hg; have GE414 := bG_ HB hg; replace HB := bS_ HB hb; have NB411_414 := nL_ BK411 hg; have NB414_411 := nG_ BK411 hg; replace BK411 := bK_ BK411 hb; clear hb hbox hg; have hnb14 := NB414_411.out; have hnc14 := NB411_414.out; obtain ⟨hcz15_0, hcz15_1, hfz15_0, hfz15_1⟩ := cz2_ BK414) | (go_at_call 73; (with_reducible refine (wal_records.calls k1 _ _ ((rd_T70 l0_0 x17_1).f1) t415 t418 _ ?_ ?_ A11.out).mono ?_); exact Kd.C_below HR413_1.out (bl_ HB); exact HC413_1.out; rintro e w16 ⟨v416, rfl, ho0, hb⟩; have HO417 := Aside0.mk (Kd.N_lower (Kd.N_mono (ok' := fun k_ => (w.heap.size ≤ k_) ∧ some k_ ≠ (u2 : Value).ownBlock ∧ k_ ≠ gb411 ∧ k_ ≠ gb414) ho0 (fun k_ hk_ => ⟨(Nat.le_trans (bs_ HB) hk_), (Kd.fresh' (Kd.N_lt (nC_ HO_2 (fun k_ hk => hk.2))) k_ hk_), (Kd.freshB (bA_ BK411) k_ hk_), (Kd.freshB (g := gb414) (o := .cells #[.int .i64 ((rd_T70 l0_0 x17_1).f0), .slice A413_1 ((rd_T70 l0_0 x17_1).f1).length c413_1] 70 (0, 0)) (by (with_reducible repeat (first | refine blk_drewN ?_ _ | refine blk_drew ?_ | refine blk_alloc ?_ _)); refine blk_put (cs := #[.int .i64 ((rd_T70 l0_0 x17_1).f0), .slice none 0 0]) ?_ 1 _ rfl; (with_reducible repeat (first | refine blk_drewN ?_ _ | refine blk_drew ?_ | refine blk_alloc ?_ _)); refine blk_put (cs := #[.int .i64 0, .slice none 0 0]) ?_ 0 _ rfl; (with_reducible repeat (first | refine blk_drewN ?_ _ | refine blk_drew ?_ | refine blk_alloc ?_ _)); exact BK414.out) k_ hk_)⟩)) (bs_ HB)); replace HO_2 := Aside0.mk (Kd.N_elder' (nC_ HO_2 (fun k_ hk => hk.2)) (Kd.N_base ho0) hb); replace BK411 := bK_ BK411 hb; replace BK414 := Aside0.mk (blk_below (g := gb414) (o := .cells #[.int .i64 ((rd_T70 l0_0 x17_1).f0), .slice A413_1 ((rd_T70 l0_0 x17_1).f1).length c413_1] 70 (0, 0)) (by (with_reducible repeat (first | refine blk_drewN ?_ _ | refine blk_drew ?_ | refine blk_alloc ?_ _)); refine blk_put (cs := #[.int .i64 ((rd_T70 l0_0 x17_1).f0), .slice none 0 0]) ?_ 1 _ rfl; (with_reducible repeat (first | refine blk_drewN ?_ _ | refine blk_drew ?_ | refine blk_alloc ?_ _)); refine blk_put (cs := #[.int .i64 0, .slice none 0 0]) ?_ 0 _ rfl; (with_reducible repeat (first | refine blk_drewN ?_ _ | refine blk_drew ?_ | refine blk_alloc ?_ _)); exact BK414.out) hb); replace HB := bS_ HB hb; (try clear hb ho0); obtain ⟨Ao18, co18, eo18⟩ := Kd.N_slice HO417.out; subst eo18) | ((with_reducible refine gate_builtin (b := .append) (xs := #[.tmp 27, .tmp 28]) rfl ?_); at_builtin; refine Kd.N_append_rows (Kd.slice 5 (Kd.int .u8)) (w0 := w) w.heap.size rfl (.tmp 27) (.tmp 28) 56 26 (.slice none 0 0) 24 rfl Try.underlying56 info26 rfl (by decide) (by omega) u2 x2_1 t415 _ _ _ (fun k_ => (w.heap.size ≤ k_) ∧ k_ ≠ gb411 ∧ k_ ≠ gb414) (fun k_ => ((fun k_ => (w.heap.size ≤ k_) ∧ k_ ≠ gb411 ∧ k_ ≠ gb414)) k_ ∧ some k_ ≠ (u2 : Value).ownBlock) rfl rfl ?aO ?aR (fun _ hk => hk) ?aF ?aB ?aS ?aL ?_; (case aR => exact (by skip; exact Kd.N_F (Kd.N_mono (ok' := (fun k_ => ((fun k_ => (w.heap.size ≤ k_) ∧ k_ ≠ gb411 ∧ k_ ≠ gb414)) k_ ∧ some k_ ≠ (u2 : Value).ownBlock)) (HO417.out) (fun k_ hk => ⟨⟨hk.1, ⟨hk.2.2.1, hk.2.2.2⟩⟩, hk.2.1⟩)))); (case aB => exact (bl_ HB)); (case aF => exact (fun k_ hk => ⟨(Nat.le_trans (bs_ HB) hk), Kd.freshB (bA_ BK411) k_ hk, Kd.freshB (bA_ BK414) k_ hk⟩)); (case aO => exact (by (with_reducible repeat (first | apply Kd.N_alloc | apply Kd.N_drewN | apply Kd.N_drew)); exact Kd.N_mono HO_2.out (fun _ hk => ⟨hk.1.1.1, ⟨hk.1.1.2, hk.1.2⟩⟩))); (case aS => exact (bs_ HB)); (case aL => have := LMc12.out; omega); intro v420 w17 ho hb hg hat; rw [← Ny419.out] at ho; replace BK411 := Aside0.mk (blk_grown (bA_ BK411) hg (Kd.N_ne HO_2.out BK411.out (by decide))); replace BK414 := Aside0.mk (blk_grown (bA_ BK414) hg (Kd.N_ne HO_2.out BK414.out (by decide))); replace HO417 := Aside0.mk (Kd.N_afterv (ok := (fun k_ => (w.heap.size ≤ k_) ∧ k_ ≠ gb411 ∧ k_ ≠ gb414)) (by (with_reducible repeat (first | apply Kd.N_alloc | apply Kd.N_drewN | apply Kd.N_drew)); exact Kd.N_mono HO417.out (fun _ hk => ⟨⟨hk.1, ⟨hk.2.2.1, hk.2.2.2⟩⟩, hk.2.1⟩)) hg hat); replace HB := Aside0.mk (hb); have HO421 := Aside0.mk (ho); clear HO_2; clear ho hb hg hat)))
        go_roundg k1
        case measure => have := HK1.out; omega
        case rel => exact ⟨(y419), (wrap64 (x17_1 + 1)), (by first | rfl | (simp; done) | (simp [*]; done)), H', ⟨by have := HK1.out; omega⟩, ⟨by (with_reducible repeat (first | apply Kd.N_alloc | apply Kd.N_drewN | apply Kd.N_drew)); exact Kd.N_mono HO421.out (fun _ hk => ⟨hk.1, hk.2.1⟩)⟩, ⟨bA_ BK411⟩, ⟨bl_ HB⟩⟩
       ·rw [if_neg c12] at H
        exact absurd H (by simp)
      ·rw [if_neg c10] at H
       exact absurd H (by simp)
     ·rw [if_neg c9] at H
      exact absurd H (by simp)
    ·rw [if_neg c8] at H
     have c8b0 : decide (x17_1 < (l0_0.length : Int)) = false := decide_eq_false c8
     clear c8
     simp only [Option.some.injEq, Prod.mk.injEq] at H
     obtain ⟨rfl, rfl, rfl⟩ := H
     obtain ⟨hcz19_0, hcz19_1, hcz19_2, hfz19_0, hfz19_1, hfz19_2⟩ := cz3_ BK411
     obtain ⟨Ao20, co20, eo20⟩ := Kd.N_slice HO_2.out
     subst eo20
     go_wp2
     repeat (go_quiet (fail); try go_wp2)
     go_ret3
     exact ⟨_, fin_, by (with_reducible repeat (first | apply Kd.N_alloc | apply Kd.N_drewN | apply Kd.N_drew)); exact Kd.N_mono HO_2.out (fun _ hk => hk.1), bl_ HB⟩
 ·rw [if_neg c3] at H
  have c3b0 : (t412 == 0) = false := beq_eq_false_iff_ne.mpr c3
  have c3b1 : (t412 != 0) = true := bne_iff_ne.mpr c3
  simp only [Option.some.injEq, Prod.mk.injEq] at H
  obtain ⟨rfl, rfl, rfl⟩ := H
  go_enter Try.func42, Try.ntmps42
  go_wp2_with (first | ((with_reducible refine gate_dst (N := 1) rfl ?_); refine bx_ 1 #[.slice A0_0 l0_0.length c0_0, .int .i64 a0_1, .slice A0_2 l0_2.length c0_2] 61 ?_; intro gb411 hg w21 hbox hb; have BK411 := Aside0.mk (hbox); have GW411 := bG_ HB hg; have GE411 := bG_ HB hg; replace HB := bS_ HB hb; clear hb hbox hg; obtain ⟨hcz22_0, hcz22_1, hcz22_2, hfz22_0, hfz22_1, hfz22_2⟩ := cz3_ BK411) | (go_at_call 47; (with_reducible refine (wal_Check.calls k _ _ l0_0 a0_1 _ _ l0_2 t412 _ ?_ ?_ ?_ ?_ A2.out).mono ?_); exact cB_ HR0_0 HB; exact HC0_0.out; exact cB_ HR0_2 HB; exact HC0_2.out; rintro e w23 ⟨rfl, hb⟩; replace BK411 := bK_ BK411 hb; replace HB := bS_ HB hb; (try clear hb)))
  repeat (go_quiet (first | ((with_reducible refine gate_dst (N := 1) rfl ?_); refine bx_ 1 #[.slice A0_0 l0_0.length c0_0, .int .i64 a0_1, .slice A0_2 l0_2.length c0_2] 61 ?_; intro gb411 hg w21 hbox hb; have BK411 := Aside0.mk (hbox); have GW411 := bG_ HB hg; have GE411 := bG_ HB hg; replace HB := bS_ HB hb; clear hb hbox hg; obtain ⟨hcz22_0, hcz22_1, hcz22_2, hfz22_0, hfz22_1, hfz22_2⟩ := cz3_ BK411) | (go_at_call 47; (with_reducible refine (wal_Check.calls k _ _ l0_0 a0_1 _ _ l0_2 t412 _ ?_ ?_ ?_ ?_ A2.out).mono ?_); exact cB_ HR0_0 HB; exact HC0_0.out; exact cB_ HR0_2 HB; exact HC0_2.out; rintro e w23 ⟨rfl, hb⟩; replace BK411 := bK_ BK411 hb; replace HB := bS_ HB hb; (try clear hb))); try go_wp2_with (first | ((with_reducible refine gate_dst (N := 1) rfl ?_); refine bx_ 1 #[.slice A0_0 l0_0.length c0_0, .int .i64 a0_1, .slice A0_2 l0_2.length c0_2] 61 ?_; intro gb411 hg w21 hbox hb; have BK411 := Aside0.mk (hbox); have GW411 := bG_ HB hg; have GE411 := bG_ HB hg; replace HB := bS_ HB hb; clear hb hbox hg; obtain ⟨hcz22_0, hcz22_1, hcz22_2, hfz22_0, hfz22_1, hfz22_2⟩ := cz3_ BK411) | (go_at_call 47; (with_reducible refine (wal_Check.calls k _ _ l0_0 a0_1 _ _ l0_2 t412 _ ?_ ?_ ?_ ?_ A2.out).mono ?_); exact cB_ HR0_0 HB; exact HC0_0.out; exact cB_ HR0_2 HB; exact HC0_2.out; rintro e w23 ⟨rfl, hb⟩; replace BK411 := bK_ BK411 hb; replace HB := bS_ HB hb; (try clear hb))))
  go_ret3
  exact ⟨_, fin_, nil_, bl_ HB⟩
end Go.Proofs.Ytooabchnbmnchaa.Q
