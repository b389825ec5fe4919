-- Laid by this session's own program (wip/tools) out of the translation; Lean checks it. Thinned, shortened and merged for this claim.
import Derived.Test.YtooabchnbmnchaaQ131
namespace Go.Proofs.Ytooabchnbmnchaa.Q
open Go.RowKit Go.Proofs.YtooabchnbmnchaaW.PrintWords Go.Proofs.YtooabchnbmnchaaW.PrintLast Go.Proofs.YtooabchnbmnchaaW.PrintMore
attribute [local go_sem] max2_int min2_int max_two min_two max_three min_three max_four min_four binOp_string_leq binOp_string_geq binOp_string_gtr   -- for this text's walks alone
set_option linter.unusedVariables false
set_option linter.unusedSimpArgs false
set_option maxHeartbeats 8000000 in
set_option maxRecDepth 100000 in
theorem node_Split.calls_F (k : Nat) (a0_0 : Bool) (A0_1 : Option Addr) (c0_1 : Nat) (l0_1 : List ByteArray) (A0_2 : Option Addr) (c0_2 : Nat) (l0_2 : List ByteArray) (A0_3 : Option Addr) (c0_3 : Nat) (l0_3 : List Int) (r1 : Bool) (r2 : List ByteArray) (r3 : List ByteArray) (r4 : List Int) (r5 : ByteArray) (r6 : Bool) (r7 : List ByteArray) (r8 : List ByteArray) (r9 : List Int) (r10 : Int) (w : World) (hr0_1 : Kd.C Kd.string w A0_1 l0_1.length l0_1) (hc0_1 : l0_1.length ≤ c0_1) (hr0_2 : Kd.C Kd.string w A0_2 l0_2.length l0_2) (hc0_2 : l0_2.length ≤ c0_2) (hr0_3 : Kd.C (Kd.int .i64) w A0_3 l0_3.length l0_3) (hc0_3 : l0_3.length ≤ c0_3) (hC_ : ¬ a0_0 = true) (h : node_Split.f k a0_0 l0_1 l0_2 l0_3 = some (r1, r2, r3, r4, r5, r6, r7, r8, r9, r10)) :
  Calls Try.prog 22 #[.agg #[.bool a0_0, .slice A0_1 l0_1.length c0_1, .slice A0_2 l0_2.length c0_2, .slice A0_3 l0_3.length c0_3]] w fun e w' => ∃ v1_ v2_ v3_ v6_ v7_ v8_ : Value, e = .returned (.tuple #[.agg #[.bool r1, v1_, v2_, v3_], .string r5, .agg #[.bool r6, v6_, v7_, v8_], .int .i64 r10]) ∧ Kd.R Kd.string 9 w' w.heap.size (fun k_ => some k_ ≠ (v2_ : Value).ownBlock ∧ some k_ ≠ (v6_ : Value).ownBlock ∧ some k_ ≠ (v7_ : Value).ownBlock) v1_ r2 ∧ Kd.R Kd.string 9 w' w.heap.size (fun k_ => some k_ ≠ (v1_ : Value).ownBlock ∧ some k_ ≠ (v6_ : Value).ownBlock ∧ some k_ ≠ (v7_ : Value).ownBlock) v2_ r3 ∧ Kd.R (Kd.int .i64) 3 w' w.heap.size (fun k_ => some k_ ≠ (v8_ : Value).ownBlock) v3_ r4 ∧ Kd.R Kd.string 9 w' w.heap.size (fun k_ => some k_ ≠ (v1_ : Value).ownBlock ∧ some k_ ≠ (v2_ : Value).ownBlock ∧ some k_ ≠ (v7_ : Value).ownBlock) v6_ r7 ∧ Kd.R Kd.string 9 w' w.heap.size (fun k_ => some k_ ≠ (v1_ : Value).ownBlock ∧ some k_ ≠ (v2_ : Value).ownBlock ∧ some k_ ≠ (v6_ : Value).ownBlock) v7_ r8 ∧ Kd.R (Kd.int .i64) 3 w' w.heap.size (fun k_ => some k_ ≠ (v3_ : Value).ownBlock) v8_ r9 ∧ Below w.heap.size w w' := by
 have HC_ := Aside0.mk hC_
 clear hC_
 have hu31 := Try.underlying31
 have HR0_1 := Aside0.mk hr0_1
 have HC0_1 := Aside0.mk hc0_1
 clear hr0_1 hc0_1
 have HR0_2 := Aside0.mk hr0_2
 have HC0_2 := Aside0.mk hc0_2
 clear hr0_2 hc0_2
 have HR0_3 := Aside0.mk hr0_3
 have HC0_3 := Aside0.mk hc0_3
 clear hr0_3 hc0_3
 have HB := Aside0.mk (Below.refl w.heap.size w)
 have H : ((node_Check.f k a0_0 l0_1 l0_2 l0_3).bind fun t204 => (if t204 = 0 then (if a0_0 = true then (node_Split.j0 k 2 0 a0_0 l0_1 l0_2 l0_3) else (node_Split.j0 k 3 1 a0_0 l0_1 l0_2 l0_3)) else (some (false, ([] : List ByteArray), ([] : List ByteArray), ([] : List Int), (⟨#[]⟩ : ByteArray), false, ([] : List ByteArray), ([] : List ByteArray), ([] : List Int), t204)))) = some (r1, r2, r3, r4, r5, r6, r7, r8, r9, r10) := h
 clear h
 replace H := Option.bind_eq_some_iff.mp H
 obtain ⟨t204, A20, H⟩ := H
 try dsimp only at H
 have A2 := Aside0.mk A20
 clear A20
 by_cases c3 : t204 = 0
 ·rw [if_pos c3] at H
  have c3b0 : (t204 == 0) = true := beq_iff_eq.mpr c3
  have c3b1 : (t204 != 0) = false := bne_eq_false_iff_eq.mpr c3
  clear c3
  have HC4 := Aside0.mk H
  clear H
  go_enter Try.func22, Try.ntmps22
  go_upto_if 22 with (first | ((with_reducible refine gate_dst (N := 1) rfl ?_); refine bx_ 1 #[.bool a0_0, .slice A0_1 l0_1.length c0_1, .slice A0_2 l0_2.length c0_2, .slice A0_3 l0_3.length c0_3] 31 ?_; intro gb201 hg w5 hbox hb; have BK201 := Aside0.mk (hbox); have GW201 := bG_ HB hg; have GE201 := bG_ HB hg; replace HB := bS_ HB hb; clear hb hbox hg) | ((with_reducible refine gate_dst (N := 2) rfl ?_); refine bx_ 2 #[.bool false, .slice none 0 0, .slice none 0 0, .slice none 0 0] 31 ?_; intro gb202 hg w6 hbox hb; have BK202 := Aside0.mk (hbox); have GW202 := bG_ HB hg; have GE202 := bG_ HB hg; replace HB := bS_ HB hb; have NB201_202 := nL_ BK201 hg; have NB202_201 := nG_ BK201 hg; replace BK201 := bK_ BK201 hb; clear hb hbox hg) | ((with_reducible refine gate_dst (N := 4) rfl ?_); refine bx_ 4 #[.bool false, .slice none 0 0, .slice none 0 0, .slice none 0 0] 31 ?_; intro gb203 hg w7 hbox hb; have BK203 := Aside0.mk (hbox); have GW203 := bG_ HB hg; have GE203 := bG_ HB hg; replace HB := bS_ HB hb; have NB201_203 := nL_ BK201 hg; have NB203_201 := nG_ BK201 hg; replace BK201 := bK_ BK201 hb; have NB202_203 := nL_ BK202 hg; have NB203_202 := nG_ BK202 hg; replace BK202 := bK_ BK202 hb; clear hb hbox hg; have hnb8 := NB201_202.out; have hnc8 := NB202_201.out; have hnb9 := NB201_203.out; have hnc9 := NB203_201.out; obtain ⟨hcz10_0, hcz10_1, hcz10_2, hcz10_3, hfz10_0, hfz10_1, hfz10_2, hfz10_3⟩ := cz4_ BK201) | ((with_reducible refine gate_callee (f := 25) rfl ?_); refine gL_ (some 14) Try.func25 #[.agg #[.bool a0_0, .slice A0_1 l0_1.length c0_1, .slice A0_2 l0_2.length c0_2, .slice A0_3 l0_3.length c0_3]] ?_; (with_reducible refine (node_Check.calls k a0_0 _ _ l0_1 _ _ l0_2 _ _ l0_3 t204 _ ?_ ?_ ?_ ?_ ?_ ?_ A2.out).mono ?_); exact cB_ HR0_1 HB; exact HC0_1.out; exact cB_ HR0_2 HB; exact HC0_2.out; exact cB_ HR0_3 HB; exact HC0_3.out; rintro e w11 ⟨rfl, hb⟩; refine ⟨_, rfl, ?_⟩; replace BK201 := bK_ BK201 hb; replace BK202 := bK_ BK202 hb; replace BK203 := bK_ BK203 hb; replace HB := bS_ HB hb; (try clear hb); obtain ⟨hcz12_0, hcz12_1, hcz12_2, hcz12_3, hfz12_0, hfz12_1, hfz12_2, hfz12_3⟩ := cz4_ BK201))
  (try simp only [Act.put, List.setIfInBounds_toArray, List.set_cons_zero, List.set_cons_succ])
  go_cut [7, 8] (fun v7 v8 wc => ∃ (kq : Nat) (x7_3 : Int) (x8_3 : Int), v7 = .int .i64 x7_3 ∧ v8 = .int .i64 x8_3 ∧ Aside0 (node_Split.j0 kq x7_3 x8_3 a0_0 l0_1 l0_2 l0_3 = some (r1, r2, r3, r4, r5, r6, r7, r8, r9, r10)) ∧ Aside0 (kq ≤ k) ∧ Aside0 (wc.heap[gb201]? = some (.cells #[.bool a0_0, (.slice A0_1 l0_1.length c0_1), (.slice A0_2 l0_2.length c0_2), (.slice A0_3 l0_3.length c0_3)] 31 (0, 0))) ∧ Aside0 (wc.heap[gb202]? = some (.cells #[.bool false, (.slice none 0 0), (.slice none 0 0), (.slice none 0 0)] 31 (0, 0))) ∧ Aside0 (wc.heap[gb203]? = some (.cells #[.bool false, (.slice none 0 0), (.slice none 0 0), (.slice none 0 0)] 31 (0, 0))) ∧ Aside0 (Below w.heap.size w wc))
  case first =>
   have H := HC4.out
   clear HC4
   by_cases c13 : a0_0 = true
   ·subst c13
    rw [if_pos rfl] at H
    have H' := Aside0.mk H
    clear H
    go_wp2
    go_meet
    case rel => exact ⟨_, (2), (0), (by first | rfl | (simp; done) | (simp [*]; done)), (by first | rfl | (simp; done) | (simp [*]; done)), H', ⟨by first | omega | exact Nat.le_refl _⟩, ⟨bA_ BK201⟩, ⟨bA_ BK202⟩, ⟨bA_ BK203⟩, ⟨bl_ HB⟩⟩
   ·replace c13 := Bool.eq_false_iff.mpr c13
    subst c13
    rw [if_neg (show ¬ (false = true) by decide)] at H
    have H' := Aside0.mk H
    clear H
    go_wp2
    go_meet
    case rel => exact ⟨_, (3), (1), (by first | rfl | (simp; done) | (simp [*]; done)), (by first | rfl | (simp; done) | (simp [*]; done)), H', ⟨by first | omega | exact Nat.le_refl _⟩, ⟨bA_ BK201⟩, ⟨bA_ BK202⟩, ⟨bA_ BK203⟩, ⟨bl_ HB⟩⟩
  case rest =>
   clear HC4
   try clear c1
   try clear c2
   try clear p2
   try clear c3
   try clear c3b0
   try clear c3b1
   try clear c8
   try clear c9
   try clear c13
   try clear hcz10_0
   try clear hcz10_1
   try clear hcz10_2
   try clear hcz10_3
   try clear hcz12_0
   try clear hcz12_1
   try clear hcz12_2
   try clear hcz12_3
   try clear hfz10_0
   try clear hfz10_1
   try clear hfz10_2
   try clear hfz10_3
   try clear hfz12_0
   try clear hfz12_1
   try clear hfz12_2
   try clear hfz12_3
   obtain ⟨kq, x7_3, x8_3, rfl, rfl, HA, HJ3, BK201, BK202, BK203, HB⟩ := hcut
   cases kq with
   | zero => exact absurd HA.out (by simp [node_Split.j0])
   | succ kj3 =>
    have H := HA.out
    clear HA
    simp only [node_Split.j0] at H
    by_cases c14 : (l0_1.length : Int) < x7_3
    ·rw [if_pos c14] at H
     have c14b0 : decide ((l0_1.length : Int) < x7_3) = true := decide_eq_true c14
     clear c14
     simp only [Option.some.injEq, Prod.mk.injEq] at H
     obtain ⟨rfl, rfl, rfl, rfl, rfl, rfl, rfl, rfl, rfl, rfl⟩ := H
     have hnb15 := NB201_202.out
     have hnc15 := NB202_201.out
     have hnb16 := NB201_203.out
     have hnc16 := NB203_201.out
     obtain ⟨hcz17_0, hcz17_1, hcz17_2, hcz17_3, hfz17_0, hfz17_1, hfz17_2, hfz17_3⟩ := cz4_ BK201
     have hnb18 := NB202_203.out
     have hnc18 := NB203_202.out
     obtain ⟨hcz19_0, hcz19_1, hcz19_2, hcz19_3, hfz19_0, hfz19_1, hfz19_2, hfz19_3⟩ := cz4_ BK202
     obtain ⟨hcz20_0, hcz20_1, hcz20_2, hcz20_3, hfz20_0, hfz20_1, hfz20_2, hfz20_3⟩ := cz4_ BK203
     go_wp2
     refine bodyPost_ret (results_list (rs := [.cell 2 31, .tmp 3, .cell 4 31, .tmp 5]) rfl (by simp) (.cell gb202 31 #[.bool false, .slice none 0 0, .slice none 0 0, .slice none 0 0] (0, 0) _ rfl (by (with_reducible repeat (first | refine blk_drewN ?_ _ | refine blk_drew ?_ | refine blk_alloc ?_ _)); refine blk_far ?_ NB202_203.out _; (with_reducible repeat (first | refine blk_drewN ?_ _ | refine blk_drew ?_ | refine blk_alloc ?_ _)); refine blk_far ?_ NB202_203.out _; (with_reducible repeat (first | refine blk_drewN ?_ _ | refine blk_drew ?_ | refine blk_alloc ?_ _)); refine blk_far ?_ NB202_203.out _; (with_reducible repeat (first | refine blk_drewN ?_ _ | refine blk_drew ?_ | refine blk_alloc ?_ _)); refine blk_far ?_ NB202_203.out _; (with_reducible repeat (first | refine blk_drewN ?_ _ | refine blk_drew ?_ | refine blk_alloc ?_ _)); refine blk_put (cs := #[.bool false, .slice none 0 0, .slice none 0 0, .slice none 0 0]) ?_ 3 _ rfl; (with_reducible repeat (first | refine blk_drewN ?_ _ | refine blk_drew ?_ | refine blk_alloc ?_ _)); refine blk_put (cs := #[.bool false, .slice none 0 0, .slice none 0 0, .slice none 0 0]) ?_ 2 _ rfl; (with_reducible repeat (first | refine blk_drewN ?_ _ | refine blk_drew ?_ | refine blk_alloc ?_ _)); refine blk_put (cs := #[.bool false, .slice none 0 0, .slice none 0 0, .slice none 0 0]) ?_ 1 _ rfl; (with_reducible repeat (first | refine blk_drewN ?_ _ | refine blk_drew ?_ | refine blk_alloc ?_ _)); refine blk_put (cs := #[.bool false, .slice none 0 0, .slice none 0 0, .slice none 0 0]) ?_ 0 _ rfl; (with_reducible repeat (first | refine blk_drewN ?_ _ | refine blk_drew ?_ | refine blk_alloc ?_ _)); exact BK202.out) Try.underlying31 rfl (by kernel_rfl) (.tmp (.cell gb203 31 #[.bool false, .slice none 0 0, .slice none 0 0, .slice none 0 0] (0, 0) _ rfl (by (with_reducible repeat (first | refine blk_drewN ?_ _ | refine blk_drew ?_ | refine blk_alloc ?_ _)); refine blk_put (cs := #[.bool false, .slice none 0 0, .slice none 0 0, .slice none 0 0]) ?_ 3 _ rfl; (with_reducible repeat (first | refine blk_drewN ?_ _ | refine blk_drew ?_ | refine blk_alloc ?_ _)); refine blk_put (cs := #[.bool false, .slice none 0 0, .slice none 0 0, .slice none 0 0]) ?_ 2 _ rfl; (with_reducible repeat (first | refine blk_drewN ?_ _ | refine blk_drew ?_ | refine blk_alloc ?_ _)); refine blk_put (cs := #[.bool false, .slice none 0 0, .slice none 0 0, .slice none 0 0]) ?_ 1 _ rfl; (with_reducible repeat (first | refine blk_drewN ?_ _ | refine blk_drew ?_ | refine blk_alloc ?_ _)); refine blk_put (cs := #[.bool false, .slice none 0 0, .slice none 0 0, .slice none 0 0]) ?_ 0 _ rfl; (with_reducible repeat (first | refine blk_drewN ?_ _ | refine blk_drew ?_ | refine blk_alloc ?_ _)); refine blk_far ?_ NB203_202.out _; (with_reducible repeat (first | refine blk_drewN ?_ _ | refine blk_drew ?_ | refine blk_alloc ?_ _)); refine blk_far ?_ NB203_202.out _; (with_reducible repeat (first | refine blk_drewN ?_ _ | refine blk_drew ?_ | refine blk_alloc ?_ _)); refine blk_far ?_ NB203_202.out _; (with_reducible repeat (first | refine blk_drewN ?_ _ | refine blk_drew ?_ | refine blk_alloc ?_ _)); refine blk_far ?_ NB203_202.out _; (with_reducible repeat (first | refine blk_drewN ?_ _ | refine blk_drew ?_ | refine blk_alloc ?_ _)); exact BK203.out) Try.underlying31 rfl (by kernel_rfl) (.tmp .nil))))) rfl ?_
     exact ⟨_, _, _, _, _, _, fin_, nil_, nil_, nil_, nil_, nil_, nil_, bl_ HB⟩
    ·rw [if_neg c14] at H
     have c14b0 : decide ((l0_1.length : Int) < x7_3) = false := decide_eq_false c14
     clear c14
     obtain ⟨ji21, hji21⟩ : ∃ j_ : Int, (wrap64 ((l0_1.length : Int) / 2)) = j_ := ⟨_, rfl⟩
     replace H : (if 0 ≤ (ji21) then (if (ji21) ≤ (l0_1.length : Int) then ((slices_Clone_string_string.f (l0_1.take ((ji21) : Int).toNat)).bind fun t206 => (if 0 ≤ (wrap64 ((ji21) + x8_3)) then (if (wrap64 ((ji21) + x8_3)) ≤ (l0_1.length : Int) then ((slices_Clone_string_string.f (l0_1.drop ((wrap64 ((ji21) + x8_3)) : Int).toNat)).bind fun t211 => (if a0_0 = true then (if (ji21) ≤ (l0_2.length : Int) then ((slices_Clone_string_string.f (l0_2.take ((ji21) : Int).toNat)).bind fun t216 => ((slices_Clone_string_string.f (l0_2.drop ((ji21) : Int).toNat)).bind fun t220 => (if (ji21) < (l0_1.length : Int) then (some (a0_0, t206, t216, ([] : List Int), rdOf ByteArray.empty l0_1 (ji21), a0_0, t211, t220, ([] : List Int), 0)) else (none)))) else (none)) else (if 0 ≤ (wrap64 ((ji21) + 1)) then (if (wrap64 ((ji21) + 1)) ≤ (l0_3.length : Int) then ((slices_Clone_int_int.f (l0_3.take ((wrap64 ((ji21) + 1)) : Int).toNat)).bind fun t225 => ((slices_Clone_int_int.f (l0_3.drop ((wrap64 ((ji21) + 1)) : Int).toNat)).bind fun t229 => (if (ji21) < (l0_1.length : Int) then (some (a0_0, t206, ([] : List ByteArray), t225, rdOf ByteArray.empty l0_1 (ji21), a0_0, t211, ([] : List ByteArray), t229, 0)) else (none)))) else (none)) else (none)))) else (none)) else (none))) else (none)) else (none)) = some (r1, r2, r3, r4, r5, r6, r7, r8, r9, r10) := by first | (rw [hji21] at H; exact H) | (simp only [hji21] at H ⊢; exact H)
     have hji21w : (IntKind.i64.wrap ((l0_1.length : Int) / 2)) = ji21 := (i64_w _).trans hji21
     by_cases c22 : 0 ≤ (ji21)
     ·rw [if_pos c22] at H
      have c22b0 := eq_true c22
      have c22b1 : decide (0 ≤ (ji21)) = true := decide_eq_true c22
      clear c22
      by_cases c23 : (ji21) ≤ (l0_1.length : Int)
      ·rw [if_pos c23] at H
       have c23b0 := eq_true c23
       have c23b1 : decide ((ji21) ≤ (l0_1.length : Int)) = true := decide_eq_true c23
       clear c23
       replace H := Option.bind_eq_some_iff.mp H
       obtain ⟨t206, A240, H⟩ := H
       try dsimp only at H
       have A24 := Aside0.mk A240
       clear A240
       obtain ⟨ji25, hji25⟩ : ∃ j_ : Int, (wrap64 ((ji21) + x8_3)) = j_ := ⟨_, rfl⟩
       replace H : (if 0 ≤ (ji25) then (if (ji25) ≤ (l0_1.length : Int) then ((slices_Clone_string_string.f (l0_1.drop ((ji25) : Int).toNat)).bind fun t211 => (if a0_0 = true then (if (ji21) ≤ (l0_2.length : Int) then ((slices_Clone_string_string.f (l0_2.take ((ji21) : Int).toNat)).bind fun t216 => ((slices_Clone_string_string.f (l0_2.drop ((ji21) : Int).toNat)).bind fun t220 => (if (ji21) < (l0_1.length : Int) then (some (a0_0, t206, t216, ([] : List Int), rdOf ByteArray.empty l0_1 (ji21), a0_0, t211, t220, ([] : List Int), 0)) else (none)))) else (none)) else (if 0 ≤ (wrap64 ((ji21) + 1)) then (if (wrap64 ((ji21) + 1)) ≤ (l0_3.length : Int) then ((slices_Clone_int_int.f (l0_3.take ((wrap64 ((ji21) + 1)) : Int).toNat)).bind fun t225 => ((slices_Clone_int_int.f (l0_3.drop ((wrap64 ((ji21) + 1)) : Int).toNat)).bind fun t229 => (if (ji21) < (l0_1.length : Int) then (some (a0_0, t206, ([] : List ByteArray), t225, rdOf ByteArray.empty l0_1 (ji21), a0_0, t211, ([] : List ByteArray), t229, 0)) else (none)))) else (none)) else (none)))) else (none)) else (none)) = some (r1, r2, r3, r4, r5, r6, r7, r8, r9, r10) := by first | (rw [hji25] at H; exact H) | (simp only [hji25] at H ⊢; exact H)
       (try rw [hji25] at A24)
       have hji25w : (IntKind.i64.wrap ((ji21) + x8_3)) = ji25 := (i64_w _).trans hji25
       by_cases c26 : 0 ≤ (ji25)
       ·rw [if_pos c26] at H
        have c26b0 := eq_true c26
        have c26b1 : decide (0 ≤ (ji25)) = true := decide_eq_true c26
        clear c26
        by_cases c27 : (ji25) ≤ (l0_1.length : Int)
        ·rw [if_pos c27] at H
         have c27b0 := eq_true c27
         have c27b1 : decide ((ji25) ≤ (l0_1.length : Int)) = true := decide_eq_true c27
         clear c27
         replace H := Option.bind_eq_some_iff.mp H
         obtain ⟨t211, A280, H⟩ := H
         try dsimp only at H
         have A28 := Aside0.mk A280
         clear A280
         by_cases c29 : a0_0 = true
         ·exact absurd c29 HC_.out
         ·replace c29 := Bool.eq_false_iff.mpr c29
          subst c29
          rw [if_neg (show ¬ (false = true) by decide)] at H
          obtain ⟨ji86, hji86⟩ : ∃ j_ : Int, (wrap64 ((ji21) + 1)) = j_ := ⟨_, rfl⟩
          replace H : (if 0 ≤ (ji86) then (if (ji86) ≤ (l0_3.length : Int) then ((slices_Clone_int_int.f (l0_3.take ((ji86) : Int).toNat)).bind fun t225 => ((slices_Clone_int_int.f (l0_3.drop ((ji86) : Int).toNat)).bind fun t229 => (if (ji21) < (l0_1.length : Int) then (some (false, t206, ([] : List ByteArray), t225, rdOf ByteArray.empty l0_1 (ji21), false, t211, ([] : List ByteArray), t229, 0)) else (none)))) else (none)) else (none)) = some (r1, r2, r3, r4, r5, r6, r7, r8, r9, r10) := by first | (rw [hji86] at H; exact H) | (simp only [hji86] at H ⊢; exact H)
          (try rw [hji86] at A24)
          (try rw [hji86] at A28)
          have hji86w : (IntKind.i64.wrap ((ji21) + 1)) = ji86 := (i64_w _).trans hji86
          by_cases c87 : 0 ≤ (ji86)
          ·rw [if_pos c87] at H
           have c87b0 := eq_true c87
           have c87b1 : decide (0 ≤ (ji86)) = true := decide_eq_true c87
           clear c87
           by_cases c88 : (ji86) ≤ (l0_3.length : Int)
           ·rw [if_pos c88] at H
            have c88b0 := eq_true c88
            have c88b1 : decide ((ji86) ≤ (l0_3.length : Int)) = true := decide_eq_true c88
            clear c88
            replace H := Option.bind_eq_some_iff.mp H
            obtain ⟨t225, A890, H⟩ := H
            try dsimp only at H
            have A89 := Aside0.mk A890
            clear A890
            have c90b0 := eq_true (of_decide_eq_true (by first | (with_reducible assumption) | assumption) : 0 ≤ (ji86))
            have c91b0 := eq_true (of_decide_eq_true (by first | (with_reducible assumption) | assumption) : (ji86) ≤ (l0_3.length : Int))
            replace H := Option.bind_eq_some_iff.mp H
            obtain ⟨t229, A920, H⟩ := H
            try dsimp only at H
            have A92 := Aside0.mk A920
            clear A920
            by_cases c93 : (ji21) < (l0_1.length : Int)
            ·rw [if_pos c93] at H
             have c93b0 : decide ((ji21) < (l0_1.length : Int)) = true := decide_eq_true c93
             clear c93
             simp only [Option.some.injEq, Prod.mk.injEq] at H
             obtain ⟨rfl, rfl, rfl, rfl, rfl, rfl, rfl, rfl, rfl, rfl⟩ := H
             have hnb94 := NB201_202.out
             have hnc94 := NB202_201.out
             have hnb95 := NB201_203.out
             have hnc95 := NB203_201.out
             obtain ⟨hcz96_0, hcz96_1, hcz96_2, hcz96_3, hfz96_0, hfz96_1, hfz96_2, hfz96_3⟩ := cz4_ BK201
             try go_wp2
             replace BK201 := Aside0.mk (blk_drew BK201.out)
             replace BK202 := Aside0.mk (blk_drew BK202.out)
             replace BK203 := Aside0.mk (blk_drew BK203.out)
             replace HB := Aside0.mk (below_drew1 HB.out)
             obtain ⟨i098, hi098, _, hsz98, _⟩ := info_parts info9
             obtain ⟨hcut98, hA98, hC98⟩ := print_take_of (P := Try.prog) Value.string (⟨#[]⟩ : ByteArray) 22 9 .i64 Try.underlying22 hi098 hsz98 A0_1 c0_1 l0_1 (ji21) (of_decide_eq_true (by first | (with_reducible assumption) | assumption)) (of_decide_eq_true (by first | (with_reducible assumption) | assumption)) HC0_1.out
             have HR205 := Aside0.mk (Kd.C_of_reads (h1 := fun _ => rfl) (hA98 _ (Kd.reads_of_C HR0_1.out)))
             have HC205 := Aside0.mk hC98
             clear hA98 hC98 hi098 hsz98
             refine start_ (n := 10) (S := fun w' => w'.cell? ⟨gb201, 0, none⟩ = some (.bool false) ∧ w'.cell? ⟨gb201, 1, none⟩ = some (.slice A0_1 l0_1.length c0_1) ∧ w'.cell? ⟨gb201, 2, none⟩ = some (.slice A0_2 l0_2.length c0_2) ∧ w'.cell? ⟨gb201, 3, none⟩ = some (.slice A0_3 l0_3.length c0_3)) (ds := []) #[false, false, false, false, false, false, false, false, false, false] (by kernel_rfl) rfl rfl ⟨(blk_cell BK201.out 0).trans rfl, (blk_cell BK201.out 1).trans rfl, (blk_cell BK201.out 2).trans rfl, (blk_cell BK201.out 3).trans rfl⟩ (fun hHeld => ?_); refine with_tabW node_Split.tab11 node_Split.bits11 (fun HT_ HW_ => ?_)
             generalize wc.drew = w97 at BK201 BK202 BK203 HB HR205 hHeld ⊢
             refine pu_ 0 (some 33) HT_ ?_
             refine pu_ 2 (some 35) HT_ ?_
             refine pu_ 4 (some 37) HT_ ?_
             refine tk_ 1 (some 34) HT_ HW_ hHeld ?_
             refine tk_ 3 (some 36) HT_ HW_ hHeld ?_
             refine pu_ 5 (some 38) HT_ ?_
             refine join_ (σ := Value × Nat) 1 #[true, true, true, true, true, true, true, true, true, false] (fun s_ => [(39, s_.1), (11, .pointer (some ⟨s_.2, 0, none⟩)), (40, .agg #[.bool false, s_.1, .slice none 0 0, .slice none 0 0])]) (fun s_ w' => (w'.cell? ⟨gb201, 0, none⟩ = some (.bool false) ∧ w'.cell? ⟨gb201, 1, none⟩ = some (.slice A0_1 l0_1.length c0_1) ∧ w'.cell? ⟨gb201, 2, none⟩ = some (.slice A0_2 l0_2.length c0_2) ∧ w'.cell? ⟨gb201, 3, none⟩ = some (.slice A0_3 l0_3.length c0_3)) ∧ (Kd.R Kd.string 9 w' w.heap.size (fun _ => True) s_.1 t206) ∧ (w'.heap[gb201]? = some (.cells #[.bool false, .slice A0_1 l0_1.length c0_1, .slice A0_2 l0_2.length c0_2, .slice A0_3 l0_3.length c0_3] 31 (0, 0))) ∧ (w'.heap[gb202]? = some (.cells #[.bool false, .slice none 0 0, .slice none 0 0, .slice none 0 0] 31 (0, 0))) ∧ (w'.heap[gb203]? = some (.cells #[.bool false, .slice none 0 0, .slice none 0 0, .slice none 0 0] 31 (0, 0))) ∧ (w'.heap[s_.2]? = some (.cells #[.bool false, .slice none 0 0, .slice none 0 0, .slice none 0 0] 31 (0, 0))) ∧ (w.heap.size ≤ s_.2) ∧ (w.heap.size ≤ s_.2) ∧ (gb201 ≠ s_.2) ∧ (s_.2 ≠ gb201) ∧ (gb202 ≠ s_.2) ∧ (s_.2 ≠ gb202) ∧ (gb203 ≠ s_.2) ∧ (s_.2 ≠ gb203) ∧ (Below w.heap.size w w')) ?_ ?_
             rotate_left
             ·intro hCont
              refine two_ (i := 6) (j := 8) (Ni := some 39) (Nj := some 11) #[true, true, true, true, true, true, true, false, false, false] #[true, true, true, true, true, true, false, false, true, false] rfl rfl rfl rfl (two_of HT_.out (by kernel_rfl)) (by decide) (by decide) (fun K hK => ?_) (fun K hK => ?_)
              ·skip
               refine goes_ Try.func54 (by kernel_rfl) rfl #[.slice A0_1 (l0_1.take ((ji21) : Int).toNat).length c0_1] (by rfl) rfl rfl (by (try simp only [List.map_toArray, List.map_cons, List.map_nil]); first | done | (rw [show (l0_1.take ((ji21) : Int).toNat).length = (ji21).toNat from (by rw [List.length_take]; have h_ : ((ji21) : Int) ≤ (l0_1.length : Int) := of_decide_eq_true (by first | (with_reducible assumption) | assumption); omega)] <;> rfl) | (simp only [hji21]; rfl) | rfl | (simp only [List.length_drop, List.length_take]; rfl)) ?_
               with_reducible refine (slices_Clone_string_string.calls _ _ (l0_1.take ((ji21) : Int).toNat) t206 _ ?_ ?_ A24.out).mono ?_
               exact cB_ HR205 HB
               exact HC205.out
               rintro e w99 ⟨v207, rfl, ho0, hb⟩
               refine ⟨_, rfl, ?_⟩
               have HO208 := Aside0.mk (Kd.R_lower ho0 (bs_ HB))
               replace BK201 := bK_ BK201 hb
               replace BK202 := bK_ BK202 hb
               replace BK203 := bK_ BK203 hb
               replace HB := bS_ HB hb
               (try clear hb ho0)
               obtain ⟨Ao100, co100, eo100⟩ := Kd.R_slice HO208.out
               (first | subst eo100 | (injection eo100 with f1_ f2_ f3_; have f4_ := f1_.symm; have f5_ := f3_.symm; clear f1_ f2_ f3_; subst f4_; subst f5_))
               refine hK.out _ _ ⟨(blk_cell BK201.out 0).trans rfl, (blk_cell BK201.out 1).trans rfl, (blk_cell BK201.out 2).trans rfl, (blk_cell BK201.out 3).trans rfl⟩ (fun hHeld => ?_)
               clear hK K
               refine norm_ (a' := ?_) ?_ ?_
               rotate_left
               ·show Act.put _ (some 39) _ = _
                simp only [Act.put, List.setIfInBounds_toArray, List.set_cons_zero, List.set_cons_succ, i64_w, i32_w]
                rfl
               refine pu_ 7 (some 40) HT_ ?_
               refine on_ 8 (some 11) HT_ (fun K hK => ?_)
               refine box_step ?hg (N := 11) ?hd (cs := #[.bool false, .slice none 0 0, .slice none 0 0, .slice none 0 0]) (t := 31) ?hr ?_; (case hd => rfl); (case hg => rfl); (case hr => first | (go_simp; done) | (go_simp; rfl))
               intro gb209 hg w101 hbox hb
               replace HO208 := rB_ HO208 hb
               have BK209 := Aside0.mk (hbox)
               have GW209 := bG_ HB hg
               have GE209 := bG_ HB hg
               replace HB := bS_ HB hb
               have NB201_209 := nL_ BK201 hg
               have NB209_201 := nG_ BK201 hg
               replace BK201 := bK_ BK201 hb
               have NB202_209 := nL_ BK202 hg
               have NB209_202 := nG_ BK202 hg
               replace BK202 := bK_ BK202 hb
               have NB203_209 := nL_ BK203 hg
               have NB209_203 := nG_ BK203 hg
               replace BK203 := bK_ BK203 hb
               clear hb hbox hg
               refine hK.out _ _ ⟨(blk_cell BK201.out 0).trans rfl, (blk_cell BK201.out 1).trans rfl, (blk_cell BK201.out 2).trans rfl, (blk_cell BK201.out 3).trans rfl⟩ (fun hHeld => ?_)
               clear hK K
               refine norm_ (a' := ?_) ?_ ?_
               rotate_left
               ·show Act.put _ (some 11) _ = _
                simp only [Act.put, List.setIfInBounds_toArray, List.set_cons_zero, List.set_cons_succ, i64_w, i32_w]
                rfl
               exact norm_ (by simp only [putAll, Act.put, List.setIfInBounds_toArray, List.set_cons_zero, List.set_cons_succ]) (hCont (.slice Ao100 t206.length co100, gb209) _ ⟨hHeld, (rA_ HO208), (bA_ BK201), (bA_ BK202), (bA_ BK203), (bA_ BK209), GW209.out, GE209.out, NB201_209.out, NB209_201.out, NB202_209.out, NB209_202.out, NB203_209.out, NB209_203.out, (bl_ HB)⟩)
              ·skip
               refine box_step ?hg (N := 11) ?hd (cs := #[.bool false, .slice none 0 0, .slice none 0 0, .slice none 0 0]) (t := 31) ?hr ?_; (case hd => rfl); (case hg => rfl); (case hr => first | (go_simp; done) | (go_simp; rfl))
               intro gb209 hg w99 hbox hb
               have BK209 := Aside0.mk (hbox)
               have GW209 := bG_ HB hg
               have GE209 := bG_ HB hg
               replace HB := bS_ HB hb
               have NB201_209 := nL_ BK201 hg
               have NB209_201 := nG_ BK201 hg
               replace BK201 := bK_ BK201 hb
               have NB202_209 := nL_ BK202 hg
               have NB209_202 := nG_ BK202 hg
               replace BK202 := bK_ BK202 hb
               have NB203_209 := nL_ BK203 hg
               have NB209_203 := nG_ BK203 hg
               replace BK203 := bK_ BK203 hb
               clear hb hbox hg
               refine hK.out _ _ ⟨(blk_cell BK201.out 0).trans rfl, (blk_cell BK201.out 1).trans rfl, (blk_cell BK201.out 2).trans rfl, (blk_cell BK201.out 3).trans rfl⟩ (fun hHeld => ?_)
               clear hK K
               refine norm_ (a' := ?_) ?_ ?_
               rotate_left
               ·show Act.put _ (some 11) _ = _
                simp only [Act.put, List.setIfInBounds_toArray, List.set_cons_zero, List.set_cons_succ, i64_w, i32_w]
                rfl
               refine on_ 6 (some 39) HT_ (fun K hK => ?_)
               refine goes_ Try.func54 (by kernel_rfl) rfl #[.slice A0_1 (l0_1.take ((ji21) : Int).toNat).length c0_1] (by rfl) rfl rfl (by (try simp only [List.map_toArray, List.map_cons, List.map_nil]); first | done | (rw [show (l0_1.take ((ji21) : Int).toNat).length = (ji21).toNat from (by rw [List.length_take]; have h_ : ((ji21) : Int) ≤ (l0_1.length : Int) := of_decide_eq_true (by first | (with_reducible assumption) | assumption); omega)] <;> rfl) | (simp only [hji21]; rfl) | rfl | (simp only [List.length_drop, List.length_take]; rfl)) ?_
               with_reducible refine (slices_Clone_string_string.calls _ _ (l0_1.take ((ji21) : Int).toNat) t206 _ ?_ ?_ A24.out).mono ?_
               exact cB_ HR205 HB
               exact HC205.out
               rintro e w100 ⟨v207, rfl, ho0, hb⟩
               refine ⟨_, rfl, ?_⟩
               have HO208 := Aside0.mk (Kd.R_lower ho0 (bs_ HB))
               replace BK201 := bK_ BK201 hb
               replace BK202 := bK_ BK202 hb
               replace BK203 := bK_ BK203 hb
               replace BK209 := bK_ BK209 hb
               replace HB := bS_ HB hb
               (try clear hb ho0)
               obtain ⟨Ao101, co101, eo101⟩ := Kd.R_slice HO208.out
               (first | subst eo101 | (injection eo101 with f1_ f2_ f3_; have f4_ := f1_.symm; have f5_ := f3_.symm; clear f1_ f2_ f3_; subst f4_; subst f5_))
               refine hK.out _ _ ⟨(blk_cell BK201.out 0).trans rfl, (blk_cell BK201.out 1).trans rfl, (blk_cell BK201.out 2).trans rfl, (blk_cell BK201.out 3).trans rfl⟩ (fun hHeld => ?_)
               clear hK K
               refine norm_ (a' := ?_) ?_ ?_
               rotate_left
               ·show Act.put _ (some 39) _ = _
                simp only [Act.put, List.setIfInBounds_toArray, List.set_cons_zero, List.set_cons_succ, i64_w, i32_w]
                rfl
               refine pu_ 7 (some 40) HT_ ?_
               exact norm_ (by simp only [putAll, Act.put, List.setIfInBounds_toArray, List.set_cons_zero, List.set_cons_succ]) (hCont (.slice Ao101 t206.length co101, gb209) _ ⟨hHeld, (rA_ HO208), (bA_ BK201), (bA_ BK202), (bA_ BK203), (bA_ BK209), GW209.out, GE209.out, NB201_209.out, NB209_201.out, NB202_209.out, NB209_202.out, NB203_209.out, NB209_203.out, (bl_ HB)⟩)
             rintro ⟨v207, gb209⟩ w102 ⟨hS_, h0_, h1_, h2_, h3_, h4_, h5_, h6_, h7_, h8_, h9_, h10_, h11_, h12_, h13_⟩
             have HO208 : Aside0 (Kd.R Kd.string 9 w102 w.heap.size (fun _ => True) v207 t206) := ⟨h0_⟩
             replace BK201 : Aside0 (w102.heap[gb201]? = some (.cells #[.bool false, .slice A0_1 l0_1.length c0_1, .slice A0_2 l0_2.length c0_2, .slice A0_3 l0_3.length c0_3] 31 (0, 0))) := ⟨h1_⟩
             replace BK202 : Aside0 (w102.heap[gb202]? = some (.cells #[.bool false, .slice none 0 0, .slice none 0 0, .slice none 0 0] 31 (0, 0))) := ⟨h2_⟩
             replace BK203 : Aside0 (w102.heap[gb203]? = some (.cells #[.bool false, .slice none 0 0, .slice none 0 0, .slice none 0 0] 31 (0, 0))) := ⟨h3_⟩
             have BK209 : Aside0 (w102.heap[gb209]? = some (.cells #[.bool false, .slice none 0 0, .slice none 0 0, .slice none 0 0] 31 (0, 0))) := ⟨h4_⟩
             have GW209 : Aside0 (w.heap.size ≤ gb209) := ⟨h5_⟩
             have GE209 : Aside0 (w.heap.size ≤ gb209) := ⟨h6_⟩
             have NB201_209 : Aside0 (gb201 ≠ gb209) := ⟨h7_⟩
             have NB209_201 : Aside0 (gb209 ≠ gb201) := ⟨h8_⟩
             have NB202_209 : Aside0 (gb202 ≠ gb209) := ⟨h9_⟩
             have NB209_202 : Aside0 (gb209 ≠ gb202) := ⟨h10_⟩
             have NB203_209 : Aside0 (gb203 ≠ gb209) := ⟨h11_⟩
             have NB209_203 : Aside0 (gb209 ≠ gb203) := ⟨h12_⟩
             replace HB : Aside0 (Below w.heap.size w w102) := ⟨h13_⟩
             clear h0_ h1_ h2_ h3_ h4_ h5_ h6_ h7_ h8_ h9_ h10_ h11_ h12_ h13_
             have hHeld : w102.cell? ⟨gb201, 0, none⟩ = some (.bool false) ∧ w102.cell? ⟨gb201, 1, none⟩ = some (.slice A0_1 l0_1.length c0_1) ∧ w102.cell? ⟨gb201, 2, none⟩ = some (.slice A0_2 l0_2.length c0_2) ∧ w102.cell? ⟨gb201, 3, none⟩ = some (.slice A0_3 l0_3.length c0_3) := hS_
             obtain ⟨Ao103, co103, eo103⟩ := Kd.R_slice HO208.out
             (first | subst eo103 | (injection eo103 with f1_ f2_ f3_; have f4_ := f1_.symm; have f5_ := f3_.symm; clear f1_ f2_ f3_; subst f4_; subst f5_))
             refine norm_ (a' := ?_) ?_ ?_
             rotate_left
             ·simp only [putAll, Act.put, List.setIfInBounds_toArray, List.set_cons_zero, List.set_cons_succ]
              rfl
             refine on_ 9 none HT_ (fun K hK => ?_)
             have hs104 : w102.cell? ⟨gb209, 0, none⟩ = some (.bool false) := (blk_cell BK209.out 0).trans rfl
             have hfs104 := blk_frozen BK209.out 0
             have hns104_0 := NB201_209.out
             have hns104_1 := NB202_209.out
             have hns104_2 := NB203_209.out
             have hms104_0 := NB209_201.out
             have hms104_1 := NB209_202.out
             have hms104_2 := NB209_203.out
             have hs105 : w102.cell? ⟨gb209, 1, none⟩ = some (.slice none 0 0) := (blk_cell BK209.out 1).trans rfl
             have hfs105 := blk_frozen BK209.out 1
             have hns105_0 := NB201_209.out
             have hns105_1 := NB202_209.out
             have hns105_2 := NB203_209.out
             have hms105_0 := NB209_201.out
             have hms105_1 := NB209_202.out
             have hms105_2 := NB209_203.out
             have hs106 : w102.cell? ⟨gb209, 2, none⟩ = some (.slice none 0 0) := (blk_cell BK209.out 2).trans rfl
             have hfs106 := blk_frozen BK209.out 2
             have hns106_0 := NB201_209.out
             have hns106_1 := NB202_209.out
             have hns106_2 := NB203_209.out
             have hms106_0 := NB209_201.out
             have hms106_1 := NB209_202.out
             have hms106_2 := NB209_203.out
             have hs107 : w102.cell? ⟨gb209, 3, none⟩ = some (.slice none 0 0) := (blk_cell BK209.out 3).trans rfl
             have hfs107 := blk_frozen BK209.out 3
             have hns107_0 := NB201_209.out
             have hns107_1 := NB202_209.out
             have hns107_2 := NB203_209.out
             have hms107_0 := NB209_201.out
             have hms107_1 := NB209_202.out
             have hms107_2 := NB209_203.out
             refine skip_ (w1 := ?_) (by rfl) rfl ?_ ?_
             rotate_left
             ·go_simp
              rfl
             refine hK.out _ _ ⟨((cell_far (p := ⟨gb209, _, none⟩) NB201_209.out _).trans (((cell_far (p := ⟨gb209, _, none⟩) NB201_209.out _).trans (((cell_far (p := ⟨gb209, _, none⟩) NB201_209.out _).trans (((cell_far (p := ⟨gb209, _, none⟩) NB201_209.out _).trans (hHeld.1)))))))), ((cell_far (p := ⟨gb209, _, none⟩) NB201_209.out _).trans (((cell_far (p := ⟨gb209, _, none⟩) NB201_209.out _).trans (((cell_far (p := ⟨gb209, _, none⟩) NB201_209.out _).trans (((cell_far (p := ⟨gb209, _, none⟩) NB201_209.out _).trans (hHeld.2.1)))))))), ((cell_far (p := ⟨gb209, _, none⟩) NB201_209.out _).trans (((cell_far (p := ⟨gb209, _, none⟩) NB201_209.out _).trans (((cell_far (p := ⟨gb209, _, none⟩) NB201_209.out _).trans (((cell_far (p := ⟨gb209, _, none⟩) NB201_209.out _).trans (hHeld.2.2.1)))))))), ((cell_far (p := ⟨gb209, _, none⟩) NB201_209.out _).trans (((cell_far (p := ⟨gb209, _, none⟩) NB201_209.out _).trans (((cell_far (p := ⟨gb209, _, none⟩) NB201_209.out _).trans (((cell_far (p := ⟨gb209, _, none⟩) NB201_209.out _).trans (hHeld.2.2.2))))))))⟩ (fun hHeld => ?_)
             clear hK K
             refine done_ (done_of HT_.out (by kernel_rfl)) ?_
             try go_wp2
             have n0_ : Aside0 (Kd.R Kd.string 9 ((((w102.setCell ⟨gb209, 0, none⟩ (.bool false)).setCell ⟨gb209, 1, none⟩ (.slice Ao103 t206.length co103)).setCell ⟨gb209, 2, none⟩ (.slice none 0 0)).setCell ⟨gb209, 3, none⟩ (.slice none 0 0)) w.heap.size (fun _ => True) (.slice Ao103 t206.length co103) t206) := ⟨by (with_reducible repeat (first | apply Kd.R_alloc | apply Kd.R_drewN | apply Kd.R_drew)); exact Kd.R_mono (Kd.R_far (p := ⟨gb209, 3, none⟩) (Kd.R_far (p := ⟨gb209, 2, none⟩) (Kd.R_far (p := ⟨gb209, 1, none⟩) (Kd.R_far (p := ⟨gb209, 0, none⟩) (Kd.R_types HO208.out BK209.out (by decide)) (fun _ hk => hk.2) (.bool false)) (fun _ hk => hk.2) (.slice Ao103 t206.length co103)) (fun _ hk => hk.2) (.slice none 0 0)) (fun _ hk => hk.2) (.slice none 0 0)) (fun _ hk => trivial)⟩
             have n1_ : Aside0 (((((w102.setCell ⟨gb209, 0, none⟩ (.bool false)).setCell ⟨gb209, 1, none⟩ (.slice Ao103 t206.length co103)).setCell ⟨gb209, 2, none⟩ (.slice none 0 0)).setCell ⟨gb209, 3, none⟩ (.slice none 0 0)).heap[gb201]? = some (.cells #[.bool false, .slice A0_1 l0_1.length c0_1, .slice A0_2 l0_2.length c0_2, .slice A0_3 l0_3.length c0_3] 31 (0, 0))) := ⟨bA_ BK201⟩
             have n2_ : Aside0 (((((w102.setCell ⟨gb209, 0, none⟩ (.bool false)).setCell ⟨gb209, 1, none⟩ (.slice Ao103 t206.length co103)).setCell ⟨gb209, 2, none⟩ (.slice none 0 0)).setCell ⟨gb209, 3, none⟩ (.slice none 0 0)).heap[gb202]? = some (.cells #[.bool false, .slice none 0 0, .slice none 0 0, .slice none 0 0] 31 (0, 0))) := ⟨bA_ BK202⟩
             have n3_ : Aside0 (((((w102.setCell ⟨gb209, 0, none⟩ (.bool false)).setCell ⟨gb209, 1, none⟩ (.slice Ao103 t206.length co103)).setCell ⟨gb209, 2, none⟩ (.slice none 0 0)).setCell ⟨gb209, 3, none⟩ (.slice none 0 0)).heap[gb203]? = some (.cells #[.bool false, .slice none 0 0, .slice none 0 0, .slice none 0 0] 31 (0, 0))) := ⟨bA_ BK203⟩
             have n4_ : Aside0 (((((w102.setCell ⟨gb209, 0, none⟩ (.bool false)).setCell ⟨gb209, 1, none⟩ (.slice Ao103 t206.length co103)).setCell ⟨gb209, 2, none⟩ (.slice none 0 0)).setCell ⟨gb209, 3, none⟩ (.slice none 0 0)).heap[gb209]? = some (.cells #[.bool false, .slice Ao103 t206.length co103, .slice none 0 0, .slice none 0 0] 31 (0, 0))) := ⟨by (with_reducible repeat (first | refine blk_drewN ?_ _ | refine blk_drew ?_ | refine blk_alloc ?_ _)); refine blk_put (cs := #[.bool false, .slice Ao103 t206.length co103, .slice none 0 0, .slice none 0 0]) ?_ 3 _ rfl; (with_reducible repeat (first | refine blk_drewN ?_ _ | refine blk_drew ?_ | refine blk_alloc ?_ _)); refine blk_put (cs := #[.bool false, .slice Ao103 t206.length co103, .slice none 0 0, .slice none 0 0]) ?_ 2 _ rfl; (with_reducible repeat (first | refine blk_drewN ?_ _ | refine blk_drew ?_ | refine blk_alloc ?_ _)); refine blk_put (cs := #[.bool false, .slice none 0 0, .slice none 0 0, .slice none 0 0]) ?_ 1 _ rfl; (with_reducible repeat (first | refine blk_drewN ?_ _ | refine blk_drew ?_ | refine blk_alloc ?_ _)); refine blk_put (cs := #[.bool false, .slice none 0 0, .slice none 0 0, .slice none 0 0]) ?_ 0 _ rfl; (with_reducible repeat (first | refine blk_drewN ?_ _ | refine blk_drew ?_ | refine blk_alloc ?_ _)); exact BK209.out⟩
             have n5_ : Aside0 (Below w.heap.size w ((((w102.setCell ⟨gb209, 0, none⟩ (.bool false)).setCell ⟨gb209, 1, none⟩ (.slice Ao103 t206.length co103)).setCell ⟨gb209, 2, none⟩ (.slice none 0 0)).setCell ⟨gb209, 3, none⟩ (.slice none 0 0))) := ⟨bl_ HB⟩
             (try clear HO208 BK201 BK202 BK203 BK209 HB)
             generalize ((((w102.setCell ⟨gb209, 0, none⟩ (.bool false)).setCell ⟨gb209, 1, none⟩ (.slice Ao103 t206.length co103)).setCell ⟨gb209, 2, none⟩ (.slice none 0 0)).setCell ⟨gb209, 3, none⟩ (.slice none 0 0)) = w108 at n0_ n1_ n2_ n3_ n4_ n5_ ⊢
             have HO208 := n0_
             have BK201 := n1_
             have BK202 := n2_
             have BK203 := n3_
             have BK209 := n4_
             have HB := n5_
             clear n0_ n1_ n2_ n3_ n4_ n5_
             replace HO208 := Aside0.mk (Kd.R_drew HO208.out)
             replace BK201 := Aside0.mk (blk_drew BK201.out)
             replace BK202 := Aside0.mk (blk_drew BK202.out)
             replace BK203 := Aside0.mk (blk_drew BK203.out)
             replace BK209 := Aside0.mk (blk_drew BK209.out)
             replace HB := Aside0.mk (below_drew1 HB.out)
             obtain ⟨i0110, hi0110, _, hsz110, _⟩ := info_parts info9
             obtain ⟨A110, hcut110, hA110, hC110⟩ := print_drop_of (P := Try.prog) Value.string (⟨#[]⟩ : ByteArray) 22 9 .i64 Try.underlying22 hi0110 hsz110 A0_1 c0_1 l0_1 (ji25) (of_decide_eq_true (by first | (with_reducible assumption) | assumption)) (of_decide_eq_true (by first | (with_reducible assumption) | assumption)) HC0_1.out
             have HR210 := Aside0.mk (Kd.C_of_reads (h1 := fun _ => rfl) (hA110 _ (Kd.reads_of_C HR0_1.out)))
             have HC210 := Aside0.mk hC110
             clear hA110 hC110 hi0110 hsz110
             refine start_ (n := 12) (S := fun w' => w'.cell? ⟨gb201, 0, none⟩ = some (.bool false) ∧ w'.cell? ⟨gb201, 1, none⟩ = some (.slice A0_1 l0_1.length c0_1) ∧ w'.cell? ⟨gb201, 2, none⟩ = some (.slice A0_2 l0_2.length c0_2) ∧ w'.cell? ⟨gb201, 3, none⟩ = some (.slice A0_3 l0_3.length c0_3)) (ds := []) #[false, false, false, false, false, false, false, false, false, false, false, false] (by kernel_rfl) rfl rfl ⟨(blk_cell BK201.out 0).trans rfl, (blk_cell BK201.out 1).trans rfl, (blk_cell BK201.out 2).trans rfl, (blk_cell BK201.out 3).trans rfl⟩ (fun hHeld => ?_); refine with_tabW node_Split.tab12 node_Split.bits12 (fun HT_ HW_ => ?_)
             generalize w108.drew = w109 at HO208 BK201 BK202 BK203 BK209 HB HR210 hHeld ⊢
             refine pu_ 0 (some 41) HT_ ?_
             refine pu_ 2 (some 43) HT_ ?_
             refine pu_ 4 (some 45) HT_ ?_
             refine pu_ 5 (some 46) HT_ ?_
             refine pu_ 6 (some 47) HT_ ?_
             refine tk_ 1 (some 42) HT_ HW_ hHeld ?_
             refine tk_ 3 (some 44) HT_ HW_ hHeld ?_
             refine pu_ 7 (some 48) HT_ ?_
             refine join_ (σ := Value × Nat) 1 #[true, true, true, true, true, true, true, true, true, true, true, false] (fun s_ => [(49, s_.1), (12, .pointer (some ⟨s_.2, 0, none⟩)), (50, .agg #[.bool false, s_.1, .slice none 0 0, .slice none 0 0])]) (fun s_ w' => (w'.cell? ⟨gb201, 0, none⟩ = some (.bool false) ∧ w'.cell? ⟨gb201, 1, none⟩ = some (.slice A0_1 l0_1.length c0_1) ∧ w'.cell? ⟨gb201, 2, none⟩ = some (.slice A0_2 l0_2.length c0_2) ∧ w'.cell? ⟨gb201, 3, none⟩ = some (.slice A0_3 l0_3.length c0_3)) ∧ (Kd.R Kd.string 9 w' w.heap.size (fun k_ => some k_ ≠ (s_.1 : Value).ownBlock) (.slice Ao103 t206.length co103) t206) ∧ (Kd.R Kd.string 9 w' w.heap.size (fun k_ => some k_ ≠ (.slice Ao103 t206.length co103 : Value).ownBlock) s_.1 t211) ∧ (w'.heap[gb201]? = some (.cells #[.bool false, .slice A0_1 l0_1.length c0_1, .slice A0_2 l0_2.length c0_2, .slice A0_3 l0_3.length c0_3] 31 (0, 0))) ∧ (w'.heap[gb202]? = some (.cells #[.bool false, .slice none 0 0, .slice none 0 0, .slice none 0 0] 31 (0, 0))) ∧ (w'.heap[gb203]? = some (.cells #[.bool false, .slice none 0 0, .slice none 0 0, .slice none 0 0] 31 (0, 0))) ∧ (w'.heap[gb209]? = some (.cells #[.bool false, .slice Ao103 t206.length co103, .slice none 0 0, .slice none 0 0] 31 (0, 0))) ∧ (w'.heap[s_.2]? = some (.cells #[.bool false, .slice none 0 0, .slice none 0 0, .slice none 0 0] 31 (0, 0))) ∧ (w.heap.size ≤ s_.2) ∧ (w.heap.size ≤ s_.2) ∧ (gb201 ≠ s_.2) ∧ (s_.2 ≠ gb201) ∧ (gb202 ≠ s_.2) ∧ (s_.2 ≠ gb202) ∧ (gb203 ≠ s_.2) ∧ (s_.2 ≠ gb203) ∧ (gb209 ≠ s_.2) ∧ (s_.2 ≠ gb209) ∧ (Below w.heap.size w w')) ?_ ?_
             rotate_left
             ·intro hCont
              refine two_ (i := 8) (j := 10) (Ni := some 49) (Nj := some 12) #[true, true, true, true, true, true, true, true, true, false, false, false] #[true, true, true, true, true, true, true, true, false, false, true, false] rfl rfl rfl rfl (two_of HT_.out (by kernel_rfl)) (by decide) (by decide) (fun K hK => ?_) (fun K hK => ?_)
              ·skip
               refine goes_ Try.func54 (by kernel_rfl) rfl #[.slice A110 (l0_1.drop ((ji25) : Int).toNat).length (c0_1 - (ji25).toNat)] (by rfl) rfl rfl (by (try simp only [List.map_toArray, List.map_cons, List.map_nil]); first | done | (rw [show (l0_1.drop ((ji25) : Int).toNat).length = (l0_1.length - (ji25).toNat) from List.length_drop] <;> rfl) | (simp only [hji25]; rfl) | rfl | (simp only [List.length_drop, List.length_take]; rfl)) ?_
               with_reducible refine (slices_Clone_string_string.calls _ _ (l0_1.drop ((ji25) : Int).toNat) t211 _ ?_ ?_ A28.out).mono ?_
               exact cB_ HR210 HB
               exact HC210.out
               rintro e w111 ⟨v212, rfl, ho0, hb⟩
               refine ⟨_, rfl, ?_⟩
               have HO213 := Aside0.mk (Kd.R_lower (Kd.R_new' ho0 (Kd.R_lt (rA_ HO208))) (bs_ HB))
               replace HO208 := Aside0.mk (Kd.R_elder' (rA_ HO208) (Kd.R_base ho0) hb)
               replace BK201 := bK_ BK201 hb
               replace BK202 := bK_ BK202 hb
               replace BK203 := bK_ BK203 hb
               replace BK209 := bK_ BK209 hb
               replace HB := bS_ HB hb
               (try clear hb ho0)
               obtain ⟨Ao112, co112, eo112⟩ := Kd.R_slice HO213.out
               (first | subst eo112 | (injection eo112 with f1_ f2_ f3_; have f4_ := f1_.symm; have f5_ := f3_.symm; clear f1_ f2_ f3_; subst f4_; subst f5_))
               refine hK.out _ _ ⟨(blk_cell BK201.out 0).trans rfl, (blk_cell BK201.out 1).trans rfl, (blk_cell BK201.out 2).trans rfl, (blk_cell BK201.out 3).trans rfl⟩ (fun hHeld => ?_)
               clear hK K
               refine norm_ (a' := ?_) ?_ ?_
               rotate_left
               ·show Act.put _ (some 49) _ = _
                simp only [Act.put, List.setIfInBounds_toArray, List.set_cons_zero, List.set_cons_succ, i64_w, i32_w]
                rfl
               refine pu_ 9 (some 50) HT_ ?_
               refine on_ 10 (some 12) HT_ (fun K hK => ?_)
               refine box_step ?hg (N := 12) ?hd (cs := #[.bool false, .slice none 0 0, .slice none 0 0, .slice none 0 0]) (t := 31) ?hr ?_; (case hd => rfl); (case hg => rfl); (case hr => first | (go_simp; done) | (go_simp; rfl))
               intro gb214 hg w113 hbox hb
               replace HO208 := rB_ HO208 hb
               replace HO213 := rB_ HO213 hb
               have BK214 := Aside0.mk (hbox)
               have GW214 := bG_ HB hg
               have GE214 := bG_ HB hg
               replace HB := bS_ HB hb
               have NB201_214 := nL_ BK201 hg
               have NB214_201 := nG_ BK201 hg
               replace BK201 := bK_ BK201 hb
               have NB202_214 := nL_ BK202 hg
               have NB214_202 := nG_ BK202 hg
               replace BK202 := bK_ BK202 hb
               have NB203_214 := nL_ BK203 hg
               have NB214_203 := nG_ BK203 hg
               replace BK203 := bK_ BK203 hb
               have NB209_214 := nL_ BK209 hg
               have NB214_209 := nG_ BK209 hg
               replace BK209 := bK_ BK209 hb
               clear hb hbox hg
               refine hK.out _ _ ⟨(blk_cell BK201.out 0).trans rfl, (blk_cell BK201.out 1).trans rfl, (blk_cell BK201.out 2).trans rfl, (blk_cell BK201.out 3).trans rfl⟩ (fun hHeld => ?_)
               clear hK K
               refine norm_ (a' := ?_) ?_ ?_
               rotate_left
               ·show Act.put _ (some 12) _ = _
                simp only [Act.put, List.setIfInBounds_toArray, List.set_cons_zero, List.set_cons_succ, i64_w, i32_w]
                rfl
               exact norm_ (by simp only [putAll, Act.put, List.setIfInBounds_toArray, List.set_cons_zero, List.set_cons_succ]) (hCont (.slice Ao112 t211.length co112, gb214) _ ⟨hHeld, (by (with_reducible repeat (first | apply Kd.R_alloc | apply Kd.R_drewN | apply Kd.R_drew)); exact Kd.R_mono HO208.out (fun _ hk => hk.2)), (by (with_reducible repeat (first | apply Kd.R_alloc | apply Kd.R_drewN | apply Kd.R_drew)); exact Kd.R_mono HO213.out (fun _ hk => hk.2)), (bA_ BK201), (bA_ BK202), (bA_ BK203), (bA_ BK209), (bA_ BK214), GW214.out, GE214.out, NB201_214.out, NB214_201.out, NB202_214.out, NB214_202.out, NB203_214.out, NB214_203.out, NB209_214.out, NB214_209.out, (bl_ HB)⟩)
              ·skip
               refine box_step ?hg (N := 12) ?hd (cs := #[.bool false, .slice none 0 0, .slice none 0 0, .slice none 0 0]) (t := 31) ?hr ?_; (case hd => rfl); (case hg => rfl); (case hr => first | (go_simp; done) | (go_simp; rfl))
               intro gb214 hg w111 hbox hb
               replace HO208 := rB_ HO208 hb
               have BK214 := Aside0.mk (hbox)
               have GW214 := bG_ HB hg
               have GE214 := bG_ HB hg
               replace HB := bS_ HB hb
               have NB201_214 := nL_ BK201 hg
               have NB214_201 := nG_ BK201 hg
               replace BK201 := bK_ BK201 hb
               have NB202_214 := nL_ BK202 hg
               have NB214_202 := nG_ BK202 hg
               replace BK202 := bK_ BK202 hb
               have NB203_214 := nL_ BK203 hg
               have NB214_203 := nG_ BK203 hg
               replace BK203 := bK_ BK203 hb
               have NB209_214 := nL_ BK209 hg
               have NB214_209 := nG_ BK209 hg
               replace BK209 := bK_ BK209 hb
               clear hb hbox hg
               refine hK.out _ _ ⟨(blk_cell BK201.out 0).trans rfl, (blk_cell BK201.out 1).trans rfl, (blk_cell BK201.out 2).trans rfl, (blk_cell BK201.out 3).trans rfl⟩ (fun hHeld => ?_)
               clear hK K
               refine norm_ (a' := ?_) ?_ ?_
               rotate_left
               ·show Act.put _ (some 12) _ = _
                simp only [Act.put, List.setIfInBounds_toArray, List.set_cons_zero, List.set_cons_succ, i64_w, i32_w]
                rfl
               refine on_ 8 (some 49) HT_ (fun K hK => ?_)
               refine goes_ Try.func54 (by kernel_rfl) rfl #[.slice A110 (l0_1.drop ((ji25) : Int).toNat).length (c0_1 - (ji25).toNat)] (by rfl) rfl rfl (by (try simp only [List.map_toArray, List.map_cons, List.map_nil]); first | done | (rw [show (l0_1.drop ((ji25) : Int).toNat).length = (l0_1.length - (ji25).toNat) from List.length_drop] <;> rfl) | (simp only [hji25]; rfl) | rfl | (simp only [List.length_drop, List.length_take]; rfl)) ?_
               with_reducible refine (slices_Clone_string_string.calls _ _ (l0_1.drop ((ji25) : Int).toNat) t211 _ ?_ ?_ A28.out).mono ?_
               exact cB_ HR210 HB
               exact HC210.out
               rintro e w112 ⟨v212, rfl, ho0, hb⟩
               refine ⟨_, rfl, ?_⟩
               have HO213 := Aside0.mk (Kd.R_lower (Kd.R_new' ho0 (Kd.R_lt (rA_ HO208))) (bs_ HB))
               replace HO208 := Aside0.mk (Kd.R_elder' (rA_ HO208) (Kd.R_base ho0) hb)
               replace BK201 := bK_ BK201 hb
               replace BK202 := bK_ BK202 hb
               replace BK203 := bK_ BK203 hb
               replace BK209 := bK_ BK209 hb
               replace BK214 := bK_ BK214 hb
               replace HB := bS_ HB hb
               (try clear hb ho0)
               obtain ⟨Ao113, co113, eo113⟩ := Kd.R_slice HO213.out
               (first | subst eo113 | (injection eo113 with f1_ f2_ f3_; have f4_ := f1_.symm; have f5_ := f3_.symm; clear f1_ f2_ f3_; subst f4_; subst f5_))
               refine hK.out _ _ ⟨(blk_cell BK201.out 0).trans rfl, (blk_cell BK201.out 1).trans rfl, (blk_cell BK201.out 2).trans rfl, (blk_cell BK201.out 3).trans rfl⟩ (fun hHeld => ?_)
               clear hK K
               refine norm_ (a' := ?_) ?_ ?_
               rotate_left
               ·show Act.put _ (some 49) _ = _
                simp only [Act.put, List.setIfInBounds_toArray, List.set_cons_zero, List.set_cons_succ, i64_w, i32_w]
                rfl
               refine pu_ 9 (some 50) HT_ ?_
               exact norm_ (by simp only [putAll, Act.put, List.setIfInBounds_toArray, List.set_cons_zero, List.set_cons_succ]) (hCont (.slice Ao113 t211.length co113, gb214) _ ⟨hHeld, (by (with_reducible repeat (first | apply Kd.R_alloc | apply Kd.R_drewN | apply Kd.R_drew)); exact Kd.R_mono HO208.out (fun _ hk => hk.2)), (by (with_reducible repeat (first | apply Kd.R_alloc | apply Kd.R_drewN | apply Kd.R_drew)); exact Kd.R_mono HO213.out (fun _ hk => hk.2)), (bA_ BK201), (bA_ BK202), (bA_ BK203), (bA_ BK209), (bA_ BK214), GW214.out, GE214.out, NB201_214.out, NB214_201.out, NB202_214.out, NB214_202.out, NB203_214.out, NB214_203.out, NB209_214.out, NB214_209.out, (bl_ HB)⟩)
             rintro ⟨v212, gb214⟩ w114 ⟨hS_, h0_, h1_, h2_, h3_, h4_, h5_, h6_, h7_, h8_, h9_, h10_, h11_, h12_, h13_, h14_, h15_, h16_, h17_⟩
             replace HO208 : Aside0 (Kd.R Kd.string 9 w114 w.heap.size (fun k_ => some k_ ≠ (v212 : Value).ownBlock) (.slice Ao103 t206.length co103) t206) := ⟨h0_⟩
             have HO213 : Aside0 (Kd.R Kd.string 9 w114 w.heap.size (fun k_ => some k_ ≠ (.slice Ao103 t206.length co103 : Value).ownBlock) v212 t211) := ⟨h1_⟩
             replace BK201 : Aside0 (w114.heap[gb201]? = some (.cells #[.bool false, .slice A0_1 l0_1.length c0_1, .slice A0_2 l0_2.length c0_2, .slice A0_3 l0_3.length c0_3] 31 (0, 0))) := ⟨h2_⟩
             replace BK202 : Aside0 (w114.heap[gb202]? = some (.cells #[.bool false, .slice none 0 0, .slice none 0 0, .slice none 0 0] 31 (0, 0))) := ⟨h3_⟩
             replace BK203 : Aside0 (w114.heap[gb203]? = some (.cells #[.bool false, .slice none 0 0, .slice none 0 0, .slice none 0 0] 31 (0, 0))) := ⟨h4_⟩
             replace BK209 : Aside0 (w114.heap[gb209]? = some (.cells #[.bool false, .slice Ao103 t206.length co103, .slice none 0 0, .slice none 0 0] 31 (0, 0))) := ⟨h5_⟩
             have BK214 : Aside0 (w114.heap[gb214]? = some (.cells #[.bool false, .slice none 0 0, .slice none 0 0, .slice none 0 0] 31 (0, 0))) := ⟨h6_⟩
             have GW214 : Aside0 (w.heap.size ≤ gb214) := ⟨h7_⟩
             have GE214 : Aside0 (w.heap.size ≤ gb214) := ⟨h8_⟩
             have NB201_214 : Aside0 (gb201 ≠ gb214) := ⟨h9_⟩
             have NB214_201 : Aside0 (gb214 ≠ gb201) := ⟨h10_⟩
             have NB202_214 : Aside0 (gb202 ≠ gb214) := ⟨h11_⟩
             have NB214_202 : Aside0 (gb214 ≠ gb202) := ⟨h12_⟩
             have NB203_214 : Aside0 (gb203 ≠ gb214) := ⟨h13_⟩
             have NB214_203 : Aside0 (gb214 ≠ gb203) := ⟨h14_⟩
             have NB209_214 : Aside0 (gb209 ≠ gb214) := ⟨h15_⟩
             have NB214_209 : Aside0 (gb214 ≠ gb209) := ⟨h16_⟩
             replace HB : Aside0 (Below w.heap.size w w114) := ⟨h17_⟩
             clear h0_ h1_ h2_ h3_ h4_ h5_ h6_ h7_ h8_ h9_ h10_ h11_ h12_ h13_ h14_ h15_ h16_ h17_
             have hHeld : w114.cell? ⟨gb201, 0, none⟩ = some (.bool false) ∧ w114.cell? ⟨gb201, 1, none⟩ = some (.slice A0_1 l0_1.length c0_1) ∧ w114.cell? ⟨gb201, 2, none⟩ = some (.slice A0_2 l0_2.length c0_2) ∧ w114.cell? ⟨gb201, 3, none⟩ = some (.slice A0_3 l0_3.length c0_3) := hS_
             obtain ⟨Ao115, co115, eo115⟩ := Kd.R_slice HO213.out
             (first | subst eo115 | (injection eo115 with f1_ f2_ f3_; have f4_ := f1_.symm; have f5_ := f3_.symm; clear f1_ f2_ f3_; subst f4_; subst f5_))
             refine norm_ (a' := ?_) ?_ ?_
             rotate_left
             ·simp only [putAll, Act.put, List.setIfInBounds_toArray, List.set_cons_zero, List.set_cons_succ]
              rfl
             refine on_ 11 none HT_ (fun K hK => ?_)
             have hs116 : w114.cell? ⟨gb214, 0, none⟩ = some (.bool false) := (blk_cell BK214.out 0).trans rfl
             have hfs116 := blk_frozen BK214.out 0
             have hns116_0 := NB201_214.out
             have hns116_1 := NB202_214.out
             have hns116_2 := NB203_214.out
             have hns116_3 := NB209_214.out
             have hms116_0 := NB214_201.out
             have hms116_1 := NB214_202.out
             have hms116_2 := NB214_203.out
             have hms116_3 := NB214_209.out
             have hs117 : w114.cell? ⟨gb214, 1, none⟩ = some (.slice none 0 0) := (blk_cell BK214.out 1).trans rfl
             have hfs117 := blk_frozen BK214.out 1
             have hns117_0 := NB201_214.out
             have hns117_1 := NB202_214.out
             have hns117_2 := NB203_214.out
             have hns117_3 := NB209_214.out
             have hms117_0 := NB214_201.out
             have hms117_1 := NB214_202.out
             have hms117_2 := NB214_203.out
             have hms117_3 := NB214_209.out
             have hs118 : w114.cell? ⟨gb214, 2, none⟩ = some (.slice none 0 0) := (blk_cell BK214.out 2).trans rfl
             have hfs118 := blk_frozen BK214.out 2
             have hns118_0 := NB201_214.out
             have hns118_1 := NB202_214.out
             have hns118_2 := NB203_214.out
             have hns118_3 := NB209_214.out
             have hms118_0 := NB214_201.out
             have hms118_1 := NB214_202.out
             have hms118_2 := NB214_203.out
             have hms118_3 := NB214_209.out
             have hs119 : w114.cell? ⟨gb214, 3, none⟩ = some (.slice none 0 0) := (blk_cell BK214.out 3).trans rfl
             have hfs119 := blk_frozen BK214.out 3
             have hns119_0 := NB201_214.out
             have hns119_1 := NB202_214.out
             have hns119_2 := NB203_214.out
             have hns119_3 := NB209_214.out
             have hms119_0 := NB214_201.out
             have hms119_1 := NB214_202.out
             have hms119_2 := NB214_203.out
             have hms119_3 := NB214_209.out
             refine skip_ (w1 := ?_) (by rfl) rfl ?_ ?_
             rotate_left
             ·go_simp
              rfl
             refine hK.out _ _ ⟨((cell_far (p := ⟨gb214, _, none⟩) NB201_214.out _).trans (((cell_far (p := ⟨gb214, _, none⟩) NB201_214.out _).trans (((cell_far (p := ⟨gb214, _, none⟩) NB201_214.out _).trans (((cell_far (p := ⟨gb214, _, none⟩) NB201_214.out _).trans (hHeld.1)))))))), ((cell_far (p := ⟨gb214, _, none⟩) NB201_214.out _).trans (((cell_far (p := ⟨gb214, _, none⟩) NB201_214.out _).trans (((cell_far (p := ⟨gb214, _, none⟩) NB201_214.out _).trans (((cell_far (p := ⟨gb214, _, none⟩) NB201_214.out _).trans (hHeld.2.1)))))))), ((cell_far (p := ⟨gb214, _, none⟩) NB201_214.out _).trans (((cell_far (p := ⟨gb214, _, none⟩) NB201_214.out _).trans (((cell_far (p := ⟨gb214, _, none⟩) NB201_214.out _).trans (((cell_far (p := ⟨gb214, _, none⟩) NB201_214.out _).trans (hHeld.2.2.1)))))))), ((cell_far (p := ⟨gb214, _, none⟩) NB201_214.out _).trans (((cell_far (p := ⟨gb214, _, none⟩) NB201_214.out _).trans (((cell_far (p := ⟨gb214, _, none⟩) NB201_214.out _).trans (((cell_far (p := ⟨gb214, _, none⟩) NB201_214.out _).trans (hHeld.2.2.2))))))))⟩ (fun hHeld => ?_)
             clear hK K
             refine done_ (done_of HT_.out (by kernel_rfl)) ?_
             have hnb120 := NB201_209.out
             have hnc120 := NB209_201.out
             have hnb121 := NB201_214.out
             have hnc121 := NB214_201.out
             obtain ⟨hcz122_0, hcz122_1, hcz122_2, hcz122_3, hfz122_0, hfz122_1, hfz122_2, hfz122_3⟩ := cz4_ BK201
             try go_wp2
             have n0_ : Aside0 (Kd.R Kd.string 9 ((((w114.setCell ⟨gb214, 0, none⟩ (.bool false)).setCell ⟨gb214, 1, none⟩ (.slice Ao115 t211.length co115)).setCell ⟨gb214, 2, none⟩ (.slice none 0 0)).setCell ⟨gb214, 3, none⟩ (.slice none 0 0)) w.heap.size (fun k_ => some k_ ≠ (.slice Ao115 t211.length co115 : Value).ownBlock) (.slice Ao103 t206.length co103) t206) := ⟨by (with_reducible repeat (first | apply Kd.R_alloc | apply Kd.R_drewN | apply Kd.R_drew)); exact Kd.R_mono (Kd.R_far (p := ⟨gb214, 3, none⟩) (Kd.R_far (p := ⟨gb214, 2, none⟩) (Kd.R_far (p := ⟨gb214, 1, none⟩) (Kd.R_far (p := ⟨gb214, 0, none⟩) (Kd.R_types HO208.out BK214.out (by decide)) (fun _ hk => hk.2) (.bool false)) (fun _ hk => hk.2) (.slice Ao115 t211.length co115)) (fun _ hk => hk.2) (.slice none 0 0)) (fun _ hk => hk.2) (.slice none 0 0)) (fun _ hk => hk.1)⟩
             have n1_ : Aside0 (Kd.R Kd.string 9 ((((w114.setCell ⟨gb214, 0, none⟩ (.bool false)).setCell ⟨gb214, 1, none⟩ (.slice Ao115 t211.length co115)).setCell ⟨gb214, 2, none⟩ (.slice none 0 0)).setCell ⟨gb214, 3, none⟩ (.slice none 0 0)) w.heap.size (fun k_ => some k_ ≠ (.slice Ao103 t206.length co103 : Value).ownBlock) (.slice Ao115 t211.length co115) t211) := ⟨by (with_reducible repeat (first | apply Kd.R_alloc | apply Kd.R_drewN | apply Kd.R_drew)); exact Kd.R_mono (Kd.R_far (p := ⟨gb214, 3, none⟩) (Kd.R_far (p := ⟨gb214, 2, none⟩) (Kd.R_far (p := ⟨gb214, 1, none⟩) (Kd.R_far (p := ⟨gb214, 0, none⟩) (Kd.R_types HO213.out BK214.out (by decide)) (fun _ hk => hk.2) (.bool false)) (fun _ hk => hk.2) (.slice Ao115 t211.length co115)) (fun _ hk => hk.2) (.slice none 0 0)) (fun _ hk => hk.2) (.slice none 0 0)) (fun _ hk => hk.1)⟩
             have n2_ : Aside0 (((((w114.setCell ⟨gb214, 0, none⟩ (.bool false)).setCell ⟨gb214, 1, none⟩ (.slice Ao115 t211.length co115)).setCell ⟨gb214, 2, none⟩ (.slice none 0 0)).setCell ⟨gb214, 3, none⟩ (.slice none 0 0)).heap[gb201]? = some (.cells #[.bool false, .slice A0_1 l0_1.length c0_1, .slice A0_2 l0_2.length c0_2, .slice A0_3 l0_3.length c0_3] 31 (0, 0))) := ⟨bA_ BK201⟩
             have n3_ : Aside0 (((((w114.setCell ⟨gb214, 0, none⟩ (.bool false)).setCell ⟨gb214, 1, none⟩ (.slice Ao115 t211.length co115)).setCell ⟨gb214, 2, none⟩ (.slice none 0 0)).setCell ⟨gb214, 3, none⟩ (.slice none 0 0)).heap[gb202]? = some (.cells #[.bool false, .slice none 0 0, .slice none 0 0, .slice none 0 0] 31 (0, 0))) := ⟨bA_ BK202⟩
             have n4_ : Aside0 (((((w114.setCell ⟨gb214, 0, none⟩ (.bool false)).setCell ⟨gb214, 1, none⟩ (.slice Ao115 t211.length co115)).setCell ⟨gb214, 2, none⟩ (.slice none 0 0)).setCell ⟨gb214, 3, none⟩ (.slice none 0 0)).heap[gb203]? = some (.cells #[.bool false, .slice none 0 0, .slice none 0 0, .slice none 0 0] 31 (0, 0))) := ⟨bA_ BK203⟩
             have n5_ : Aside0 (((((w114.setCell ⟨gb214, 0, none⟩ (.bool false)).setCell ⟨gb214, 1, none⟩ (.slice Ao115 t211.length co115)).setCell ⟨gb214, 2, none⟩ (.slice none 0 0)).setCell ⟨gb214, 3, none⟩ (.slice none 0 0)).heap[gb209]? = some (.cells #[.bool false, .slice Ao103 t206.length co103, .slice none 0 0, .slice none 0 0] 31 (0, 0))) := ⟨bA_ BK209⟩
             have n6_ : Aside0 (((((w114.setCell ⟨gb214, 0, none⟩ (.bool false)).setCell ⟨gb214, 1, none⟩ (.slice Ao115 t211.length co115)).setCell ⟨gb214, 2, none⟩ (.slice none 0 0)).setCell ⟨gb214, 3, none⟩ (.slice none 0 0)).heap[gb214]? = some (.cells #[.bool false, .slice Ao115 t211.length co115, .slice none 0 0, .slice none 0 0] 31 (0, 0))) := ⟨by (with_reducible repeat (first | refine blk_drewN ?_ _ | refine blk_drew ?_ | refine blk_alloc ?_ _)); refine blk_put (cs := #[.bool false, .slice Ao115 t211.length co115, .slice none 0 0, .slice none 0 0]) ?_ 3 _ rfl; (with_reducible repeat (first | refine blk_drewN ?_ _ | refine blk_drew ?_ | refine blk_alloc ?_ _)); refine blk_put (cs := #[.bool false, .slice Ao115 t211.length co115, .slice none 0 0, .slice none 0 0]) ?_ 2 _ rfl; (with_reducible repeat (first | refine blk_drewN ?_ _ | refine blk_drew ?_ | refine blk_alloc ?_ _)); refine blk_put (cs := #[.bool false, .slice none 0 0, .slice none 0 0, .slice none 0 0]) ?_ 1 _ rfl; (with_reducible repeat (first | refine blk_drewN ?_ _ | refine blk_drew ?_ | refine blk_alloc ?_ _)); refine blk_put (cs := #[.bool false, .slice none 0 0, .slice none 0 0, .slice none 0 0]) ?_ 0 _ rfl; (with_reducible repeat (first | refine blk_drewN ?_ _ | refine blk_drew ?_ | refine blk_alloc ?_ _)); exact BK214.out⟩
             have n7_ : Aside0 (Below w.heap.size w ((((w114.setCell ⟨gb214, 0, none⟩ (.bool false)).setCell ⟨gb214, 1, none⟩ (.slice Ao115 t211.length co115)).setCell ⟨gb214, 2, none⟩ (.slice none 0 0)).setCell ⟨gb214, 3, none⟩ (.slice none 0 0))) := ⟨bl_ HB⟩
             (try clear HO208 HO213 BK201 BK202 BK203 BK209 BK214 HB)
             generalize ((((w114.setCell ⟨gb214, 0, none⟩ (.bool false)).setCell ⟨gb214, 1, none⟩ (.slice Ao115 t211.length co115)).setCell ⟨gb214, 2, none⟩ (.slice none 0 0)).setCell ⟨gb214, 3, none⟩ (.slice none 0 0)) = w123 at n0_ n1_ n2_ n3_ n4_ n5_ n6_ n7_ ⊢
             have HO208 := n0_
             have HO213 := n1_
             have BK201 := n2_
             have BK202 := n3_
             have BK203 := n4_
             have BK209 := n5_
             have BK214 := n6_
             have HB := n7_
             clear n0_ n1_ n2_ n3_ n4_ n5_ n6_ n7_
             replace HO208 := Aside0.mk (Kd.R_drew HO208.out)
             replace HO213 := Aside0.mk (Kd.R_drew HO213.out)
             replace BK201 := Aside0.mk (blk_drew BK201.out)
             replace BK202 := Aside0.mk (blk_drew BK202.out)
             replace BK203 := Aside0.mk (blk_drew BK203.out)
             replace BK209 := Aside0.mk (blk_drew BK209.out)
             replace BK214 := Aside0.mk (blk_drew BK214.out)
             replace HB := Aside0.mk (below_drew1 HB.out)
             obtain ⟨i0125, hi0125, _, hsz125, _⟩ := info_parts info3
             obtain ⟨hcut125, hA125, hC125⟩ := print_take_of (P := Try.prog) (Value.int .i64) 0 23 3 .i64 Try.underlying23 hi0125 hsz125 A0_3 c0_3 l0_3 (ji86) (of_decide_eq_true (by first | (with_reducible assumption) | assumption)) (of_decide_eq_true (by first | (with_reducible assumption) | assumption)) HC0_3.out
             have HR224 := Aside0.mk (Kd.C_of_reads (h1 := fun _ => rfl) (hA125 _ (Kd.reads_of_C HR0_3.out)))
             have HC224 := Aside0.mk hC125
             clear hA125 hC125 hi0125 hsz125
             obtain ⟨i0126, hi0126, _, hsz126, _⟩ := info_parts info3
             obtain ⟨A126, hcut126, hA126, hC126⟩ := print_drop_of (P := Try.prog) (Value.int .i64) 0 23 3 .i64 Try.underlying23 hi0126 hsz126 A0_3 c0_3 l0_3 (ji86) (of_decide_eq_true (by first | (with_reducible assumption) | assumption)) (of_decide_eq_true (by first | (with_reducible assumption) | assumption)) HC0_3.out
             have HR228 := Aside0.mk (Kd.C_of_reads (h1 := fun _ => rfl) (hA126 _ (Kd.reads_of_C HR0_3.out)))
             have HC228 := Aside0.mk hC126
             clear hA126 hC126 hi0126 hsz126
             refine start_ (n := 16) (S := fun w' => w'.cell? ⟨gb201, 0, none⟩ = some (.bool false) ∧ w'.cell? ⟨gb201, 1, none⟩ = some (.slice A0_1 l0_1.length c0_1) ∧ w'.cell? ⟨gb201, 2, none⟩ = some (.slice A0_2 l0_2.length c0_2) ∧ w'.cell? ⟨gb201, 3, none⟩ = some (.slice A0_3 l0_3.length c0_3)) (ds := []) #[false, false, false, false, false, false, false, false, false, false, false, false, false, false, false, false] (by kernel_rfl) rfl rfl ⟨(blk_cell BK201.out 0).trans rfl, (blk_cell BK201.out 1).trans rfl, (blk_cell BK201.out 2).trans rfl, (blk_cell BK201.out 3).trans rfl⟩ (fun hHeld => ?_); refine with_tabW node_Split.tab15 node_Split.bits15 (fun HT_ HW_ => ?_)
             generalize w123.drew = w124 at HO208 HO213 BK201 BK202 BK203 BK209 BK214 HB HR224 HR228 hHeld ⊢
             refine pu_ 0 (some 65) HT_ ?_
             refine pu_ 2 (some 67) HT_ ?_
             refine pu_ 3 (some 68) HT_ ?_
             refine pu_ 6 (some 71) HT_ ?_
             refine pu_ 8 (some 73) HT_ ?_
             refine pu_ 9 (some 74) HT_ ?_
             refine tk_ 1 (some 66) HT_ HW_ hHeld ?_
             refine pu_ 4 (some 69) HT_ ?_
             refine tk_ 7 (some 72) HT_ HW_ hHeld ?_
             refine pu_ 10 (some 75) HT_ ?_
             refine on_ 5 (some 70) HT_ (fun K hK => ?_)
             refine goes_ Try.func55 (by kernel_rfl) rfl #[.slice A0_3 (l0_3.take ((ji86) : Int).toNat).length c0_3] (by rfl) rfl rfl (by (try simp only [List.map_toArray, List.map_cons, List.map_nil]); first | done | (rw [show (l0_3.take ((ji86) : Int).toNat).length = (ji86).toNat from (by rw [List.length_take]; have h_ : ((ji86) : Int) ≤ (l0_3.length : Int) := of_decide_eq_true (by first | (with_reducible assumption) | assumption); omega)] <;> rfl) | (simp only [hji86]; rfl) | rfl | (simp only [List.length_drop, List.length_take]; rfl)) ?_
             with_reducible refine (slices_Clone_int_int.calls _ _ (l0_3.take ((ji86) : Int).toNat) t225 _ ?_ ?_ A89.out).mono ?_
             exact cB_ HR224 HB
             exact HC224.out
             rintro e w127 ⟨v226, rfl, ho0, hb⟩
             refine ⟨_, rfl, ?_⟩
             replace HO208 := rB_ HO208 hb
             replace HO213 := rB_ HO213 hb
             have HO227 := Aside0.mk (Kd.R_lower ho0 (bs_ HB))
             replace BK201 := bK_ BK201 hb
             replace BK202 := bK_ BK202 hb
             replace BK203 := bK_ BK203 hb
             replace BK209 := bK_ BK209 hb
             replace BK214 := bK_ BK214 hb
             replace HB := bS_ HB hb
             (try clear hb ho0)
             refine hK.out _ _ ⟨(blk_cell BK201.out 0).trans rfl, (blk_cell BK201.out 1).trans rfl, (blk_cell BK201.out 2).trans rfl, (blk_cell BK201.out 3).trans rfl⟩ (fun hHeld => ?_)
             clear hK K
             refine norm_ (a' := ?_) ?_ ?_
             rotate_left
             ·show Act.put _ (some 70) _ = _
              simp only [Act.put, List.setIfInBounds_toArray, List.set_cons_zero, List.set_cons_succ, i64_w, i32_w]
              rfl
             refine pu_ 12 (some 77) HT_ ?_
             refine on_ 11 (some 76) HT_ (fun K hK => ?_)
             refine goes_ Try.func55 (by kernel_rfl) rfl #[.slice A126 (l0_3.drop ((ji86) : Int).toNat).length (c0_3 - (ji86).toNat)] (by rfl) rfl rfl (by (try simp only [List.map_toArray, List.map_cons, List.map_nil]); first | done | (rw [show (l0_3.drop ((ji86) : Int).toNat).length = (l0_3.length - (ji86).toNat) from List.length_drop] <;> rfl) | (simp only [hji86]; rfl) | rfl | (simp only [List.length_drop, List.length_take]; rfl)) ?_
             with_reducible refine (slices_Clone_int_int.calls _ _ (l0_3.drop ((ji86) : Int).toNat) t229 _ ?_ ?_ A92.out).mono ?_
             exact cB_ HR228 HB
             exact HC228.out
             rintro e w128 ⟨v230, rfl, ho0, hb⟩
             refine ⟨_, rfl, ?_⟩
             replace HO208 := rB_ HO208 hb
             replace HO213 := rB_ HO213 hb
             have HO231 := Aside0.mk (Kd.R_lower (Kd.R_new' ho0 (Kd.R_lt (rA_ HO227))) (bs_ HB))
             replace HO227 := Aside0.mk (Kd.R_elder' (rA_ HO227) (Kd.R_base ho0) hb)
             replace BK201 := bK_ BK201 hb
             replace BK202 := bK_ BK202 hb
             replace BK203 := bK_ BK203 hb
             replace BK209 := bK_ BK209 hb
             replace BK214 := bK_ BK214 hb
             replace HB := bS_ HB hb
             (try clear hb ho0)
             obtain ⟨Ao129, co129, eo129⟩ := Kd.R_slice HO227.out
             (first | subst eo129 | (injection eo129 with f1_ f2_ f3_; have f4_ := f1_.symm; have f5_ := f3_.symm; clear f1_ f2_ f3_; subst f4_; subst f5_))
             obtain ⟨Ao131, co131, eo131⟩ := Kd.R_slice HO231.out
             (first | subst eo131 | (injection eo131 with f1_ f2_ f3_; have f4_ := f1_.symm; have f5_ := f3_.symm; clear f1_ f2_ f3_; subst f4_; subst f5_))
             refine hK.out _ _ ⟨(blk_cell BK201.out 0).trans rfl, (blk_cell BK201.out 1).trans rfl, (blk_cell BK201.out 2).trans rfl, (blk_cell BK201.out 3).trans rfl⟩ (fun hHeld => ?_)
             clear hK K
             refine norm_ (a' := ?_) ?_ ?_
             rotate_left
             ·show Act.put _ (some 76) _ = _
              simp only [Act.put, List.setIfInBounds_toArray, List.set_cons_zero, List.set_cons_succ, i64_w, i32_w]
              rfl
             refine on_ 13 none HT_ (fun K hK => ?_)
             have hs130 : w128.cell? ⟨gb209, 3, none⟩ = some (.slice none 0 0) := (blk_cell BK209.out 3).trans rfl
             have hfs130 := blk_frozen BK209.out 3
             have hns130_0 := NB201_209.out
             have hns130_1 := NB202_209.out
             have hns130_2 := NB203_209.out
             have hns130_4 := NB214_209.out
             have hms130_0 := NB209_201.out
             have hms130_1 := NB209_202.out
             have hms130_2 := NB209_203.out
             have hms130_4 := NB209_214.out
             refine skip_ (w1 := ?_) (by rfl) rfl ?_ ?_
             rotate_left
             ·go_simp
              rfl
             refine hK.out _ _ ⟨((cell_far (p := ⟨gb209, _, none⟩) NB201_209.out _).trans (hHeld.1)), ((cell_far (p := ⟨gb209, _, none⟩) NB201_209.out _).trans (hHeld.2.1)), ((cell_far (p := ⟨gb209, _, none⟩) NB201_209.out _).trans (hHeld.2.2.1)), ((cell_far (p := ⟨gb209, _, none⟩) NB201_209.out _).trans (hHeld.2.2.2))⟩ (fun hHeld => ?_)
             clear hK K
             refine pu_ 14 (some 78) HT_ ?_
             refine on_ 15 none HT_ (fun K hK => ?_)
             have hs132 : w128.cell? ⟨gb214, 3, none⟩ = some (.slice none 0 0) := (blk_cell BK214.out 3).trans rfl
             have hfs132 := blk_frozen BK214.out 3
             have hns132_0 := NB201_214.out
             have hns132_1 := NB202_214.out
             have hns132_2 := NB203_214.out
             have hns132_3 := NB209_214.out
             have hms132_0 := NB214_201.out
             have hms132_1 := NB214_202.out
             have hms132_2 := NB214_203.out
             have hms132_3 := NB214_209.out
             refine skip_ (w1 := ?_) (by rfl) rfl ?_ ?_
             rotate_left
             ·go_simp
              rfl
             refine hK.out _ _ ⟨((cell_far (p := ⟨gb214, _, none⟩) NB201_214.out _).trans (hHeld.1)), ((cell_far (p := ⟨gb214, _, none⟩) NB201_214.out _).trans (hHeld.2.1)), ((cell_far (p := ⟨gb214, _, none⟩) NB201_214.out _).trans (hHeld.2.2.1)), ((cell_far (p := ⟨gb214, _, none⟩) NB201_214.out _).trans (hHeld.2.2.2))⟩ (fun hHeld => ?_)
             clear hK K
             refine done_ (done_of HT_.out (by kernel_rfl)) ?_
             try go_wp2
             have n0_ : Aside0 (Kd.R Kd.string 9 ((w128.setCell ⟨gb209, 3, none⟩ (.slice Ao129 t225.length co129)).setCell ⟨gb214, 3, none⟩ (.slice Ao131 t229.length co131)) w.heap.size (fun k_ => some k_ ≠ (.slice Ao115 t211.length co115 : Value).ownBlock) (.slice Ao103 t206.length co103) t206) := ⟨by (with_reducible repeat (first | apply Kd.R_alloc | apply Kd.R_drewN | apply Kd.R_drew)); exact Kd.R_mono (Kd.R_far (p := ⟨gb214, 3, none⟩) (Kd.R_far (p := ⟨gb209, 3, none⟩) (Kd.R_types (Kd.R_types HO208.out BK209.out (by decide)) BK214.out (by decide)) (fun _ hk => hk.1.2) (.slice Ao129 t225.length co129)) (fun _ hk => hk.2) (.slice Ao131 t229.length co131)) (fun _ hk => hk.1.1)⟩
             have n1_ : Aside0 (Kd.R Kd.string 9 ((w128.setCell ⟨gb209, 3, none⟩ (.slice Ao129 t225.length co129)).setCell ⟨gb214, 3, none⟩ (.slice Ao131 t229.length co131)) w.heap.size (fun k_ => some k_ ≠ (.slice Ao103 t206.length co103 : Value).ownBlock) (.slice Ao115 t211.length co115) t211) := ⟨by (with_reducible repeat (first | apply Kd.R_alloc | apply Kd.R_drewN | apply Kd.R_drew)); exact Kd.R_mono (Kd.R_far (p := ⟨gb214, 3, none⟩) (Kd.R_far (p := ⟨gb209, 3, none⟩) (Kd.R_types (Kd.R_types HO213.out BK209.out (by decide)) BK214.out (by decide)) (fun _ hk => hk.1.2) (.slice Ao129 t225.length co129)) (fun _ hk => hk.2) (.slice Ao131 t229.length co131)) (fun _ hk => hk.1.1)⟩
             have n2_ : Aside0 (Kd.R (Kd.int .i64) 3 ((w128.setCell ⟨gb209, 3, none⟩ (.slice Ao129 t225.length co129)).setCell ⟨gb214, 3, none⟩ (.slice Ao131 t229.length co131)) w.heap.size (fun k_ => some k_ ≠ (.slice Ao131 t229.length co131 : Value).ownBlock) (.slice Ao129 t225.length co129) t225) := ⟨by (with_reducible repeat (first | apply Kd.R_alloc | apply Kd.R_drewN | apply Kd.R_drew)); exact Kd.R_mono (Kd.R_far (p := ⟨gb214, 3, none⟩) (Kd.R_far (p := ⟨gb209, 3, none⟩) (Kd.R_types (Kd.R_types HO227.out BK209.out (by decide)) BK214.out (by decide)) (fun _ hk => hk.1.2) (.slice Ao129 t225.length co129)) (fun _ hk => hk.2) (.slice Ao131 t229.length co131)) (fun _ hk => hk.1.1.2)⟩
             have n3_ : Aside0 (Kd.R (Kd.int .i64) 3 ((w128.setCell ⟨gb209, 3, none⟩ (.slice Ao129 t225.length co129)).setCell ⟨gb214, 3, none⟩ (.slice Ao131 t229.length co131)) w.heap.size (fun k_ => some k_ ≠ (.slice Ao129 t225.length co129 : Value).ownBlock) (.slice Ao131 t229.length co131) t229) := ⟨by (with_reducible repeat (first | apply Kd.R_alloc | apply Kd.R_drewN | apply Kd.R_drew)); exact Kd.R_mono (Kd.R_far (p := ⟨gb214, 3, none⟩) (Kd.R_far (p := ⟨gb209, 3, none⟩) (Kd.R_types (Kd.R_types HO231.out BK209.out (by decide)) BK214.out (by decide)) (fun _ hk => hk.1.2) (.slice Ao129 t225.length co129)) (fun _ hk => hk.2) (.slice Ao131 t229.length co131)) (fun _ hk => hk.1.1.2)⟩
             have n4_ : Aside0 (((w128.setCell ⟨gb209, 3, none⟩ (.slice Ao129 t225.length co129)).setCell ⟨gb214, 3, none⟩ (.slice Ao131 t229.length co131)).heap[gb201]? = some (.cells #[.bool false, .slice A0_1 l0_1.length c0_1, .slice A0_2 l0_2.length c0_2, .slice A0_3 l0_3.length c0_3] 31 (0, 0))) := ⟨bA_ BK201⟩
             have n5_ : Aside0 (((w128.setCell ⟨gb209, 3, none⟩ (.slice Ao129 t225.length co129)).setCell ⟨gb214, 3, none⟩ (.slice Ao131 t229.length co131)).heap[gb202]? = some (.cells #[.bool false, .slice none 0 0, .slice none 0 0, .slice none 0 0] 31 (0, 0))) := ⟨bA_ BK202⟩
             have n6_ : Aside0 (((w128.setCell ⟨gb209, 3, none⟩ (.slice Ao129 t225.length co129)).setCell ⟨gb214, 3, none⟩ (.slice Ao131 t229.length co131)).heap[gb203]? = some (.cells #[.bool false, .slice none 0 0, .slice none 0 0, .slice none 0 0] 31 (0, 0))) := ⟨bA_ BK203⟩
             have n7_ : Aside0 (((w128.setCell ⟨gb209, 3, none⟩ (.slice Ao129 t225.length co129)).setCell ⟨gb214, 3, none⟩ (.slice Ao131 t229.length co131)).heap[gb209]? = some (.cells #[.bool false, .slice Ao103 t206.length co103, .slice none 0 0, .slice Ao129 t225.length co129] 31 (0, 0))) := ⟨by (with_reducible repeat (first | refine blk_drewN ?_ _ | refine blk_drew ?_ | refine blk_alloc ?_ _)); refine blk_far ?_ NB209_214.out _; (with_reducible repeat (first | refine blk_drewN ?_ _ | refine blk_drew ?_ | refine blk_alloc ?_ _)); refine blk_put (cs := #[.bool false, .slice Ao103 t206.length co103, .slice none 0 0, .slice none 0 0]) ?_ 3 _ rfl; (with_reducible repeat (first | refine blk_drewN ?_ _ | refine blk_drew ?_ | refine blk_alloc ?_ _)); exact BK209.out⟩
             have n8_ : Aside0 (((w128.setCell ⟨gb209, 3, none⟩ (.slice Ao129 t225.length co129)).setCell ⟨gb214, 3, none⟩ (.slice Ao131 t229.length co131)).heap[gb214]? = some (.cells #[.bool false, .slice Ao115 t211.length co115, .slice none 0 0, .slice Ao131 t229.length co131] 31 (0, 0))) := ⟨by (with_reducible repeat (first | refine blk_drewN ?_ _ | refine blk_drew ?_ | refine blk_alloc ?_ _)); refine blk_put (cs := #[.bool false, .slice Ao115 t211.length co115, .slice none 0 0, .slice none 0 0]) ?_ 3 _ rfl; (with_reducible repeat (first | refine blk_drewN ?_ _ | refine blk_drew ?_ | refine blk_alloc ?_ _)); refine blk_far ?_ NB214_209.out _; (with_reducible repeat (first | refine blk_drewN ?_ _ | refine blk_drew ?_ | refine blk_alloc ?_ _)); exact BK214.out⟩
             have n9_ : Aside0 (Below w.heap.size w ((w128.setCell ⟨gb209, 3, none⟩ (.slice Ao129 t225.length co129)).setCell ⟨gb214, 3, none⟩ (.slice Ao131 t229.length co131))) := ⟨bl_ HB⟩
             (try clear HO208 HO213 HO227 HO231 BK201 BK202 BK203 BK209 BK214 HB)
             generalize ((w128.setCell ⟨gb209, 3, none⟩ (.slice Ao129 t225.length co129)).setCell ⟨gb214, 3, none⟩ (.slice Ao131 t229.length co131)) = w133 at n0_ n1_ n2_ n3_ n4_ n5_ n6_ n7_ n8_ n9_ ⊢
             have HO208 := n0_
             have HO213 := n1_
             have HO227 := n2_
             have HO231 := n3_
             have BK201 := n4_
             have BK202 := n5_
             have BK203 := n6_
             have BK209 := n7_
             have BK214 := n8_
             have HB := n9_
             clear n0_ n1_ n2_ n3_ n4_ n5_ n6_ n7_ n8_ n9_
             replace HO208 := Aside0.mk (Kd.R_drew HO208.out)
             replace HO213 := Aside0.mk (Kd.R_drew HO213.out)
             replace HO227 := Aside0.mk (Kd.R_drew HO227.out)
             replace HO231 := Aside0.mk (Kd.R_drew HO231.out)
             replace BK201 := Aside0.mk (blk_drew BK201.out)
             replace BK202 := Aside0.mk (blk_drew BK202.out)
             replace BK203 := Aside0.mk (blk_drew BK203.out)
             replace BK209 := Aside0.mk (blk_drew BK209.out)
             replace BK214 := Aside0.mk (blk_drew BK214.out)
             replace HB := Aside0.mk (below_drew1 HB.out)
             have p232 : 0 ≤ ((ji21) : Int) := of_decide_eq_true (by first | (with_reducible assumption) | assumption)
             have q232 : (ji21) < (l0_1.length : Int) := of_decide_eq_true (by first | (with_reducible assumption) | assumption)
             obtain ⟨ad232, e232, hx232_0⟩ := Kd.at_string HR0_1.out (ji21) p232 q232
             have hw232_0 := hx232_0
             cases e232
             replace hx232_0 := (HB.out.cell (World.block_lt_of_cell? w _ hx232_0)).trans hx232_0
             replace p232 := eq_true p232
             replace q232 := eq_true q232
             refine start_ (n := 11) (S := fun w' => w'.cell? ⟨gb209, 0, none⟩ = some (.bool false) ∧ w'.cell? ⟨gb209, 1, none⟩ = some (.slice Ao103 t206.length co103) ∧ w'.cell? ⟨gb209, 2, none⟩ = some (.slice none 0 0) ∧ w'.cell? ⟨gb209, 3, none⟩ = some (.slice Ao129 t225.length co129) ∧ w'.cell? ⟨gb201, 0, none⟩ = some (.bool false) ∧ w'.cell? ⟨gb201, 1, none⟩ = some (.slice (some ad232) l0_1.length c0_1) ∧ w'.cell? ⟨gb201, 2, none⟩ = some (.slice A0_2 l0_2.length c0_2) ∧ w'.cell? ⟨gb201, 3, none⟩ = some (.slice A0_3 l0_3.length c0_3) ∧ w'.cell? ⟨gb214, 0, none⟩ = some (.bool false) ∧ w'.cell? ⟨gb214, 1, none⟩ = some (.slice Ao115 t211.length co115) ∧ w'.cell? ⟨gb214, 2, none⟩ = some (.slice none 0 0) ∧ w'.cell? ⟨gb214, 3, none⟩ = some (.slice Ao131 t229.length co131) ∧ w'.cell? (ad232.add ((ji21)).toNat) = some (.string (rdOf ByteArray.empty l0_1 (ji21)))) (ds := []) #[false, false, false, false, false, false, false, false, false, false, false] (by kernel_rfl) rfl rfl ⟨(blk_cell BK209.out 0).trans rfl, (blk_cell BK209.out 1).trans rfl, (blk_cell BK209.out 2).trans rfl, (blk_cell BK209.out 3).trans rfl, (blk_cell BK201.out 0).trans rfl, (blk_cell BK201.out 1).trans rfl, (blk_cell BK201.out 2).trans rfl, (blk_cell BK201.out 3).trans rfl, (blk_cell BK214.out 0).trans rfl, (blk_cell BK214.out 1).trans rfl, (blk_cell BK214.out 2).trans rfl, (blk_cell BK214.out 3).trans rfl, ((HB.out.cell (World.block_lt_of_cell? w _ hw232_0)).trans hw232_0)⟩ (fun hHeld => ?_); refine with_tabW node_Split.tab16 node_Split.bits16 (fun HT_ HW_ => ?_)
             generalize w133.drew = w134 at HO208 HO213 HO227 HO231 BK201 BK202 BK203 BK209 BK214 HB hx232_0 hHeld ⊢
             refine pu_ 1 (some 80) HT_ ?_
             refine pu_ 3 (some 82) HT_ ?_
             refine tk_ 0 (some 79) HT_ HW_ hHeld ?_
             refine tk_ 2 (some 81) HT_ HW_ hHeld ?_
             refine pu_ 4 (some 83) HT_ ?_
             refine tk_ 5 (some 84) HT_ HW_ hHeld ?_
             refine tk_ 6 (some 85) HT_ HW_ hHeld ?_
             refine on_ 7 none HT_ (fun K hK => ?_)
             have hs135 : w134.cell? ⟨gb202, 0, none⟩ = some (.bool false) := (blk_cell BK202.out 0).trans rfl
             have hfs135 := blk_frozen BK202.out 0
             have hns135_0 := NB201_202.out
             have hns135_2 := NB203_202.out
             have hns135_3 := NB209_202.out
             have hns135_4 := NB214_202.out
             have hms135_0 := NB202_201.out
             have hms135_2 := NB202_203.out
             have hms135_3 := NB202_209.out
             have hms135_4 := NB202_214.out
             have hs136 : w134.cell? ⟨gb202, 1, none⟩ = some (.slice none 0 0) := (blk_cell BK202.out 1).trans rfl
             have hfs136 := blk_frozen BK202.out 1
             have hns136_0 := NB201_202.out
             have hns136_2 := NB203_202.out
             have hns136_3 := NB209_202.out
             have hns136_4 := NB214_202.out
             have hms136_0 := NB202_201.out
             have hms136_2 := NB202_203.out
             have hms136_3 := NB202_209.out
             have hms136_4 := NB202_214.out
             have hs137 : w134.cell? ⟨gb202, 2, none⟩ = some (.slice none 0 0) := (blk_cell BK202.out 2).trans rfl
             have hfs137 := blk_frozen BK202.out 2
             have hns137_0 := NB201_202.out
             have hns137_2 := NB203_202.out
             have hns137_3 := NB209_202.out
             have hns137_4 := NB214_202.out
             have hms137_0 := NB202_201.out
             have hms137_2 := NB202_203.out
             have hms137_3 := NB202_209.out
             have hms137_4 := NB202_214.out
             have hs138 : w134.cell? ⟨gb202, 3, none⟩ = some (.slice none 0 0) := (blk_cell BK202.out 3).trans rfl
             have hfs138 := blk_frozen BK202.out 3
             have hns138_0 := NB201_202.out
             have hns138_2 := NB203_202.out
             have hns138_3 := NB209_202.out
             have hns138_4 := NB214_202.out
             have hms138_0 := NB202_201.out
             have hms138_2 := NB202_203.out
             have hms138_3 := NB202_209.out
             have hms138_4 := NB202_214.out
             refine skip_ (w1 := ?_) (by rfl) rfl ?_ ?_
             rotate_left
             ·go_simp
              rfl
             refine hK.out _ _ ⟨((cell_far (p := ⟨gb202, _, none⟩) NB209_202.out _).trans (((cell_far (p := ⟨gb202, _, none⟩) NB209_202.out _).trans (((cell_far (p := ⟨gb202, _, none⟩) NB209_202.out _).trans (((cell_far (p := ⟨gb202, _, none⟩) NB209_202.out _).trans (hHeld.1)))))))), ((cell_far (p := ⟨gb202, _, none⟩) NB209_202.out _).trans (((cell_far (p := ⟨gb202, _, none⟩) NB209_202.out _).trans (((cell_far (p := ⟨gb202, _, none⟩) NB209_202.out _).trans (((cell_far (p := ⟨gb202, _, none⟩) NB209_202.out _).trans (hHeld.2.1)))))))), ((cell_far (p := ⟨gb202, _, none⟩) NB209_202.out _).trans (((cell_far (p := ⟨gb202, _, none⟩) NB209_202.out _).trans (((cell_far (p := ⟨gb202, _, none⟩) NB209_202.out _).trans (((cell_far (p := ⟨gb202, _, none⟩) NB209_202.out _).trans (hHeld.2.2.1)))))))), ((cell_far (p := ⟨gb202, _, none⟩) NB209_202.out _).trans (((cell_far (p := ⟨gb202, _, none⟩) NB209_202.out _).trans (((cell_far (p := ⟨gb202, _, none⟩) NB209_202.out _).trans (((cell_far (p := ⟨gb202, _, none⟩) NB209_202.out _).trans (hHeld.2.2.2.1)))))))), ((cell_far (p := ⟨gb202, _, none⟩) NB201_202.out _).trans (((cell_far (p := ⟨gb202, _, none⟩) NB201_202.out _).trans (((cell_far (p := ⟨gb202, _, none⟩) NB201_202.out _).trans (((cell_far (p := ⟨gb202, _, none⟩) NB201_202.out _).trans (hHeld.2.2.2.2.1)))))))), ((cell_far (p := ⟨gb202, _, none⟩) NB201_202.out _).trans (((cell_far (p := ⟨gb202, _, none⟩) NB201_202.out _).trans (((cell_far (p := ⟨gb202, _, none⟩) NB201_202.out _).trans (((cell_far (p := ⟨gb202, _, none⟩) NB201_202.out _).trans (hHeld.2.2.2.2.2.1)))))))), ((cell_far (p := ⟨gb202, _, none⟩) NB201_202.out _).trans (((cell_far (p := ⟨gb202, _, none⟩) NB201_202.out _).trans (((cell_far (p := ⟨gb202, _, none⟩) NB201_202.out _).trans (((cell_far (p := ⟨gb202, _, none⟩) NB201_202.out _).trans (hHeld.2.2.2.2.2.2.1)))))))), ((cell_far (p := ⟨gb202, _, none⟩) NB201_202.out _).trans (((cell_far (p := ⟨gb202, _, none⟩) NB201_202.out _).trans (((cell_far (p := ⟨gb202, _, none⟩) NB201_202.out _).trans (((cell_far (p := ⟨gb202, _, none⟩) NB201_202.out _).trans (hHeld.2.2.2.2.2.2.2.1)))))))), ((cell_far (p := ⟨gb202, _, none⟩) NB214_202.out _).trans (((cell_far (p := ⟨gb202, _, none⟩) NB214_202.out _).trans (((cell_far (p := ⟨gb202, _, none⟩) NB214_202.out _).trans (((cell_far (p := ⟨gb202, _, none⟩) NB214_202.out _).trans (hHeld.2.2.2.2.2.2.2.2.1)))))))), ((cell_far (p := ⟨gb202, _, none⟩) NB214_202.out _).trans (((cell_far (p := ⟨gb202, _, none⟩) NB214_202.out _).trans (((cell_far (p := ⟨gb202, _, none⟩) NB214_202.out _).trans (((cell_far (p := ⟨gb202, _, none⟩) NB214_202.out _).trans (hHeld.2.2.2.2.2.2.2.2.2.1)))))))), ((cell_far (p := ⟨gb202, _, none⟩) NB214_202.out _).trans (((cell_far (p := ⟨gb202, _, none⟩) NB214_202.out _).trans (((cell_far (p := ⟨gb202, _, none⟩) NB214_202.out _).trans (((cell_far (p := ⟨gb202, _, none⟩) NB214_202.out _).trans (hHeld.2.2.2.2.2.2.2.2.2.2.1)))))))), ((cell_far (p := ⟨gb202, _, none⟩) NB214_202.out _).trans (((cell_far (p := ⟨gb202, _, none⟩) NB214_202.out _).trans (((cell_far (p := ⟨gb202, _, none⟩) NB214_202.out _).trans (((cell_far (p := ⟨gb202, _, none⟩) NB214_202.out _).trans (hHeld.2.2.2.2.2.2.2.2.2.2.2.1)))))))), ((cell_far (p := ⟨gb202, _, none⟩) (by first | exact Nat.ne_of_lt (Nat.lt_of_lt_of_le (by have := World.block_lt_of_cell? _ _ hw232_0; first | rwa [add_block] at this | exact this) GW202.out) | (rw [add_block]; exact Nat.ne_of_lt (Nat.lt_of_lt_of_le (by have := World.block_lt_of_cell? _ _ hw232_0; first | rwa [add_block] at this | exact this) GW202.out)) | (show (Addr.add _ _).block ≠ _; rw [add_block]; exact Nat.ne_of_lt (Nat.lt_of_lt_of_le (by have := World.block_lt_of_cell? _ _ hw232_0; first | rwa [add_block] at this | exact this) GW202.out)) | (dsimp only; exact Nat.ne_of_lt (Nat.lt_of_lt_of_le (by have := World.block_lt_of_cell? _ _ hw232_0; first | rwa [add_block] at this | exact this) GW202.out))) _).trans (((cell_far (p := ⟨gb202, _, none⟩) (by first | exact Nat.ne_of_lt (Nat.lt_of_lt_of_le (by have := World.block_lt_of_cell? _ _ hw232_0; first | rwa [add_block] at this | exact this) GW202.out) | (rw [add_block]; exact Nat.ne_of_lt (Nat.lt_of_lt_of_le (by have := World.block_lt_of_cell? _ _ hw232_0; first | rwa [add_block] at this | exact this) GW202.out)) | (show (Addr.add _ _).block ≠ _; rw [add_block]; exact Nat.ne_of_lt (Nat.lt_of_lt_of_le (by have := World.block_lt_of_cell? _ _ hw232_0; first | rwa [add_block] at this | exact this) GW202.out)) | (dsimp only; exact Nat.ne_of_lt (Nat.lt_of_lt_of_le (by have := World.block_lt_of_cell? _ _ hw232_0; first | rwa [add_block] at this | exact this) GW202.out))) _).trans (((cell_far (p := ⟨gb202, _, none⟩) (by first | exact Nat.ne_of_lt (Nat.lt_of_lt_of_le (by have := World.block_lt_of_cell? _ _ hw232_0; first | rwa [add_block] at this | exact this) GW202.out) | (rw [add_block]; exact Nat.ne_of_lt (Nat.lt_of_lt_of_le (by have := World.block_lt_of_cell? _ _ hw232_0; first | rwa [add_block] at this | exact this) GW202.out)) | (show (Addr.add _ _).block ≠ _; rw [add_block]; exact Nat.ne_of_lt (Nat.lt_of_lt_of_le (by have := World.block_lt_of_cell? _ _ hw232_0; first | rwa [add_block] at this | exact this) GW202.out)) | (dsimp only; exact Nat.ne_of_lt (Nat.lt_of_lt_of_le (by have := World.block_lt_of_cell? _ _ hw232_0; first | rwa [add_block] at this | exact this) GW202.out))) _).trans (((cell_far (p := ⟨gb202, _, none⟩) (by first | exact Nat.ne_of_lt (Nat.lt_of_lt_of_le (by have := World.block_lt_of_cell? _ _ hw232_0; first | rwa [add_block] at this | exact this) GW202.out) | (rw [add_block]; exact Nat.ne_of_lt (Nat.lt_of_lt_of_le (by have := World.block_lt_of_cell? _ _ hw232_0; first | rwa [add_block] at this | exact this) GW202.out)) | (show (Addr.add _ _).block ≠ _; rw [add_block]; exact Nat.ne_of_lt (Nat.lt_of_lt_of_le (by have := World.block_lt_of_cell? _ _ hw232_0; first | rwa [add_block] at this | exact this) GW202.out)) | (dsimp only; exact Nat.ne_of_lt (Nat.lt_of_lt_of_le (by have := World.block_lt_of_cell? _ _ hw232_0; first | rwa [add_block] at this | exact this) GW202.out))) _).trans (hHeld.2.2.2.2.2.2.2.2.2.2.2.2))))))))⟩ (fun hHeld => ?_)
             clear hK K
             refine pu_ 8 (some 3) HT_ ?_
             refine on_ 9 none HT_ (fun K hK => ?_)
             have hs139 : w134.cell? ⟨gb203, 0, none⟩ = some (.bool false) := (blk_cell BK203.out 0).trans rfl
             have hfs139 := blk_frozen BK203.out 0
             have hns139_0 := NB201_203.out
             have hns139_1 := NB202_203.out
             have hns139_3 := NB209_203.out
             have hns139_4 := NB214_203.out
             have hms139_0 := NB203_201.out
             have hms139_1 := NB203_202.out
             have hms139_3 := NB203_209.out
             have hms139_4 := NB203_214.out
             have hs140 : w134.cell? ⟨gb203, 1, none⟩ = some (.slice none 0 0) := (blk_cell BK203.out 1).trans rfl
             have hfs140 := blk_frozen BK203.out 1
             have hns140_0 := NB201_203.out
             have hns140_1 := NB202_203.out
             have hns140_3 := NB209_203.out
             have hns140_4 := NB214_203.out
             have hms140_0 := NB203_201.out
             have hms140_1 := NB203_202.out
             have hms140_3 := NB203_209.out
             have hms140_4 := NB203_214.out
             have hs141 : w134.cell? ⟨gb203, 2, none⟩ = some (.slice none 0 0) := (blk_cell BK203.out 2).trans rfl
             have hfs141 := blk_frozen BK203.out 2
             have hns141_0 := NB201_203.out
             have hns141_1 := NB202_203.out
             have hns141_3 := NB209_203.out
             have hns141_4 := NB214_203.out
             have hms141_0 := NB203_201.out
             have hms141_1 := NB203_202.out
             have hms141_3 := NB203_209.out
             have hms141_4 := NB203_214.out
             have hs142 : w134.cell? ⟨gb203, 3, none⟩ = some (.slice none 0 0) := (blk_cell BK203.out 3).trans rfl
             have hfs142 := blk_frozen BK203.out 3
             have hns142_0 := NB201_203.out
             have hns142_1 := NB202_203.out
             have hns142_3 := NB209_203.out
             have hns142_4 := NB214_203.out
             have hms142_0 := NB203_201.out
             have hms142_1 := NB203_202.out
             have hms142_3 := NB203_209.out
             have hms142_4 := NB203_214.out
             refine skip_ (w1 := ?_) (by rfl) rfl ?_ ?_
             rotate_left
             ·go_simp
              rfl
             refine hK.out _ _ ⟨((cell_far (p := ⟨gb203, _, none⟩) NB209_203.out _).trans (((cell_far (p := ⟨gb203, _, none⟩) NB209_203.out _).trans (((cell_far (p := ⟨gb203, _, none⟩) NB209_203.out _).trans (((cell_far (p := ⟨gb203, _, none⟩) NB209_203.out _).trans (hHeld.1)))))))), ((cell_far (p := ⟨gb203, _, none⟩) NB209_203.out _).trans (((cell_far (p := ⟨gb203, _, none⟩) NB209_203.out _).trans (((cell_far (p := ⟨gb203, _, none⟩) NB209_203.out _).trans (((cell_far (p := ⟨gb203, _, none⟩) NB209_203.out _).trans (hHeld.2.1)))))))), ((cell_far (p := ⟨gb203, _, none⟩) NB209_203.out _).trans (((cell_far (p := ⟨gb203, _, none⟩) NB209_203.out _).trans (((cell_far (p := ⟨gb203, _, none⟩) NB209_203.out _).trans (((cell_far (p := ⟨gb203, _, none⟩) NB209_203.out _).trans (hHeld.2.2.1)))))))), ((cell_far (p := ⟨gb203, _, none⟩) NB209_203.out _).trans (((cell_far (p := ⟨gb203, _, none⟩) NB209_203.out _).trans (((cell_far (p := ⟨gb203, _, none⟩) NB209_203.out _).trans (((cell_far (p := ⟨gb203, _, none⟩) NB209_203.out _).trans (hHeld.2.2.2.1)))))))), ((cell_far (p := ⟨gb203, _, none⟩) NB201_203.out _).trans (((cell_far (p := ⟨gb203, _, none⟩) NB201_203.out _).trans (((cell_far (p := ⟨gb203, _, none⟩) NB201_203.out _).trans (((cell_far (p := ⟨gb203, _, none⟩) NB201_203.out _).trans (hHeld.2.2.2.2.1)))))))), ((cell_far (p := ⟨gb203, _, none⟩) NB201_203.out _).trans (((cell_far (p := ⟨gb203, _, none⟩) NB201_203.out _).trans (((cell_far (p := ⟨gb203, _, none⟩) NB201_203.out _).trans (((cell_far (p := ⟨gb203, _, none⟩) NB201_203.out _).trans (hHeld.2.2.2.2.2.1)))))))), ((cell_far (p := ⟨gb203, _, none⟩) NB201_203.out _).trans (((cell_far (p := ⟨gb203, _, none⟩) NB201_203.out _).trans (((cell_far (p := ⟨gb203, _, none⟩) NB201_203.out _).trans (((cell_far (p := ⟨gb203, _, none⟩) NB201_203.out _).trans (hHeld.2.2.2.2.2.2.1)))))))), ((cell_far (p := ⟨gb203, _, none⟩) NB201_203.out _).trans (((cell_far (p := ⟨gb203, _, none⟩) NB201_203.out _).trans (((cell_far (p := ⟨gb203, _, none⟩) NB201_203.out _).trans (((cell_far (p := ⟨gb203, _, none⟩) NB201_203.out _).trans (hHeld.2.2.2.2.2.2.2.1)))))))), ((cell_far (p := ⟨gb203, _, none⟩) NB214_203.out _).trans (((cell_far (p := ⟨gb203, _, none⟩) NB214_203.out _).trans (((cell_far (p := ⟨gb203, _, none⟩) NB214_203.out _).trans (((cell_far (p := ⟨gb203, _, none⟩) NB214_203.out _).trans (hHeld.2.2.2.2.2.2.2.2.1)))))))), ((cell_far (p := ⟨gb203, _, none⟩) NB214_203.out _).trans (((cell_far (p := ⟨gb203, _, none⟩) NB214_203.out _).trans (((cell_far (p := ⟨gb203, _, none⟩) NB214_203.out _).trans (((cell_far (p := ⟨gb203, _, none⟩) NB214_203.out _).trans (hHeld.2.2.2.2.2.2.2.2.2.1)))))))), ((cell_far (p := ⟨gb203, _, none⟩) NB214_203.out _).trans (((cell_far (p := ⟨gb203, _, none⟩) NB214_203.out _).trans (((cell_far (p := ⟨gb203, _, none⟩) NB214_203.out _).trans (((cell_far (p := ⟨gb203, _, none⟩) NB214_203.out _).trans (hHeld.2.2.2.2.2.2.2.2.2.2.1)))))))), ((cell_far (p := ⟨gb203, _, none⟩) NB214_203.out _).trans (((cell_far (p := ⟨gb203, _, none⟩) NB214_203.out _).trans (((cell_far (p := ⟨gb203, _, none⟩) NB214_203.out _).trans (((cell_far (p := ⟨gb203, _, none⟩) NB214_203.out _).trans (hHeld.2.2.2.2.2.2.2.2.2.2.2.1)))))))), ((cell_far (p := ⟨gb203, _, none⟩) (by first | exact Nat.ne_of_lt (Nat.lt_of_lt_of_le (by have := World.block_lt_of_cell? _ _ hw232_0; first | rwa [add_block] at this | exact this) GW203.out) | (rw [add_block]; exact Nat.ne_of_lt (Nat.lt_of_lt_of_le (by have := World.block_lt_of_cell? _ _ hw232_0; first | rwa [add_block] at this | exact this) GW203.out)) | (show (Addr.add _ _).block ≠ _; rw [add_block]; exact Nat.ne_of_lt (Nat.lt_of_lt_of_le (by have := World.block_lt_of_cell? _ _ hw232_0; first | rwa [add_block] at this | exact this) GW203.out)) | (dsimp only; exact Nat.ne_of_lt (Nat.lt_of_lt_of_le (by have := World.block_lt_of_cell? _ _ hw232_0; first | rwa [add_block] at this | exact this) GW203.out))) _).trans (((cell_far (p := ⟨gb203, _, none⟩) (by first | exact Nat.ne_of_lt (Nat.lt_of_lt_of_le (by have := World.block_lt_of_cell? _ _ hw232_0; first | rwa [add_block] at this | exact this) GW203.out) | (rw [add_block]; exact Nat.ne_of_lt (Nat.lt_of_lt_of_le (by have := World.block_lt_of_cell? _ _ hw232_0; first | rwa [add_block] at this | exact this) GW203.out)) | (show (Addr.add _ _).block ≠ _; rw [add_block]; exact Nat.ne_of_lt (Nat.lt_of_lt_of_le (by have := World.block_lt_of_cell? _ _ hw232_0; first | rwa [add_block] at this | exact this) GW203.out)) | (dsimp only; exact Nat.ne_of_lt (Nat.lt_of_lt_of_le (by have := World.block_lt_of_cell? _ _ hw232_0; first | rwa [add_block] at this | exact this) GW203.out))) _).trans (((cell_far (p := ⟨gb203, _, none⟩) (by first | exact Nat.ne_of_lt (Nat.lt_of_lt_of_le (by have := World.block_lt_of_cell? _ _ hw232_0; first | rwa [add_block] at this | exact this) GW203.out) | (rw [add_block]; exact Nat.ne_of_lt (Nat.lt_of_lt_of_le (by have := World.block_lt_of_cell? _ _ hw232_0; first | rwa [add_block] at this | exact this) GW203.out)) | (show (Addr.add _ _).block ≠ _; rw [add_block]; exact Nat.ne_of_lt (Nat.lt_of_lt_of_le (by have := World.block_lt_of_cell? _ _ hw232_0; first | rwa [add_block] at this | exact this) GW203.out)) | (dsimp only; exact Nat.ne_of_lt (Nat.lt_of_lt_of_le (by have := World.block_lt_of_cell? _ _ hw232_0; first | rwa [add_block] at this | exact this) GW203.out))) _).trans (((cell_far (p := ⟨gb203, _, none⟩) (by first | exact Nat.ne_of_lt (Nat.lt_of_lt_of_le (by have := World.block_lt_of_cell? _ _ hw232_0; first | rwa [add_block] at this | exact this) GW203.out) | (rw [add_block]; exact Nat.ne_of_lt (Nat.lt_of_lt_of_le (by have := World.block_lt_of_cell? _ _ hw232_0; first | rwa [add_block] at this | exact this) GW203.out)) | (show (Addr.add _ _).block ≠ _; rw [add_block]; exact Nat.ne_of_lt (Nat.lt_of_lt_of_le (by have := World.block_lt_of_cell? _ _ hw232_0; first | rwa [add_block] at this | exact this) GW203.out)) | (dsimp only; exact Nat.ne_of_lt (Nat.lt_of_lt_of_le (by have := World.block_lt_of_cell? _ _ hw232_0; first | rwa [add_block] at this | exact this) GW203.out))) _).trans (hHeld.2.2.2.2.2.2.2.2.2.2.2.2))))))))⟩ (fun hHeld => ?_)
             clear hK K
             refine pu_ 10 (some 5) HT_ ?_
             refine done_ (done_of HT_.out (by kernel_rfl)) ?_
             try go_wp2
             refine bodyPost_ret (results_list (rs := [.cell 2 31, .tmp 3, .cell 4 31, .tmp 5]) rfl (by simp) (.cell gb202 31 #[.bool false, .slice Ao103 t206.length co103, .slice none 0 0, .slice Ao129 t225.length co129] (0, 0) _ rfl (by (with_reducible repeat (first | refine blk_drewN ?_ _ | refine blk_drew ?_ | refine blk_alloc ?_ _)); refine blk_far ?_ NB202_203.out _; (with_reducible repeat (first | refine blk_drewN ?_ _ | refine blk_drew ?_ | refine blk_alloc ?_ _)); refine blk_far ?_ NB202_203.out _; (with_reducible repeat (first | refine blk_drewN ?_ _ | refine blk_drew ?_ | refine blk_alloc ?_ _)); refine blk_far ?_ NB202_203.out _; (with_reducible repeat (first | refine blk_drewN ?_ _ | refine blk_drew ?_ | refine blk_alloc ?_ _)); refine blk_far ?_ NB202_203.out _; (with_reducible repeat (first | refine blk_drewN ?_ _ | refine blk_drew ?_ | refine blk_alloc ?_ _)); refine blk_put (cs := #[.bool false, .slice Ao103 t206.length co103, .slice none 0 0, .slice none 0 0]) ?_ 3 _ rfl; (with_reducible repeat (first | refine blk_drewN ?_ _ | refine blk_drew ?_ | refine blk_alloc ?_ _)); refine blk_put (cs := #[.bool false, .slice Ao103 t206.length co103, .slice none 0 0, .slice none 0 0]) ?_ 2 _ rfl; (with_reducible repeat (first | refine blk_drewN ?_ _ | refine blk_drew ?_ | refine blk_alloc ?_ _)); refine blk_put (cs := #[.bool false, .slice none 0 0, .slice none 0 0, .slice none 0 0]) ?_ 1 _ rfl; (with_reducible repeat (first | refine blk_drewN ?_ _ | refine blk_drew ?_ | refine blk_alloc ?_ _)); refine blk_put (cs := #[.bool false, .slice none 0 0, .slice none 0 0, .slice none 0 0]) ?_ 0 _ rfl; (with_reducible repeat (first | refine blk_drewN ?_ _ | refine blk_drew ?_ | refine blk_alloc ?_ _)); exact BK202.out) Try.underlying31 rfl (by kernel_rfl) (.tmp (.cell gb203 31 #[.bool false, .slice Ao115 t211.length co115, .slice none 0 0, .slice Ao131 t229.length co131] (0, 0) _ rfl (by (with_reducible repeat (first | refine blk_drewN ?_ _ | refine blk_drew ?_ | refine blk_alloc ?_ _)); refine blk_put (cs := #[.bool false, .slice Ao115 t211.length co115, .slice none 0 0, .slice none 0 0]) ?_ 3 _ rfl; (with_reducible repeat (first | refine blk_drewN ?_ _ | refine blk_drew ?_ | refine blk_alloc ?_ _)); refine blk_put (cs := #[.bool false, .slice Ao115 t211.length co115, .slice none 0 0, .slice none 0 0]) ?_ 2 _ rfl; (with_reducible repeat (first | refine blk_drewN ?_ _ | refine blk_drew ?_ | refine blk_alloc ?_ _)); refine blk_put (cs := #[.bool false, .slice none 0 0, .slice none 0 0, .slice none 0 0]) ?_ 1 _ rfl; (with_reducible repeat (first | refine blk_drewN ?_ _ | refine blk_drew ?_ | refine blk_alloc ?_ _)); refine blk_put (cs := #[.bool false, .slice none 0 0, .slice none 0 0, .slice none 0 0]) ?_ 0 _ rfl; (with_reducible repeat (first | refine blk_drewN ?_ _ | refine blk_drew ?_ | refine blk_alloc ?_ _)); refine blk_far ?_ NB203_202.out _; (with_reducible repeat (first | refine blk_drewN ?_ _ | refine blk_drew ?_ | refine blk_alloc ?_ _)); refine blk_far ?_ NB203_202.out _; (with_reducible repeat (first | refine blk_drewN ?_ _ | refine blk_drew ?_ | refine blk_alloc ?_ _)); refine blk_far ?_ NB203_202.out _; (with_reducible repeat (first | refine blk_drewN ?_ _ | refine blk_drew ?_ | refine blk_alloc ?_ _)); refine blk_far ?_ NB203_202.out _; (with_reducible repeat (first | refine blk_drewN ?_ _ | refine blk_drew ?_ | refine blk_alloc ?_ _)); exact BK203.out) Try.underlying31 rfl (by kernel_rfl) (.tmp .nil))))) rfl ?_
             exact ⟨_, _, _, _, _, _, by first | rfl | (simp [errW_none, errW_some] <;> rfl) | (simp only [← hji21, ← hji25, ← hji86]; first | rfl | (simp [errW_none, errW_some] <;> rfl)) | (simp [*, errW_none, errW_some] <;> rfl), by (with_reducible repeat (first | apply Kd.R_alloc | apply Kd.R_drewN | apply Kd.R_drew)); exact Kd.R_mono (Kd.R_far (p := ⟨gb203, 3, none⟩) (Kd.R_far (p := ⟨gb203, 2, none⟩) (Kd.R_far (p := ⟨gb203, 1, none⟩) (Kd.R_far (p := ⟨gb203, 0, none⟩) (Kd.R_far (p := ⟨gb202, 3, none⟩) (Kd.R_far (p := ⟨gb202, 2, none⟩) (Kd.R_far (p := ⟨gb202, 1, none⟩) (Kd.R_far (p := ⟨gb202, 0, none⟩) (Kd.R_types (Kd.R_types HO208.out BK202.out (by decide)) BK203.out (by decide)) (fun _ hk => hk.1.2) (.bool false)) (fun _ hk => hk.1.2) (.slice Ao103 t206.length co103)) (fun _ hk => hk.1.2) (.slice none 0 0)) (fun _ hk => hk.1.2) (.slice Ao129 t225.length co129)) (fun _ hk => hk.2) (.bool false)) (fun _ hk => hk.2) (.slice Ao115 t211.length co115)) (fun _ hk => hk.2) (.slice none 0 0)) (fun _ hk => hk.2) (.slice Ao131 t229.length co131)) (fun _ hk => ⟨(by simp [Value.ownBlock]), ⟨hk.1.1, (by simp [Value.ownBlock])⟩⟩), nil_, by (with_reducible repeat (first | apply Kd.R_alloc | apply Kd.R_drewN | apply Kd.R_drew)); exact Kd.R_mono (Kd.R_far (p := ⟨gb203, 3, none⟩) (Kd.R_far (p := ⟨gb203, 2, none⟩) (Kd.R_far (p := ⟨gb203, 1, none⟩) (Kd.R_far (p := ⟨gb203, 0, none⟩) (Kd.R_far (p := ⟨gb202, 3, none⟩) (Kd.R_far (p := ⟨gb202, 2, none⟩) (Kd.R_far (p := ⟨gb202, 1, none⟩) (Kd.R_far (p := ⟨gb202, 0, none⟩) (Kd.R_types (Kd.R_types HO227.out BK202.out (by decide)) BK203.out (by decide)) (fun _ hk => hk.1.2) (.bool false)) (fun _ hk => hk.1.2) (.slice Ao103 t206.length co103)) (fun _ hk => hk.1.2) (.slice none 0 0)) (fun _ hk => hk.1.2) (.slice Ao129 t225.length co129)) (fun _ hk => hk.2) (.bool false)) (fun _ hk => hk.2) (.slice Ao115 t211.length co115)) (fun _ hk => hk.2) (.slice none 0 0)) (fun _ hk => hk.2) (.slice Ao131 t229.length co131)) (fun _ hk => hk.1.1), by (with_reducible repeat (first | apply Kd.R_alloc | apply Kd.R_drewN | apply Kd.R_drew)); exact Kd.R_mono (Kd.R_far (p := ⟨gb203, 3, none⟩) (Kd.R_far (p := ⟨gb203, 2, none⟩) (Kd.R_far (p := ⟨gb203, 1, none⟩) (Kd.R_far (p := ⟨gb203, 0, none⟩) (Kd.R_far (p := ⟨gb202, 3, none⟩) (Kd.R_far (p := ⟨gb202, 2, none⟩) (Kd.R_far (p := ⟨gb202, 1, none⟩) (Kd.R_far (p := ⟨gb202, 0, none⟩) (Kd.R_types (Kd.R_types HO213.out BK202.out (by decide)) BK203.out (by decide)) (fun _ hk => hk.1.2) (.bool false)) (fun _ hk => hk.1.2) (.slice Ao103 t206.length co103)) (fun _ hk => hk.1.2) (.slice none 0 0)) (fun _ hk => hk.1.2) (.slice Ao129 t225.length co129)) (fun _ hk => hk.2) (.bool false)) (fun _ hk => hk.2) (.slice Ao115 t211.length co115)) (fun _ hk => hk.2) (.slice none 0 0)) (fun _ hk => hk.2) (.slice Ao131 t229.length co131)) (fun _ hk => ⟨hk.1.1, ⟨(by simp [Value.ownBlock]), (by simp [Value.ownBlock])⟩⟩), nil_, by (with_reducible repeat (first | apply Kd.R_alloc | apply Kd.R_drewN | apply Kd.R_drew)); exact Kd.R_mono (Kd.R_far (p := ⟨gb203, 3, none⟩) (Kd.R_far (p := ⟨gb203, 2, none⟩) (Kd.R_far (p := ⟨gb203, 1, none⟩) (Kd.R_far (p := ⟨gb203, 0, none⟩) (Kd.R_far (p := ⟨gb202, 3, none⟩) (Kd.R_far (p := ⟨gb202, 2, none⟩) (Kd.R_far (p := ⟨gb202, 1, none⟩) (Kd.R_far (p := ⟨gb202, 0, none⟩) (Kd.R_types (Kd.R_types HO231.out BK202.out (by decide)) BK203.out (by decide)) (fun _ hk => hk.1.2) (.bool false)) (fun _ hk => hk.1.2) (.slice Ao103 t206.length co103)) (fun _ hk => hk.1.2) (.slice none 0 0)) (fun _ hk => hk.1.2) (.slice Ao129 t225.length co129)) (fun _ hk => hk.2) (.bool false)) (fun _ hk => hk.2) (.slice Ao115 t211.length co115)) (fun _ hk => hk.2) (.slice none 0 0)) (fun _ hk => hk.2) (.slice Ao131 t229.length co131)) (fun _ hk => hk.1.1), bl_ HB⟩
            ·rw [if_neg c93] at H
             exact absurd H (by simp)
           ·rw [if_neg c88] at H
            exact absurd H (by simp)
          ·rw [if_neg c87] at H
           exact absurd H (by simp)
        ·rw [if_neg c27] at H
         exact absurd H (by simp)
       ·rw [if_neg c26] at H
        exact absurd H (by simp)
      ·rw [if_neg c23] at H
       exact absurd H (by simp)
     ·rw [if_neg c22] at H
      exact absurd H (by simp)
 ·rw [if_neg c3] at H
  have c3b0 : (t204 == 0) = false := beq_eq_false_iff_ne.mpr c3
  have c3b1 : (t204 != 0) = true := bne_iff_ne.mpr c3
  simp only [Option.some.injEq, Prod.mk.injEq] at H
  obtain ⟨rfl, rfl, rfl, rfl, rfl, rfl, rfl, rfl, rfl, rfl⟩ := H
  go_enter Try.func22, Try.ntmps22
  go_wp2_with (first | ((with_reducible refine gate_dst (N := 1) rfl ?_); refine bx_ 1 #[.bool a0_0, .slice A0_1 l0_1.length c0_1, .slice A0_2 l0_2.length c0_2, .slice A0_3 l0_3.length c0_3] 31 ?_; intro gb201 hg w143 hbox hb; have BK201 := Aside0.mk (hbox); have GW201 := bG_ HB hg; have GE201 := bG_ HB hg; replace HB := bS_ HB hb; clear hb hbox hg) | ((with_reducible refine gate_dst (N := 2) rfl ?_); refine bx_ 2 #[.bool false, .slice none 0 0, .slice none 0 0, .slice none 0 0] 31 ?_; intro gb202 hg w144 hbox hb; have BK202 := Aside0.mk (hbox); have GW202 := bG_ HB hg; have GE202 := bG_ HB hg; replace HB := bS_ HB hb; have NB201_202 := nL_ BK201 hg; have NB202_201 := nG_ BK201 hg; replace BK201 := bK_ BK201 hb; clear hb hbox hg) | ((with_reducible refine gate_dst (N := 4) rfl ?_); refine bx_ 4 #[.bool false, .slice none 0 0, .slice none 0 0, .slice none 0 0] 31 ?_; intro gb203 hg w145 hbox hb; have BK203 := Aside0.mk (hbox); have GW203 := bG_ HB hg; have GE203 := bG_ HB hg; replace HB := bS_ HB hb; have NB201_203 := nL_ BK201 hg; have NB203_201 := nG_ BK201 hg; replace BK201 := bK_ BK201 hb; have NB202_203 := nL_ BK202 hg; have NB203_202 := nG_ BK202 hg; replace BK202 := bK_ BK202 hb; clear hb hbox hg; have hnb146 := NB201_202.out; have hnc146 := NB202_201.out; have hnb147 := NB201_203.out; have hnc147 := NB203_201.out; obtain ⟨hcz148_0, hcz148_1, hcz148_2, hcz148_3, hfz148_0, hfz148_1, hfz148_2, hfz148_3⟩ := cz4_ BK201) | ((with_reducible refine gate_callee (f := 25) rfl ?_); refine gL_ (some 14) Try.func25 #[.agg #[.bool a0_0, .slice A0_1 l0_1.length c0_1, .slice A0_2 l0_2.length c0_2, .slice A0_3 l0_3.length c0_3]] ?_; (with_reducible refine (node_Check.calls k a0_0 _ _ l0_1 _ _ l0_2 _ _ l0_3 t204 _ ?_ ?_ ?_ ?_ ?_ ?_ A2.out).mono ?_); exact cB_ HR0_1 HB; exact HC0_1.out; exact cB_ HR0_2 HB; exact HC0_2.out; exact cB_ HR0_3 HB; exact HC0_3.out; rintro e w149 ⟨rfl, hb⟩; refine ⟨_, rfl, ?_⟩; replace BK201 := bK_ BK201 hb; replace BK202 := bK_ BK202 hb; replace BK203 := bK_ BK203 hb; replace HB := bS_ HB hb; (try clear hb); have hnb150 := NB202_203.out; have hnc150 := NB203_202.out; obtain ⟨hcz151_0, hcz151_1, hcz151_2, hcz151_3, hfz151_0, hfz151_1, hfz151_2, hfz151_3⟩ := cz4_ BK202; obtain ⟨hcz152_0, hcz152_1, hcz152_2, hcz152_3, hfz152_0, hfz152_1, hfz152_2, hfz152_3⟩ := cz4_ BK203))
  refine bodyPost_ret (results_list (rs := [.cell 2 31, .tmp 3, .cell 4 31, .tmp 5]) rfl (by simp) (.cell gb202 31 #[.bool false, .slice none 0 0, .slice none 0 0, .slice none 0 0] (0, 0) _ rfl (by (with_reducible repeat (first | refine blk_drewN ?_ _ | refine blk_drew ?_ | refine blk_alloc ?_ _)); refine blk_far ?_ NB202_203.out _; (with_reducible repeat (first | refine blk_drewN ?_ _ | refine blk_drew ?_ | refine blk_alloc ?_ _)); refine blk_far ?_ NB202_203.out _; (with_reducible repeat (first | refine blk_drewN ?_ _ | refine blk_drew ?_ | refine blk_alloc ?_ _)); refine blk_far ?_ NB202_203.out _; (with_reducible repeat (first | refine blk_drewN ?_ _ | refine blk_drew ?_ | refine blk_alloc ?_ _)); refine blk_far ?_ NB202_203.out _; (with_reducible repeat (first | refine blk_drewN ?_ _ | refine blk_drew ?_ | refine blk_alloc ?_ _)); refine blk_put (cs := #[.bool false, .slice none 0 0, .slice none 0 0, .slice none 0 0]) ?_ 3 _ rfl; (with_reducible repeat (first | refine blk_drewN ?_ _ | refine blk_drew ?_ | refine blk_alloc ?_ _)); refine blk_put (cs := #[.bool false, .slice none 0 0, .slice none 0 0, .slice none 0 0]) ?_ 2 _ rfl; (with_reducible repeat (first | refine blk_drewN ?_ _ | refine blk_drew ?_ | refine blk_alloc ?_ _)); refine blk_put (cs := #[.bool false, .slice none 0 0, .slice none 0 0, .slice none 0 0]) ?_ 1 _ rfl; (with_reducible repeat (first | refine blk_drewN ?_ _ | refine blk_drew ?_ | refine blk_alloc ?_ _)); refine blk_put (cs := #[.bool false, .slice none 0 0, .slice none 0 0, .slice none 0 0]) ?_ 0 _ rfl; (with_reducible repeat (first | refine blk_drewN ?_ _ | refine blk_drew ?_ | refine blk_alloc ?_ _)); exact BK202.out) Try.underlying31 rfl (by kernel_rfl) (.tmp (.cell gb203 31 #[.bool false, .slice none 0 0, .slice none 0 0, .slice none 0 0] (0, 0) _ rfl (by (with_reducible repeat (first | refine blk_drewN ?_ _ | refine blk_drew ?_ | refine blk_alloc ?_ _)); refine blk_put (cs := #[.bool false, .slice none 0 0, .slice none 0 0, .slice none 0 0]) ?_ 3 _ rfl; (with_reducible repeat (first | refine blk_drewN ?_ _ | refine blk_drew ?_ | refine blk_alloc ?_ _)); refine blk_put (cs := #[.bool false, .slice none 0 0, .slice none 0 0, .slice none 0 0]) ?_ 2 _ rfl; (with_reducible repeat (first | refine blk_drewN ?_ _ | refine blk_drew ?_ | refine blk_alloc ?_ _)); refine blk_put (cs := #[.bool false, .slice none 0 0, .slice none 0 0, .slice none 0 0]) ?_ 1 _ rfl; (with_reducible repeat (first | refine blk_drewN ?_ _ | refine blk_drew ?_ | refine blk_alloc ?_ _)); refine blk_put (cs := #[.bool false, .slice none 0 0, .slice none 0 0, .slice none 0 0]) ?_ 0 _ rfl; (with_reducible repeat (first | refine blk_drewN ?_ _ | refine blk_drew ?_ | refine blk_alloc ?_ _)); refine blk_far ?_ NB203_202.out _; (with_reducible repeat (first | refine blk_drewN ?_ _ | refine blk_drew ?_ | refine blk_alloc ?_ _)); refine blk_far ?_ NB203_202.out _; (with_reducible repeat (first | refine blk_drewN ?_ _ | refine blk_drew ?_ | refine blk_alloc ?_ _)); refine blk_far ?_ NB203_202.out _; (with_reducible repeat (first | refine blk_drewN ?_ _ | refine blk_drew ?_ | refine blk_alloc ?_ _)); refine blk_far ?_ NB203_202.out _; (with_reducible repeat (first | refine blk_drewN ?_ _ | refine blk_drew ?_ | refine blk_alloc ?_ _)); exact BK203.out) Try.underlying31 rfl (by kernel_rfl) (.tmp .nil))))) rfl ?_
  exact ⟨_, _, _, _, _, _, fin_, nil_, nil_, nil_, nil_, nil_, nil_, bl_ HB⟩
set_option maxHeartbeats 8000000 in
set_option maxRecDepth 100000 in
theorem node_Split.calls (k : Nat) (a0_0 : Bool) (A0_1 : Option Addr) (c0_1 : Nat) (l0_1 : List ByteArray) (A0_2 : Option Addr) (c0_2 : Nat) (l0_2 : List ByteArray) (A0_3 : Option Addr) (c0_3 : Nat) (l0_3 : List Int) (r1 : Bool) (r2 : List ByteArray) (r3 : List ByteArray) (r4 : List Int) (r5 : ByteArray) (r6 : Bool) (r7 : List ByteArray) (r8 : List ByteArray) (r9 : List Int) (r10 : Int) (w : World) (hr0_1 : Kd.C Kd.string w A0_1 l0_1.length l0_1) (hc0_1 : l0_1.length ≤ c0_1) (hr0_2 : Kd.C Kd.string w A0_2 l0_2.length l0_2) (hc0_2 : l0_2.length ≤ c0_2) (hr0_3 : Kd.C (Kd.int .i64) w A0_3 l0_3.length l0_3) (hc0_3 : l0_3.length ≤ c0_3) (h : node_Split.f k a0_0 l0_1 l0_2 l0_3 = some (r1, r2, r3, r4, r5, r6, r7, r8, r9, r10)) :
  Calls Try.prog 22 #[.agg #[.bool a0_0, .slice A0_1 l0_1.length c0_1, .slice A0_2 l0_2.length c0_2, .slice A0_3 l0_3.length c0_3]] w fun e w' => ∃ v1_ v2_ v3_ v6_ v7_ v8_ : Value, e = .returned (.tuple #[.agg #[.bool r1, v1_, v2_, v3_], .string r5, .agg #[.bool r6, v6_, v7_, v8_], .int .i64 r10]) ∧ Kd.R Kd.string 9 w' w.heap.size (fun k_ => some k_ ≠ (v2_ : Value).ownBlock ∧ some k_ ≠ (v6_ : Value).ownBlock ∧ some k_ ≠ (v7_ : Value).ownBlock) v1_ r2 ∧ Kd.R Kd.string 9 w' w.heap.size (fun k_ => some k_ ≠ (v1_ : Value).ownBlock ∧ some k_ ≠ (v6_ : Value).ownBlock ∧ some k_ ≠ (v7_ : Value).ownBlock) v2_ r3 ∧ Kd.R (Kd.int .i64) 3 w' w.heap.size (fun k_ => some k_ ≠ (v8_ : Value).ownBlock) v3_ r4 ∧ Kd.R Kd.string 9 w' w.heap.size (fun k_ => some k_ ≠ (v1_ : Value).ownBlock ∧ some k_ ≠ (v2_ : Value).ownBlock ∧ some k_ ≠ (v7_ : Value).ownBlock) v6_ r7 ∧ Kd.R Kd.string 9 w' w.heap.size (fun k_ => some k_ ≠ (v1_ : Value).ownBlock ∧ some k_ ≠ (v2_ : Value).ownBlock ∧ some k_ ≠ (v6_ : Value).ownBlock) v7_ r8 ∧ Kd.R (Kd.int .i64) 3 w' w.heap.size (fun k_ => some k_ ≠ (v3_ : Value).ownBlock) v8_ r9 ∧ Below w.heap.size w w' := by
 by_cases hC_ : a0_0 = true
 ·exact node_Split.calls_T k a0_0 A0_1 c0_1 l0_1 A0_2 c0_2 l0_2 A0_3 c0_3 l0_3 r1 r2 r3 r4 r5 r6 r7 r8 r9 r10 w hr0_1 hc0_1 hr0_2 hc0_2 hr0_3 hc0_3 hC_ h
 ·exact node_Split.calls_F k a0_0 A0_1 c0_1 l0_1 A0_2 c0_2 l0_2 A0_3 c0_3 l0_3 r1 r2 r3 r4 r5 r6 r7 r8 r9 r10 w hr0_1 hc0_1 hr0_2 hc0_2 hr0_3 hc0_3 hC_ h
end Go.Proofs.Ytooabchnbmnchaa.Q
