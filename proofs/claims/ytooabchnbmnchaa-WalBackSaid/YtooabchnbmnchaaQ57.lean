-- Laid by this session's own program (wip/tools) out of the translation; Lean checks it. Thinned, shortened and merged for this claim.
import Derived.Test.YtooabchnbmnchaaQ0
import Derived.Test.YtooabchnbmnchaaSq
import Derived.Test.YtooabchnbmnchaaQ17
import Derived.Test.YtooabchnbmnchaaQ27
import Derived.Test.YtooabchnbmnchaaQ49
import Derived.Test.YtooabchnbmnchaaQ54
namespace Go.Proofs.Ytooabchnbmnchaa.Q
open Go.RowKit Go.Proofs.YtooabchnbmnchaaW.PrintWords Go.Proofs.YtooabchnbmnchaaW.PrintLast Go.Proofs.YtooabchnbmnchaaW.PrintMore
attribute [local go_sem] max2_int min2_int max_two min_two max_three min_three max_four min_four binOp_string_leq binOp_string_geq binOp_string_gtr   -- for this text's walks alone
set_option linter.unusedVariables false
set_option linter.unusedSimpArgs false
def transeptlaw08_WalBack.f (k : Nat) (l0 : List (List (List Int))) (a1 : Int) : Option (Bool) := (transeptlaw08_alive.f k).bind fun t549 => (if t549 = true then ((transeptlaw08_laid.f k l0 (wrap64 (1 + (Int.tmod (wrap64 ((Int.tmod a1 300) + 300)) 300)))).bind fun bt550 => (if bt550.2.2.2.2 = true then ((wal_Recover.f k bt550.1).bind fun bt562 => ((transeptlaw08_num.f bt562.2.2.2.2).bind fun t574 => (if t574 = 0 then ((transeptplain_SameLists.f k bt562.2.2.2.1 bt550.2.2.2.1).bind fun t575 => (if t575 = true then (if bt562.2.1 = bt550.2.1 then (some ((bt562.2.2.1.length : Int) == 0)) else (none)) else (none))) else (none)))) else (none))) else (none))
theorem transeptlaw08_WalBack.mono : ∀ a0 a1 k, LeO (transeptlaw08_WalBack.f k a0 a1) (transeptlaw08_WalBack.f (k + 1) a0 a1) := by
 intro a0 a1 k
 unfold transeptlaw08_WalBack.f
 repeat' first
   | (with_reducible exact transeptlaw08_alive.mono _)
   | (with_reducible exact transeptlaw08_laid.mono _ _ _)
   | (with_reducible exact transeptplain_SameLists.mono _ _ _)
   | (with_reducible exact wal_Recover.mono _ _)
   | (with_reducible exact LeO.refl _)
   | (with_reducible exact LeO.none _)
   | (with_reducible refine LeO.ite ?_ ?_)
   | (with_reducible refine LeO.bind ?_ (fun _ => ?_))
   | exact transeptlaw08_alive.mono _
   | exact transeptlaw08_laid.mono _ _ _
   | exact transeptplain_SameLists.mono _ _ _
   | exact wal_Recover.mono _ _
   | exact LeO.none _
   | refine LeO.ite ?_ ?_
   | refine LeO.bind ?_ (fun _ => ?_)
set_option maxHeartbeats 8000000 in
set_option maxRecDepth 100000 in
theorem transeptlaw08_WalBack.calls (k : Nat) (A0 : Option Addr) (c0 : Nat) (l0 : List (List (List Int))) (a1 : Int) (r : Bool) (w : World) (hr0 : Kd.C (Kd.slice 26 (Kd.slice 5 (Kd.int .u8))) w A0 l0.length l0) (hc0 : l0.length ≤ c0) (h : transeptlaw08_WalBack.f k l0 a1 = some r) :
  Calls Try.prog 12 #[.slice A0 l0.length c0, .int .i64 a1] w fun e w' => e = .returned (.bool r) ∧ Below w.heap.size w w' := by
 have hu61 := Try.underlying61
 have HR0 := Aside0.mk hr0
 have HC0 := Aside0.mk hc0
 clear hr0 hc0
 have HB := Aside0.mk (Below.refl w.heap.size w)
 have H : ((transeptlaw08_alive.f k).bind fun t549 => (if t549 = true then ((transeptlaw08_laid.f k l0 (wrap64 (1 + (Int.tmod (wrap64 ((Int.tmod a1 300) + 300)) 300)))).bind fun bt550 => (if bt550.2.2.2.2 = true then ((wal_Recover.f k bt550.1).bind fun bt562 => ((transeptlaw08_num.f bt562.2.2.2.2).bind fun t574 => (if t574 = 0 then ((transeptplain_SameLists.f k bt562.2.2.2.1 bt550.2.2.2.1).bind fun t575 => (if t575 = true then (if bt562.2.1 = bt550.2.1 then (some ((bt562.2.2.1.length : Int) == 0)) else (none)) else (none))) else (none)))) else (none))) else (none))) = some r := h
 clear h
 replace H := Option.bind_eq_some_iff.mp H
 obtain ⟨t549, A30, H⟩ := H
 try dsimp only at H
 have A3 := Aside0.mk A30
 clear A30
 by_cases c4 : t549 = true
 ·subst c4
  rw [if_pos rfl] at H
  replace H := Option.bind_eq_some_iff.mp H
  obtain ⟨⟨t550, t553, t554, t557, t560⟩, A50, H⟩ := H
  try dsimp only at H
  have A5 := Aside0.mk A50
  clear A50
  by_cases c6 : t560 = true
  ·subst c6
   rw [if_pos rfl] at H
   replace H := Option.bind_eq_some_iff.mp H
   obtain ⟨⟨t562, t565, t566, t569, t572⟩, A70, H⟩ := H
   try dsimp only at H
   have A7 := Aside0.mk A70
   clear A70
   replace H := Option.bind_eq_some_iff.mp H
   obtain ⟨t574, A80, H⟩ := H
   try dsimp only at H
   have A8 := Aside0.mk A80
   clear A80
   by_cases c9 : t574 = 0
   ·rw [if_pos c9] at H
    have c9b0 : (t574 == 0) = true := beq_iff_eq.mpr c9
    have c9b1 : (t574 != 0) = false := bne_eq_false_iff_eq.mpr c9
    clear c9
    replace H := Option.bind_eq_some_iff.mp H
    obtain ⟨t575, A100, H⟩ := H
    try dsimp only at H
    have A10 := Aside0.mk A100
    clear A100
    by_cases c11 : t575 = true
    ·subst c11
     rw [if_pos rfl] at H
     by_cases c12 : t565 = t553
     ·rw [if_pos c12] at H
      have c12b0 : (t565 == t553) = true := beq_iff_eq.mpr c12
      have c12b1 : (t565 != t553) = false := bne_eq_false_iff_eq.mpr c12
      clear c12
      obtain rfl := Option.some.inj H
      go_enter Try.func12, Try.ntmps12
      go_wp2_with (first | ((with_reducible refine gate_callee (f := 32) rfl ?_); refine gL_ (some 11) Try.func32 #[] ?_; (with_reducible refine (transeptlaw08_alive.calls k  true _ A3.out).mono ?_); rintro e w13 ⟨rfl, hb⟩; refine ⟨_, rfl, ?_⟩; replace HB := bS_ HB hb; (try clear hb)) | ((with_reducible refine gate_callee (f := 40) rfl ?_); refine gL_ (some 21) Try.func40 #[.slice A0 l0.length c0, .int .i64 (wrap64 (1 + (Int.tmod (wrap64 ((Int.tmod a1 300) + 300)) 300)))] ?_; (with_reducible refine (transeptlaw08_laid.calls k (fun k_ => k_ < w.heap.size) _ _ l0 (wrap64 (1 + (Int.tmod (wrap64 ((Int.tmod a1 300) + 300)) 300))) t550 t553 t554 t557 true _ ?_ A5.out).mono ?_); exact Kd.V_mk HC0.out (Kd.F_below (Kd.C_F (Kd.heap_slice 26 (Kd.heap_slice 5 (Kd.heap_int .u8))) HR0.out) (bl_ HB)); rintro e w14 ⟨v551, v555, v558, rfl, ho0, ho1, ho2, hb⟩; refine ⟨_, rfl, ?_⟩; have HO552 := Aside0.mk (Kd.N_lower (Kd.N_mono (ok' := fun k_ => some k_ ≠ (v555 : Value).ownBlock ∧ some k_ ≠ (v558 : Value).ownBlock) ho0 (fun k_ hk_ => ⟨hk_.2.1, hk_.2.2⟩)) (bs_ HB)); have HO556 := Aside0.mk (Kd.N_lower (Kd.N_mono (ok' := fun k_ => some k_ ≠ (v551 : Value).ownBlock ∧ some k_ ≠ (v558 : Value).ownBlock) ho1 (fun k_ hk_ => ⟨hk_.2.1, hk_.2.2⟩)) (bs_ HB)); have HO559 := Aside0.mk (Kd.N_lower (Kd.N_mono (ok' := fun k_ => some k_ ≠ (v551 : Value).ownBlock ∧ some k_ ≠ (v555 : Value).ownBlock) ho2 (fun k_ hk_ => ⟨hk_.2.1, hk_.2.2⟩)) (bs_ HB)); replace HB := bS_ HB hb; (try clear hb ho0 ho1 ho2)) | ((with_reducible refine gate_dst (N := 5) rfl ?_); (try (refine gate_guard (by rfl) ?_; dsimp only)); refine bx_ 5 #[.slice none 0 0, .int .i64 0, .slice none 0 0] 61 ?_; intro gb561 hg w15 hbox hb; replace HO552 := Aside0.mk (Kd.N_below (Kd.N_elderB (nA_ HO552) gb561 (Nat.le_of_eq hg.symm)) hb); replace HO556 := Aside0.mk (Kd.N_below (Kd.N_elderB (nA_ HO556) gb561 (Nat.le_of_eq hg.symm)) hb); replace HO559 := Aside0.mk (Kd.N_below (Kd.N_elderB (nA_ HO559) gb561 (Nat.le_of_eq hg.symm)) hb); have BK561 := Aside0.mk (hbox); have GW561 := bG_ HB hg; have GE561 := bG_ HB hg; replace HB := bS_ HB hb; clear hb hbox hg; obtain ⟨Ao16, co16, eo16⟩ := Kd.N_slice HO552.out; subst eo16; obtain ⟨hcz17_0, hcz17_1, hcz17_2, hfz17_0, hfz17_1, hfz17_2⟩ := cz3_ BK561; obtain ⟨Ao18, co18, eo18⟩ := Kd.N_slice HO556.out; subst eo18) | ((with_reducible refine gate_callee (f := 45) rfl ?_); refine gL_ (some 30) Try.func45 #[.slice Ao16 t550.length co16] ?_; (with_reducible refine (wal_Recover.calls k _ _ t550 t562 t565 t566 t569 t572 _ ?_ ?_ A7.out).mono ?_); exact (Kd.N_reads' (nC_ HO552 (fun k_ hk => hk.2))).2.2; exact (Kd.N_reads' HO552.out).2.1; rintro e w19 ⟨v563, v567, v570, rfl, ho0, ho1, ho2, hb⟩; refine ⟨_, rfl, ?_⟩; have HO564 := Aside0.mk (Kd.N_lower (Kd.N_mono (ok' := fun k_ => some k_ ≠ (v567 : Value).ownBlock ∧ some k_ ≠ (v570 : Value).ownBlock ∧ some k_ ≠ (.slice Ao16 t550.length co16 : Value).ownBlock ∧ some k_ ≠ (.slice Ao18 t554.length co18 : Value).ownBlock ∧ some k_ ≠ (v558 : Value).ownBlock ∧ k_ ≠ gb561) ho0 (fun k_ hk_ => ⟨hk_.2.1, hk_.2.2, (Kd.fresh' (Kd.N_lt (nC_ HO552 (fun k_ hk => hk.2))) k_ hk_.1), (Kd.fresh' (Kd.N_lt (nC_ HO556 (fun k_ hk => hk.2))) k_ hk_.1), (Kd.fresh' (Kd.N_lt (nC_ HO559 (fun k_ hk => hk.2))) k_ hk_.1), (Kd.freshB (g := gb561) (o := .cells #[.slice Ao16 t550.length co16, .int .i64 t553, .slice Ao18 t554.length co18] 61 (0, 0)) (by (with_reducible repeat (first | refine blk_drewN ?_ _ | refine blk_drew ?_ | refine blk_alloc ?_ _)); refine blk_put (cs := #[.slice Ao16 t550.length co16, .int .i64 t553, .slice none 0 0]) ?_ 2 _ rfl; (with_reducible repeat (first | refine blk_drewN ?_ _ | refine blk_drew ?_ | refine blk_alloc ?_ _)); refine blk_put (cs := #[.slice Ao16 t550.length co16, .int .i64 0, .slice none 0 0]) ?_ 1 _ rfl; (with_reducible repeat (first | refine blk_drewN ?_ _ | refine blk_drew ?_ | refine blk_alloc ?_ _)); refine blk_put (cs := #[.slice none 0 0, .int .i64 0, .slice none 0 0]) ?_ 0 _ rfl; (with_reducible repeat (first | refine blk_drewN ?_ _ | refine blk_drew ?_ | refine blk_alloc ?_ _)); exact BK561.out) k_ hk_.1)⟩)) (bs_ HB)); have HO568 := Aside0.mk (Kd.N_lower (Kd.N_mono (ok' := fun k_ => some k_ ≠ (v563 : Value).ownBlock ∧ some k_ ≠ (v570 : Value).ownBlock ∧ some k_ ≠ (.slice Ao16 t550.length co16 : Value).ownBlock ∧ some k_ ≠ (.slice Ao18 t554.length co18 : Value).ownBlock ∧ some k_ ≠ (v558 : Value).ownBlock ∧ k_ ≠ gb561) ho1 (fun k_ hk_ => ⟨hk_.2.1, hk_.2.2, (Kd.fresh' (Kd.N_lt (nC_ HO552 (fun k_ hk => hk.2))) k_ hk_.1), (Kd.fresh' (Kd.N_lt (nC_ HO556 (fun k_ hk => hk.2))) k_ hk_.1), (Kd.fresh' (Kd.N_lt (nC_ HO559 (fun k_ hk => hk.2))) k_ hk_.1), (Kd.freshB (g := gb561) (o := .cells #[.slice Ao16 t550.length co16, .int .i64 t553, .slice Ao18 t554.length co18] 61 (0, 0)) (by (with_reducible repeat (first | refine blk_drewN ?_ _ | refine blk_drew ?_ | refine blk_alloc ?_ _)); refine blk_put (cs := #[.slice Ao16 t550.length co16, .int .i64 t553, .slice none 0 0]) ?_ 2 _ rfl; (with_reducible repeat (first | refine blk_drewN ?_ _ | refine blk_drew ?_ | refine blk_alloc ?_ _)); refine blk_put (cs := #[.slice Ao16 t550.length co16, .int .i64 0, .slice none 0 0]) ?_ 1 _ rfl; (with_reducible repeat (first | refine blk_drewN ?_ _ | refine blk_drew ?_ | refine blk_alloc ?_ _)); refine blk_put (cs := #[.slice none 0 0, .int .i64 0, .slice none 0 0]) ?_ 0 _ rfl; (with_reducible repeat (first | refine blk_drewN ?_ _ | refine blk_drew ?_ | refine blk_alloc ?_ _)); exact BK561.out) k_ hk_.1)⟩)) (bs_ HB)); have HO571 := Aside0.mk (Kd.N_lower (Kd.N_mono (ok' := fun k_ => some k_ ≠ (v563 : Value).ownBlock ∧ some k_ ≠ (v567 : Value).ownBlock ∧ some k_ ≠ (.slice Ao16 t550.length co16 : Value).ownBlock ∧ some k_ ≠ (.slice Ao18 t554.length co18 : Value).ownBlock ∧ some k_ ≠ (v558 : Value).ownBlock ∧ k_ ≠ gb561) ho2 (fun k_ hk_ => ⟨hk_.2.1, hk_.2.2, (Kd.fresh' (Kd.N_lt (nC_ HO552 (fun k_ hk => hk.2))) k_ hk_.1), (Kd.fresh' (Kd.N_lt (nC_ HO556 (fun k_ hk => hk.2))) k_ hk_.1), (Kd.fresh' (Kd.N_lt (nC_ HO559 (fun k_ hk => hk.2))) k_ hk_.1), (Kd.freshB (g := gb561) (o := .cells #[.slice Ao16 t550.length co16, .int .i64 t553, .slice Ao18 t554.length co18] 61 (0, 0)) (by (with_reducible repeat (first | refine blk_drewN ?_ _ | refine blk_drew ?_ | refine blk_alloc ?_ _)); refine blk_put (cs := #[.slice Ao16 t550.length co16, .int .i64 t553, .slice none 0 0]) ?_ 2 _ rfl; (with_reducible repeat (first | refine blk_drewN ?_ _ | refine blk_drew ?_ | refine blk_alloc ?_ _)); refine blk_put (cs := #[.slice Ao16 t550.length co16, .int .i64 0, .slice none 0 0]) ?_ 1 _ rfl; (with_reducible repeat (first | refine blk_drewN ?_ _ | refine blk_drew ?_ | refine blk_alloc ?_ _)); refine blk_put (cs := #[.slice none 0 0, .int .i64 0, .slice none 0 0]) ?_ 0 _ rfl; (with_reducible repeat (first | refine blk_drewN ?_ _ | refine blk_drew ?_ | refine blk_alloc ?_ _)); exact BK561.out) k_ hk_.1)⟩)) (bs_ HB)); replace HO552 := Aside0.mk (Kd.N_mono (Kd.N_told (Kd.N_told (Kd.N_told (Kd.N_old (nC_ HO552 (fun k_ hk => hk.2)) hb) (Kd.N_base ho0)) (Kd.N_base ho1)) (Kd.N_base ho2)) (fun _ h_ => h_.1)); replace HO556 := Aside0.mk (Kd.N_mono (Kd.N_told (Kd.N_told (Kd.N_told (Kd.N_old (nC_ HO556 (fun k_ hk => hk.2)) hb) (Kd.N_base ho0)) (Kd.N_base ho1)) (Kd.N_base ho2)) (fun _ h_ => h_.1)); replace HO559 := Aside0.mk (Kd.N_mono (Kd.N_told (Kd.N_told (Kd.N_told (Kd.N_old (nC_ HO559 (fun k_ hk => hk.2)) hb) (Kd.N_base ho0)) (Kd.N_base ho1)) (Kd.N_base ho2)) (fun _ h_ => h_.1)); replace BK561 := Aside0.mk (blk_below (g := gb561) (o := .cells #[.slice Ao16 t550.length co16, .int .i64 t553, .slice Ao18 t554.length co18] 61 (0, 0)) (by (with_reducible repeat (first | refine blk_drewN ?_ _ | refine blk_drew ?_ | refine blk_alloc ?_ _)); refine blk_put (cs := #[.slice Ao16 t550.length co16, .int .i64 t553, .slice none 0 0]) ?_ 2 _ rfl; (with_reducible repeat (first | refine blk_drewN ?_ _ | refine blk_drew ?_ | refine blk_alloc ?_ _)); refine blk_put (cs := #[.slice Ao16 t550.length co16, .int .i64 0, .slice none 0 0]) ?_ 1 _ rfl; (with_reducible repeat (first | refine blk_drewN ?_ _ | refine blk_drew ?_ | refine blk_alloc ?_ _)); refine blk_put (cs := #[.slice none 0 0, .int .i64 0, .slice none 0 0]) ?_ 0 _ rfl; (with_reducible repeat (first | refine blk_drewN ?_ _ | refine blk_drew ?_ | refine blk_alloc ?_ _)); exact BK561.out) hb); replace HB := bS_ HB hb; (try clear hb ho0 ho1 ho2)) | ((with_reducible refine gate_dst (N := 8) rfl ?_); (try (refine gate_guard (by rfl) ?_; dsimp only)); refine bx_ 8 #[.slice none 0 0, .int .i64 0, .slice none 0 0] 61 ?_; intro gb573 hg w20 hbox hb; replace HO552 := Aside0.mk (Kd.N_below (Kd.N_elderB (nA_ HO552) gb573 (Nat.le_of_eq hg.symm)) hb); replace HO556 := Aside0.mk (Kd.N_below (Kd.N_elderB (nA_ HO556) gb573 (Nat.le_of_eq hg.symm)) hb); replace HO559 := Aside0.mk (Kd.N_below (Kd.N_elderB (nA_ HO559) gb573 (Nat.le_of_eq hg.symm)) hb); replace HO564 := Aside0.mk (Kd.N_below (Kd.N_elderB (nA_ HO564) gb573 (Nat.le_of_eq hg.symm)) hb); replace HO568 := Aside0.mk (Kd.N_below (Kd.N_elderB (nA_ HO568) gb573 (Nat.le_of_eq hg.symm)) hb); replace HO571 := Aside0.mk (Kd.N_below (Kd.N_elderB (nA_ HO571) gb573 (Nat.le_of_eq hg.symm)) hb); have BK573 := Aside0.mk (hbox); have GW573 := bG_ HB hg; have GE573 := bG_ HB hg; replace HB := bS_ HB hb; have NB561_573 := nL_ BK561 hg; have NB573_561 := nG_ BK561 hg; replace BK561 := bK_ BK561 hb; clear hb hbox hg; obtain ⟨Ao21, co21, eo21⟩ := Kd.N_slice HO564.out; subst eo21; have hnb22 := NB573_561.out; have hnc22 := NB561_573.out; obtain ⟨hcz23_0, hcz23_1, hcz23_2, hfz23_0, hfz23_1, hfz23_2⟩ := cz3_ BK573; obtain ⟨Ao24, co24, eo24⟩ := Kd.N_slice HO568.out; subst eo24) | ((with_reducible refine gate_callee (f := 36) rfl ?_); refine gL_ (some 35) Try.func36 #[.int .i64 t572] ?_; (with_reducible refine (transeptlaw08_num.calls t572 t574 _ A8.out).mono ?_); rintro e w' ⟨rfl, ⟨nd, rfl⟩⟩; refine ⟨_, rfl, ?_⟩; obtain ⟨Ao25, co25, eo25⟩ := Kd.N_slice HO571.out; subst eo25; obtain ⟨Ao26, co26, eo26⟩ := Kd.N_slice HO559.out; subst eo26) | (go_at_call 43; (with_reducible refine (transeptplain_SameLists.calls k _ _ t569 _ _ t557 true _ ?side1 ?side2 ?side3 ?side4 A10.out).mono ?_); (case side1 => refine (Kd.N_reads' (e := 26) (base := w.heap.size) (ok := fun k_ => ((some k_ ≠ (.slice Ao21 t562.length co21 : Value).ownBlock ∧ (some k_ ≠ (.slice Ao24 t566.length co24 : Value).ownBlock ∧ (some k_ ≠ (.slice Ao16 t550.length co16 : Value).ownBlock ∧ (some k_ ≠ (.slice Ao18 t554.length co18 : Value).ownBlock ∧ (some k_ ≠ (.slice Ao26 t557.length co26 : Value).ownBlock ∧ k_ ≠ gb561))))) ∧ k_ ≠ gb573)) (n := t569.length) (c := co25) ?_).2.2; exact (nC_ HO571 (fun k_ hk => hk.2))); (case side2 => exact (Kd.N_reads' HO571.out).2.1); (case side3 => refine (Kd.N_reads' (e := 26) (base := w.heap.size) (ok := fun k_ => ((((((some k_ ≠ (.slice Ao16 t550.length co16 : Value).ownBlock ∧ some k_ ≠ (.slice Ao18 t554.length co18 : Value).ownBlock) ∧ k_ ≠ gb561) ∧ some k_ ≠ (.slice Ao21 t562.length co21 : Value).ownBlock) ∧ some k_ ≠ (.slice Ao24 t566.length co24 : Value).ownBlock) ∧ some k_ ≠ (.slice Ao25 t569.length co25 : Value).ownBlock) ∧ k_ ≠ gb573)) (n := t557.length) (c := co26) ?_).2.2; exact (nC_ HO559 (fun k_ hk => hk.2))); (case side4 => exact (Kd.N_reads' HO559.out).2.1); rintro e w' ⟨rfl, ⟨nd, rfl⟩⟩; obtain ⟨hcz27_0, hcz27_1, hcz27_2, hfz27_0, hfz27_1, hfz27_2⟩ := cz3_ BK561))
      go_ret
      exact ⟨fin_, bl_ HB⟩
     ·rw [if_neg c12] at H
      exact absurd H (by simp)
    ·replace c11 := Bool.eq_false_iff.mpr c11
     subst c11
     rw [if_neg (show ¬ (false = true) by decide)] at H
     exact absurd H (by simp)
   ·rw [if_neg c9] at H
    exact absurd H (by simp)
  ·replace c6 := Bool.eq_false_iff.mpr c6
   subst c6
   rw [if_neg (show ¬ (false = true) by decide)] at H
   exact absurd H (by simp)
 ·replace c4 := Bool.eq_false_iff.mpr c4
  subst c4
  rw [if_neg (show ¬ (false = true) by decide)] at H
  exact absurd H (by simp)
end Go.Proofs.Ytooabchnbmnchaa.Q
