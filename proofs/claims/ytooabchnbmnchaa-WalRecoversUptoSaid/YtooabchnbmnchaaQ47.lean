-- Laid by this session's own program (wip/tools) out of the translation; Lean checks it. Thinned, shortened and merged for this claim.
import Derived.Test.YtooabchnbmnchaaQ0
import Derived.Test.YtooabchnbmnchaaSq
import Derived.Test.YtooabchnbmnchaaQ39
namespace Go.Proofs.Ytooabchnbmnchaa.Q
open Go.RowKit Go.Proofs.YtooabchnbmnchaaW.PrintWords Go.Proofs.YtooabchnbmnchaaW.PrintLast Go.Proofs.YtooabchnbmnchaaW.PrintMore
attribute [local go_sem] max2_int min2_int max_two min_two max_three min_three max_four min_four binOp_string_leq binOp_string_geq binOp_string_gtr   -- for this text's walks alone
set_option linter.unusedVariables false
set_option linter.unusedSimpArgs false
mutual
def transeptlaw08_same.j0 : Nat → Bool → List (S70) → Int → List (List Int) → List (S87) → Int → List (List Int) → Option (Bool)
 | 0, _, _, _, _, _, _, _ => none
 | k + 1, x27, x310000, x310001, x310002, x311000, x311001, x311002 => if x27 = true then (some false) else (transeptlaw08_same.l0 k 0 x310000 x310001 x310002 x311000 x311001 x311002)
def transeptlaw08_same.l0 : Nat → Int → List (S70) → Int → List (List Int) → List (S87) → Int → List (List Int) → Option (Bool)
 | 0, _, _, _, _, _, _, _ => none
 | k + 1, x5, x310000, x310001, x310002, x311000, x311001, x311002 => if x5 < (x310000.length : Int) then (if 0 ≤ x5 then (if x5 < (x311000.length : Int) then (if ((rd_T70 x310000 x5).f0) = ((rd_T87 x311000 x5).f0) then ((transeptplain_SameBytes.f k ((rd_T70 x310000 x5).f1) ((rd_T87 x311000 x5).f1)).bind fun t316 => (if t316 = true then (transeptlaw08_same.l0 k (wrap64 (x5 + 1)) x310000 x310001 x310002 x311000 x311001 x311002) else (some false))) else (some false)) else (none)) else (none)) else (some true)
end
def transeptlaw08_same.f (k : Nat) (l0_0 : List (S70)) (a0_1 : Int) (l0_2 : List (List Int)) (l1_0 : List (S87)) (a1_1 : Int) (l1_2 : List (List Int)) : Option (Bool) := if a0_1 = a1_1 then ((transeptplain_SameLists.f k l0_2 l1_2).bind fun t311 => (if t311 = true then (transeptlaw08_same.j0 k ((l0_0.length : Int) != (l1_0.length : Int)) l0_0 a0_1 l0_2 l1_0 a1_1 l1_2) else (transeptlaw08_same.j0 k true l0_0 a0_1 l0_2 l1_0 a1_1 l1_2))) else (transeptlaw08_same.j0 k true l0_0 a0_1 l0_2 l1_0 a1_1 l1_2)
theorem transeptlaw08_same.mono_l : ∀ k, (∀ y0 y1 y2 y3 y4 y5 y6, LeO (transeptlaw08_same.j0 k y0 y1 y2 y3 y4 y5 y6) (transeptlaw08_same.j0 (k + 1) y0 y1 y2 y3 y4 y5 y6)) ∧ (∀ y0 y1 y2 y3 y4 y5 y6, LeO (transeptlaw08_same.l0 k y0 y1 y2 y3 y4 y5 y6) (transeptlaw08_same.l0 (k + 1) y0 y1 y2 y3 y4 y5 y6))
 | 0 => ⟨fun _ _ _ _ _ _ _ r h => by simp [transeptlaw08_same.j0] at h, fun _ _ _ _ _ _ _ r h => by simp [transeptlaw08_same.l0] at h⟩
 | k + 1 => by
  obtain ⟨ih0, ih1⟩ := transeptlaw08_same.mono_l k
  refine ⟨?_, ?_⟩
  ·intro y0 y1 y2 y3 y4 y5 y6
   unfold transeptlaw08_same.j0
   repeat' first
   | (with_reducible exact ih0 _ _ _ _ _ _ _)
   | (with_reducible exact ih1 _ _ _ _ _ _ _)
   | (with_reducible exact transeptplain_SameBytes.mono _ _ _)
   | (with_reducible exact transeptplain_SameLists.mono _ _ _)
   | (with_reducible exact LeO.refl _)
   | (with_reducible exact LeO.none _)
   | (with_reducible refine LeO.ite ?_ ?_)
   | (with_reducible refine LeO.bind ?_ (fun _ => ?_))
   | exact ih0 _ _ _ _ _ _ _
   | exact ih1 _ _ _ _ _ _ _
   | exact transeptplain_SameBytes.mono _ _ _
   | exact transeptplain_SameLists.mono _ _ _
   | exact LeO.none _
   | refine LeO.ite ?_ ?_
   | refine LeO.bind ?_ (fun _ => ?_)
  ·intro y0 y1 y2 y3 y4 y5 y6
   unfold transeptlaw08_same.l0
   repeat' first
   | (with_reducible exact ih0 _ _ _ _ _ _ _)
   | (with_reducible exact ih1 _ _ _ _ _ _ _)
   | (with_reducible exact transeptplain_SameBytes.mono _ _ _)
   | (with_reducible exact transeptplain_SameLists.mono _ _ _)
   | (with_reducible exact LeO.refl _)
   | (with_reducible exact LeO.none _)
   | (with_reducible refine LeO.ite ?_ ?_)
   | (with_reducible refine LeO.bind ?_ (fun _ => ?_))
   | exact ih0 _ _ _ _ _ _ _
   | exact ih1 _ _ _ _ _ _ _
   | exact transeptplain_SameBytes.mono _ _ _
   | exact transeptplain_SameLists.mono _ _ _
   | exact LeO.none _
   | refine LeO.ite ?_ ?_
   | refine LeO.bind ?_ (fun _ => ?_)
theorem transeptlaw08_same.mono : ∀ a0 a1 a2 a3 a4 a5 k, LeO (transeptlaw08_same.f k a0 a1 a2 a3 a4 a5) (transeptlaw08_same.f (k + 1) a0 a1 a2 a3 a4 a5) := by
 intro a0 a1 a2 a3 a4 a5 k
 obtain ⟨ih0, ih1⟩ := transeptlaw08_same.mono_l k
 unfold transeptlaw08_same.f
 repeat' first
   | (with_reducible exact ih0 _ _ _ _ _ _ _)
   | (with_reducible exact ih1 _ _ _ _ _ _ _)
   | (with_reducible exact transeptplain_SameBytes.mono _ _ _)
   | (with_reducible exact transeptplain_SameLists.mono _ _ _)
   | (with_reducible exact LeO.refl _)
   | (with_reducible exact LeO.none _)
   | (with_reducible refine LeO.ite ?_ ?_)
   | (with_reducible refine LeO.bind ?_ (fun _ => ?_))
   | exact ih0 _ _ _ _ _ _ _
   | exact ih1 _ _ _ _ _ _ _
   | exact transeptplain_SameBytes.mono _ _ _
   | exact transeptplain_SameLists.mono _ _ _
   | exact LeO.none _
   | refine LeO.ite ?_ ?_
   | refine LeO.bind ?_ (fun _ => ?_)
set_option maxHeartbeats 8000000 in
set_option maxRecDepth 100000 in
theorem transeptlaw08_same.calls (k : Nat) (A0_0 : Option Addr) (c0_0 : Nat) (l0_0 : List (S70)) (a0_1 : Int) (A0_2 : Option Addr) (c0_2 : Nat) (l0_2 : List (List Int)) (A1_0 : Option Addr) (c1_0 : Nat) (l1_0 : List (S87)) (a1_1 : Int) (A1_2 : Option Addr) (c1_2 : Nat) (l1_2 : List (List Int)) (r : Bool) (w : World) (hr0_0 : Kd.C k70 w A0_0 l0_0.length l0_0) (hc0_0 : l0_0.length ≤ c0_0) (hr0_2 : Kd.C (Kd.slice 5 (Kd.int .u8)) w A0_2 l0_2.length l0_2) (hc0_2 : l0_2.length ≤ c0_2) (hr1_0 : Kd.C k87 w A1_0 l1_0.length l1_0) (hc1_0 : l1_0.length ≤ c1_0) (hr1_2 : Kd.C (Kd.slice 5 (Kd.int .u8)) w A1_2 l1_2.length l1_2) (hc1_2 : l1_2.length ≤ c1_2) (h : transeptlaw08_same.f k l0_0 a0_1 l0_2 l1_0 a1_1 l1_2 = some r) :
  Calls Try.prog 39 #[.agg #[.slice A0_0 l0_0.length c0_0, .int .i64 a0_1, .slice A0_2 l0_2.length c0_2], .agg #[.slice A1_0 l1_0.length c1_0, .int .i64 a1_1, .slice A1_2 l1_2.length c1_2]] w fun e w' => e = .returned (.bool r) ∧ Below w.heap.size w w' := by
 have hu61 := Try.underlying61
 have hu58 := Try.underlying58
 have HR0_0 := Aside0.mk hr0_0
 have HC0_0 := Aside0.mk hc0_0
 clear hr0_0 hc0_0
 have HR0_2 := Aside0.mk hr0_2
 have HC0_2 := Aside0.mk hc0_2
 clear hr0_2 hc0_2
 have HR1_0 := Aside0.mk hr1_0
 have HC1_0 := Aside0.mk hc1_0
 clear hr1_0 hc1_0
 have HR1_2 := Aside0.mk hr1_2
 have HC1_2 := Aside0.mk hc1_2
 clear hr1_2 hc1_2
 have HB := Aside0.mk (Below.refl w.heap.size w)
 have H : (if a0_1 = a1_1 then ((transeptplain_SameLists.f k l0_2 l1_2).bind fun t311 => (if t311 = true then (transeptlaw08_same.j0 k ((l0_0.length : Int) != (l1_0.length : Int)) l0_0 a0_1 l0_2 l1_0 a1_1 l1_2) else (transeptlaw08_same.j0 k true l0_0 a0_1 l0_2 l1_0 a1_1 l1_2))) else (transeptlaw08_same.j0 k true l0_0 a0_1 l0_2 l1_0 a1_1 l1_2)) = some r := h
 clear h
 have HC3 := Aside0.mk H
 clear H
 go_enter Try.func39, Try.ntmps39
 go_upto_region 1 with (first | ((with_reducible refine gate_dst (N := 2) rfl ?_); (try (refine gate_guard (by rfl) ?_; dsimp only)); refine bx_ 2 #[.slice A0_0 l0_0.length c0_0, .int .i64 a0_1, .slice A0_2 l0_2.length c0_2] 61 ?_; intro gb309 hg w4 hbox hb; have BK309 := Aside0.mk (hbox); have GW309 := bG_ HB hg; have GE309 := bG_ HB hg; replace HB := bS_ HB hb; clear hb hbox hg) | ((with_reducible refine gate_dst (N := 3) rfl ?_); (try (refine gate_guard (by rfl) ?_; dsimp only)); refine bx_ 3 #[.slice A1_0 l1_0.length c1_0, .int .i64 a1_1, .slice A1_2 l1_2.length c1_2] 58 ?_; intro gb310 hg w5 hbox hb; have BK310 := Aside0.mk (hbox); have GW310 := bG_ HB hg; have GE310 := bG_ HB hg; replace HB := bS_ HB hb; have NB309_310 := nL_ BK309 hg; have NB310_309 := nG_ BK309 hg; replace BK309 := bK_ BK309 hb; clear hb hbox hg))
 repeat (go_quiet (first | ((with_reducible refine gate_dst (N := 2) rfl ?_); (try (refine gate_guard (by rfl) ?_; dsimp only)); refine bx_ 2 #[.slice A0_0 l0_0.length c0_0, .int .i64 a0_1, .slice A0_2 l0_2.length c0_2] 61 ?_; intro gb309 hg w4 hbox hb; have BK309 := Aside0.mk (hbox); have GW309 := bG_ HB hg; have GE309 := bG_ HB hg; replace HB := bS_ HB hb; clear hb hbox hg) | ((with_reducible refine gate_dst (N := 3) rfl ?_); (try (refine gate_guard (by rfl) ?_; dsimp only)); refine bx_ 3 #[.slice A1_0 l1_0.length c1_0, .int .i64 a1_1, .slice A1_2 l1_2.length c1_2] 58 ?_; intro gb310 hg w5 hbox hb; have BK310 := Aside0.mk (hbox); have GW310 := bG_ HB hg; have GE310 := bG_ HB hg; replace HB := bS_ HB hb; have NB309_310 := nL_ BK309 hg; have NB310_309 := nG_ BK309 hg; replace BK309 := bK_ BK309 hb; clear hb hbox hg)); go_upto_region 1 with (first | ((with_reducible refine gate_dst (N := 2) rfl ?_); (try (refine gate_guard (by rfl) ?_; dsimp only)); refine bx_ 2 #[.slice A0_0 l0_0.length c0_0, .int .i64 a0_1, .slice A0_2 l0_2.length c0_2] 61 ?_; intro gb309 hg w4 hbox hb; have BK309 := Aside0.mk (hbox); have GW309 := bG_ HB hg; have GE309 := bG_ HB hg; replace HB := bS_ HB hb; clear hb hbox hg) | ((with_reducible refine gate_dst (N := 3) rfl ?_); (try (refine gate_guard (by rfl) ?_; dsimp only)); refine bx_ 3 #[.slice A1_0 l1_0.length c1_0, .int .i64 a1_1, .slice A1_2 l1_2.length c1_2] 58 ?_; intro gb310 hg w5 hbox hb; have BK310 := Aside0.mk (hbox); have GW310 := bG_ HB hg; have GE310 := bG_ HB hg; replace HB := bS_ HB hb; have NB309_310 := nL_ BK309 hg; have NB310_309 := nG_ BK309 hg; replace BK309 := bK_ BK309 hb; clear hb hbox hg)))
 (try simp only [Act.put, List.setIfInBounds_toArray, List.set_cons_zero, List.set_cons_succ])
 go_cut [27] (fun v27 wc => ∃ (kq : Nat) (x27_2 : Bool), v27 = .bool x27_2 ∧ Aside0 (transeptlaw08_same.j0 kq x27_2 l0_0 a0_1 l0_2 l1_0 a1_1 l1_2 = some r) ∧ Aside0 (kq ≤ k) ∧ Aside0 (wc.heap[gb309]? = some (.cells #[(.slice A0_0 l0_0.length c0_0), .int .i64 a0_1, (.slice A0_2 l0_2.length c0_2)] 61 (0, 0))) ∧ Aside0 (wc.heap[gb310]? = some (.cells #[(.slice A1_0 l1_0.length c1_0), .int .i64 a1_1, (.slice A1_2 l1_2.length c1_2)] 58 (0, 0))) ∧ Aside0 (Below w.heap.size w wc))
 case first =>
  have H := HC3.out
  clear HC3
  by_cases c6 : a0_1 = a1_1
  ·rw [if_pos c6] at H
   have c6b0 : (a0_1 == a1_1) = true := beq_iff_eq.mpr c6
   have c6b1 : (a0_1 != a1_1) = false := bne_eq_false_iff_eq.mpr c6
   clear c6
   (first | rw [c6b0] | (simp only [i64_w, i32_w]; rw [c6b0]) | skip)
   replace H := Option.bind_eq_some_iff.mp H
   obtain ⟨t311, A70, H⟩ := H
   try dsimp only at H
   have A7 := Aside0.mk A70
   clear A70
   by_cases c8 : t311 = true
   ·subst c8
    rw [if_pos rfl] at H
    have H' := Aside0.mk H
    clear H
    have hnb9 := NB309_310.out
    have hnc9 := NB310_309.out
    obtain ⟨hcz10_0, hcz10_1, hcz10_2, hfz10_0, hfz10_1, hfz10_2⟩ := cz3_ BK309
    obtain ⟨hcz11_0, hcz11_1, hcz11_2, hfz11_0, hfz11_1, hfz11_2⟩ := cz3_ BK310
    go_wp2_with (first | (go_at_call 43; (with_reducible refine (transeptplain_SameLists.calls k _ _ l0_2 _ _ l1_2 true _ ?_ ?_ ?_ ?_ A7.out).mono ?_); exact cB_ HR0_2 HB; exact HC0_2.out; exact cB_ HR1_2 HB; exact HC1_2.out; rintro e w' ⟨rfl, ⟨nd, rfl⟩⟩; (try first | exact ⟨rfl, _, World.drewN_drewN _ _ _⟩ | exact ⟨rfl, _, Eq.trans (World.drewN_drewN _ _ _) (congrArg (World.drewN _) (Nat.add_assoc _ _ _))⟩)))
    repeat (go_quiet (first | (go_at_call 43; (with_reducible refine (transeptplain_SameLists.calls k _ _ l0_2 _ _ l1_2 true _ ?_ ?_ ?_ ?_ A7.out).mono ?_); exact cB_ HR0_2 HB; exact HC0_2.out; exact cB_ HR1_2 HB; exact HC1_2.out; rintro e w' ⟨rfl, ⟨nd, rfl⟩⟩; (try first | exact ⟨rfl, _, World.drewN_drewN _ _ _⟩ | exact ⟨rfl, _, Eq.trans (World.drewN_drewN _ _ _) (congrArg (World.drewN _) (Nat.add_assoc _ _ _))⟩))); try go_wp2_with (first | (go_at_call 43; (with_reducible refine (transeptplain_SameLists.calls k _ _ l0_2 _ _ l1_2 true _ ?_ ?_ ?_ ?_ A7.out).mono ?_); exact cB_ HR0_2 HB; exact HC0_2.out; exact cB_ HR1_2 HB; exact HC1_2.out; rintro e w' ⟨rfl, ⟨nd, rfl⟩⟩; (try first | exact ⟨rfl, _, World.drewN_drewN _ _ _⟩ | exact ⟨rfl, _, Eq.trans (World.drewN_drewN _ _ _) (congrArg (World.drewN _) (Nat.add_assoc _ _ _))⟩))))
    go_meet
    case rel => exact ⟨_, (((l0_0.length : Int) != (l1_0.length : Int))), (by first | rfl | (simp; done) | (simp [*]; done)), H', ⟨by first | omega | exact Nat.le_refl _⟩, ⟨bA_ BK309⟩, ⟨bA_ BK310⟩, ⟨bl_ HB⟩⟩
   ·replace c8 := Bool.eq_false_iff.mpr c8
    subst c8
    rw [if_neg (show ¬ (false = true) by decide)] at H
    have H' := Aside0.mk H
    clear H
    have hnb12 := NB309_310.out
    have hnc12 := NB310_309.out
    obtain ⟨hcz13_0, hcz13_1, hcz13_2, hfz13_0, hfz13_1, hfz13_2⟩ := cz3_ BK309
    obtain ⟨hcz14_0, hcz14_1, hcz14_2, hfz14_0, hfz14_1, hfz14_2⟩ := cz3_ BK310
    go_wp2_with (first | (go_at_call 43; (with_reducible refine (transeptplain_SameLists.calls k _ _ l0_2 _ _ l1_2 false _ ?_ ?_ ?_ ?_ A7.out).mono ?_); exact cB_ HR0_2 HB; exact HC0_2.out; exact cB_ HR1_2 HB; exact HC1_2.out; rintro e w' ⟨rfl, ⟨nd, rfl⟩⟩; (try first | exact ⟨rfl, _, World.drewN_drewN _ _ _⟩ | exact ⟨rfl, _, Eq.trans (World.drewN_drewN _ _ _) (congrArg (World.drewN _) (Nat.add_assoc _ _ _))⟩)))
    repeat (go_quiet (first | (go_at_call 43; (with_reducible refine (transeptplain_SameLists.calls k _ _ l0_2 _ _ l1_2 false _ ?_ ?_ ?_ ?_ A7.out).mono ?_); exact cB_ HR0_2 HB; exact HC0_2.out; exact cB_ HR1_2 HB; exact HC1_2.out; rintro e w' ⟨rfl, ⟨nd, rfl⟩⟩; (try first | exact ⟨rfl, _, World.drewN_drewN _ _ _⟩ | exact ⟨rfl, _, Eq.trans (World.drewN_drewN _ _ _) (congrArg (World.drewN _) (Nat.add_assoc _ _ _))⟩))); try go_wp2_with (first | (go_at_call 43; (with_reducible refine (transeptplain_SameLists.calls k _ _ l0_2 _ _ l1_2 false _ ?_ ?_ ?_ ?_ A7.out).mono ?_); exact cB_ HR0_2 HB; exact HC0_2.out; exact cB_ HR1_2 HB; exact HC1_2.out; rintro e w' ⟨rfl, ⟨nd, rfl⟩⟩; (try first | exact ⟨rfl, _, World.drewN_drewN _ _ _⟩ | exact ⟨rfl, _, Eq.trans (World.drewN_drewN _ _ _) (congrArg (World.drewN _) (Nat.add_assoc _ _ _))⟩))))
    go_meet
    case rel => exact ⟨_, (true), (by first | rfl | (simp; done) | (simp [*]; done)), H', ⟨by first | omega | exact Nat.le_refl _⟩, ⟨bA_ BK309⟩, ⟨bA_ BK310⟩, ⟨bl_ HB⟩⟩
  ·rw [if_neg c6] at H
   have c6b0 : (a0_1 == a1_1) = false := beq_eq_false_iff_ne.mpr c6
   have c6b1 : (a0_1 != a1_1) = true := bne_iff_ne.mpr c6
   (first | rw [c6b0] | (simp only [i64_w, i32_w]; rw [c6b0]) | skip)
   have H' := Aside0.mk H
   clear H
   have hnb15 := NB309_310.out
   have hnc15 := NB310_309.out
   obtain ⟨hcz16_0, hcz16_1, hcz16_2, hfz16_0, hfz16_1, hfz16_2⟩ := cz3_ BK309
   obtain ⟨hcz17_0, hcz17_1, hcz17_2, hfz17_0, hfz17_1, hfz17_2⟩ := cz3_ BK310
   go_wp2
   repeat (go_quiet (fail); try go_wp2)
   go_meet
   case rel => exact ⟨_, (true), (by first | rfl | (simp; done) | (simp [*]; done)), H', ⟨by first | omega | exact Nat.le_refl _⟩, ⟨bA_ BK309⟩, ⟨bA_ BK310⟩, ⟨bl_ HB⟩⟩
 case rest =>
  clear HC3
  try clear c1
  try clear p2
  try clear c3
  try clear c6
  try clear c6b0
  try clear c6b1
  try clear c8
  try clear c9
  try clear c12
  try clear c15
  try clear hcz10_0
  try clear hcz10_1
  try clear hcz10_2
  try clear hcz11_0
  try clear hcz11_1
  try clear hcz11_2
  try clear hcz13_0
  try clear hcz13_1
  try clear hcz13_2
  try clear hcz14_0
  try clear hcz14_1
  try clear hcz14_2
  try clear hcz16_0
  try clear hcz16_1
  try clear hcz16_2
  try clear hcz17_0
  try clear hcz17_1
  try clear hcz17_2
  try clear hfz10_0
  try clear hfz10_1
  try clear hfz10_2
  try clear hfz11_0
  try clear hfz11_1
  try clear hfz11_2
  try clear hfz13_0
  try clear hfz13_1
  try clear hfz13_2
  try clear hfz14_0
  try clear hfz14_1
  try clear hfz14_2
  try clear hfz16_0
  try clear hfz16_1
  try clear hfz16_2
  try clear hfz17_0
  try clear hfz17_1
  try clear hfz17_2
  obtain ⟨kq, x27_2, rfl, HA, HJ2, BK309, BK310, HB⟩ := hcut
  cases kq with
  | zero => exact absurd HA.out (by simp [transeptlaw08_same.j0])
  | succ kj2 =>
   have H := HA.out
   clear HA
   simp only [transeptlaw08_same.j0] at H
   by_cases c18 : x27_2 = true
   ·subst c18
    rw [if_pos rfl] at H
    obtain rfl := Option.some.inj H
    go_wp2
    repeat (go_quiet (fail); try go_wp2)
    go_ret
    exact ⟨fin_, bl_ HB⟩
   ·replace c18 := Bool.eq_false_iff.mpr c18
    subst c18
    rw [if_neg (show ¬ (false = true) by decide)] at H
    have H' := Aside0.mk H
    clear H
    go_wp2
    repeat (go_quiet (fail); try go_wp2)
    go_loopg [5] kj2 (fun kq v5 w' => ∃ (x5_2 : Int), v5 = .int .i64 x5_2 ∧ Aside0 (transeptlaw08_same.l0 kq x5_2 l0_0 a0_1 l0_2 l1_0 a1_1 l1_2 = some r) ∧ Aside0 (kq ≤ kj2) ∧ Aside0 (w'.heap[gb309]? = some (.cells #[(.slice A0_0 l0_0.length c0_0), .int .i64 a0_1, (.slice A0_2 l0_2.length c0_2)] 61 (0, 0))) ∧ Aside0 (w'.heap[gb310]? = some (.cells #[(.slice A1_0 l1_0.length c1_0), .int .i64 a1_1, (.slice A1_2 l1_2.length c1_2)] 58 (0, 0))) ∧ Aside0 (Below w.heap.size w w'))
    case atStart => exact ⟨(0), (by first | rfl | (simp; done) | (simp [*]; done)), H', ⟨Nat.le_refl _⟩, ⟨bA_ BK309⟩, ⟨bA_ BK310⟩, ⟨bl_ HB⟩⟩
    case round =>
     clear H'
     try clear c1
     try clear p2
     try clear c3
     try clear c6
     try clear c6b0
     try clear c6b1
     try clear c8
     try clear c9
     try clear c12
     try clear c15
     try clear c18
     try clear hcz10_0
     try clear hcz10_1
     try clear hcz10_2
     try clear hcz11_0
     try clear hcz11_1
     try clear hcz11_2
     try clear hcz13_0
     try clear hcz13_1
     try clear hcz13_2
     try clear hcz14_0
     try clear hcz14_1
     try clear hcz14_2
     try clear hcz16_0
     try clear hcz16_1
     try clear hcz16_2
     try clear hcz17_0
     try clear hcz17_1
     try clear hcz17_2
     try clear hfz10_0
     try clear hfz10_1
     try clear hfz10_2
     try clear hfz11_0
     try clear hfz11_1
     try clear hfz11_2
     try clear hfz13_0
     try clear hfz13_1
     try clear hfz13_2
     try clear hfz14_0
     try clear hfz14_1
     try clear hfz14_2
     try clear hfz16_0
     try clear hfz16_1
     try clear hfz16_2
     try clear hfz17_0
     try clear hfz17_1
     try clear hfz17_2
     try clear p2
     obtain ⟨x5_2, rfl, HA, HK2, BK309, BK310, HB⟩ := hrel
     cases gk with
     | zero => exact absurd HA.out (by simp [transeptlaw08_same.l0])
     | succ k2 =>
      have H := HA.out
      clear HA
      simp only [transeptlaw08_same.l0] at H
      by_cases c19 : x5_2 < (l0_0.length : Int)
      ·rw [if_pos c19] at H
       have c19b0 : decide (x5_2 < (l0_0.length : Int)) = true := decide_eq_true c19
       clear c19
       by_cases c20 : 0 ≤ x5_2
       ·rw [if_pos c20] at H
        have c20b0 : decide (0 ≤ x5_2) = true := decide_eq_true c20
        clear c20
        by_cases c21 : x5_2 < (l1_0.length : Int)
        ·rw [if_pos c21] at H
         have c21b0 : decide (x5_2 < (l1_0.length : Int)) = true := decide_eq_true c21
         clear c21
         by_cases c22 : ((rd_T70 l0_0 x5_2).f0) = ((rd_T87 l1_0 x5_2).f0)
         ·rw [if_pos c22] at H
          have c22b0 : (((rd_T70 l0_0 x5_2).f0) == ((rd_T87 l1_0 x5_2).f0)) = true := beq_iff_eq.mpr c22
          have c22b1 : (((rd_T70 l0_0 x5_2).f0) != ((rd_T87 l1_0 x5_2).f0)) = false := bne_eq_false_iff_eq.mpr c22
          clear c22
          replace H := Option.bind_eq_some_iff.mp H
          obtain ⟨t316, A230, H⟩ := H
          try dsimp only at H
          have A23 := Aside0.mk A230
          clear A230
          by_cases c24 : t316 = true
          ·subst c24
           rw [if_pos rfl] at H
           have H' := Aside0.mk H
           clear H
           have hnb25 := NB309_310.out
           have hnc25 := NB310_309.out
           obtain ⟨hcz26_0, hcz26_1, hcz26_2, hfz26_0, hfz26_1, hfz26_2⟩ := cz3_ BK309
           have p312 : 0 ≤ (x5_2 : Int) := of_decide_eq_true (by first | (with_reducible assumption) | assumption)
           have q312 : x5_2 < (l0_0.length : Int) := of_decide_eq_true (by first | (with_reducible assumption) | assumption)
           obtain ⟨ad312, A312_1, c312_1, e312, hx312_0, hx312_1, hl312_1, hi312_1⟩ := at_T70 HR0_0.out x5_2 p312 q312
           cases e312
           replace hx312_0 := (HB.out.cell (World.block_lt_of_cell? w _ hx312_0)).trans hx312_0
           replace hx312_1 := (HB.out.cell (World.block_lt_of_cell? w _ hx312_1)).trans hx312_1
           have HR312_1 := Aside0.mk hi312_1
           have HC312_1 := Aside0.mk hl312_1
           clear hi312_1 hl312_1
           replace p312 := eq_true p312
           replace q312 := eq_true q312
           obtain ⟨hcz27_0, hcz27_1, hcz27_2, hfz27_0, hfz27_1, hfz27_2⟩ := cz3_ BK310
           have p313 : 0 ≤ (x5_2 : Int) := of_decide_eq_true (by first | (with_reducible assumption) | assumption)
           have q313 : x5_2 < (l1_0.length : Int) := of_decide_eq_true (by first | (with_reducible assumption) | assumption)
           obtain ⟨ad313, A313_1, c313_1, e313, hx313_0, hx313_1, hl313_1, hi313_1⟩ := at_T87 HR1_0.out x5_2 p313 q313
           cases e313
           replace hx313_0 := (HB.out.cell (World.block_lt_of_cell? w _ hx313_0)).trans hx313_0
           replace hx313_1 := (HB.out.cell (World.block_lt_of_cell? w _ hx313_1)).trans hx313_1
           have HR313_1 := Aside0.mk hi313_1
           have HC313_1 := Aside0.mk hl313_1
           clear hi313_1 hl313_1
           replace p313 := eq_true p313
           replace q313 := eq_true q313
           have p314 : 0 ≤ (x5_2 : Int) := of_decide_eq_true (by first | (with_reducible assumption) | assumption)
           have q314 : x5_2 < (l0_0.length : Int) := of_decide_eq_true (by first | (with_reducible assumption) | assumption)
           obtain ⟨ad314, A314_1, c314_1, e314, hx314_0, hx314_1, hl314_1, hi314_1⟩ := at_T70 HR0_0.out x5_2 p314 q314
           obtain rfl : ad312 = ad314 := (by injection e314)
           replace hx314_0 := (HB.out.cell (World.block_lt_of_cell? w _ hx314_0)).trans hx314_0
           replace hx314_1 := (HB.out.cell (World.block_lt_of_cell? w _ hx314_1)).trans hx314_1
           have HR314_1 := Aside0.mk hi314_1
           have HC314_1 := Aside0.mk hl314_1
           clear hi314_1 hl314_1
           replace p314 := eq_true p314
           replace q314 := eq_true q314
           have ea_ := Option.some.inj (hx312_1.symm.trans hx314_1)
           injection ea_ with ea_ en_ ec_
           subst ea_
           subst ec_
           clear en_
           have p315 : 0 ≤ (x5_2 : Int) := of_decide_eq_true (by first | (with_reducible assumption) | assumption)
           have q315 : x5_2 < (l1_0.length : Int) := of_decide_eq_true (by first | (with_reducible assumption) | assumption)
           obtain ⟨ad315, A315_1, c315_1, e315, hx315_0, hx315_1, hl315_1, hi315_1⟩ := at_T87 HR1_0.out x5_2 p315 q315
           obtain rfl : ad313 = ad315 := (by injection e315)
           replace hx315_0 := (HB.out.cell (World.block_lt_of_cell? w _ hx315_0)).trans hx315_0
           replace hx315_1 := (HB.out.cell (World.block_lt_of_cell? w _ hx315_1)).trans hx315_1
           have HR315_1 := Aside0.mk hi315_1
           have HC315_1 := Aside0.mk hl315_1
           clear hi315_1 hl315_1
           replace p315 := eq_true p315
           replace q315 := eq_true q315
           have ea_ := Option.some.inj (hx313_1.symm.trans hx315_1)
           injection ea_ with ea_ en_ ec_
           subst ea_
           subst ec_
           clear en_
           go_wp2_with (first | (go_at_call 21; (with_reducible refine (transeptplain_SameBytes.calls k2 _ _ ((rd_T70 l0_0 x5_2).f1) _ _ ((rd_T87 l1_0 x5_2).f1) true _ ?_ ?_ ?_ ?_ A23.out).mono ?_); exact cB_ HR314_1 HB; exact HC314_1.out; exact cB_ HR315_1 HB; exact HC315_1.out; rintro e w' ⟨rfl, ⟨nd, rfl⟩⟩; (try first | exact ⟨rfl, _, World.drewN_drewN _ _ _⟩ | exact ⟨rfl, _, Eq.trans (World.drewN_drewN _ _ _) (congrArg (World.drewN _) (Nat.add_assoc _ _ _))⟩)))
           repeat (go_quiet (first | (go_at_call 21; (with_reducible refine (transeptplain_SameBytes.calls k2 _ _ ((rd_T70 l0_0 x5_2).f1) _ _ ((rd_T87 l1_0 x5_2).f1) true _ ?_ ?_ ?_ ?_ A23.out).mono ?_); exact cB_ HR314_1 HB; exact HC314_1.out; exact cB_ HR315_1 HB; exact HC315_1.out; rintro e w' ⟨rfl, ⟨nd, rfl⟩⟩; (try first | exact ⟨rfl, _, World.drewN_drewN _ _ _⟩ | exact ⟨rfl, _, Eq.trans (World.drewN_drewN _ _ _) (congrArg (World.drewN _) (Nat.add_assoc _ _ _))⟩))); try go_wp2_with (first | (go_at_call 21; (with_reducible refine (transeptplain_SameBytes.calls k2 _ _ ((rd_T70 l0_0 x5_2).f1) _ _ ((rd_T87 l1_0 x5_2).f1) true _ ?_ ?_ ?_ ?_ A23.out).mono ?_); exact cB_ HR314_1 HB; exact HC314_1.out; exact cB_ HR315_1 HB; exact HC315_1.out; rintro e w' ⟨rfl, ⟨nd, rfl⟩⟩; (try first | exact ⟨rfl, _, World.drewN_drewN _ _ _⟩ | exact ⟨rfl, _, Eq.trans (World.drewN_drewN _ _ _) (congrArg (World.drewN _) (Nat.add_assoc _ _ _))⟩))))
           go_roundg k2
           case measure => have := HJ2.out; have := HK2.out; omega
           case rel => exact ⟨(wrap64 (x5_2 + 1)), (by first | rfl | (simp; done) | (simp [*]; done)), H', ⟨by have := HJ2.out; have := HK2.out; omega⟩, ⟨bA_ BK309⟩, ⟨bA_ BK310⟩, ⟨bl_ HB⟩⟩
          ·replace c24 := Bool.eq_false_iff.mpr c24
           subst c24
           rw [if_neg (show ¬ (false = true) by decide)] at H
           obtain rfl := Option.some.inj H
           have hnb28 := NB309_310.out
           have hnc28 := NB310_309.out
           obtain ⟨hcz29_0, hcz29_1, hcz29_2, hfz29_0, hfz29_1, hfz29_2⟩ := cz3_ BK309
           have p312 : 0 ≤ (x5_2 : Int) := of_decide_eq_true (by first | (with_reducible assumption) | assumption)
           have q312 : x5_2 < (l0_0.length : Int) := of_decide_eq_true (by first | (with_reducible assumption) | assumption)
           obtain ⟨ad312, A312_1, c312_1, e312, hx312_0, hx312_1, hl312_1, hi312_1⟩ := at_T70 HR0_0.out x5_2 p312 q312
           cases e312
           replace hx312_0 := (HB.out.cell (World.block_lt_of_cell? w _ hx312_0)).trans hx312_0
           replace hx312_1 := (HB.out.cell (World.block_lt_of_cell? w _ hx312_1)).trans hx312_1
           have HR312_1 := Aside0.mk hi312_1
           have HC312_1 := Aside0.mk hl312_1
           clear hi312_1 hl312_1
           replace p312 := eq_true p312
           replace q312 := eq_true q312
           obtain ⟨hcz30_0, hcz30_1, hcz30_2, hfz30_0, hfz30_1, hfz30_2⟩ := cz3_ BK310
           have p313 : 0 ≤ (x5_2 : Int) := of_decide_eq_true (by first | (with_reducible assumption) | assumption)
           have q313 : x5_2 < (l1_0.length : Int) := of_decide_eq_true (by first | (with_reducible assumption) | assumption)
           obtain ⟨ad313, A313_1, c313_1, e313, hx313_0, hx313_1, hl313_1, hi313_1⟩ := at_T87 HR1_0.out x5_2 p313 q313
           cases e313
           replace hx313_0 := (HB.out.cell (World.block_lt_of_cell? w _ hx313_0)).trans hx313_0
           replace hx313_1 := (HB.out.cell (World.block_lt_of_cell? w _ hx313_1)).trans hx313_1
           have HR313_1 := Aside0.mk hi313_1
           have HC313_1 := Aside0.mk hl313_1
           clear hi313_1 hl313_1
           replace p313 := eq_true p313
           replace q313 := eq_true q313
           have p314 : 0 ≤ (x5_2 : Int) := of_decide_eq_true (by first | (with_reducible assumption) | assumption)
           have q314 : x5_2 < (l0_0.length : Int) := of_decide_eq_true (by first | (with_reducible assumption) | assumption)
           obtain ⟨ad314, A314_1, c314_1, e314, hx314_0, hx314_1, hl314_1, hi314_1⟩ := at_T70 HR0_0.out x5_2 p314 q314
           obtain rfl : ad312 = ad314 := (by injection e314)
           replace hx314_0 := (HB.out.cell (World.block_lt_of_cell? w _ hx314_0)).trans hx314_0
           replace hx314_1 := (HB.out.cell (World.block_lt_of_cell? w _ hx314_1)).trans hx314_1
           have HR314_1 := Aside0.mk hi314_1
           have HC314_1 := Aside0.mk hl314_1
           clear hi314_1 hl314_1
           replace p314 := eq_true p314
           replace q314 := eq_true q314
           have ea_ := Option.some.inj (hx312_1.symm.trans hx314_1)
           injection ea_ with ea_ en_ ec_
           subst ea_
           subst ec_
           clear en_
           have p315 : 0 ≤ (x5_2 : Int) := of_decide_eq_true (by first | (with_reducible assumption) | assumption)
           have q315 : x5_2 < (l1_0.length : Int) := of_decide_eq_true (by first | (with_reducible assumption) | assumption)
           obtain ⟨ad315, A315_1, c315_1, e315, hx315_0, hx315_1, hl315_1, hi315_1⟩ := at_T87 HR1_0.out x5_2 p315 q315
           obtain rfl : ad313 = ad315 := (by injection e315)
           replace hx315_0 := (HB.out.cell (World.block_lt_of_cell? w _ hx315_0)).trans hx315_0
           replace hx315_1 := (HB.out.cell (World.block_lt_of_cell? w _ hx315_1)).trans hx315_1
           have HR315_1 := Aside0.mk hi315_1
           have HC315_1 := Aside0.mk hl315_1
           clear hi315_1 hl315_1
           replace p315 := eq_true p315
           replace q315 := eq_true q315
           have ea_ := Option.some.inj (hx313_1.symm.trans hx315_1)
           injection ea_ with ea_ en_ ec_
           subst ea_
           subst ec_
           clear en_
           go_wp2_with (first | (go_at_call 21; (with_reducible refine (transeptplain_SameBytes.calls k2 _ _ ((rd_T70 l0_0 x5_2).f1) _ _ ((rd_T87 l1_0 x5_2).f1) false _ ?_ ?_ ?_ ?_ A23.out).mono ?_); exact cB_ HR314_1 HB; exact HC314_1.out; exact cB_ HR315_1 HB; exact HC315_1.out; rintro e w' ⟨rfl, ⟨nd, rfl⟩⟩; (try first | exact ⟨rfl, _, World.drewN_drewN _ _ _⟩ | exact ⟨rfl, _, Eq.trans (World.drewN_drewN _ _ _) (congrArg (World.drewN _) (Nat.add_assoc _ _ _))⟩)))
           repeat (go_quiet (first | (go_at_call 21; (with_reducible refine (transeptplain_SameBytes.calls k2 _ _ ((rd_T70 l0_0 x5_2).f1) _ _ ((rd_T87 l1_0 x5_2).f1) false _ ?_ ?_ ?_ ?_ A23.out).mono ?_); exact cB_ HR314_1 HB; exact HC314_1.out; exact cB_ HR315_1 HB; exact HC315_1.out; rintro e w' ⟨rfl, ⟨nd, rfl⟩⟩; (try first | exact ⟨rfl, _, World.drewN_drewN _ _ _⟩ | exact ⟨rfl, _, Eq.trans (World.drewN_drewN _ _ _) (congrArg (World.drewN _) (Nat.add_assoc _ _ _))⟩))); try go_wp2_with (first | (go_at_call 21; (with_reducible refine (transeptplain_SameBytes.calls k2 _ _ ((rd_T70 l0_0 x5_2).f1) _ _ ((rd_T87 l1_0 x5_2).f1) false _ ?_ ?_ ?_ ?_ A23.out).mono ?_); exact cB_ HR314_1 HB; exact HC314_1.out; exact cB_ HR315_1 HB; exact HC315_1.out; rintro e w' ⟨rfl, ⟨nd, rfl⟩⟩; (try first | exact ⟨rfl, _, World.drewN_drewN _ _ _⟩ | exact ⟨rfl, _, Eq.trans (World.drewN_drewN _ _ _) (congrArg (World.drewN _) (Nat.add_assoc _ _ _))⟩))))
           go_ret
           exact ⟨fin_, bl_ HB⟩
         ·rw [if_neg c22] at H
          have c22b0 : (((rd_T70 l0_0 x5_2).f0) == ((rd_T87 l1_0 x5_2).f0)) = false := beq_eq_false_iff_ne.mpr c22
          have c22b1 : (((rd_T70 l0_0 x5_2).f0) != ((rd_T87 l1_0 x5_2).f0)) = true := bne_iff_ne.mpr c22
          obtain rfl := Option.some.inj H
          have hnb31 := NB309_310.out
          have hnc31 := NB310_309.out
          obtain ⟨hcz32_0, hcz32_1, hcz32_2, hfz32_0, hfz32_1, hfz32_2⟩ := cz3_ BK309
          have p312 : 0 ≤ (x5_2 : Int) := of_decide_eq_true (by first | (with_reducible assumption) | assumption)
          have q312 : x5_2 < (l0_0.length : Int) := of_decide_eq_true (by first | (with_reducible assumption) | assumption)
          obtain ⟨ad312, A312_1, c312_1, e312, hx312_0, hx312_1, hl312_1, hi312_1⟩ := at_T70 HR0_0.out x5_2 p312 q312
          cases e312
          replace hx312_0 := (HB.out.cell (World.block_lt_of_cell? w _ hx312_0)).trans hx312_0
          replace hx312_1 := (HB.out.cell (World.block_lt_of_cell? w _ hx312_1)).trans hx312_1
          have HR312_1 := Aside0.mk hi312_1
          have HC312_1 := Aside0.mk hl312_1
          clear hi312_1 hl312_1
          replace p312 := eq_true p312
          replace q312 := eq_true q312
          obtain ⟨hcz33_0, hcz33_1, hcz33_2, hfz33_0, hfz33_1, hfz33_2⟩ := cz3_ BK310
          have p313 : 0 ≤ (x5_2 : Int) := of_decide_eq_true (by first | (with_reducible assumption) | assumption)
          have q313 : x5_2 < (l1_0.length : Int) := of_decide_eq_true (by first | (with_reducible assumption) | assumption)
          obtain ⟨ad313, A313_1, c313_1, e313, hx313_0, hx313_1, hl313_1, hi313_1⟩ := at_T87 HR1_0.out x5_2 p313 q313
          cases e313
          replace hx313_0 := (HB.out.cell (World.block_lt_of_cell? w _ hx313_0)).trans hx313_0
          replace hx313_1 := (HB.out.cell (World.block_lt_of_cell? w _ hx313_1)).trans hx313_1
          have HR313_1 := Aside0.mk hi313_1
          have HC313_1 := Aside0.mk hl313_1
          clear hi313_1 hl313_1
          replace p313 := eq_true p313
          replace q313 := eq_true q313
          go_wp2
          repeat (go_quiet (fail); try go_wp2)
          go_ret
          exact ⟨fin_, bl_ HB⟩
        ·rw [if_neg c21] at H
         exact absurd H (by simp)
       ·rw [if_neg c20] at H
        exact absurd H (by simp)
      ·rw [if_neg c19] at H
       have c19b0 : decide (x5_2 < (l0_0.length : Int)) = false := decide_eq_false c19
       clear c19
       obtain rfl := Option.some.inj H
       have hnb34 := NB309_310.out
       have hnc34 := NB310_309.out
       obtain ⟨hcz35_0, hcz35_1, hcz35_2, hfz35_0, hfz35_1, hfz35_2⟩ := cz3_ BK309
       go_wp2
       repeat (go_quiet (fail); try go_wp2)
       go_ret
       exact ⟨fin_, bl_ HB⟩
end Go.Proofs.Ytooabchnbmnchaa.Q
