-- Laid by this session's own program (wip/tools) out of the translation; Lean checks it. Thinned, shortened and merged for this claim.
import Derived.Test.YtooabchnbmnchaaQ0
import Derived.Test.YtooabchnbmnchaaSq
import Derived.Test.YtooabchnbmnchaaQ1
import Derived.Test.YtooabchnbmnchaaQ14
namespace Go.Proofs.Ytooabchnbmnchaa.Q
open Go.RowKit Go.Proofs.YtooabchnbmnchaaW.PrintWords Go.Proofs.YtooabchnbmnchaaW.PrintLast Go.Proofs.YtooabchnbmnchaaW.PrintMore
attribute [local go_sem] max2_int min2_int max_two min_two max_three min_three max_four min_four binOp_string_leq binOp_string_geq binOp_string_gtr   -- for this text's walks alone
set_option linter.unusedVariables false
set_option linter.unusedSimpArgs false
def wal_own.l0 : Nat → List (S70) → Int → Int → List (S70) → Int → List (List Int) → Option ((List (S70)) × Int × (List (List Int)) × Int)
 | 0, _, _, _, _, _, _ => none
 | k + 1, x21, x22, x23, x139000, x139001, x139002 => if x23 < x22 then (if 0 ≤ x23 then (if x23 < (x21.length : Int) then ((bytes_Clone.f ((rd_T70 x21 x23).f1)).bind fun t141 => (if x139000.length < 4398046511104 then (wal_own.l0 k x21 x22 (wrap64 (x23 + 1)) (x139000 ++ [(⟨(rd_T70 x21 x23).f0, t141⟩ : S70)]) x139001 x139002) else (none))) else (none)) else (none)) else (some (x139000, x139001, x139002, 0))
def wal_own.f (k : Nat) (l0_0 : List (S70)) (a0_1 : Int) (l0_2 : List (List Int)) : Option ((List (S70)) × Int × (List (List Int)) × Int) := (wal_Check.f k l0_0 a0_1 l0_2).bind fun t134 => (if t134 = 0 then ((wal_cloneAll.f k l0_2).bind fun t135 => (wal_own.l0 k l0_0 (l0_0.length : Int) 0 ([] : List (S70)) a0_1 t135)) else (some (([] : List (S70)), 0, ([] : List (List Int)), t134)))
theorem wal_own.mono_l : ∀ k, (∀ y0 y1 y2 y3 y4 y5, LeO (wal_own.l0 k y0 y1 y2 y3 y4 y5) (wal_own.l0 (k + 1) y0 y1 y2 y3 y4 y5))
 | 0 => fun _ _ _ _ _ _ r h => by simp [wal_own.l0] at h
 | k + 1 => by
  have ih0 := wal_own.mono_l k
  ·intro y0 y1 y2 y3 y4 y5
   unfold wal_own.l0
   repeat' first
   | (with_reducible exact ih0 _ _ _ _ _ _)
   | (with_reducible exact wal_Check.mono _ _ _ _)
   | (with_reducible exact wal_cloneAll.mono _ _)
   | (with_reducible exact LeO.refl _)
   | (with_reducible exact LeO.none _)
   | (with_reducible refine LeO.ite ?_ ?_)
   | (with_reducible refine LeO.bind ?_ (fun _ => ?_))
   | exact ih0 _ _ _ _ _ _
   | exact wal_Check.mono _ _ _ _
   | exact wal_cloneAll.mono _ _
   | exact LeO.none _
   | refine LeO.ite ?_ ?_
   | refine LeO.bind ?_ (fun _ => ?_)
theorem wal_own.mono : ∀ a0 a1 a2 k, LeO (wal_own.f k a0 a1 a2) (wal_own.f (k + 1) a0 a1 a2) := by
 intro a0 a1 a2 k
 have ih0 := wal_own.mono_l k
 unfold wal_own.f
 repeat' first
   | (with_reducible exact ih0 _ _ _ _ _ _)
   | (with_reducible exact wal_Check.mono _ _ _ _)
   | (with_reducible exact wal_cloneAll.mono _ _)
   | (with_reducible exact LeO.refl _)
   | (with_reducible exact LeO.none _)
   | (with_reducible refine LeO.ite ?_ ?_)
   | (with_reducible refine LeO.bind ?_ (fun _ => ?_))
   | exact ih0 _ _ _ _ _ _
   | exact wal_Check.mono _ _ _ _
   | exact wal_cloneAll.mono _ _
   | exact LeO.none _
   | refine LeO.ite ?_ ?_
   | refine LeO.bind ?_ (fun _ => ?_)
def wal_own.T4 : Bool × List (List Nat × List Nat) := (true, [([], []), ([0], [0]), ([], []), ([2], [2]), ([3], [3]), ([1, 4], [1, 4]), ([], []), ([6, 5, 4, 0, 1, 2, 3, 4, 5, 6], [5, 6])])
def wal_own.B4 : List Nat := [0, 1, 0, 4, 12, 31, 0, 127]
theorem wal_own.tab4 : rtab .any (opsOf Try.f66 4) = wal_own.T4 := by kernel_rfl
theorem wal_own.bits4 : waitsOk wal_own.T4.2 wal_own.B4 = true := by kernel_rfl
def wal_own.T8 : Bool × List (List Nat × List Nat) := (true, [([], []), ([0], [0]), ([], []), ([2], [2]), ([], []), ([4], [4]), ([5], [5]), ([3, 6], [3, 6]), ([7], [7]), ([1, 8, 6], [1, 8]), ([0, 1, 2, 3, 4, 5, 6, 7, 8, 9], []), ([10, 9, 9, 0, 1, 2, 3, 4, 5, 6, 7, 8, 9], [9, 10])])
def wal_own.B8 : List Nat := [0, 1, 0, 4, 0, 16, 48, 124, 252, 511, 1023, 2047]
theorem wal_own.tab8 : rtab .any (opsOf Try.f66 8) = wal_own.T8 := by kernel_rfl
theorem wal_own.bits8 : waitsOk wal_own.T8.2 wal_own.B8 = true := by kernel_rfl
set_option maxHeartbeats 8000000 in
set_option maxRecDepth 100000 in
theorem wal_own.calls2 (k : Nat) (A0_0 : Option Addr) (c0_0 : Nat) (l0_0 : List (S70)) (a0_1 : Int) (A0_2 : Option Addr) (c0_2 : Nat) (l0_2 : List (List Int)) (r1 : List (S70)) (r2 : Int) (r3 : List (List Int)) (r4 : Int) (w : World) (hr0_0 : Kd.C k70 w A0_0 l0_0.length l0_0) (hc0_0 : l0_0.length ≤ c0_0) (hr0_2 : Kd.C (Kd.slice 5 (Kd.int .u8)) w A0_2 l0_2.length l0_2) (hc0_2 : l0_2.length ≤ c0_2) (h : wal_own.f k l0_0 a0_1 l0_2 = some (r1, r2, r3, r4)) :
  Calls Try.prog 66 #[.agg #[.slice A0_0 l0_0.length c0_0, .int .i64 a0_1, .slice A0_2 l0_2.length c0_2]] w fun e w' => ∃ (m : Nat) (v0_ v2_ : Value), e = .returned (.tuple #[.agg #[v0_, .int .i64 r2, v2_], .int .i64 r4]) ∧ Kd.S k70 70 w' w.heap.size (fun k_ => m ≤ k_) v0_ r1 ∧ Kd.S (Kd.slice 5 (Kd.int .u8)) 26 w' w.heap.size (fun k_ => k_ < m) v2_ r3 ∧ m ≤ w'.heap.size ∧ Below w.heap.size w w' := by
 have hu61 := Try.underlying61
 have hu70 := Try.underlying70
 have HR0_0 := Aside0.mk hr0_0
 have HC0_0 := Aside0.mk hc0_0
 clear hr0_0 hc0_0
 have HR0_2 := Aside0.mk hr0_2
 have HC0_2 := Aside0.mk hc0_2
 clear hr0_2 hc0_2
 have HB := Aside0.mk (Below.refl w.heap.size w)
 have H : ((wal_Check.f k l0_0 a0_1 l0_2).bind fun t134 => (if t134 = 0 then ((wal_cloneAll.f k l0_2).bind fun t135 => (wal_own.l0 k l0_0 (l0_0.length : Int) 0 ([] : List (S70)) a0_1 t135)) else (some (([] : List (S70)), 0, ([] : List (List Int)), t134)))) = some (r1, r2, r3, r4) := h
 clear h
 replace H := Option.bind_eq_some_iff.mp H
 obtain ⟨t134, A20, H⟩ := H
 try dsimp only at H
 have A2 := Aside0.mk A20
 clear A20
 by_cases c3 : t134 = 0
 ·rw [if_pos c3] at H
  have c3b0 : (t134 == 0) = true := beq_iff_eq.mpr c3
  have c3b1 : (t134 != 0) = false := bne_eq_false_iff_eq.mpr c3
  clear c3
  replace H := Option.bind_eq_some_iff.mp H
  obtain ⟨t135, A40, H⟩ := H
  try dsimp only at H
  have A4 := Aside0.mk A40
  clear A40
  have H' := Aside0.mk H
  clear H
  go_enter Try.func66, Try.ntmps66
  try go_wp2_with (first | ((with_reducible refine gate_dst (N := 1) rfl ?_); refine bx_ 1 #[.slice A0_0 l0_0.length c0_0, .int .i64 a0_1, .slice A0_2 l0_2.length c0_2] 61 ?_; intro gb132 hg w5 hbox hb; have BK132 := Aside0.mk (hbox); have GW132 := bG_ HB hg; have GE132 := bG_ HB hg; replace HB := bS_ HB hb; clear hb hbox hg) | ((with_reducible refine gate_dst (N := 2) rfl ?_); refine bx_ 2 #[.slice none 0 0, .int .i64 0, .slice none 0 0] 61 ?_; intro gb133 hg w6 hbox hb; have BK133 := Aside0.mk (hbox); have GW133 := bG_ HB hg; have GE133 := bG_ HB hg; replace HB := bS_ HB hb; have NB132_133 := nL_ BK132 hg; have NB133_132 := nG_ BK132 hg; replace BK132 := bK_ BK132 hb; clear hb hbox hg; have hnb7 := NB132_133.out; have hnc7 := NB133_132.out; obtain ⟨hcz8_0, hcz8_1, hcz8_2, hfz8_0, hfz8_1, hfz8_2⟩ := cz3_ BK132) | ((with_reducible refine gate_callee (f := 47) rfl ?_); refine gL_ (some 9) Try.func47 #[.agg #[.slice A0_0 l0_0.length c0_0, .int .i64 a0_1, .slice A0_2 l0_2.length c0_2]] ?_; (with_reducible refine (wal_Check.calls k _ _ l0_0 a0_1 _ _ l0_2 t134 _ ?_ ?_ ?_ ?_ A2.out).mono ?_); exact cB_ HR0_0 HB; exact HC0_0.out; exact cB_ HR0_2 HB; exact HC0_2.out; rintro e w9 ⟨rfl, hb⟩; refine ⟨_, rfl, ?_⟩; replace BK132 := bK_ BK132 hb; replace BK133 := bK_ BK133 hb; replace HB := bS_ HB hb; (try clear hb)))
  replace BK132 := Aside0.mk (blk_drew BK132.out)
  replace BK133 := Aside0.mk (blk_drew BK133.out)
  replace HB := Aside0.mk (below_drew1 HB.out)
  refine start_ (n := 8) (S := fun w' => w'.cell? ⟨gb132, 0, none⟩ = some (.slice A0_0 l0_0.length c0_0) ∧ w'.cell? ⟨gb132, 1, none⟩ = some (.int .i64 a0_1) ∧ w'.cell? ⟨gb132, 2, none⟩ = some (.slice A0_2 l0_2.length c0_2)) (ds := []) #[false, false, false, false, false, false, false, false] (by kernel_rfl) rfl rfl ⟨(blk_cell BK132.out 0).trans rfl, (blk_cell BK132.out 1).trans rfl, (blk_cell BK132.out 2).trans rfl⟩ (fun hHeld => ?_); refine with_tabW wal_own.tab4 wal_own.bits4 (fun HT_ HW_ => ?_)
  generalize w9.drew = w10 at BK132 BK133 HB hHeld ⊢
  refine pu_ 0 (some 14) HT_ ?_
  refine pu_ 2 (some 16) HT_ ?_
  refine tk_ 1 (some 15) HT_ HW_ hHeld ?_
  refine tk_ 3 (some 17) HT_ HW_ hHeld ?_
  refine join_ (σ := Value × Nat) 1 #[true, true, true, true, true, true, true, false] (fun s_ => [(18, s_.1), (5, .pointer (some ⟨s_.2, 0, none⟩)), (19, .agg #[.slice none 0 0, .int .i64 a0_1, s_.1])]) (fun s_ w' => (w'.cell? ⟨gb132, 0, none⟩ = some (.slice A0_0 l0_0.length c0_0) ∧ w'.cell? ⟨gb132, 1, none⟩ = some (.int .i64 a0_1) ∧ w'.cell? ⟨gb132, 2, none⟩ = some (.slice A0_2 l0_2.length c0_2)) ∧ (Kd.S (Kd.slice 5 (Kd.int .u8)) 26 w' w.heap.size (fun _ => True) s_.1 t135) ∧ (w'.heap[gb132]? = some (.cells #[.slice A0_0 l0_0.length c0_0, .int .i64 a0_1, .slice A0_2 l0_2.length c0_2] 61 (0, 0))) ∧ (w'.heap[gb133]? = some (.cells #[.slice none 0 0, .int .i64 0, .slice none 0 0] 61 (0, 0))) ∧ (w'.heap[s_.2]? = some (.cells #[.slice none 0 0, .int .i64 0, .slice none 0 0] 61 (0, 0))) ∧ (w.heap.size ≤ s_.2) ∧ (w.heap.size ≤ s_.2) ∧ (gb132 ≠ s_.2) ∧ (s_.2 ≠ gb132) ∧ (gb133 ≠ s_.2) ∧ (s_.2 ≠ gb133) ∧ (Below w.heap.size w w')) ?_ ?_
  rotate_left
  ·intro hCont
   refine two_ (i := 4) (j := 6) (Ni := some 18) (Nj := some 5) #[true, true, true, true, true, false, false, false] #[true, true, true, true, false, false, true, false] rfl rfl rfl rfl (two_of HT_.out (by kernel_rfl)) (by decide) (by decide) (fun K hK => ?_) (fun K hK => ?_)
   ·skip
    refine goes_ Try.func69 (by kernel_rfl) rfl #[.slice A0_2 l0_2.length c0_2] (by rfl) rfl rfl (by (try simp only [List.map_toArray, List.map_cons, List.map_nil]); first | done | rfl | (simp only [List.length_drop, List.length_take]; rfl)) ?_
    with_reducible refine (wal_cloneAll.calls k _ _ l0_2 t135 _ ?_ ?_ A4.out).mono ?_
    exact cB_ HR0_2 HB
    exact HC0_2.out
    rintro e w11 ⟨v136, rfl, ho0, hb⟩
    refine ⟨_, rfl, ?_⟩
    have HO137 := Aside0.mk (Kd.S_lower ho0 (bs_ HB))
    replace BK132 := bK_ BK132 hb
    replace BK133 := bK_ BK133 hb
    replace HB := bS_ HB hb
    (try clear hb ho0)
    obtain ⟨Ao12, co12, eo12⟩ := Kd.S_slice HO137.out
    (first | subst eo12 | (injection eo12 with f1_ f2_ f3_; have f4_ := f1_.symm; have f5_ := f3_.symm; clear f1_ f2_ f3_; subst f4_; subst f5_))
    refine hK.out _ _ ⟨(blk_cell BK132.out 0).trans rfl, (blk_cell BK132.out 1).trans rfl, (blk_cell BK132.out 2).trans rfl⟩ (fun hHeld => ?_)
    clear hK K
    refine norm_ (a' := ?_) ?_ ?_
    rotate_left
    ·show Act.put _ (some 18) _ = _
     simp only [Act.put, List.setIfInBounds_toArray, List.set_cons_zero, List.set_cons_succ, i64_w, i32_w]
     rfl
    refine pu_ 5 (some 19) HT_ ?_
    refine on_ 6 (some 5) HT_ (fun K hK => ?_)
    refine box_step ?hg (N := 5) ?hd (cs := #[.slice none 0 0, .int .i64 0, .slice none 0 0]) (t := 61) ?hr ?_; (case hd => rfl); (case hg => rfl); (case hr => first | (go_simp; done) | (go_simp; rfl))
    intro gb138 hg w13 hbox hb
    replace HO137 := sB_ HO137 hb
    have BK138 := Aside0.mk (hbox)
    have GW138 := bG_ HB hg
    have GE138 := bG_ HB hg
    replace HB := bS_ HB hb
    have NB132_138 := nL_ BK132 hg
    have NB138_132 := nG_ BK132 hg
    replace BK132 := bK_ BK132 hb
    have NB133_138 := nL_ BK133 hg
    have NB138_133 := nG_ BK133 hg
    replace BK133 := bK_ BK133 hb
    clear hb hbox hg
    refine hK.out _ _ ⟨(blk_cell BK132.out 0).trans rfl, (blk_cell BK132.out 1).trans rfl, (blk_cell BK132.out 2).trans rfl⟩ (fun hHeld => ?_)
    clear hK K
    refine norm_ (a' := ?_) ?_ ?_
    rotate_left
    ·show Act.put _ (some 5) _ = _
     simp only [Act.put, List.setIfInBounds_toArray, List.set_cons_zero, List.set_cons_succ, i64_w, i32_w]
     rfl
    exact norm_ (by simp only [putAll, Act.put, List.setIfInBounds_toArray, List.set_cons_zero, List.set_cons_succ]) (hCont (.slice Ao12 t135.length co12, gb138) _ ⟨hHeld, (sA_ HO137), (bA_ BK132), (bA_ BK133), (bA_ BK138), GW138.out, GE138.out, NB132_138.out, NB138_132.out, NB133_138.out, NB138_133.out, (bl_ HB)⟩)
   ·skip
    refine box_step ?hg (N := 5) ?hd (cs := #[.slice none 0 0, .int .i64 0, .slice none 0 0]) (t := 61) ?hr ?_; (case hd => rfl); (case hg => rfl); (case hr => first | (go_simp; done) | (go_simp; rfl))
    intro gb138 hg w11 hbox hb
    have BK138 := Aside0.mk (hbox)
    have GW138 := bG_ HB hg
    have GE138 := bG_ HB hg
    replace HB := bS_ HB hb
    have NB132_138 := nL_ BK132 hg
    have NB138_132 := nG_ BK132 hg
    replace BK132 := bK_ BK132 hb
    have NB133_138 := nL_ BK133 hg
    have NB138_133 := nG_ BK133 hg
    replace BK133 := bK_ BK133 hb
    clear hb hbox hg
    refine hK.out _ _ ⟨(blk_cell BK132.out 0).trans rfl, (blk_cell BK132.out 1).trans rfl, (blk_cell BK132.out 2).trans rfl⟩ (fun hHeld => ?_)
    clear hK K
    refine norm_ (a' := ?_) ?_ ?_
    rotate_left
    ·show Act.put _ (some 5) _ = _
     simp only [Act.put, List.setIfInBounds_toArray, List.set_cons_zero, List.set_cons_succ, i64_w, i32_w]
     rfl
    refine on_ 4 (some 18) HT_ (fun K hK => ?_)
    refine goes_ Try.func69 (by kernel_rfl) rfl #[.slice A0_2 l0_2.length c0_2] (by rfl) rfl rfl (by (try simp only [List.map_toArray, List.map_cons, List.map_nil]); first | done | rfl | (simp only [List.length_drop, List.length_take]; rfl)) ?_
    with_reducible refine (wal_cloneAll.calls k _ _ l0_2 t135 _ ?_ ?_ A4.out).mono ?_
    exact cB_ HR0_2 HB
    exact HC0_2.out
    rintro e w12 ⟨v136, rfl, ho0, hb⟩
    refine ⟨_, rfl, ?_⟩
    have HO137 := Aside0.mk (Kd.S_lower ho0 (bs_ HB))
    replace BK132 := bK_ BK132 hb
    replace BK133 := bK_ BK133 hb
    replace BK138 := bK_ BK138 hb
    replace HB := bS_ HB hb
    (try clear hb ho0)
    obtain ⟨Ao13, co13, eo13⟩ := Kd.S_slice HO137.out
    (first | subst eo13 | (injection eo13 with f1_ f2_ f3_; have f4_ := f1_.symm; have f5_ := f3_.symm; clear f1_ f2_ f3_; subst f4_; subst f5_))
    refine hK.out _ _ ⟨(blk_cell BK132.out 0).trans rfl, (blk_cell BK132.out 1).trans rfl, (blk_cell BK132.out 2).trans rfl⟩ (fun hHeld => ?_)
    clear hK K
    refine norm_ (a' := ?_) ?_ ?_
    rotate_left
    ·show Act.put _ (some 18) _ = _
     simp only [Act.put, List.setIfInBounds_toArray, List.set_cons_zero, List.set_cons_succ, i64_w, i32_w]
     rfl
    refine pu_ 5 (some 19) HT_ ?_
    exact norm_ (by simp only [putAll, Act.put, List.setIfInBounds_toArray, List.set_cons_zero, List.set_cons_succ]) (hCont (.slice Ao13 t135.length co13, gb138) _ ⟨hHeld, (sA_ HO137), (bA_ BK132), (bA_ BK133), (bA_ BK138), GW138.out, GE138.out, NB132_138.out, NB138_132.out, NB133_138.out, NB138_133.out, (bl_ HB)⟩)
  rintro ⟨v136, gb138⟩ w14 ⟨hS_, h0_, h1_, h2_, h3_, h4_, h5_, h6_, h7_, h8_, h9_, h10_⟩
  obtain ⟨m, hm⟩ : ∃ m, m = w14.heap.size := ⟨_, rfl⟩
  have HO137 : Aside0 (Kd.S (Kd.slice 5 (Kd.int .u8)) 26 w14 w.heap.size (fun k_ => k_ < m) v136 t135) := ⟨Kd.S_mono (Kd.S_bound h0_) (fun _ h_ => by rw [hm]; exact h_.2.2.1)⟩
  have HM : Aside0 (m ≤ w14.heap.size) := ⟨Nat.le_of_eq hm⟩
  clear hm
  replace BK132 : Aside0 (w14.heap[gb132]? = some (.cells #[.slice A0_0 l0_0.length c0_0, .int .i64 a0_1, .slice A0_2 l0_2.length c0_2] 61 (0, 0))) := ⟨h1_⟩
  replace BK133 : Aside0 (w14.heap[gb133]? = some (.cells #[.slice none 0 0, .int .i64 0, .slice none 0 0] 61 (0, 0))) := ⟨h2_⟩
  have BK138 : Aside0 (w14.heap[gb138]? = some (.cells #[.slice none 0 0, .int .i64 0, .slice none 0 0] 61 (0, 0))) := ⟨h3_⟩
  have GW138 : Aside0 (w.heap.size ≤ gb138) := ⟨h4_⟩
  have GE138 : Aside0 (w.heap.size ≤ gb138) := ⟨h5_⟩
  have NB132_138 : Aside0 (gb132 ≠ gb138) := ⟨h6_⟩
  have NB138_132 : Aside0 (gb138 ≠ gb132) := ⟨h7_⟩
  have NB133_138 : Aside0 (gb133 ≠ gb138) := ⟨h8_⟩
  have NB138_133 : Aside0 (gb138 ≠ gb133) := ⟨h9_⟩
  replace HB : Aside0 (Below w.heap.size w w14) := ⟨h10_⟩
  clear h0_ h1_ h2_ h3_ h4_ h5_ h6_ h7_ h8_ h9_ h10_
  have hHeld : w14.cell? ⟨gb132, 0, none⟩ = some (.slice A0_0 l0_0.length c0_0) ∧ w14.cell? ⟨gb132, 1, none⟩ = some (.int .i64 a0_1) ∧ w14.cell? ⟨gb132, 2, none⟩ = some (.slice A0_2 l0_2.length c0_2) := hS_
  obtain ⟨Ao15, co15, eo15⟩ := Kd.S_slice HO137.out
  (first | subst eo15 | (injection eo15 with f1_ f2_ f3_; have f4_ := f1_.symm; have f5_ := f3_.symm; clear f1_ f2_ f3_; subst f4_; subst f5_))
  refine norm_ (a' := ?_) ?_ ?_
  rotate_left
  ·simp only [putAll, Act.put, List.setIfInBounds_toArray, List.set_cons_zero, List.set_cons_succ]
   rfl
  refine on_ 7 none HT_ (fun K hK => ?_)
  have hs16 : w14.cell? ⟨gb138, 0, none⟩ = some (.slice none 0 0) := (blk_cell BK138.out 0).trans rfl
  have hfs16 := blk_frozen BK138.out 0
  have hns16_0 := NB132_138.out
  have hns16_1 := NB133_138.out
  have hms16_0 := NB138_132.out
  have hms16_1 := NB138_133.out
  have hs17 : w14.cell? ⟨gb138, 1, none⟩ = some (.int .i64 0) := (blk_cell BK138.out 1).trans rfl
  have hfs17 := blk_frozen BK138.out 1
  have hns17_0 := NB132_138.out
  have hns17_1 := NB133_138.out
  have hms17_0 := NB138_132.out
  have hms17_1 := NB138_133.out
  have hs18 : w14.cell? ⟨gb138, 2, none⟩ = some (.slice none 0 0) := (blk_cell BK138.out 2).trans rfl
  have hfs18 := blk_frozen BK138.out 2
  have hns18_0 := NB132_138.out
  have hns18_1 := NB133_138.out
  have hms18_0 := NB138_132.out
  have hms18_1 := NB138_133.out
  refine skip_ (w1 := ?_) (by rfl) rfl ?_ ?_
  rotate_left
  ·go_simp
   rfl
  refine hK.out _ _ ⟨((cell_far (p := ⟨gb138, _, none⟩) NB132_138.out _).trans (((cell_far (p := ⟨gb138, _, none⟩) NB132_138.out _).trans (((cell_far (p := ⟨gb138, _, none⟩) NB132_138.out _).trans (hHeld.1)))))), ((cell_far (p := ⟨gb138, _, none⟩) NB132_138.out _).trans (((cell_far (p := ⟨gb138, _, none⟩) NB132_138.out _).trans (((cell_far (p := ⟨gb138, _, none⟩) NB132_138.out _).trans (hHeld.2.1)))))), ((cell_far (p := ⟨gb138, _, none⟩) NB132_138.out _).trans (((cell_far (p := ⟨gb138, _, none⟩) NB132_138.out _).trans (((cell_far (p := ⟨gb138, _, none⟩) NB132_138.out _).trans (hHeld.2.2))))))⟩ (fun hHeld => ?_)
  clear hK K
  refine done_ (done_of HT_.out (by kernel_rfl)) ?_
  have hnb19 := NB132_138.out
  have hnc19 := NB138_132.out
  obtain ⟨hcz20_0, hcz20_1, hcz20_2, hfz20_0, hfz20_1, hfz20_2⟩ := cz3_ BK132
  try go_wp2
  go_loopg [23] k (fun kq v23 w' => ∃ (x23_1 : Int) (x139000_1 : List (S70)) (u139000 : Value), v23 = .int .i64 x23_1 ∧ Aside0 (wal_own.l0 kq l0_0 (l0_0.length : Int) x23_1 x139000_1 a0_1 t135 = some (r1, r2, r3, r4)) ∧ Aside0 (kq ≤ k) ∧ Aside0 (Kd.S k70 70 w' w.heap.size (fun k_ => m ≤ k_) u139000 x139000_1) ∧ Aside0 (Kd.S (Kd.slice 5 (Kd.int .u8)) 26 w' w.heap.size (fun k_ => k_ < m) (.slice Ao15 t135.length co15) t135) ∧ Aside0 (w'.heap[gb132]? = some (.cells #[(.slice A0_0 l0_0.length c0_0), .int .i64 a0_1, (.slice A0_2 l0_2.length c0_2)] 61 (0, 0))) ∧ Aside0 (w'.heap[gb133]? = some (.cells #[(.slice none 0 0), .int .i64 0, (.slice none 0 0)] 61 (0, 0))) ∧ Aside0 (w'.heap[gb138]? = some (.cells #[u139000, .int .i64 a0_1, (.slice Ao15 t135.length co15)] 61 (0, 0))) ∧ Aside0 (m ≤ w'.heap.size) ∧ Aside0 (Below w.heap.size w w'))
  case atStart => exact ⟨(0), (([] : List (S70))), (.slice none 0 0), (by first | rfl | (simp; done) | (simp [*]; done)), H', ⟨Nat.le_refl _⟩, ⟨nil_⟩, ⟨by (with_reducible repeat (first | apply Kd.S_alloc | apply Kd.S_drewN | apply Kd.S_drew)); exact Kd.S_mono (Kd.S_far (p := ⟨gb138, 2, none⟩) (Kd.S_far (p := ⟨gb138, 1, none⟩) (Kd.S_far (p := ⟨gb138, 0, none⟩) (Kd.S_types HO137.out BK138.out (by decide)) (fun _ hk => hk.2) (.slice none 0 0)) (fun _ hk => hk.2) (.int .i64 a0_1)) (fun _ hk => hk.2) (.slice Ao15 t135.length co15)) (fun _ hk => hk.1)⟩, ⟨bA_ BK132⟩, ⟨bA_ BK133⟩, ⟨by (with_reducible repeat (first | refine blk_drewN ?_ _ | refine blk_drew ?_ | refine blk_alloc ?_ _)); refine blk_put (cs := #[.slice none 0 0, .int .i64 a0_1, .slice none 0 0]) ?_ 2 _ rfl; (with_reducible repeat (first | refine blk_drewN ?_ _ | refine blk_drew ?_ | refine blk_alloc ?_ _)); refine blk_put (cs := #[.slice none 0 0, .int .i64 0, .slice none 0 0]) ?_ 1 _ rfl; (with_reducible repeat (first | refine blk_drewN ?_ _ | refine blk_drew ?_ | refine blk_alloc ?_ _)); refine blk_put (cs := #[.slice none 0 0, .int .i64 0, .slice none 0 0]) ?_ 0 _ rfl; (with_reducible repeat (first | refine blk_drewN ?_ _ | refine blk_drew ?_ | refine blk_alloc ?_ _)); exact BK138.out⟩, ⟨by simp only [setCell_size']; exact HM.out⟩, ⟨bl_ HB⟩⟩
  case round =>
   clear H'
   try clear c1
   try clear p2
   try clear c3
   try clear c3b0
   try clear c3b1
   try clear c4
   try clear c6
   try clear c7
   try clear c19
   try clear hcz20_0
   try clear hcz20_1
   try clear hcz20_2
   try clear hcz8_0
   try clear hcz8_1
   try clear hcz8_2
   try clear hfz20_0
   try clear hfz20_1
   try clear hfz20_2
   try clear hfz8_0
   try clear hfz8_1
   try clear hfz8_2
   obtain ⟨x23_1, x139000_1, u139000, rfl, HA, HK1, HO_139000, HO_139002, BK132, BK133, BK138, HM, HB⟩ := hrel
   cases gk with
   | zero => exact absurd HA.out (by simp [wal_own.l0])
   | succ k1 =>
    have H := HA.out
    clear HA
    simp only [wal_own.l0] at H
    by_cases c21 : x23_1 < (l0_0.length : Int)
    ·rw [if_pos c21] at H
     have c21b0 : decide (x23_1 < (l0_0.length : Int)) = true := decide_eq_true c21
     clear c21
     by_cases c22 : 0 ≤ x23_1
     ·rw [if_pos c22] at H
      have c22b0 : decide (0 ≤ x23_1) = true := decide_eq_true c22
      clear c22
      by_cases c23 : x23_1 < (l0_0.length : Int)
      ·rw [if_pos c23] at H
       have c23b0 : decide (x23_1 < (l0_0.length : Int)) = true := decide_eq_true c23
       clear c23
       replace H := Option.bind_eq_some_iff.mp H
       obtain ⟨t141, A240, H⟩ := H
       try dsimp only at H
       have A24 := Aside0.mk A240
       clear A240
       by_cases c25 : x139000_1.length < 4398046511104
       ·rw [if_pos c25] at H
        have LMc25 := Aside0.mk c25
        clear c25
        obtain ⟨y144, hy144⟩ : ∃ y_ : List (S70), y_ = (x139000_1 ++ [(⟨(rd_T70 l0_0 x23_1).f0, t141⟩ : S70)]) := ⟨_, rfl⟩
        replace H : (wal_own.l0 k1 l0_0 (l0_0.length : Int) (wrap64 (x23_1 + 1)) y144 a0_1 t135) = some (r1, r2, r3, r4) := by first | (rw [hy144]; with_reducible exact H) | (have H2_ := (Option.bind_some _ _).symm.trans H; rw [hy144]; with_reducible exact H2_) | (have H2_ := (Option.bind_some _ _).symm.trans H; with_reducible exact H2_) | with_reducible exact H | (rw [hy144]; exact H) | exact H
        have Ny144 := Aside0.mk hy144
        clear hy144
        have H' := Aside0.mk H
        clear H
        have p139 : 0 ≤ (x23_1 : Int) := of_decide_eq_true (by first | (with_reducible assumption) | assumption)
        have q139 : x23_1 < (l0_0.length : Int) := of_decide_eq_true (by first | (with_reducible assumption) | assumption)
        obtain ⟨ad139, A139_1, c139_1, e139, hx139_0, hx139_1, hl139_1, hi139_1⟩ := at_T70 HR0_0.out x23_1 p139 q139
        cases e139
        replace hx139_0 := (HB.out.cell (World.block_lt_of_cell? w _ hx139_0)).trans hx139_0
        replace hx139_1 := (HB.out.cell (World.block_lt_of_cell? w _ hx139_1)).trans hx139_1
        have HR139_1 := Aside0.mk hi139_1
        have HC139_1 := Aside0.mk hl139_1
        clear hi139_1 hl139_1
        replace p139 := eq_true p139
        replace q139 := eq_true q139
        try go_wp2_with (first | ((with_reducible refine gate_dst (N := 7) rfl ?_); refine bx_ 7 #[.int .i64 0, .slice none 0 0] 70 ?_; intro gb140 hg w26 hbox hb; replace HO_139000 := Aside0.mk (Kd.S_below (Kd.S_elderB (sA_ HO_139000) gb140 (Nat.le_of_eq hg.symm)) hb); replace HO_139002 := sB_ HO_139002 hb; have BK140 := Aside0.mk (hbox); have GW140 := bG_ HB hg; have GE140 := bG_ HB hg; replace HM := Aside0.mk (Nat.le_trans HM.out hb.size); replace HB := bS_ HB hb; have NB132_140 := nL_ BK132 hg; have NB140_132 := nG_ BK132 hg; replace BK132 := bK_ BK132 hb; have NB133_140 := nL_ BK133 hg; have NB140_133 := nG_ BK133 hg; replace BK133 := bK_ BK133 hb; have NB138_140 := nL_ BK138 hg; have NB140_138 := nG_ BK138 hg; replace BK138 := bK_ BK138 hb; clear hb hbox hg; have hnb27 := NB140_132.out; have hnc27 := NB132_140.out; have hnb28 := NB140_133.out; have hnc28 := NB133_140.out; have hnb29 := NB140_138.out; have hnc29 := NB138_140.out; obtain ⟨hcz30_0, hcz30_1, hfz30_0, hfz30_1⟩ := cz2_ BK140))
        have n0_ : Aside0 (Kd.S k70 70 ((w26.setCell ⟨gb140, 0, none⟩ (.int .i64 ((rd_T70 l0_0 x23_1).f0))).setCell ⟨gb140, 1, none⟩ (.slice A139_1 ((rd_T70 l0_0 x23_1).f1).length c139_1)) w.heap.size (fun k_ => m ≤ k_ ∧ k_ ≠ gb140) u139000 x139000_1) := ⟨Kd.S_mono (sD_ HO_139000 (fun k_ hk => hk.2)) (fun _ hk => hk.1)⟩
        have n1_ : Aside0 (Kd.S (Kd.slice 5 (Kd.int .u8)) 26 ((w26.setCell ⟨gb140, 0, none⟩ (.int .i64 ((rd_T70 l0_0 x23_1).f0))).setCell ⟨gb140, 1, none⟩ (.slice A139_1 ((rd_T70 l0_0 x23_1).f1).length c139_1)) w.heap.size (fun k_ => k_ < m) (.slice Ao15 t135.length co15) t135) := ⟨by (with_reducible repeat (first | apply Kd.S_alloc | apply Kd.S_drewN | apply Kd.S_drew)); exact Kd.S_mono (Kd.S_far (p := ⟨gb140, 1, none⟩) (Kd.S_far (p := ⟨gb140, 0, none⟩) (Kd.S_types HO_139002.out BK140.out (by decide)) (fun _ hk => hk.2) (.int .i64 ((rd_T70 l0_0 x23_1).f0))) (fun _ hk => hk.2) (.slice A139_1 ((rd_T70 l0_0 x23_1).f1).length c139_1)) (fun _ hk => hk.1)⟩
        have n2_ : Aside0 (((w26.setCell ⟨gb140, 0, none⟩ (.int .i64 ((rd_T70 l0_0 x23_1).f0))).setCell ⟨gb140, 1, none⟩ (.slice A139_1 ((rd_T70 l0_0 x23_1).f1).length c139_1)).heap[gb132]? = some (.cells #[.slice (some ad139) l0_0.length c0_0, .int .i64 a0_1, .slice A0_2 l0_2.length c0_2] 61 (0, 0))) := ⟨bA_ BK132⟩
        have n3_ : Aside0 (((w26.setCell ⟨gb140, 0, none⟩ (.int .i64 ((rd_T70 l0_0 x23_1).f0))).setCell ⟨gb140, 1, none⟩ (.slice A139_1 ((rd_T70 l0_0 x23_1).f1).length c139_1)).heap[gb133]? = some (.cells #[.slice none 0 0, .int .i64 0, .slice none 0 0] 61 (0, 0))) := ⟨bA_ BK133⟩
        have n4_ : Aside0 (((w26.setCell ⟨gb140, 0, none⟩ (.int .i64 ((rd_T70 l0_0 x23_1).f0))).setCell ⟨gb140, 1, none⟩ (.slice A139_1 ((rd_T70 l0_0 x23_1).f1).length c139_1)).heap[gb138]? = some (.cells #[u139000, .int .i64 a0_1, .slice Ao15 t135.length co15] 61 (0, 0))) := ⟨bA_ BK138⟩
        have n5_ : Aside0 (((w26.setCell ⟨gb140, 0, none⟩ (.int .i64 ((rd_T70 l0_0 x23_1).f0))).setCell ⟨gb140, 1, none⟩ (.slice A139_1 ((rd_T70 l0_0 x23_1).f1).length c139_1)).heap[gb140]? = some (.cells #[.int .i64 ((rd_T70 l0_0 x23_1).f0), .slice A139_1 ((rd_T70 l0_0 x23_1).f1).length c139_1] 70 (0, 0))) := ⟨by (with_reducible repeat (first | refine blk_drewN ?_ _ | refine blk_drew ?_ | refine blk_alloc ?_ _)); refine blk_put (cs := #[.int .i64 ((rd_T70 l0_0 x23_1).f0), .slice none 0 0]) ?_ 1 _ rfl; (with_reducible repeat (first | refine blk_drewN ?_ _ | refine blk_drew ?_ | refine blk_alloc ?_ _)); refine blk_put (cs := #[.int .i64 0, .slice none 0 0]) ?_ 0 _ rfl; (with_reducible repeat (first | refine blk_drewN ?_ _ | refine blk_drew ?_ | refine blk_alloc ?_ _)); exact BK140.out⟩
        have n6_ : Aside0 (Below w.heap.size w ((w26.setCell ⟨gb140, 0, none⟩ (.int .i64 ((rd_T70 l0_0 x23_1).f0))).setCell ⟨gb140, 1, none⟩ (.slice A139_1 ((rd_T70 l0_0 x23_1).f1).length c139_1))) := ⟨bl_ HB⟩
        have n7_ : Aside0 (m ≤ (((w26.setCell ⟨gb140, 0, none⟩ (.int .i64 ((rd_T70 l0_0 x23_1).f0))).setCell ⟨gb140, 1, none⟩ (.slice A139_1 ((rd_T70 l0_0 x23_1).f1).length c139_1))).heap.size) := ⟨by simp only [setCell_size']; exact HM.out⟩
        (try clear HO_139000 HO_139002 BK132 BK133 BK138 BK140 HB)
        generalize ((w26.setCell ⟨gb140, 0, none⟩ (.int .i64 ((rd_T70 l0_0 x23_1).f0))).setCell ⟨gb140, 1, none⟩ (.slice A139_1 ((rd_T70 l0_0 x23_1).f1).length c139_1)) = w31 at n0_ n1_ n2_ n3_ n4_ n5_ n6_ n7_ ⊢
        have HO_139000 := n0_
        have HO_139002 := n1_
        have BK132 := n2_
        have BK133 := n3_
        have BK138 := n4_
        have BK140 := n5_
        have HB := n6_
        replace HM := n7_
        clear n0_ n1_ n2_ n3_ n4_ n5_ n6_ n7_
        replace HO_139000 := Aside0.mk (Kd.S_drew HO_139000.out)
        replace HO_139002 := Aside0.mk (Kd.S_drew HO_139002.out)
        replace BK132 := Aside0.mk (blk_drew BK132.out)
        replace BK133 := Aside0.mk (blk_drew BK133.out)
        replace BK138 := Aside0.mk (blk_drew BK138.out)
        replace BK140 := Aside0.mk (blk_drew BK140.out)
        replace HB := Aside0.mk (below_drew1 HB.out)
        replace HM := Aside0.mk (show m ≤ w31.drew.heap.size from HM.out)
        refine start_ (n := 12) (S := fun w' => w'.cell? ⟨gb138, 0, none⟩ = some (u139000) ∧ w'.cell? ⟨gb138, 1, none⟩ = some (.int .i64 a0_1) ∧ w'.cell? ⟨gb138, 2, none⟩ = some (.slice Ao15 t135.length co15) ∧ w'.cell? ⟨gb140, 0, none⟩ = some (.int .i64 ((rd_T70 l0_0 x23_1).f0)) ∧ w'.cell? ⟨gb140, 1, none⟩ = some (.slice A139_1 ((rd_T70 l0_0 x23_1).f1).length c139_1)) (ds := [11]) #[false, false, false, false, false, false, false, false, false, false, false, false] (by kernel_rfl) rfl rfl ⟨(blk_cell BK138.out 0).trans rfl, (blk_cell BK138.out 1).trans rfl, (blk_cell BK138.out 2).trans rfl, (blk_cell BK140.out 0).trans rfl, (blk_cell BK140.out 1).trans rfl⟩ (fun hHeld => ?_); refine with_tabW wal_own.tab8 wal_own.bits8 (fun HT_ HW_ => ?_)
        generalize w31.drew = w32 at HO_139000 HO_139002 BK132 BK133 BK138 BK140 HB HM hHeld ⊢
        refine pu_ 0 (some 27) HT_ ?_
        refine pu_ 2 (some 29) HT_ ?_
        refine pu_ 4 (some 31) HT_ ?_
        refine tk_ 1 (some 28) HT_ HW_ hHeld ?_
        refine tk_ 3 (some 30) HT_ HW_ hHeld ?_
        refine tk_ 5 (some 32) HT_ HW_ hHeld ?_
        refine on_ 6 (some 33) HT_ (fun K hK => ?_)
        refine goes_ Try.func75 (by kernel_rfl) rfl #[.slice A139_1 ((rd_T70 l0_0 x23_1).f1).length c139_1] (by rfl) rfl rfl (by (try simp only [List.map_toArray, List.map_cons, List.map_nil]); first | done | rfl | (simp only [List.length_drop, List.length_take]; rfl)) ?_
        with_reducible refine (bytes_Clone.calls _ _ ((rd_T70 l0_0 x23_1).f1) t141 _ ?_ ?_ A24.out).mono ?_
        exact cB_ HR139_1 HB
        exact HC139_1.out
        rintro e w33 ⟨v142, rfl, ho0, hb⟩
        refine ⟨_, rfl, ?_⟩
        replace HO_139000 := Aside0.mk (Kd.S_elder' (sA_ HO_139000) (Kd.R_base ho0) hb)
        replace HO_139002 := Aside0.mk (Kd.S_elder' (sA_ HO_139002) (Kd.R_base ho0) hb)
        have HO143 := Aside0.mk (Kd.R_lower (Kd.R_mono (ok' := fun k_ => m ≤ k_) (Kd.R_bound ho0) (fun k_ h_ => Nat.le_trans HM.out h_.2.1)) (bs_ HB))
        replace HM := Aside0.mk (Nat.le_trans HM.out hb.size)
        replace BK132 := bK_ BK132 hb
        replace BK133 := bK_ BK133 hb
        replace BK138 := bK_ BK138 hb
        replace BK140 := bK_ BK140 hb
        replace HB := bS_ HB hb
        (try clear hb ho0)
        obtain ⟨Ao34, co34, eo34⟩ := Kd.R_slice HO143.out
        (first | subst eo34 | (injection eo34 with f1_ f2_ f3_; have f4_ := f1_.symm; have f5_ := f3_.symm; clear f1_ f2_ f3_; subst f4_; subst f5_))
        refine hK.out _ _ ⟨(blk_cell BK138.out 0).trans rfl, (blk_cell BK138.out 1).trans rfl, (blk_cell BK138.out 2).trans rfl, (blk_cell BK140.out 0).trans rfl, (blk_cell BK140.out 1).trans rfl⟩ (fun hHeld => ?_)
        clear hK K
        refine norm_ (a' := ?_) ?_ ?_
        rotate_left
        ·show Act.put _ (some 33) _ = _
         simp only [Act.put, List.setIfInBounds_toArray, List.set_cons_zero, List.set_cons_succ, i64_w, i32_w]
         rfl
        refine pu_ 7 (some 34) HT_ ?_
        refine on_ 8 (some 35) HT_ (fun K hK => ?_)
        refine value_ (w1 := ?_) (v := ?_) (by rfl) rfl ?_ ?_
        rotate_left 2
        ·go_simp
         constructor
         ·rfl
         ·rfl
        refine hK.out _ _ ⟨(blk_cell (blk_alloc BK138.out _) 0).trans rfl, (blk_cell (blk_alloc BK138.out _) 1).trans rfl, (blk_cell (blk_alloc BK138.out _) 2).trans rfl, (blk_cell (blk_alloc BK140.out _) 0).trans rfl, (blk_cell (blk_alloc BK140.out _) 1).trans rfl⟩ (fun hHeld => ?_)
        clear hK K
        refine norm_ (a' := ?_) ?_ ?_
        rotate_left
        ·show Act.put _ (some 35) _ = _
         simp only [Act.put, List.setIfInBounds_toArray, List.set_cons_zero, List.set_cons_succ, i64_w, i32_w]
         rfl
        refine on_ 9 (some 36) HT_ (fun K hK => ?_)
        refine Kd.S_append_step k70 (w0 := w) w.heap.size (by rfl) (.tmp 28) (.tmp 35) 59 70 (.agg #[(.int .i64 0), (.slice none 0 0)]) 32 rfl Try.underlying59 info70 rfl (by decide) (by omega) u139000 x139000_1 (⟨(rd_T70 l0_0 x23_1).f0, t141⟩ : S70) [.int .i64 ((rd_T70 l0_0 x23_1).f0), .slice Ao34 t141.length co34] (fun k_ => m ≤ k_ ∧ k_ ≠ gb140) (fun k_ => some k_ = (.slice Ao34 t141.length co34 : Value).ownBlock) rfl rfl ?aP (fun k_ hk_ => ((Kd.R_mono (ok' := fun k_ => ((fun k_ => m ≤ k_ ∧ k_ ≠ gb140)) k_ ∧ some k_ ≠ (u139000 : Value).ownBlock) (Kd.R_types (Kd.R_apart' (HO143.out) (Kd.S_typed HO_139000.out) (by decide)) BK140.out (by decide)) (fun k_ hk => ⟨⟨hk.1.1, hk.2⟩, hk.1.2⟩))).1 k_ hk_.symm) ?aF ?aO ?aB ?aS ?aL ?_
        (case aP => exact k70_mkM _ _ _ (⟨(rd_T70 l0_0 x23_1).f0, t141⟩ : S70) (Kd.R_mono (Kd.R_tight rfl (Kd.R_mono (ok' := fun k_ => ((fun k_ => m ≤ k_ ∧ k_ ≠ gb140)) k_ ∧ some k_ ≠ (u139000 : Value).ownBlock) (Kd.R_types (Kd.R_apart' (HO143.out) (Kd.S_typed HO_139000.out) (by decide)) BK140.out (by decide)) (fun k_ hk => ⟨⟨hk.1.1, hk.2⟩, hk.1.2⟩))) (fun _ h_ => h_)))
        (case aB => exact (bl_ HB))
        (case aF => exact (fun k_ hk => ⟨Nat.le_trans HM.out hk, Kd.freshB (bA_ BK140) k_ hk⟩))
        (case aO => exact (by (with_reducible repeat (first | apply Kd.S_alloc | apply Kd.S_drewN | apply Kd.S_drew)); exact Kd.S_mono HO_139000.out (fun k_ hk => ⟨hk.1, fun e_ => hk.2 e_⟩)))
        (case aS => exact (bs_ HB))
        (case aL => have := LMc25.out; omega)
        intro v145 w35 ho hb hg hat
        rw [← Ny144.out] at ho
        replace HO_139002 := Aside0.mk (Kd.S_over' (sA_ HO_139002) (Kd.S_typed (sA_ HO_139000)) (by decide) hg)
        replace BK132 := Aside0.mk (blk_grown (bA_ BK132) hg (Kd.S_ne HO_139000.out BK132.out (by decide)))
        replace BK133 := Aside0.mk (blk_grown (bA_ BK133) hg (Kd.S_ne HO_139000.out BK133.out (by decide)))
        replace BK138 := Aside0.mk (blk_grown (bA_ BK138) hg (Kd.S_ne HO_139000.out BK138.out (by decide)))
        replace BK140 := Aside0.mk (blk_grown (bA_ BK140) hg (Kd.S_away HO_139000.out (fun _ hk => hk.1.2)))
        replace HM := Aside0.mk (Nat.le_trans HM.out hg.size)
        replace HB := Aside0.mk (hb)
        have HO146 := Aside0.mk (ho)
        clear HO_139000 HO143
        clear ho hb hg hat
        obtain ⟨Ao36, co36, eo36⟩ := Kd.S_slice HO146.out
        (first | subst eo36 | (injection eo36 with f1_ f2_ f3_; have f4_ := f1_.symm; have f5_ := f3_.symm; clear f1_ f2_ f3_; subst f4_; subst f5_))
        refine hK.out _ _ ⟨(blk_cell BK138.out 0).trans rfl, (blk_cell BK138.out 1).trans rfl, (blk_cell BK138.out 2).trans rfl, (blk_cell BK140.out 0).trans rfl, (blk_cell BK140.out 1).trans rfl⟩ (fun hHeld => ?_)
        clear hK K
        refine norm_ (a' := ?_) ?_ ?_
        rotate_left
        ·show Act.put _ (some 36) _ = _
         simp only [Act.put, List.setIfInBounds_toArray, List.set_cons_zero, List.set_cons_succ, i64_w, i32_w]
         rfl
        refine pu_ 10 (some 37) HT_ ?_
        refine last_ (i := 11) (N := none) #[true, true, true, true, true, true, true, true, true, true, true, true] rfl rfl (one_of HT_.out (by kernel_rfl)) (by decide) (fun K hK => ?_)
        have hs37 : w35.cell? ⟨gb138, 0, none⟩ = some (u139000) := (blk_cell BK138.out 0).trans rfl
        have hfs37 := blk_frozen BK138.out 0
        have hns37_0 := NB132_138.out
        have hns37_1 := NB133_138.out
        have hns37_3 := NB140_138.out
        have hms37_0 := NB138_132.out
        have hms37_1 := NB138_133.out
        have hms37_3 := NB138_140.out
        refine skip_ (w1 := ?_) (by rfl) rfl ?_ ?_
        rotate_left
        ·go_simp
         rfl
        refine hK.out _ _ ?_
        clear hK K
        refine done_ (done_of HT_.out (by kernel_rfl)) ?_
        try go_wp2
        go_roundg k1
        case measure => have := HK1.out; omega
        case rel => exact ⟨(wrap64 (x23_1 + 1)), (y144), (.slice Ao36 y144.length co36), (by first | rfl | (simp; done) | (simp [*]; done)), H', ⟨by have := HK1.out; omega⟩, ⟨by (with_reducible repeat (first | apply Kd.S_alloc | apply Kd.S_drewN | apply Kd.S_drew)); exact Kd.S_mono (Kd.S_far (p := ⟨gb138, 0, none⟩) (Kd.S_types HO146.out BK138.out (by decide)) (fun _ hk => hk.2) (.slice Ao36 y144.length co36)) (fun _ hk => hk.1.1)⟩, ⟨by (with_reducible repeat (first | apply Kd.S_alloc | apply Kd.S_drewN | apply Kd.S_drew)); exact Kd.S_mono (Kd.S_far (p := ⟨gb138, 0, none⟩) (Kd.S_types HO_139002.out BK138.out (by decide)) (fun _ hk => hk.2) (.slice Ao36 y144.length co36)) (fun _ hk => hk.1.1)⟩, ⟨bA_ BK132⟩, ⟨bA_ BK133⟩, ⟨by (with_reducible repeat (first | refine blk_drewN ?_ _ | refine blk_drew ?_ | refine blk_alloc ?_ _)); refine blk_put (cs := #[u139000, .int .i64 a0_1, .slice Ao15 t135.length co15]) ?_ 0 _ rfl; (with_reducible repeat (first | refine blk_drewN ?_ _ | refine blk_drew ?_ | refine blk_alloc ?_ _)); exact BK138.out⟩, ⟨by simp only [setCell_size']; exact HM.out⟩, ⟨bl_ HB⟩⟩
       ·rw [if_neg c25] at H
        exact absurd H (by simp)
      ·rw [if_neg c23] at H
       exact absurd H (by simp)
     ·rw [if_neg c22] at H
      exact absurd H (by simp)
    ·rw [if_neg c21] at H
     have c21b0 : decide (x23_1 < (l0_0.length : Int)) = false := decide_eq_false c21
     clear c21
     simp only [Option.some.injEq, Prod.mk.injEq] at H
     obtain ⟨rfl, rfl, rfl, rfl⟩ := H
     have hnb38 := NB138_132.out
     have hnc38 := NB132_138.out
     have hnb39 := NB138_133.out
     have hnc39 := NB133_138.out
     obtain ⟨hcz40_0, hcz40_1, hcz40_2, hfz40_0, hfz40_1, hfz40_2⟩ := cz3_ BK138
     obtain ⟨Ao41, co41, eo41⟩ := Kd.S_slice HO_139000.out
     subst eo41
     have hnb42 := NB133_132.out
     have hnc42 := NB132_133.out
     obtain ⟨hcz43_0, hcz43_1, hcz43_2, hfz43_0, hfz43_1, hfz43_2⟩ := cz3_ BK133
     go_wp2
     refine bodyPost_ret (results_ct rfl _ _ gb133 61 #[.slice Ao41 x139000_1.length co41, .int .i64 a0_1, .slice Ao15 t135.length co15] (0, 0) _ rfl (by (with_reducible repeat (first | refine blk_drewN ?_ _ | refine blk_drew ?_ | refine blk_alloc ?_ _)); refine blk_put (cs := #[.slice Ao41 x139000_1.length co41, .int .i64 a0_1, .slice none 0 0]) ?_ 2 _ rfl; (with_reducible repeat (first | refine blk_drewN ?_ _ | refine blk_drew ?_ | refine blk_alloc ?_ _)); refine blk_put (cs := #[.slice Ao41 x139000_1.length co41, .int .i64 0, .slice none 0 0]) ?_ 1 _ rfl; (with_reducible repeat (first | refine blk_drewN ?_ _ | refine blk_drew ?_ | refine blk_alloc ?_ _)); refine blk_put (cs := #[.slice none 0 0, .int .i64 0, .slice none 0 0]) ?_ 0 _ rfl; (with_reducible repeat (first | refine blk_drewN ?_ _ | refine blk_drew ?_ | refine blk_alloc ?_ _)); exact BK133.out) Try.underlying61 rfl (by kernel_rfl)) rfl ?_
     exact ⟨m, _, _, fin_, by (with_reducible repeat (first | apply Kd.S_alloc | apply Kd.S_drewN | apply Kd.S_drew)); exact Kd.S_mono (Kd.S_far (p := ⟨gb133, 2, none⟩) (Kd.S_far (p := ⟨gb133, 1, none⟩) (Kd.S_far (p := ⟨gb133, 0, none⟩) (Kd.S_types HO_139000.out BK133.out (by decide)) (fun _ hk => hk.2) (.slice Ao41 x139000_1.length co41)) (fun _ hk => hk.2) (.int .i64 a0_1)) (fun _ hk => hk.2) (.slice Ao15 t135.length co15)) (fun _ hk => hk.1), by (with_reducible repeat (first | apply Kd.S_alloc | apply Kd.S_drewN | apply Kd.S_drew)); exact Kd.S_mono (Kd.S_far (p := ⟨gb133, 2, none⟩) (Kd.S_far (p := ⟨gb133, 1, none⟩) (Kd.S_far (p := ⟨gb133, 0, none⟩) (Kd.S_types HO_139002.out BK133.out (by decide)) (fun _ hk => hk.2) (.slice Ao41 x139000_1.length co41)) (fun _ hk => hk.2) (.int .i64 a0_1)) (fun _ hk => hk.2) (.slice Ao15 t135.length co15)) (fun _ hk => hk.1), by simp only [setCell_size']; exact HM.out, bl_ HB⟩
 ·rw [if_neg c3] at H
  have c3b0 : (t134 == 0) = false := beq_eq_false_iff_ne.mpr c3
  have c3b1 : (t134 != 0) = true := bne_iff_ne.mpr c3
  simp only [Option.some.injEq, Prod.mk.injEq] at H
  obtain ⟨rfl, rfl, rfl, rfl⟩ := H
  go_enter Try.func66, Try.ntmps66
  go_wp2_with (first | ((with_reducible refine gate_dst (N := 1) rfl ?_); refine bx_ 1 #[.slice A0_0 l0_0.length c0_0, .int .i64 a0_1, .slice A0_2 l0_2.length c0_2] 61 ?_; intro gb132 hg w44 hbox hb; have BK132 := Aside0.mk (hbox); have GW132 := bG_ HB hg; have GE132 := bG_ HB hg; replace HB := bS_ HB hb; clear hb hbox hg) | ((with_reducible refine gate_dst (N := 2) rfl ?_); refine bx_ 2 #[.slice none 0 0, .int .i64 0, .slice none 0 0] 61 ?_; intro gb133 hg w45 hbox hb; have BK133 := Aside0.mk (hbox); have GW133 := bG_ HB hg; have GE133 := bG_ HB hg; replace HB := bS_ HB hb; have NB132_133 := nL_ BK132 hg; have NB133_132 := nG_ BK132 hg; replace BK132 := bK_ BK132 hb; clear hb hbox hg; have hnb46 := NB132_133.out; have hnc46 := NB133_132.out; obtain ⟨hcz47_0, hcz47_1, hcz47_2, hfz47_0, hfz47_1, hfz47_2⟩ := cz3_ BK132) | ((with_reducible refine gate_callee (f := 47) rfl ?_); refine gL_ (some 9) Try.func47 #[.agg #[.slice A0_0 l0_0.length c0_0, .int .i64 a0_1, .slice A0_2 l0_2.length c0_2]] ?_; (with_reducible refine (wal_Check.calls k _ _ l0_0 a0_1 _ _ l0_2 t134 _ ?_ ?_ ?_ ?_ A2.out).mono ?_); exact cB_ HR0_0 HB; exact HC0_0.out; exact cB_ HR0_2 HB; exact HC0_2.out; rintro e w48 ⟨rfl, hb⟩; refine ⟨_, rfl, ?_⟩; replace BK132 := bK_ BK132 hb; replace BK133 := bK_ BK133 hb; replace HB := bS_ HB hb; (try clear hb); obtain ⟨hcz49_0, hcz49_1, hcz49_2, hfz49_0, hfz49_1, hfz49_2⟩ := cz3_ BK133))
  refine bodyPost_ret (results_ct rfl _ _ gb133 61 #[.slice none 0 0, .int .i64 0, .slice none 0 0] (0, 0) _ rfl (by (with_reducible repeat (first | refine blk_drewN ?_ _ | refine blk_drew ?_ | refine blk_alloc ?_ _)); refine blk_put (cs := #[.slice none 0 0, .int .i64 0, .slice none 0 0]) ?_ 2 _ rfl; (with_reducible repeat (first | refine blk_drewN ?_ _ | refine blk_drew ?_ | refine blk_alloc ?_ _)); refine blk_put (cs := #[.slice none 0 0, .int .i64 0, .slice none 0 0]) ?_ 1 _ rfl; (with_reducible repeat (first | refine blk_drewN ?_ _ | refine blk_drew ?_ | refine blk_alloc ?_ _)); refine blk_put (cs := #[.slice none 0 0, .int .i64 0, .slice none 0 0]) ?_ 0 _ rfl; (with_reducible repeat (first | refine blk_drewN ?_ _ | refine blk_drew ?_ | refine blk_alloc ?_ _)); exact BK133.out) Try.underlying61 rfl (by kernel_rfl)) rfl ?_
  exact ⟨0, _, _, fin_, nil_, nil_, Nat.zero_le _, bl_ HB⟩
theorem wal_own.calls (k : Nat) (A0_0 : Option Addr) (c0_0 : Nat) (l0_0 : List (S70)) (a0_1 : Int) (A0_2 : Option Addr) (c0_2 : Nat) (l0_2 : List (List Int)) (r1 : List (S70)) (r2 : Int) (r3 : List (List Int)) (r4 : Int) (w : World) (hr0_0 : Kd.C k70 w A0_0 l0_0.length l0_0) (hc0_0 : l0_0.length ≤ c0_0) (hr0_2 : Kd.C (Kd.slice 5 (Kd.int .u8)) w A0_2 l0_2.length l0_2) (hc0_2 : l0_2.length ≤ c0_2) (h : wal_own.f k l0_0 a0_1 l0_2 = some (r1, r2, r3, r4)) :
  Calls Try.prog 66 #[.agg #[.slice A0_0 l0_0.length c0_0, .int .i64 a0_1, .slice A0_2 l0_2.length c0_2]] w fun e w' => ∃ v0_ v2_ : Value, e = .returned (.tuple #[.agg #[v0_, .int .i64 r2, v2_], .int .i64 r4]) ∧ Kd.S k70 70 w' w.heap.size (fun _ => True) v0_ r1 ∧ Kd.S (Kd.slice 5 (Kd.int .u8)) 26 w' w.heap.size (fun _ => True) v2_ r3 ∧ Below w.heap.size w w' := by
 refine (wal_own.calls2 k A0_0 c0_0 l0_0 a0_1 A0_2 c0_2 l0_2 r1 r2 r3 r4 w hr0_0 hc0_0 hr0_2 hc0_2 h).mono ?_
 rintro e w' ⟨m, v0, v2, h1, h2, h3, _, h4⟩
 exact ⟨v0, v2, h1, Kd.S_mono h2 (fun _ _ => trivial), Kd.S_mono h3 (fun _ _ => trivial), h4⟩
end Go.Proofs.Ytooabchnbmnchaa.Q
