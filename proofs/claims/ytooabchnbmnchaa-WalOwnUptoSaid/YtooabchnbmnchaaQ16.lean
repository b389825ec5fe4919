-- Laid by this session's own program (wip/tools) out of the translation; Lean checks it. Thinned, shortened and merged for this claim.
import Derived.Test.YtooabchnbmnchaaQ0
import Derived.Test.YtooabchnbmnchaaSq
import Derived.Test.YtooabchnbmnchaaQ1
namespace Go.Proofs.Ytooabchnbmnchaa.Q
open Go.RowKit Go.Proofs.YtooabchnbmnchaaW.PrintWords Go.Proofs.YtooabchnbmnchaaW.PrintLast Go.Proofs.YtooabchnbmnchaaW.PrintMore
attribute [local go_sem] max2_int min2_int max_two min_two max_three min_three max_four min_four binOp_string_leq binOp_string_geq binOp_string_gtr   -- for this text's walks alone
set_option linter.unusedVariables false
set_option linter.unusedSimpArgs false
def wal_own.l0 : Nat → List (S70) → Int → Int → List (S70) → Int → List (List Int) → Option ((List (S70)) × Int × (List (List Int)) × Int)
 | 0, _, _, _, _, _, _ => none
 | k + 1, x21, x22, x23, x139000, x139001, x139002 => if x23 < x22 then (if 0 ≤ x23 then (if x23 < (x21.length : Int) then ((bytes_Clone.f ((rd_T70 x21 x23).f1)).bind fun t141 => (if x139000.length < 4398046511104 then (wal_own.l0 k x21 x22 (wrap64 (x23 + 1)) (x139000 ++ [(⟨(rd_T70 x21 x23).f0, t141⟩ : S70)]) x139001 x139002) else (none))) else (none)) else (none)) else (some (x139000, x139001, x139002, 0))
def wal_own.f (k : Nat) (l0_0 : List (S70)) (a0_1 : Int) (l0_2 : List (List Int)) : Option ((List (S70)) × Int × (List (List Int)) × Int) := (wal_Check.f k l0_0 a0_1 l0_2).bind fun t134 => (if t134 = 0 then ((wal_cloneAll.f k l0_2).bind fun t135 => (wal_own.l0 k l0_0 (l0_0.length : Int) 0 ([] : List (S70)) a0_1 t135)) else (some (([] : List (S70)), 0, ([] : List (List Int)), t134)))
theorem wal_own.mono_l : ∀ k, (∀ y0 y1 y2 y3 y4 y5, LeO (wal_own.l0 k y0 y1 y2 y3 y4 y5) (wal_own.l0 (k + 1) y0 y1 y2 y3 y4 y5))
 | 0 => fun _ _ _ _ _ _ r h => by simp [wal_own.l0] at h
 | k + 1 => by
  have ih0 := wal_own.mono_l k
  ·intro y0 y1 y2 y3 y4 y5
   unfold wal_own.l0
   repeat' first
   | (with_reducible exact ih0 _ _ _ _ _ _)
   | (with_reducible exact wal_Check.mono _ _ _ _)
   | (with_reducible exact wal_cloneAll.mono _ _)
   | (with_reducible exact LeO.refl _)
   | (with_reducible exact LeO.none _)
   | (with_reducible refine LeO.ite ?_ ?_)
   | (with_reducible refine LeO.bind ?_ (fun _ => ?_))
   | exact ih0 _ _ _ _ _ _
   | exact wal_Check.mono _ _ _ _
   | exact wal_cloneAll.mono _ _
   | exact LeO.none _
   | refine LeO.ite ?_ ?_
   | refine LeO.bind ?_ (fun _ => ?_)
theorem wal_own.mono : ∀ a0 a1 a2 k, LeO (wal_own.f k a0 a1 a2) (wal_own.f (k + 1) a0 a1 a2) := by
 intro a0 a1 a2 k
 have ih0 := wal_own.mono_l k
 unfold wal_own.f
 repeat' first
   | (with_reducible exact ih0 _ _ _ _ _ _)
   | (with_reducible exact wal_Check.mono _ _ _ _)
   | (with_reducible exact wal_cloneAll.mono _ _)
   | (with_reducible exact LeO.refl _)
   | (with_reducible exact LeO.none _)
   | (with_reducible refine LeO.ite ?_ ?_)
   | (with_reducible refine LeO.bind ?_ (fun _ => ?_))
   | exact ih0 _ _ _ _ _ _
   | exact wal_Check.mono _ _ _ _
   | exact wal_cloneAll.mono _ _
   | exact LeO.none _
   | refine LeO.ite ?_ ?_
   | refine LeO.bind ?_ (fun _ => ?_)
def wal_own.T4 : Bool × List (List Nat × List Nat) := (true, [([], []), ([0], [0]), ([], []), ([2], [2]), ([3], [3]), ([1, 4], [1, 4]), ([], []), ([6, 5, 4, 0, 1, 2, 3, 4, 5, 6], [5, 6])])
def wal_own.B4 : List Nat := [0, 1, 0, 4, 12, 31, 0, 127]
theorem wal_own.tab4 : rtab .any (opsOf Try.f66 4) = wal_own.T4 := by kernel_rfl
theorem wal_own.bits4 : waitsOk wal_own.T4.2 wal_own.B4 = true := by kernel_rfl
def wal_own.T8 : Bool × List (List Nat × List Nat) := (true, [([], []), ([0], [0]), ([], []), ([2], [2]), ([], []), ([4], [4]), ([5], [5]), ([3, 6], [3, 6]), ([7], [7]), ([1, 8, 6], [1, 8]), ([0, 1, 2, 3, 4, 5, 6, 7, 8, 9], []), ([10, 9, 9, 0, 1, 2, 3, 4, 5, 6, 7, 8, 9], [9, 10])])
def wal_own.B8 : List Nat := [0, 1, 0, 4, 0, 16, 48, 124, 252, 511, 1023, 2047]
theorem wal_own.tab8 : rtab .any (opsOf Try.f66 8) = wal_own.T8 := by kernel_rfl
theorem wal_own.bits8 : waitsOk wal_own.T8.2 wal_own.B8 = true := by kernel_rfl
set_option maxHeartbeats 8000000 in
set_option maxRecDepth 100000 in
theorem wal_own.calls2 (k : Nat) (A0_0 : Option Addr) (c0_0 : Nat) (l0_0 : List (S70)) (a0_1 : Int) (A0_2 : Option Addr) (c0_2 : Nat) (l0_2 : List (List Int)) (r1 : List (S70)) (r2 : Int) (r3 : List (List Int)) (r4 : Int) (w : World) (hr0_0 : Kd.C k70 w A0_0 l0_0.length l0_0) (hc0_0 : l0_0.length ≤ c0_0) (hr0_2 : Kd.C (Kd.slice 5 (Kd.int .u8)) w A0_2 l0_2.length l0_2) (hc0_2 : l0_2.length ≤ c0_2) (h : wal_own.f k l0_0 a0_1 l0_2 = some (r1, r2, r3, r4)) :
  Calls Try.prog 66 #[.agg #[.slice A0_0 l0_0.length c0_0, .int .i64 a0_1, .slice A0_2 l0_2.length c0_2]] w fun e w' => ∃ (m : Nat) (v0_ v2_ : Value), e = .returned (.tuple #[.agg #[v0_, .int .i64 r2, v2_], .int .i64 r4]) ∧ Kd.S k70 70 w' w.heap.size (fun k_ => m ≤ k_) v0_ r1 ∧ Kd.S (Kd.slice 5 (Kd.int .u8)) 26 w' w.heap.size (fun k_ => k_ < m) v2_ r3 ∧ m ≤ w'.heap.size ∧ Below w.heap.size w w' := by
 have hu61 := Try.underlying61
 have hu70 := Try.underlying70
 have HR0_0 := Aside0.mk hr0_0
 have HC0_0 := Aside0.mk hc0_0
 clear hr0_0 hc0_0
 have HR0_2 := Aside0.mk hr0_2
 have HC0_2 := Aside0.mk hc0_2
 clear hr0_2 hc0_2
 have HB := Aside0.mk (Below.refl w.heap.size w)
 have H : ((wal_Check.f k l0_0 a0_1 l0_2).bind fun t134 => (if t134 = 0 then ((wal_cloneAll.f k l0_2).bind fun t135 => (wal_own.l0 k l0_0 (l0_0.length : Int) 0 ([] : List (S70)) a0_1 t135)) else (some (([] : List (S70)), 0, ([] : List (List Int)), t134)))) = some (r1, r2, r3, r4) := h
 clear h
 replace H := Option.bind_eq_some_iff.mp H
 obtain ⟨t134, A20, H⟩ := H
 try dsimp only at H
 have A2 := Aside0.mk A20
 clear A20
 by_cases c3 : t134 = 0
 ·rw [if_pos c3] at H
  have c3b0 : (t134 == 0) = true := beq_iff_eq.mpr c3
  have c3b1 : (t134 != 0) = false := bne_eq_false_iff_eq.mpr c3
  clear c3
  replace H := Option.bind_eq_some_iff.mp H
  obtain ⟨t135, A40, H⟩ := H
  try dsimp only at H
  have A4 := Aside0.mk A40
  clear A40
  have H' := Aside0.mk H
  clear H
  go_enter Try.func66, Try.ntmps66
  try go_wp2_with (first | ((with_reducible refine gate_dst (N := 1) rfl ?_); refine bx_ 1 #[.slice A0_0 l0_0.length c0_0, .int .i64 a0_1, .slice A0_2 l0_2.length c0_2] 61 ?_; intro gb132 hg w5 hbox hb; have BK132 := Aside0.mk (hbox); have GW132 := bG_ HB hg; have GE132 := bG_ HB hg; replace HB := bS_ HB hb; clear hb hbox hg) | ((with_reducible refine gate_dst (N := 2) rfl ?_); refine bx_ 2 #[.slice none 0 0, .int .i64 0, .slice none 0 0] 61 ?_; intro gb133 hg w6 hbox hb; have BK133 := Aside0.mk (hbox); have GW133 := bG_ HB hg; have GE133 := bG_ HB hg; replace HB := bS_ HB hb; have NB132_133 := nL_ BK132 hg; have NB133_132 := nG_ BK132 hg; replace BK132 := bK_ BK132 hb; clear hb hbox hg; have hnb7 := NB132_133.out; have hnc7 := NB133_132.out; obtain ⟨hcz8_0, hcz8_1, hcz8_2, hfz8_0, hfz8_1, hfz8_2⟩ := cz3_ BK132) | ((with_reducible refine gate_callee (f := 47) rfl ?_); refine gL_ (some 9) Try.func47 #[.agg #[.slice A0_0 l0_0.length c0_0, .int .i64 a0_1, .slice A0_2 l0_2.length c0_2]] ?_; (with_reducible refine (wal_Check.calls k _ _ l0_0 a0_1 _ _ l0_2 t134 _ ?_ ?_ ?_ ?_ A2.out).mono ?_); exact cB_ HR0_0 HB; exact HC0_0.out; exact cB_ HR0_2 HB; exact HC0_2.out; rintro e w9 ⟨rfl, hb⟩; refine ⟨_, rfl, ?_⟩; replace BK132 := bK_ BK132 hb; replace BK133 := bK_ BK133 hb; replace HB := bS_ HB hb; (try clear hb)))
  replace BK132 := Aside0.mk (blk_drew BK132.out)
  replace BK133 := Aside0.mk (blk_drew BK133.out)
  replace HB := Aside0.mk (below_drew1 HB.out)
  refine start_ (n := 8) (S := fun w' => w'.cell? ⟨gb132, 0, none⟩ = some (.slice A0_0 l0_0.length c0_0) ∧ w'.cell? ⟨gb132, 1, none⟩ = some (.int .i64 a0_1) ∧ w'.cell? ⟨gb132, 2, none⟩ = some (.slice A0_2 l0_2.length c0_2)) (ds := []) #[false, false, false, false, false, false, false, false] (by kernel_rfl) rfl rfl ⟨(blk_cell BK132.out 0).trans rfl, (blk_cell BK132.out 1).trans rfl, (blk_cell BK132.out 2).trans rfl⟩ (fun hHeld => ?_); refine with_tabW wal_own.tab4 wal_own.bits4 (fun HT_ HW_ => ?_)
  generalize w9.drew = w10 at BK132 BK133 HB hHeld ⊢
  refine pu_ 0 (some 14) HT_ ?_
  refine pu_ 2 (some 16) HT_ ?_
  refine tk_ 1 (some 15) HT_ HW_ hHeld ?_
  refine tk_ 3 (some 17) HT_ HW_ hHeld ?_
  refine join_ (σ := Value × Nat) 1 #[true, true, true, true, true, true, true, false] (fun s_ => [(18, s_.1), (5, .pointer (some ⟨s_.2, 0, none⟩)), (19, .agg #[.slice none 0 0, .int .i64 a0_1, s_.1])]) (fun s_ w' => (w'.cell? ⟨gb132, 0, none⟩ = some (.slice A0_0 l0_0.length c0_0) ∧ w'.cell? ⟨gb132, 1, none⟩ = some (.int .i64 a0_1) ∧ w'.cell? ⟨gb132, 2, none⟩ = some (.slice A0_2 l0_2.length c0_2)) ∧ (Kd.S (Kd.slice 5 (Kd.int .u8)) 26 w' w.heap.size (fun _ => True) s_.1 t135) ∧ (w'.heap[gb132]? = some (.cells #[.slice A0_0 l0_0.length c0_0, .int .i64 a0_1, .slice A0_2 l0_2.length c0_2] 61 (0, 0))) ∧ (w'.heap[gb133]? = some (.cells #[.slice none 0 0, .int .i64 0, .slice none 0 0] 61 (0, 0))) ∧ (w'.heap[s_.2]? = some (.cells #[.slice none 0 0, .int .i64 0, .slice none 0 0] 61 (0, 0))) ∧ (w.heap.size ≤ s_.2) ∧ (w.heap.size ≤ s_.2) ∧ (gb132 ≠ s_.2) ∧ (s_.2 ≠ gb132) ∧ (gb133 ≠ s_.2) ∧ (s_.2 ≠ gb133) ∧ (Below w.heap.size w w')) ?_ ?_
  rotate_left
  ·intro hCont
   refine two_ (i := 4) (j := 6) (Ni := some 18) (Nj := some 5) #[true, true, true, true, true, false, false, false] #[true, true, true, true, false, false, true, false] rfl rfl rfl rfl (two_of HT_.out (by kernel_rfl)) (by decide) (by decide) (fun K hK => ?_) (fun K hK => ?_)
   ·skip
    refine goes_ Try.func69 (by kernel_rfl) rfl #[.slice A0_2 l0_2.length c0_2] (by rfl) rfl rfl (by (try simp only [List.map_toArray, List.map_cons, List.map_nil]); first | done | rfl | (simp only [List.length_drop, List.length_take]; rfl)) ?_
    with_reducible refine (wal_cloneAll.calls k _ _ l0_2 t135 _ ?_ ?_ A4.out).mono ?_
    exact cB_ HR0_2 HB
    exact HC0_2.out
    rintro e w11 ⟨v136, rfl, ho0, hb⟩
    refine ⟨_, rfl, ?_⟩
    have HO137 := Aside0.mk (Kd.S_lower ho0 (bs_ HB))
    replace BK132 := bK_ BK132 hb
    replace BK133 := bK_ BK133 hb
    replace HB := bS_ HB hb
    (try clear hb ho0)
    obtain ⟨Ao12, co12, eo12⟩ := Kd.S_slice HO137.out
    (first | subst eo12 | (injection eo12 with f1_ f2_ f3_; have f4_ := f1_.symm; have f5_ := f3_.symm; clear f1_ f2_ f3_; subst f4_; subst f5_))
    refine hK.out _ _ ⟨(blk_cell BK132.out 0).trans rfl, (blk_cell BK132.out 1).trans rfl, (blk_cell BK132.out 2).trans rfl⟩ (fun hHeld => ?_)
    clear hK K
    refine norm_ (a' := ?_) ?_ ?_
    rotate_left
    ·show Act.put _ (some 18) _ = _
     simp only [Act.put, List.setIfInBounds_toArray, List.set_cons_zero, List.set_cons_succ, i64_w, i32_w]
     rfl
    refine pu_ 5 (some 19) HT_ ?_
    refine on_ 6 (some 5) HT_ (fun K hK => ?_)
    refine box_step ?hg (N := 5) ?hd (cs := #[.slice none 0 0, .int .i64 0, .slice none 0 0]) (t := 61) ?hr ?_; (case hd => rfl); (case hg => rfl); (case hr => first | (go_simp; done) | (go_simp; rfl))
    intro gb138 hg w13 hbox hb
    replace HO137 := sB_ HO137 hb
    have BK138 := Aside0.mk (hbox)
    have GW138 := bG_ HB hg
    have GE138 := bG_ HB hg
    replace HB := bS_ HB hb
    have NB132_138 := nL_ BK132 hg
    have NB138_132 := nG_ BK132 hg
    replace BK132 := bK_ BK132 hb
    have NB133_138 := nL_ BK133 hg
    have NB138_133 := nG_ BK133 hg
    replace BK133 := bK_ BK133 hb
    clear hb hbox hg
    refine hK.out _ _ ⟨(blk_cell BK132.out 0).trans rfl, (blk_cell BK132.out 1).trans rfl, (blk_cell BK132.out 2).trans rfl⟩ (fun hHeld => ?_)
    clear hK K
    refine norm_ (a' := ?_) ?_ ?_
    rotate_left
    ·show Act.put _ (some 5) _ = _
     simp only [Act.put, List.setIfInBounds_toArray, List.set_cons_zero, List.set_cons_succ, i64_w, i32_w]
     rfl
    exact norm_ (by simp only [putAll, Act.put, List.setIfInBounds_toArray, List.set_cons_zero, List.set_cons_succ]) (hCont (.slice Ao12 t135.length co12, gb138) _ ⟨hHeld, (sA_ HO137), (bA_ BK132), (bA_ BK133), (bA_ BK138), GW138.out, GE138.out, NB132_138.out, NB138_132.out, NB133_138.out, NB138_133.out, (bl_ HB)⟩)
   ·skip
    refine box_step ?hg (N := 5) ?hd (cs := #[.slice none 0 0, .int .i64 0, .slice none 0 0]) (t := 61) ?hr ?_; (case hd => rfl); (case hg => rfl); (case hr => first | (go_simp; done) | (go_simp; rfl))
    intro gb138 hg w11 hbox hb
    have BK138 := Aside0.mk (hbox)
    have GW138 := bG_ HB hg
    have GE138 := bG_ HB hg
    replace HB := bS_ HB hb
    have NB132_138 := nL_ BK132 hg
    have NB138_132 := nG_ BK132 hg
    replace BK132 := bK_ BK132 hb
    have NB133_138 := nL_ BK133 hg
    have NB138_133 := nG_ BK133 hg
    replace BK133 := bK_ BK133 hb
    clear hb hbox hg
    refine hK.out _ _ ⟨(blk_cell BK132.out 0).trans rfl, (blk_cell BK132.out 1).trans rfl, (blk_cell BK132.out 2).trans rfl⟩ (fun hHeld => ?_)
    clear hK K
    refine norm_ (a' := ?_) ?_ ?_
    rotate_left
    ·show Act.put _ (some 5) _ = _
     simp only [Act.put, List.setIfInBounds_toArray, List.set_cons_zero, List.set_cons_succ, i64_w, i32_w]
     rfl
    refine on_ 4 (some 18) HT_ (fun K hK => ?_)
    refine goes_ Try.func69 (by kernel_rfl) rfl #[.slice A0_2 l0_2.length c0_2] (by rfl) rfl rfl (by (try simp only [List.map_toArray, List.map_cons, List.map_nil]); first | done | rfl | (simp only [List.length_drop, List.length_take]; rfl)) ?_
    with_reducible refine (wal_cloneAll.calls k _ _ l0_2 t135 _ ?_ ?_ A4.out).mono ?_
    exact cB_ HR0_2 HB
    exact HC0_2.out
    rintro e w12 ⟨v136, rfl, ho0, hb⟩
    refine ⟨_, rfl, ?_⟩
    have HO137 := Aside0.mk (Kd.S_lower ho0 (bs_ HB))
    replace BK132 := bK_ BK132 hb
    replace BK133 := bK_ BK133 hb
    replace BK138 := bK_ BK138 hb
    replace HB := bS_ HB hb
    (try clear hb ho0)
    obtain ⟨Ao13, co13, eo13⟩ := Kd.S_slice HO137.out
    (first | subst eo13 | (injection eo13 with f1_ f2_ f3_; have f4_ := f1_.symm; have f5_ := f3_.symm; clear f1_ f2_ f3_; subst f4_; subst f5_))
    refine hK.out _ _ ⟨(blk_cell BK132.out 0).trans rfl, (blk_cell BK132.out 1).trans rfl, (blk_cell BK132.out 2).trans rfl⟩ (fun hHeld => ?_)
    clear hK K
    refine norm_ (a' := ?_) ?_ ?_
    rotate_left
    ·show Act.put _ (some 18) _ = _
     simp only [Act.put, List.setIfInBounds_toArray, List.set_cons_zero, List.set_cons_succ, i64_w, i32_w]
     rfl
    refine pu_ 5 (some 19) HT_ ?_
    exact norm_ (by simp only [putAll, Act.put, List.setIfInBounds_toArray, List.set_cons_zero, List.set_cons_succ]) (hCont (.slice Ao13 t135.length co13, gb138) _ ⟨hHeld, (sA_ HO137), (bA_ BK132), (bA_ BK133), (bA_ BK138), GW138.out, GE138.out, NB132_138.out, NB138_132.out, NB133_138.out, NB138_133.out, (bl_ HB)⟩)
  rintro ⟨v136, gb138⟩ w14 ⟨hS_, h0_, h1_, h2_, h3_, h4_, h5_, h6_, h7_, h8_, h9_, h10_⟩
  obtain ⟨m, hm⟩ : ∃ m, m = w14.heap.size := ⟨_, rfl⟩
  have HO137 : Aside0 (Kd.S (Kd.slice 5 (Kd.int .u8)) 26 w14 w.heap.size (fun k_ => k_ < m) v136 t135) := ⟨Kd.S_mono (Kd.S_bound h0_) (fun _ h_ => by rw [hm]; exact h_.2.2.1)⟩
  have HM : Aside0 (m ≤ w14.heap.size) := ⟨Nat.le_of_eq hm⟩
  clear hm
  replace BK132 : Aside0 (w14.heap[gb132]? = some (.cells #[.slice A0_0 l0_0.length c0_0, .int .i64 a0_1, .slice A0_2 l0_2.length c0_2] 61 (0, 0))) := ⟨h1_⟩
  replace BK133 : Aside0 (w14.heap[gb133]? = some (.cells #[.slice none 0 0, .int .i64 0, .slice none 0 0] 61 (0, 0))) := ⟨h2_⟩
  have BK138 : Aside0 (w14.heap[gb138]? = some (.cells #[.slice none 0 0, .int .i64 0, .slice none 0 0] 61 (0, 0))) := ⟨h3_⟩
  have GW138 : Aside0 (w.heap.size ≤ gb138) := ⟨h4_⟩
  have GE138 : Aside0 (w.heap.size ≤ gb138) := ⟨h5_⟩
  have NB132_138 : Aside0 (gb132 ≠ gb138) := ⟨h6_⟩
  have NB138_132 : Aside0 (gb138 ≠ gb132) := ⟨h7_⟩
  have NB133_138 : Aside0 (gb133 ≠ gb138) := ⟨h8_⟩
  have NB138_133 : Aside0 (gb138 ≠ gb133) := ⟨h9_⟩
  replace HB : Aside0 (Below w.heap.size w w14) := ⟨h10_⟩
  clear h0_ h1_ h2_ h3_ h4_ h5_ h6_ h7_ h8_ h9_ h10_
  have hHeld : w14.cell? ⟨gb132, 0, none⟩ = some (.slice A0_0 l0_0.length c0_0) ∧ w14.cell? ⟨gb132, 1, none⟩ = some (.int .i64 a0_1) ∧ w14.cell? ⟨gb132, 2, none⟩ = some (.slice A0_2 l0_2.length c0_2) := hS_
  obtain ⟨Ao15, co15, eo15⟩ := Kd.S_slice HO137.out
  (first | subst eo15 | (injection eo15 with f1_ f2_ f3_; have f4_ := f1_.symm; have f5_ := f3_.symm; clear f1_ f2_ f3_; subst f4_; subst f5_))
  refine norm_ (a' := ?_) ?_ ?_
  rotate_left
  ·simp only [putAll, Act.put, List.setIfInBounds_toArray, List.set_cons_zero, List.set_cons_succ]
   rfl
  refine on_ 7 none HT_ (fun K hK => ?_)
  have hs16 : w14.cell? ⟨gb138, 0, none⟩ = some (.slice none 0 0) := (blk_cell BK138.out 0).trans rfl
  have hfs16 := blk_frozen BK138.out 0
  have hns16_0 := NB132_138.out
  have hns16_1 := NB133_138.out
  have hms16_0 := NB138_132.out
  have hms16_1 := NB138_133.out
  have hs17 : w14.cell? ⟨gb138, 1, none⟩ = some (.int .i64 0) := (blk_cell BK138.out 1).trans rfl
  have hfs17 := blk_frozen BK138.out 1
  have hns17_0 := NB132_138.out
  have hns17_1 := NB133_138.out
  have hms17_0 := NB138_132.out
  have hms17_1 := NB138_133.out
  have hs18 : w14.cell? ⟨gb138, 2, none⟩ = some (.slice none 0 0) := (blk_cell BK138.out 2).trans rfl
  have hfs18 := blk_frozen BK138.out 2
  have hns18_0 := NB132_138.out
  have hns18_1 := NB133_138.out
  have hms18_0 := NB138_132.out
  have hms18_1 := NB138_133.out
  refine skip_ (w1 := ?_) (by rfl) rfl ?_ ?_
  rotate_left
  ·go_simp
   rfl
  refine hK.out _ _ ⟨((cell_far (p := ⟨gb138, _, none⟩) NB132_138.out _).trans (((cell_far (p := ⟨gb138, _, none⟩) NB132_138.out _).trans (((cell_far (p := ⟨gb138, _, none⟩) NB132_138.out _).trans (hHeld.1)))))), ((cell_far (p := ⟨gb138, _, none⟩) NB132_138.out _).trans (((cell_far (p := ⟨gb138, _, none⟩) NB132_138.out _).trans (((cell_far (p := ⟨gb138, _, none⟩) NB132_138.out _).trans (hHeld.2.1)))))), ((cell_far (p := ⟨gb138, _, none⟩) NB132_138.out _).trans (((cell_far (p := ⟨gb138, _, none⟩) NB132_138.out _).trans (((cell_far (p := ⟨gb138, _, none⟩) NB132_138.out _).trans (hHeld.2.2))))))⟩ (fun hHeld => ?_)
  clear hK K
  refine done_ (done_of HT_.out (by kernel_rfl)) ?_
  have hnb19 := NB132_138.out
  have hnc19 := NB138_132.out
  obtain ⟨hcz20_0, hcz20_1, hcz20_2, hfz20_0, hfz20_1, hfz20_2⟩ := cz3_ BK132
  try go_wp2
  go_loopg [23] k (fun kq v23 w' => ∃ (x23_1 : Int) (x139000_1 : List (S70)) (u139000 : Value), v23 = .int .i64 x23_1 ∧ Aside0 (wal_own.l0 kq l0_0 (l0_0.length : Int) x23_1 x139000_1 a0_1 t135 = some (r1, r2, r3, r4)) ∧ Aside0 (kq ≤ k) ∧ Aside0 (Kd.S k70 70 w' w.heap.size (fun k_ => m ≤ k_) u139000 x139000_1) ∧ Aside0 (Kd.S (Kd.slice 5 (Kd.int .u8)) 26 w' w.heap.size (fun k_ => k_ < m) (.slice Ao15 t135.length co15) t135) ∧ Aside0 (w'.heap[gb132]? = some (.cells #[(.slice A0_0 l0_0.length c0_0), .int .i64 a0_1, (.slice A0_2 l0_2.length c0_2)] 61 (0, 0))) ∧ Aside0 (w'.heap[gb133]? = some (.cells #[(.slice none 0 0), .int .i64 0, (.slice none 0 0)] 61 (0, 0))) ∧ Aside0 (w'.heap[gb138]? = some (.cells #[u139000, .int .i64 a0_1, (.slice Ao15 t135.length co15)] 61 (0, 0))) ∧ Aside0 (m ≤ w'.heap.size) ∧ Aside0 (Below w.heap.size w w'))
  case atStart => exact ⟨(0), (([] : List (S70))), (.slice none 0 0), (by first | rfl | (simp; done) | (simp [*]; done)), H', ⟨Nat.le_refl _⟩, ⟨nil_⟩, ⟨by (with_reducible repeat (first | apply Kd.S_alloc | apply Kd.S_drewN | apply Kd.S_drew)); exact Kd.S_mono (Kd.S_far (p := ⟨gb138, 2, none⟩) (Kd.S_far (p := ⟨gb138, 1, none⟩) (Kd.S_far (p := ⟨gb138, 0, none⟩) (Kd.S_types HO137.out BK138.out (by decide)) (fun _ hk => hk.2) (.slice none 0 0)) (fun _ hk => hk.2) (.int .i64 a0_1)) (fun _ hk => hk.2) (.slice Ao15 t135.length co15)) (fun _ hk => hk.1)⟩, ⟨bA_ BK132⟩, ⟨bA_ BK133⟩, ⟨by (with_reducible repeat (first | refine blk_drewN ?_ _ | refine blk_drew ?_ | refine blk_alloc ?_ _)); refine blk_put (cs := #[.slice none 0 0, .int .i64 a0_1, .slice none 0 0]) ?_ 2 _ rfl; (with_reducible repeat (first | refine blk_drewN ?_ _ | refine blk_drew ?_ | refine blk_alloc ?_ _)); refine blk_put (cs := #[.slice none 0 0, .int .i64 0, .slice none 0 0]) ?_ 1 _ rfl; (with_reducible repeat (first | refine blk_drewN ?_ _ | refine blk_drew ?_ | refine blk_alloc ?_ _)); refine blk_put (cs := #[.slice none 0 0, .int .i64 0, .slice none 0 0]) ?_ 0 _ rfl; (with_reducible repeat (first | refine blk_drewN ?_ _ | refine blk_drew ?_ | refine blk_alloc ?_ _)); exact BK138.out⟩, ⟨by simp only [setCell_size']; exact HM.out⟩, ⟨bl_ HB⟩⟩
  case round =>
   clear H'
   try clear c1
   try clear p2
   try clear c3
   try clear c3b0
   try clear c3b1
   try clear c4
   try clear c6
   try clear c7
   try clear c19
   try clear hcz20_0
   try clear hcz20_1
   try clear hcz20_2
   try clear hcz8_0
   try clear hcz8_1
   try clear hcz8_2
   try clear hfz20_0
   try clear hfz20_1
   try clear hfz20_2
   try clear hfz8_0
   try clear hfz8_1
   try clear hfz8_2
   obtain ⟨x23_1, x139000_1, u139000, rfl, HA, HK1, HO_139000, HO_139002, BK132, BK133, BK138, HM, HB⟩ := hrel
   cases gk with
   | zero => exact absurd HA.out (by simp [wal_own.l0])
   | succ k1 =>
    have H := HA.out
    clear HA
    simp only [wal_own.l0] at H
    by_cases c21 : x23_1 < (l0_0.length : Int)
    ·rw [if_pos c21] at H
     have c21b0 : decide (x23_1 < (l0_0.length : Int)) = true := decide_eq_true c21
     clear c21
     by_cases c22 : 0 ≤ x23_1
     ·rw [if_pos c22] at H
      have c22b0 : decide (0 ≤ x23_1) = true := decide_eq_true c22
      clear c22
      by_cases c23 : x23_1 < (l0_0.length : Int)
      ·rw [if_pos c23] at H
       have c23b0 : decide (x23_1 < (l0_0.length : Int)) = true := decide_eq_true c23
       clear c23
       replace H := Option.bind_eq_some_iff.mp H
       obtain ⟨t141, A240, H⟩ := H
       try dsimp only at H
       have A24 := Aside0.mk A240
       clear A240
       by_cases c25 : x139000_1.length < 4398046511104
       ·rw [if_pos c25] at H
        have LMc25 := Aside0.mk c25
        clear c25
        obtain ⟨y144, hy144⟩ : ∃ y_ : List (S70), y_ = (x139000_1 ++ [(⟨(rd_T70 l0_0 x23_1).f0, t141⟩ : S70)]) := ⟨_, rfl⟩
        replace H : (wal_own.l0 k1 l0_0 (l0_0.length : Int) (wrap64 (x23_1 + 1)) y144 a0_1 t135) = some (r1, r2, r3, r4) := by first | (rw [hy144]; with_reducible exact H) | (have H2_ := (Option.bind_some _ _).symm.trans H; rw [hy144]; with_reducible exact H2_) | (have H2_ := (Option.bind_some _ _).symm.trans H; with_reducible exact H2_) | with_reducible exact H | (rw [hy144]; exact H) | exact H
        have Ny144 := Aside0.mk hy144
        clear hy144
        have H' := Aside0.mk H
        clear H
        have p139 : 0 ≤ (x23_1 : Int) := of_decide_eq_true (by first | (with_reducible assumption) | assumption)
        have q139 : x23_1 < (l0_0.length : Int) := of_decide_eq_true (by first | (with_reducible assumption) | assumption)
        obtain ⟨ad139, A139_1, c139_1, e139, hx139_0, hx139_1, hl139_1, hi139_1⟩ := at_T70 HR0_0.out x23_1 p139 q139
        cases e139
        replace hx139_0 := (HB.out.cell (World.block_lt_of_cell? w _ hx139_0)).trans hx139_0
        replace hx139_1 := (HB.out.cell (World.block_lt_of_cell? w _ hx139_1)).trans hx139_1
        have HR139_1 := Aside0.mk hi139_1
        have HC139_1 := Aside0.mk hl139_1
        clear hi139_1 hl139_1
        replace p139 := eq_true p139
        replace q139 := eq_true q139
        try go_wp2_with (first | ((with_reducible refine gate_dst (N := 7) rfl ?_); refine bx_ 7 #[.int .i64 0, .slice none 0 0] 70 ?_; intro gb140 hg w26 hbox hb; replace HO_139000 := Aside0.mk (Kd.S_below (Kd.S_elderB (sA_ HO_139000) gb140 (Nat.le_of_eq hg.symm)) hb); replace HO_139002 := sB_ HO_139002 hb; have BK140 := Aside0.mk (hbox); have GW140 := bG_ HB hg; have GE140 := bG_ HB hg; replace HM := Aside0.mk (Nat.le_trans HM.out hb.size); replace HB := bS_ HB hb; have NB132_140 := nL_ BK132 hg; have NB140_132 := nG_ BK132 hg; replace BK132 := bK_ BK132 hb; have NB133_140 := nL_ BK133 hg; have NB140_133 := nG_ BK133 hg; replace BK133 := bK_ BK133 hb; have NB138_140 := nL_ BK138 hg; have NB140_138 := nG_ BK138 hg; replace BK138 := bK_ BK138 hb; clear hb hbox hg; have hnb27 := NB140_132.out; have hnc27 := NB132_140.out; have hnb28 := NB140_133.out; have hnc28 := NB133_140.out; have hnb29 := NB140_138.out; have hnc29 := NB138_140.out; obtain ⟨hcz30_0, hcz30_1, hfz30_0, hfz30_1⟩ := cz2_ BK140))
        have n0_ : Aside0 (Kd.S k70 70 ((w26.setCell ⟨gb140, 0, none⟩ (.int .i64 ((rd_T70 l0_0 x23_1).f0))).setCell ⟨gb140, 1, none⟩ (.slice A139_1 ((rd_T70 l0_0 x23_1).f1).length c139_1)) w.heap.size (fun k_ => m ≤ k_ ∧ k_ ≠ gb140) u139000 x139000_1) := ⟨Kd.S_mono (sD_ HO_139000 (fun k_ hk => hk.2)) (fun _ hk => hk.1)⟩
        have n1_ : Aside0 (Kd.S (Kd.slice 5 (Kd.int .u8)) 26 ((w26.setCell ⟨gb140, 0, none⟩ (.int .i64 ((rd_T70 l0_0 x23_1).f0))).setCell ⟨gb140, 1, none⟩ (.slice A139_1 ((rd_T70 l0_0 x23_1).f1).length c139_1)) w.heap.size (fun k_ => k_ < m) (.slice Ao15 t135.length co15) t135) := ⟨by (with_reducible repeat (first | apply Kd.S_alloc | apply Kd.S_drewN | apply Kd.S_drew)); exact Kd.S_mono (Kd.S_far (p := ⟨gb140, 1, none⟩) (Kd.S_far (p := ⟨gb140, 0, none⟩) (Kd.S_types HO_139002.out BK140.out (by decide)) (fun _ hk => hk.2) (.int .i64 ((rd_T70 l0_0 x23_1).f0))) (fun _ hk => hk.2) (.slice A139_1 ((rd_T70 l0_0 x23_1).f1).length c139_1)) (fun _ hk => hk.1)⟩
        have n2_ : Aside0 (((w26.setCell ⟨gb140, 0, none⟩ (.int .i64 ((rd_T70 l0_0 x23_1).f0))).setCell ⟨gb140, 1, none⟩ (.slice A139_1 ((rd_T70 l0_0 x23_1).f1).length c139_1)).heap[gb132]? = some (.cells #[.slice (some ad139) l0_0.length c0_0, .int .i64 a0_1, .slice A0_2 l0_2.length c0_2] 61 (0, 0))) := ⟨bA_ BK132⟩
        have n3_ : Aside0 (((w26.setCell ⟨gb140, 0, none⟩ (.int .i64 ((rd_T70 l0_0 x23_1).f0))).setCell ⟨gb140, 1, none⟩ (.slice A139_1 ((rd_T70 l0_0 x23_1).f1).length c139_1)).heap[gb133]? = some (.cells #[.slice none 0 0, .int .i64 0, .slice none 0 0] 61 (0, 0))) := ⟨bA_ BK133⟩
        have n4_ : Aside0 (((w26.setCell ⟨gb140, 0, none⟩ (.int .i64 ((rd_T70 l0_0 x23_1).f0))).setCell ⟨gb140, 1, none⟩ (.slice A139_1 ((rd_T70 l0_0 x23_1).f1).length c139_1)).heap[gb138]? = some (.cells #[u139000, .int .i64 a0_1, .slice Ao15 t135.length co15] 61 (0, 0))) := ⟨bA_ BK138⟩
        have n5_ : Aside0 (((w26.setCell ⟨gb140, 0, none⟩ (.int .i64 ((rd_T70 l0_0 x23_1).f0))).setCell ⟨gb140, 1, none⟩ (.slice A139_1 ((rd_T70 l0_0 x23_1).f1).length c139_1)).heap[gb140]? = some (.cells #[.int .i64 ((rd_T70 l0_0 x23_1).f0), .slice A139_1 ((rd_T70 l0_0 x23_1).f1).length c139_1] 70 (0, 0))) := ⟨by (with_reducible repeat (first | refine blk_drewN ?_ _ | refine blk_drew ?_ | refine blk_alloc ?_ _)); refine blk_put (cs := #[.int .i64 ((rd_T70 l0_0 x23_1).f0), .slice none 0 0]) ?_ 1 _ rfl; (with_reducible repeat (first | refine blk_drewN ?_ _ | refine blk_drew ?_ | refine blk_alloc ?_ _)); refine blk_put (cs := #[.int .i64 0, .slice none 0 0]) ?_ 0 _ rfl; (with_reducible repeat (first | refine blk_drewN ?_ _ | refine blk_drew ?_ | refine blk_alloc ?_ _)); exact BK140.out⟩
        have n6_ : Aside0 (Below w.heap.size w ((w26.setCell ⟨gb140, 0, none⟩ (.int .i64 ((rd_T70 l0_0 x23_1).f0))).setCell ⟨gb140, 1, none⟩ (.slice A139_1 ((rd_T70 l0_0 x23_1).f1).length c139_1))) := ⟨bl_ HB⟩
        have n7_ : Aside0 (m ≤ (((w26.setCell ⟨gb140, 0, none⟩ (.int .i64 ((rd_T70 l0_0 x23_1).f0))).setCell ⟨gb140, 1, none⟩ (.slice A139_1 ((rd_T70 l0_0 x23_1).f1).length c139_1))).heap.size) := ⟨by simp only [setCell_size']; exact HM.out⟩
        (try clear HO_139000 HO_139002 BK132 BK133 BK138 BK140 HB)
        generalize ((w26.setCell ⟨gb140, 0, none⟩ (.int .i64 ((rd_T70 l0_0 x23_1).f0))).setCell ⟨gb140, 1, none⟩ (.slice A139_1 ((rd_T70 l0_0 x23_1).f1).length c139_1)) = w31 at n0_ n1_ n2_ n3_ n4_ n5_ n6_ n7_ ⊢
        have HO_139000 := n0_
        have HO_139002 := n1_
        have BK132 := n2_
        have BK133 := n3_
        have BK138 := n4_
        have BK140 := n5_
        have HB := n6_
        replace HM := n7_
        clear n0_ n1_ n2_ n3_ n4_ n5_ n6_ n7_
        replace HO_139000 := Aside0.mk (Kd.S_drew HO_139000.out)
        replace HO_139002 := Aside0.mk (Kd.S_drew HO_139002.out)
        replace BK132 := Aside0.mk (blk_drew BK132.out)
        replace BK133 := Aside0.mk (blk_drew BK133.out)
        replace BK138 := Aside0.mk (blk_drew BK138.out)
        replace BK140 := Aside0.mk (blk_drew BK140.out)
        replace HB := Aside0.mk (below_drew1 HB.out)
        replace HM := Aside0.mk (show m ≤ w31.drew.heap.size from HM.out)
        refine start_ (n := 12) (S := fun w' => w'.cell? ⟨gb138, 0, none⟩ = some (u139000) ∧ w'.cell? ⟨gb138, 1, none⟩ = some (.int .i64 a0_1) ∧ w'.cell? ⟨gb138, 2, none⟩ = some (.slice Ao15 t135.length co15) ∧ w'.cell? ⟨gb140, 0, none⟩ = some (.int .i64 ((rd_T70 l0_0 x23_1).f0)) ∧ w'.cell? ⟨gb140, 1, none⟩ = some (.slice A139_1 ((rd_T70 l0_0 x23_1).f1).length c139_1)) (ds := [11]) #[false, false, false, false, false, false, false, false, false, false, false, false] (by kernel_rfl) rfl rfl ⟨(blk_cell BK138.out 0).trans rfl, (blk_cell BK138.out 1).trans rfl, (blk_cell BK138.out 2).trans rfl, (blk_cell BK140.out 0).trans rfl, (blk_cell BK140.out 1).trans rfl⟩ (fun hHeld => ?_); refine with_tabW wal_own.tab8 wal_own.bits8 (fun HT_ HW_ => ?_)
        generalize w31.drew = w32 at HO_139000 HO_139002 BK132 BK133 BK138 BK140 HB HM hHeld ⊢
        refine pu_ 0 (some 27) HT_ ?_
        refine pu_ 2 (some 29) HT_ ?_
        refine pu_ 4 (some 31) HT_ ?_
        refine tk_ 1 (some 28) HT_ HW_ hHeld ?_
        refine tk_ 3 (some 30) HT_ HW_ hHeld ?_
        refine tk_ 5 (some 32) HT_ HW_ hHeld ?_
        refine on_ 6 (some 33) HT_ (fun K hK => ?_)
        refine goes_ Try.func75 (by kernel_rfl) rfl #[.slice A139_1 ((rd_T70 l0_0 x23_1).f1).length c139_1] (by rfl) rfl rfl (by (try simp only [List.map_toArray, List.map_cons, List.map_nil]); first | done | rfl | (simp only [List.length_drop, List.length_take]; rfl)) ?_
        with_reducible refine (bytes_Clone.calls _ _ ((rd_T70 l0_0 x23_1).f1) t141 _ ?_ ?_ A24.out).mono ?_
        exact cB_ HR139_1 HB
        exact HC139_1.out
        rintro e w33 ⟨v142, rfl, ho0, hb⟩
        refine ⟨_, rfl, ?_⟩
        replace HO_139000 := Aside0.mk (Kd.S_elder' (sA_ HO_139000) (Kd.R_base ho0) hb)
        replace HO_139002 := Aside0.mk (Kd.S_elder' (sA_ HO_139002) (Kd.R_base ho0) hb)
        have HO143 := Aside0.mk (Kd.R_lower (Kd.R_mono (ok' := fun k_ => m ≤ k_) (Kd.R_bound ho0) (fun k_ h_ => Nat.le_trans HM.out h_.2.1)) (bs_ HB))
        replace HM := Aside0.mk (Nat.le_trans HM.out hb.size)
        replace BK132 := bK_ BK132 hb
        replace BK133 := bK_ BK133 hb
        replace BK138 := bK_ BK138 hb
        replace BK140 := bK_ BK140 hb
        replace HB := bS_ HB hb
        (try clear hb ho0)
        obtain ⟨Ao34, co34, eo34⟩ := Kd.R_slice HO143.out
        (first | subst eo34 | (injection eo34 with f1_ f2_ f3_; have f4_ := f1_.symm; have f5_ := f3_.symm; clear f1_ f2_ f3_; subst f4_; subst f5_))
        refine hK.out _ _ ⟨(blk_cell BK138.out 0).trans rfl, (blk_cell BK138.out 1).trans rfl, (blk_cell BK138.out 2).trans rfl, (blk_cell BK140.out 0).trans rfl, (blk_cell BK140.out 1).trans rfl⟩ (fun hHeld => ?_)
        clear hK K
        refine norm_ (a' := ?_) ?_ ?_
        rotate_left
        ·show Act.put _ (some 33) _ = _
         simp only [Act.put, List.setIfInBounds_toArray, List.set_cons_zero, List.set_cons_succ, i64_w, i32_w]
         rfl
        refine pu_ 7 (some 34) HT_ ?_
        refine on_ 8 (some 35) HT_ (fun K hK => ?_)
        refine value_ (w1 := ?_) (v := ?_) (by rfl) rfl ?_ ?_
        rotate_left 2
        ·go_simp
         constructor
         ·rfl
         ·rfl
        refine hK.out _ _ ⟨(blk_cell (blk_alloc BK138.out _) 0).trans rfl, (blk_cell (blk_alloc BK138.out _) 1).trans rfl, (blk_cell (blk_alloc BK138.out _) 2).trans rfl, (blk_cell (blk_alloc BK140.out _) 0).trans rfl, (blk_cell (blk_alloc BK140.out _) 1).trans rfl⟩ (fun hHeld => ?_)
        clear hK K
        refine norm_ (a' := ?_) ?_ ?_
        rotate_left
        ·show Act.put _ (some 35) _ = _
         simp only [Act.put, List.setIfInBounds_toArray, List.set_cons_zero, List.set_cons_succ, i64_w, i32_w]
         rfl
        refine on_ 9 (some 36) HT_ (fun K hK => ?_)
        refine Kd.S_append_step k70 (w0 := w) w.heap.size (by rfl) (.tmp 28) (.tmp 35) 59 70 (.agg #[(.int .i64 0), (.slice none 0 0)]) 32 rfl Try.underlying59 info70 rfl (by decide) (by omega) u139000 x139000_1 (⟨(rd_T70 l0_0 x23_1).f0, t141⟩ : S70) [.int .i64 ((rd_T70 l0_0 x23_1).f0), .slice Ao34 t141.length co34] (fun k_ => m ≤ k_ ∧ k_ ≠ gb140) (fun k_ => some k_ = (.slice Ao34 t141.length co34 : Value).ownBlock) rfl rfl ?aP (fun k_ hk_ => ((Kd.R_mono (ok' := fun k_ => ((fun k_ => m ≤ k_ ∧ k_ ≠ gb140)) k_ ∧ some k_ ≠ (u139000 : Value).ownBlock) (Kd.R_types (Kd.R_apart' (HO143.out) (Kd.S_typed HO_139000.out) (by decide)) BK140.out (by decide)) (fun k_ hk => ⟨⟨hk.1.1, hk.2⟩, hk.1.2⟩))).1 k_ hk_.symm) ?aF ?aO ?aB ?aS ?aL ?_
        (case aP => exact k70_mkM _ _ _ (⟨(rd_T70 l0_0 x23_1).f0, t141⟩ : S70) (Kd.R_mono (Kd.R_tight rfl (Kd.R_mono (ok' := fun k_ => ((fun k_ => m ≤ k_ ∧ k_ ≠ gb140)) k_ ∧ some k_ ≠ (u139000 : Value).ownBlock) (Kd.R_types (Kd.R_apart' (HO143.out) (Kd.S_typed HO_139000.out) (by decide)) BK140.out (by decide)) (fun k_ hk => ⟨⟨hk.1.1, hk.2⟩, hk.1.2⟩))) (fun _ h_ => h_)))
        (case aB => exact (bl_ HB))
        (case aF => exact (fun k_ hk => ⟨Nat.le_trans HM.out hk, Kd.freshB (bA_ BK140) k_ hk⟩))
        (case aO => exact (by (with_reducible repeat (first | apply Kd.S_alloc | apply Kd.S_drewN | apply Kd.S_drew)); exact Kd.S_mono HO_139000.out (fun k_ hk => ⟨hk.1, fun e_ => hk.2 e_⟩)))
        (case aS => exact (bs_ HB))
        (case aL => have := LMc25.out; omega)
        intro v145 w35 ho hb hg hat
        rw [← Ny144.out] at ho
        replace HO_139002 := Aside0.mk (Kd.S_over' (sA_ HO_139002) (Kd.S_typed (sA_ HO_139000)) (by decide) hg)
        replace BK132 := Aside0.mk (blk_grown (bA_ BK132) hg (Kd.S_ne HO_139000.out BK132.out (by decide)))
        replace BK133 := Aside0.mk (blk_grown (bA_ BK133) hg (Kd.S_ne HO_139000.out BK133.out (by decide)))
        replace BK138 := Aside0.mk (blk_grown (bA_ BK138) hg (Kd.S_ne HO_139000.out BK138.out (by decide)))
        replace BK140 := Aside0.mk (blk_grown (bA_ BK140) hg (Kd.S_away HO_139000.out (fun _ hk => hk.1.2)))
        replace HM := Aside0.mk (Nat.le_trans HM.out hg.size)
        replace HB := Aside0.mk (hb)
        have HO146 := Aside0.mk (ho)
        clear HO_139000 HO143
        clear ho hb hg hat
        obtain ⟨Ao36, co36, eo36⟩ := Kd.S_slice HO146.out
        (first | subst eo36 | (injection eo36 with f1_ f2_ f3_; have f4_ := f1_.symm; have f5_ := f3_.symm; clear f1_ f2_ f3_; subst f4_; subst f5_))
        refine hK.out _ _ ⟨(blk_cell BK138.out 0).trans rfl, (blk_cell BK138.out 1).trans rfl, (blk_cell BK138.out 2).trans rfl, (blk_cell BK140.out 0).trans rfl, (blk_cell BK140.out 1).trans rfl⟩ (fun hHeld => ?_)
        clear hK K
        refine norm_ (a' := ?_) ?_ ?_
        rotate_left
        ·show Act.put _ (some 36) _ = _
         simp only [Act.put, List.setIfInBounds_toArray, List.set_cons_zero, List.set_cons_succ, i64_w, i32_w]
         rfl
        refine pu_ 10 (some 37) HT_ ?_
        refine last_ (i := 11) (N := none) #[true, true, true, true, true, true, true, true, true, true, true, true] rfl rfl (one_of HT_.out (by kernel_rfl)) (by decide) (fun K hK => ?_)
        have hs37 : w35.cell? ⟨gb138, 0, none⟩ = some (u139000) := (blk_cell BK138.out 0).trans rfl
        have hfs37 := blk_frozen BK138.out 0
        have hns37_0 := NB132_138.out
        have hns37_1 := NB133_138.out
        have hns37_3 := NB140_138.out
        have hms37_0 := NB138_132.out
        have hms37_1 := NB138_133.out
        have hms37_3 := NB138_140.out
        refine skip_ (w1 := ?_) (by rfl) rfl ?_ ?_
        rotate_left
        ·go_simp
         rfl
        refine hK.out _ _ ?_
        clear hK K
        refine done_ (done_of HT_.out (by kernel_rfl)) ?_
        try go_wp2
        go_roundg k1
        case measure => have := HK1.out; omega
        case rel => exact ⟨(wrap64 (x23_1 + 1)), (y144), (.slice Ao36 y144.length co36), (by first | rfl | (simp; done) | (simp [*]; done)), H', ⟨by have := HK1.out; omega⟩, ⟨by (with_reducible repeat (first | apply Kd.S_alloc | apply Kd.S_drewN | apply Kd.S_drew)); exact Kd.S_mono (Kd.S_far (p := ⟨gb138, 0, none⟩) (Kd.S_types HO146.out BK138.out (by decide)) (fun _ hk => hk.2) (.slice Ao36 y144.length co36)) (fun _ hk => hk.1.1)⟩, ⟨by (with_reducible repeat (first | apply Kd.S_alloc | apply Kd.S_drewN | apply Kd.S_drew)); exact Kd.S_mono (Kd.S_far (p := ⟨gb138, 0, none⟩) (Kd.S_types HO_139002.out BK138.out (by decide)) (fun _ hk => hk.2) (.slice Ao36 y144.length co36)) (fun _ hk => hk.1.1)⟩, ⟨bA_ BK132⟩, ⟨bA_ BK133⟩, ⟨by (with_reducible repeat (first | refine blk_drewN ?_ _ | refine blk_drew ?_ | refine blk_alloc ?_ _)); refine blk_put (cs := #[u139000, .int .i64 a0_1, .slice Ao15 t135.length co15]) ?_ 0 _ rfl; (with_reducible repeat (first | refine blk_drewN ?_ _ | refine blk_drew ?_ | refine blk_alloc ?_ _)); exact BK138.out⟩, ⟨by simp only [setCell_size']; exact HM.out⟩, ⟨bl_ HB⟩⟩
       ·rw [if_neg c25] at H
        exact absurd H (by simp)
      ·rw [if_neg c23] at H
       exact absurd H (by simp)
     ·rw [if_neg c22] at H
      exact absurd H (by simp)
    ·rw [if_neg c21] at H
     have c21b0 : decide (x23_1 < (l0_0.length : Int)) = false := decide_eq_false c21
     clear c21
     simp only [Option.some.injEq, Prod.mk.injEq] at H
     obtain ⟨rfl, rfl, rfl, rfl⟩ := H
     have hnb38 := NB138_132.out
     have hnc38 := NB132_138.out
     have hnb39 := NB138_133.out
     have hnc39 := NB133_138.out
     obtain ⟨hcz40_0, hcz40_1, hcz40_2, hfz40_0, hfz40_1, hfz40_2⟩ := cz3_ BK138
     obtain ⟨Ao41, co41, eo41⟩ := Kd.S_slice HO_139000.out
     subst eo41
     have hnb42 := NB133_132.out
     have hnc42 := NB132_133.out
     obtain ⟨hcz43_0, hcz43_1, hcz43_2, hfz43_0, hfz43_1, hfz43_2⟩ := cz3_ BK133
     go_wp2
     refine bodyPost_ret (results_ct rfl _ _ gb133 61 #[.slice Ao41 x139000_1.length co41, .int .i64 a0_1, .slice Ao15 t135.length co15] (0, 0) _ rfl (by (with_reducible repeat (first | refine blk_drewN ?_ _ | refine blk_drew ?_ | refine blk_alloc ?_ _)); refine blk_put (cs := #[.slice Ao41 x139000_1.length co41, .int .i64 a0_1, .slice none 0 0]) ?_ 2 _ rfl; (with_reducible repeat (first | refine blk_drewN ?_ _ | refine blk_drew ?_ | refine blk_alloc ?_ _)); refine blk_put (cs := #[.slice Ao41 x139000_1.length co41, .int .i64 0, .slice none 0 0]) ?_ 1 _ rfl; (with_reducible repeat (first | refine blk_drewN ?_ _ | refine blk_drew ?_ | refine blk_alloc ?_ _)); refine blk_put (cs := #[.slice none 0 0, .int .i64 0, .slice none 0 0]) ?_ 0 _ rfl; (with_reducible repeat (first | refine blk_drewN ?_ _ | refine blk_drew ?_ | refine blk_alloc ?_ _)); exact BK133.out) Try.underlying61 rfl (by kernel_rfl)) rfl ?_
     exact ⟨m, _, _, fin_, by (with_reducible repeat (first | apply Kd.S_alloc | apply Kd.S_drewN | apply Kd.S_drew)); exact Kd.S_mono (Kd.S_far (p := ⟨gb133, 2, none⟩) (Kd.S_far (p := ⟨gb133, 1, none⟩) (Kd.S_far (p := ⟨gb133, 0, none⟩) (Kd.S_types HO_139000.out BK133.out (by decide)) (fun _ hk => hk.2) (.slice Ao41 x139000_1.length co41)) (fun _ hk => hk.2) (.int .i64 a0_1)) (fun _ hk => hk.2) (.slice Ao15 t135.length co15)) (fun _ hk => hk.1), by (with_reducible repeat (first | apply Kd.S_alloc | apply Kd.S_drewN | apply Kd.S_drew)); exact Kd.S_mono (Kd.S_far (p := ⟨gb133, 2, none⟩) (Kd.S_far (p := ⟨gb133, 1, none⟩) (Kd.S_far (p := ⟨gb133, 0, none⟩) (Kd.S_types HO_139002.out BK133.out (by decide)) (fun _ hk => hk.2) (.slice Ao41 x139000_1.length co41)) (fun _ hk => hk.2) (.int .i64 a0_1)) (fun _ hk => hk.2) (.slice Ao15 t135.length co15)) (fun _ hk => hk.1), by simp only [setCell_size']; exact HM.out, bl_ HB⟩
 ·rw [if_neg c3] at H
  have c3b0 : (t134 == 0) = false := beq_eq_false_iff_ne.mpr c3
  have c3b1 : (t134 != 0) = true := bne_iff_ne.mpr c3
  simp only [Option.some.injEq, Prod.mk.injEq] at H
  obtain ⟨rfl, rfl, rfl, rfl⟩ := H
  go_enter Try.func66, Try.ntmps66
  go_wp2_with (first | ((with_reducible refine gate_dst (N := 1) rfl ?_); refine bx_ 1 #[.slice A0_0 l0_0.length c0_0, .int .i64 a0_1, .slice A0_2 l0_2.length c0_2] 61 ?_; intro gb132 hg w44 hbox hb; have BK132 := Aside0.mk (hbox); have GW132 := bG_ HB hg; have GE132 := bG_ HB hg; replace HB := bS_ HB hb; clear hb hbox hg) | ((with_reducible refine gate_dst (N := 2) rfl ?_); refine bx_ 2 #[.slice none 0 0, .int .i64 0, .slice none 0 0] 61 ?_; intro gb133 hg w45 hbox hb; have BK133 := Aside0.mk (hbox); have GW133 := bG_ HB hg; have GE133 := bG_ HB hg; replace HB := bS_ HB hb; have NB132_133 := nL_ BK132 hg; have NB133_132 := nG_ BK132 hg; replace BK132 := bK_ BK132 hb; clear hb hbox hg; have hnb46 := NB132_133.out; have hnc46 := NB133_132.out; obtain ⟨hcz47_0, hcz47_1, hcz47_2, hfz47_0, hfz47_1, hfz47_2⟩ := cz3_ BK132) | ((with_reducible refine gate_callee (f := 47) rfl ?_); refine gL_ (some 9) Try.func47 #[.agg #[.slice A0_0 l0_0.length c0_0, .int .i64 a0_1, .slice A0_2 l0_2.length c0_2]] ?_; (with_reducible refine (wal_Check.calls k _ _ l0_0 a0_1 _ _ l0_2 t134 _ ?_ ?_ ?_ ?_ A2.out).mono ?_); exact cB_ HR0_0 HB; exact HC0_0.out; exact cB_ HR0_2 HB; exact HC0_2.out; rintro e w48 ⟨rfl, hb⟩; refine ⟨_, rfl, ?_⟩; replace BK132 := bK_ BK132 hb; replace BK133 := bK_ BK133 hb; replace HB := bS_ HB hb; (try clear hb); obtain ⟨hcz49_0, hcz49_1, hcz49_2, hfz49_0, hfz49_1, hfz49_2⟩ := cz3_ BK133))
  refine bodyPost_ret (results_ct rfl _ _ gb133 61 #[.slice none 0 0, .int .i64 0, .slice none 0 0] (0, 0) _ rfl (by (with_reducible repeat (first | refine blk_drewN ?_ _ | refine blk_drew ?_ | refine blk_alloc ?_ _)); refine blk_put (cs := #[.slice none 0 0, .int .i64 0, .slice none 0 0]) ?_ 2 _ rfl; (with_reducible repeat (first | refine blk_drewN ?_ _ | refine blk_drew ?_ | refine blk_alloc ?_ _)); refine blk_put (cs := #[.slice none 0 0, .int .i64 0, .slice none 0 0]) ?_ 1 _ rfl; (with_reducible repeat (first | refine blk_drewN ?_ _ | refine blk_drew ?_ | refine blk_alloc ?_ _)); refine blk_put (cs := #[.slice none 0 0, .int .i64 0, .slice none 0 0]) ?_ 0 _ rfl; (with_reducible repeat (first | refine blk_drewN ?_ _ | refine blk_drew ?_ | refine blk_alloc ?_ _)); exact BK133.out) Try.underlying61 rfl (by kernel_rfl)) rfl ?_
  exact ⟨0, _, _, fin_, nil_, nil_, Nat.zero_le _, bl_ HB⟩
theorem wal_own.calls (k : Nat) (A0_0 : Option Addr) (c0_0 : Nat) (l0_0 : List (S70)) (a0_1 : Int) (A0_2 : Option Addr) (c0_2 : Nat) (l0_2 : List (List Int)) (r1 : List (S70)) (r2 : Int) (r3 : List (List Int)) (r4 : Int) (w : World) (hr0_0 : Kd.C k70 w A0_0 l0_0.length l0_0) (hc0_0 : l0_0.length ≤ c0_0) (hr0_2 : Kd.C (Kd.slice 5 (Kd.int .u8)) w A0_2 l0_2.length l0_2) (hc0_2 : l0_2.length ≤ c0_2) (h : wal_own.f k l0_0 a0_1 l0_2 = some (r1, r2, r3, r4)) :
  Calls Try.prog 66 #[.agg #[.slice A0_0 l0_0.length c0_0, .int .i64 a0_1, .slice A0_2 l0_2.length c0_2]] w fun e w' => ∃ v0_ v2_ : Value, e = .returned (.tuple #[.agg #[v0_, .int .i64 r2, v2_], .int .i64 r4]) ∧ Kd.S k70 70 w' w.heap.size (fun _ => True) v0_ r1 ∧ Kd.S (Kd.slice 5 (Kd.int .u8)) 26 w' w.heap.size (fun _ => True) v2_ r3 ∧ Below w.heap.size w w' := by
 refine (wal_own.calls2 k A0_0 c0_0 l0_0 a0_1 A0_2 c0_2 l0_2 r1 r2 r3 r4 w hr0_0 hc0_0 hr0_2 hc0_2 h).mono ?_
 rintro e w' ⟨m, v0, v2, h1, h2, h3, _, h4⟩
 exact ⟨v0, v2, h1, Kd.S_mono h2 (fun _ _ => trivial), Kd.S_mono h3 (fun _ _ => trivial), h4⟩
end Go.Proofs.Ytooabchnbmnchaa.Q
namespace Go.Proofs.Ytooabchnbmnchaa.Q
open Go.RowKit Go.Proofs.YtooabchnbmnchaaW.PrintWords Go.Proofs.YtooabchnbmnchaaW.PrintLast Go.Proofs.YtooabchnbmnchaaW.PrintMore
attribute [local go_sem] max2_int min2_int max_two min_two max_three min_three max_four min_four binOp_string_leq binOp_string_geq binOp_string_gtr   -- for this text's walks alone
set_option linter.unusedVariables false
set_option linter.unusedSimpArgs false
def wal_Append.f (k : Nat) (l0_0 : List (S70)) (a0_1 : Int) (l0_2 : List (List Int)) (l1 : List (List Int)) : Option ((List (S70)) × Int × (List (List Int)) × Int) := (wal_own.f k l0_0 a0_1 l0_2).bind fun bt150 => (if bt150.2.2.2 = 0 then ((slices_ContainsFunc_byte_byte.f l1 68).bind fun t159 => (if t159 = true then (some (([] : List (S70)), 0, ([] : List (List Int)), 5)) else (if (wrap64 ((l0_2.length : Int) + (l1.length : Int))) > 4096 then (some (([] : List (S70)), 0, ([] : List (List Int)), 3)) else ((wal_cloneAll.f k l1).bind fun t160 => (if bt150.2.2.1.length + t160.length < 5864062014805 then (some (bt150.1, bt150.2.1, (bt150.2.2.1 ++ t160), 0)) else (none)))))) else (some (([] : List (S70)), 0, ([] : List (List Int)), bt150.2.2.2)))
theorem wal_Append.mono : ∀ a0 a1 a2 a3 k, LeO (wal_Append.f k a0 a1 a2 a3) (wal_Append.f (k + 1) a0 a1 a2 a3) := by
 intro a0 a1 a2 a3 k
 unfold wal_Append.f
 repeat' first
   | (with_reducible exact wal_cloneAll.mono _ _)
   | (with_reducible exact wal_own.mono _ _ _ _)
   | (with_reducible exact LeO.refl _)
   | (with_reducible exact LeO.none _)
   | (with_reducible refine LeO.ite ?_ ?_)
   | (with_reducible refine LeO.bind ?_ (fun _ => ?_))
   | exact wal_cloneAll.mono _ _
   | exact wal_own.mono _ _ _ _
   | exact LeO.none _
   | refine LeO.ite ?_ ?_
   | refine LeO.bind ?_ (fun _ => ?_)
set_option maxHeartbeats 8000000 in
set_option maxRecDepth 100000 in
theorem wal_Append.calls (k : Nat) (A0_0 : Option Addr) (c0_0 : Nat) (l0_0 : List (S70)) (a0_1 : Int) (A0_2 : Option Addr) (c0_2 : Nat) (l0_2 : List (List Int)) (A1 : Option Addr) (c1 : Nat) (l1 : List (List Int)) (r1 : List (S70)) (r2 : Int) (r3 : List (List Int)) (r4 : Int) (w : World) (hr0_0 : Kd.C k70 w A0_0 l0_0.length l0_0) (hc0_0 : l0_0.length ≤ c0_0) (hr0_2 : Kd.C (Kd.slice 5 (Kd.int .u8)) w A0_2 l0_2.length l0_2) (hc0_2 : l0_2.length ≤ c0_2) (hr1 : Kd.C (Kd.slice 5 (Kd.int .u8)) w A1 l1.length l1) (hc1 : l1.length ≤ c1) (h : wal_Append.f k l0_0 a0_1 l0_2 l1 = some (r1, r2, r3, r4)) :
  Calls Try.prog 35 #[.agg #[.slice A0_0 l0_0.length c0_0, .int .i64 a0_1, .slice A0_2 l0_2.length c0_2], .slice A1 l1.length c1] w fun e w' => ∃ v0_ v2_ : Value, e = .returned (.tuple #[.agg #[v0_, .int .i64 r2, v2_], .int .i64 r4]) ∧ Kd.N k70 70 w' w.heap.size (fun k_ => (w.heap.size ≤ k_) ∧ some k_ ≠ (v2_ : Value).ownBlock) v0_ r1 ∧ Kd.N (Kd.slice 5 (Kd.int .u8)) 26 w' w.heap.size (fun k_ => (w.heap.size ≤ k_) ∧ some k_ ≠ (v0_ : Value).ownBlock) v2_ r3 ∧ Below w.heap.size w w' := by
 have hu61 := Try.underlying61
 have HR0_0 := Aside0.mk hr0_0
 have HC0_0 := Aside0.mk hc0_0
 clear hr0_0 hc0_0
 have HR0_2 := Aside0.mk hr0_2
 have HC0_2 := Aside0.mk hc0_2
 clear hr0_2 hc0_2
 have HR1 := Aside0.mk hr1
 have HC1 := Aside0.mk hc1
 clear hr1 hc1
 have HB := Aside0.mk (Below.refl w.heap.size w)
 have H : ((wal_own.f k l0_0 a0_1 l0_2).bind fun bt150 => (if bt150.2.2.2 = 0 then ((slices_ContainsFunc_byte_byte.f l1 68).bind fun t159 => (if t159 = true then (some (([] : List (S70)), 0, ([] : List (List Int)), 5)) else (if (wrap64 ((l0_2.length : Int) + (l1.length : Int))) > 4096 then (some (([] : List (S70)), 0, ([] : List (List Int)), 3)) else ((wal_cloneAll.f k l1).bind fun t160 => (if bt150.2.2.1.length + t160.length < 5864062014805 then (some (bt150.1, bt150.2.1, (bt150.2.2.1 ++ t160), 0)) else (none)))))) else (some (([] : List (S70)), 0, ([] : List (List Int)), bt150.2.2.2)))) = some (r1, r2, r3, r4) := h
 clear h
 replace H := Option.bind_eq_some_iff.mp H
 obtain ⟨⟨t150, t153, t154, t157⟩, A30, H⟩ := H
 try dsimp only at H
 have A3 := Aside0.mk A30
 clear A30
 by_cases c4 : t157 = 0
 ·rw [if_pos c4] at H
  have c4b0 : (t157 == 0) = true := beq_iff_eq.mpr c4
  have c4b1 : (t157 != 0) = false := bne_eq_false_iff_eq.mpr c4
  clear c4
  replace H := Option.bind_eq_some_iff.mp H
  obtain ⟨t159, A50, H⟩ := H
  try dsimp only at H
  have A5 := Aside0.mk A50
  clear A50
  by_cases c6 : t159 = true
  ·subst c6
   rw [if_pos rfl] at H
   simp only [Option.some.injEq, Prod.mk.injEq] at H
   obtain ⟨rfl, rfl, rfl, rfl⟩ := H
   go_enter Try.func35, Try.ntmps35
   go_wp2_with (first | ((with_reducible refine gate_dst (N := 2) rfl ?_); refine bx_ 2 #[.slice A0_0 l0_0.length c0_0, .int .i64 a0_1, .slice A0_2 l0_2.length c0_2] 61 ?_; intro gb148 hg w7 hbox hb; have BK148 := Aside0.mk (hbox); have GW148 := bG_ HB hg; have GE148 := bG_ HB hg; replace HB := bS_ HB hb; clear hb hbox hg) | ((with_reducible refine gate_dst (N := 4) rfl ?_); refine bx_ 4 #[.slice none 0 0, .int .i64 0, .slice none 0 0] 61 ?_; intro gb149 hg w8 hbox hb; have BK149 := Aside0.mk (hbox); have GW149 := bG_ HB hg; have GE149 := bG_ HB hg; replace HB := bS_ HB hb; have NB148_149 := nL_ BK148 hg; have NB149_148 := nG_ BK148 hg; replace BK148 := bK_ BK148 hb; clear hb hbox hg; have hnb9 := NB148_149.out; have hnc9 := NB149_148.out; obtain ⟨hcz10_0, hcz10_1, hcz10_2, hfz10_0, hfz10_1, hfz10_2⟩ := cz3_ BK148) | ((with_reducible refine gate_callee (f := 66) rfl ?_); refine gL_ (some 10) Try.func66 #[.agg #[.slice A0_0 l0_0.length c0_0, .int .i64 a0_1, .slice A0_2 l0_2.length c0_2]] ?_; (with_reducible refine (wal_own.calls k _ _ l0_0 a0_1 _ _ l0_2 t150 t153 t154 t157 _ ?_ ?_ ?_ ?_ A3.out).mono ?_); exact cB_ HR0_0 HB; exact HC0_0.out; exact cB_ HR0_2 HB; exact HC0_2.out; rintro e w11 ⟨v151, v155, rfl, ho0, ho1, hb⟩; refine ⟨_, rfl, ?_⟩; have HO152 := Aside0.mk (Kd.N_lower (Kd.N_mono (ok' := fun k_ => (w.heap.size ≤ k_) ∧ some k_ ≠ (v155 : Value).ownBlock ∧ k_ ≠ gb148 ∧ k_ ≠ gb149) (Kd.S_N (Kd.S_bound (Kd.S_apart' ho0 (Kd.S_typed ho1) (by decide)))) (fun k_ hk_ => ⟨(Nat.le_trans (bs_ HB) hk_.2.1), hk_.1.2, (Kd.freshB (bA_ BK148) k_ hk_.2.1), (Kd.freshB (bA_ BK149) k_ hk_.2.1)⟩)) (bs_ HB)); have HO156 := Aside0.mk (Kd.N_lower (Kd.N_mono (ok' := fun k_ => (w.heap.size ≤ k_) ∧ some k_ ≠ (v151 : Value).ownBlock ∧ k_ ≠ gb148 ∧ k_ ≠ gb149) (Kd.S_N (Kd.S_bound (Kd.S_apart' ho1 (Kd.S_typed ho0) (by decide)))) (fun k_ hk_ => ⟨(Nat.le_trans (bs_ HB) hk_.2.1), hk_.1.2, (Kd.freshB (bA_ BK148) k_ hk_.2.1), (Kd.freshB (bA_ BK149) k_ hk_.2.1)⟩)) (bs_ HB)); replace BK148 := bK_ BK148 hb; replace BK149 := bK_ BK149 hb; replace HB := bS_ HB hb; (try clear hb ho0 ho1)) | ((with_reducible refine gate_dst (N := 6) rfl ?_); refine bx_ 6 #[.slice none 0 0, .int .i64 0, .slice none 0 0] 61 ?_; intro gb158 hg w12 hbox hb; replace HO152 := Aside0.mk (Kd.N_below (Kd.N_elderB (nA_ HO152) gb158 (Nat.le_of_eq hg.symm)) hb); replace HO156 := Aside0.mk (Kd.N_below (Kd.N_elderB (nA_ HO156) gb158 (Nat.le_of_eq hg.symm)) hb); have BK158 := Aside0.mk (hbox); have GW158 := bG_ HB hg; have GE158 := bG_ HB hg; replace HB := bS_ HB hb; have NB148_158 := nL_ BK148 hg; have NB158_148 := nG_ BK148 hg; replace BK148 := bK_ BK148 hb; have NB149_158 := nL_ BK149 hg; have NB158_149 := nG_ BK149 hg; replace BK149 := bK_ BK149 hb; clear hb hbox hg; obtain ⟨Ao13, co13, eo13⟩ := Kd.N_slice HO152.out; subst eo13; have hnb14 := NB158_148.out; have hnc14 := NB148_158.out; have hnb15 := NB158_149.out; have hnc15 := NB149_158.out; obtain ⟨hcz16_0, hcz16_1, hcz16_2, hfz16_0, hfz16_1, hfz16_2⟩ := cz3_ BK158; obtain ⟨Ao17, co17, eo17⟩ := Kd.N_slice HO156.out; subst eo17) | ((with_reducible refine gate_callee (f := 67) rfl ?_); refine gL_ (some 20) Try.func67 #[.slice A1 l1.length c1, .func (.func 68) #[] #[]] ?_; (with_reducible refine (slices_ContainsFunc_byte_byte.calls _ _ l1 68 true _ ?_ ?_ A5.out).mono ?_); exact Kd.C_below HR1.out (bl_ HB); exact HC1.out; rintro e w18 ⟨rfl, hb⟩; refine ⟨_, rfl, ?_⟩; replace HO152 := Aside0.mk (Kd.N_below (nC_ HO152 (fun k_ hk => hk.2)) hb); replace HO156 := Aside0.mk (Kd.N_below (nC_ HO156 (fun k_ hk => hk.2)) hb); replace BK148 := bK_ BK148 hb; replace BK149 := bK_ BK149 hb; replace BK158 := Aside0.mk (blk_below (g := gb158) (o := .cells #[.slice Ao13 t150.length co13, .int .i64 t153, .slice Ao17 t154.length co17] 61 (0, 0)) (by (with_reducible repeat (first | refine blk_drewN ?_ _ | refine blk_drew ?_ | refine blk_alloc ?_ _)); refine blk_put (cs := #[.slice Ao13 t150.length co13, .int .i64 t153, .slice none 0 0]) ?_ 2 _ rfl; (with_reducible repeat (first | refine blk_drewN ?_ _ | refine blk_drew ?_ | refine blk_alloc ?_ _)); refine blk_put (cs := #[.slice Ao13 t150.length co13, .int .i64 0, .slice none 0 0]) ?_ 1 _ rfl; (with_reducible repeat (first | refine blk_drewN ?_ _ | refine blk_drew ?_ | refine blk_alloc ?_ _)); refine blk_put (cs := #[.slice none 0 0, .int .i64 0, .slice none 0 0]) ?_ 0 _ rfl; (with_reducible repeat (first | refine blk_drewN ?_ _ | refine blk_drew ?_ | refine blk_alloc ?_ _)); exact BK158.out) hb); replace HB := bS_ HB hb; (try clear hb); obtain ⟨hcz19_0, hcz19_1, hcz19_2, hfz19_0, hfz19_1, hfz19_2⟩ := cz3_ BK149))
   refine bodyPost_ret (results_ct rfl _ _ gb149 61 #[.slice none 0 0, .int .i64 0, .slice none 0 0] (0, 0) _ rfl (by (with_reducible repeat (first | refine blk_drewN ?_ _ | refine blk_drew ?_ | refine blk_alloc ?_ _)); refine blk_put (cs := #[.slice none 0 0, .int .i64 0, .slice none 0 0]) ?_ 2 _ rfl; (with_reducible repeat (first | refine blk_drewN ?_ _ | refine blk_drew ?_ | refine blk_alloc ?_ _)); refine blk_put (cs := #[.slice none 0 0, .int .i64 0, .slice none 0 0]) ?_ 1 _ rfl; (with_reducible repeat (first | refine blk_drewN ?_ _ | refine blk_drew ?_ | refine blk_alloc ?_ _)); refine blk_put (cs := #[.slice none 0 0, .int .i64 0, .slice none 0 0]) ?_ 0 _ rfl; (with_reducible repeat (first | refine blk_drewN ?_ _ | refine blk_drew ?_ | refine blk_alloc ?_ _)); exact BK149.out) Try.underlying61 rfl (by kernel_rfl)) rfl ?_
   exact ⟨_, _, fin_, nil_, nil_, bl_ HB⟩
  ·replace c6 := Bool.eq_false_iff.mpr c6
   subst c6
   rw [if_neg (show ¬ (false = true) by decide)] at H
   by_cases c20 : (wrap64 ((l0_2.length : Int) + (l1.length : Int))) > 4096
   ·rw [if_pos c20] at H
    have c20b0 : decide (4096 < (wrap64 ((l0_2.length : Int) + (l1.length : Int)))) = true := decide_eq_true c20
    clear c20
    simp only [Option.some.injEq, Prod.mk.injEq] at H
    obtain ⟨rfl, rfl, rfl, rfl⟩ := H
    go_enter Try.func35, Try.ntmps35
    go_wp2_with (first | ((with_reducible refine gate_dst (N := 2) rfl ?_); refine bx_ 2 #[.slice A0_0 l0_0.length c0_0, .int .i64 a0_1, .slice A0_2 l0_2.length c0_2] 61 ?_; intro gb148 hg w21 hbox hb; have BK148 := Aside0.mk (hbox); have GW148 := bG_ HB hg; have GE148 := bG_ HB hg; replace HB := bS_ HB hb; clear hb hbox hg) | ((with_reducible refine gate_dst (N := 4) rfl ?_); refine bx_ 4 #[.slice none 0 0, .int .i64 0, .slice none 0 0] 61 ?_; intro gb149 hg w22 hbox hb; have BK149 := Aside0.mk (hbox); have GW149 := bG_ HB hg; have GE149 := bG_ HB hg; replace HB := bS_ HB hb; have NB148_149 := nL_ BK148 hg; have NB149_148 := nG_ BK148 hg; replace BK148 := bK_ BK148 hb; clear hb hbox hg; have hnb23 := NB148_149.out; have hnc23 := NB149_148.out; obtain ⟨hcz24_0, hcz24_1, hcz24_2, hfz24_0, hfz24_1, hfz24_2⟩ := cz3_ BK148) | ((with_reducible refine gate_callee (f := 66) rfl ?_); refine gL_ (some 10) Try.func66 #[.agg #[.slice A0_0 l0_0.length c0_0, .int .i64 a0_1, .slice A0_2 l0_2.length c0_2]] ?_; (with_reducible refine (wal_own.calls k _ _ l0_0 a0_1 _ _ l0_2 t150 t153 t154 t157 _ ?_ ?_ ?_ ?_ A3.out).mono ?_); exact cB_ HR0_0 HB; exact HC0_0.out; exact cB_ HR0_2 HB; exact HC0_2.out; rintro e w25 ⟨v151, v155, rfl, ho0, ho1, hb⟩; refine ⟨_, rfl, ?_⟩; have HO152 := Aside0.mk (Kd.N_lower (Kd.N_mono (ok' := fun k_ => (w.heap.size ≤ k_) ∧ some k_ ≠ (v155 : Value).ownBlock ∧ k_ ≠ gb148 ∧ k_ ≠ gb149) (Kd.S_N (Kd.S_bound (Kd.S_apart' ho0 (Kd.S_typed ho1) (by decide)))) (fun k_ hk_ => ⟨(Nat.le_trans (bs_ HB) hk_.2.1), hk_.1.2, (Kd.freshB (bA_ BK148) k_ hk_.2.1), (Kd.freshB (bA_ BK149) k_ hk_.2.1)⟩)) (bs_ HB)); have HO156 := Aside0.mk (Kd.N_lower (Kd.N_mono (ok' := fun k_ => (w.heap.size ≤ k_) ∧ some k_ ≠ (v151 : Value).ownBlock ∧ k_ ≠ gb148 ∧ k_ ≠ gb149) (Kd.S_N (Kd.S_bound (Kd.S_apart' ho1 (Kd.S_typed ho0) (by decide)))) (fun k_ hk_ => ⟨(Nat.le_trans (bs_ HB) hk_.2.1), hk_.1.2, (Kd.freshB (bA_ BK148) k_ hk_.2.1), (Kd.freshB (bA_ BK149) k_ hk_.2.1)⟩)) (bs_ HB)); replace BK148 := bK_ BK148 hb; replace BK149 := bK_ BK149 hb; replace HB := bS_ HB hb; (try clear hb ho0 ho1)) | ((with_reducible refine gate_dst (N := 6) rfl ?_); refine bx_ 6 #[.slice none 0 0, .int .i64 0, .slice none 0 0] 61 ?_; intro gb158 hg w26 hbox hb; replace HO152 := Aside0.mk (Kd.N_below (Kd.N_elderB (nA_ HO152) gb158 (Nat.le_of_eq hg.symm)) hb); replace HO156 := Aside0.mk (Kd.N_below (Kd.N_elderB (nA_ HO156) gb158 (Nat.le_of_eq hg.symm)) hb); have BK158 := Aside0.mk (hbox); have GW158 := bG_ HB hg; have GE158 := bG_ HB hg; replace HB := bS_ HB hb; have NB148_158 := nL_ BK148 hg; have NB158_148 := nG_ BK148 hg; replace BK148 := bK_ BK148 hb; have NB149_158 := nL_ BK149 hg; have NB158_149 := nG_ BK149 hg; replace BK149 := bK_ BK149 hb; clear hb hbox hg; obtain ⟨Ao27, co27, eo27⟩ := Kd.N_slice HO152.out; subst eo27; have hnb28 := NB158_148.out; have hnc28 := NB148_158.out; have hnb29 := NB158_149.out; have hnc29 := NB149_158.out; obtain ⟨hcz30_0, hcz30_1, hcz30_2, hfz30_0, hfz30_1, hfz30_2⟩ := cz3_ BK158; obtain ⟨Ao31, co31, eo31⟩ := Kd.N_slice HO156.out; subst eo31) | ((with_reducible refine gate_callee (f := 67) rfl ?_); refine gL_ (some 20) Try.func67 #[.slice A1 l1.length c1, .func (.func 68) #[] #[]] ?_; (with_reducible refine (slices_ContainsFunc_byte_byte.calls _ _ l1 68 false _ ?_ ?_ A5.out).mono ?_); exact Kd.C_below HR1.out (bl_ HB); exact HC1.out; rintro e w32 ⟨rfl, hb⟩; refine ⟨_, rfl, ?_⟩; replace HO152 := Aside0.mk (Kd.N_below (nC_ HO152 (fun k_ hk => hk.2)) hb); replace HO156 := Aside0.mk (Kd.N_below (nC_ HO156 (fun k_ hk => hk.2)) hb); replace BK148 := bK_ BK148 hb; replace BK149 := bK_ BK149 hb; replace BK158 := Aside0.mk (blk_below (g := gb158) (o := .cells #[.slice Ao27 t150.length co27, .int .i64 t153, .slice Ao31 t154.length co31] 61 (0, 0)) (by (with_reducible repeat (first | refine blk_drewN ?_ _ | refine blk_drew ?_ | refine blk_alloc ?_ _)); refine blk_put (cs := #[.slice Ao27 t150.length co27, .int .i64 t153, .slice none 0 0]) ?_ 2 _ rfl; (with_reducible repeat (first | refine blk_drewN ?_ _ | refine blk_drew ?_ | refine blk_alloc ?_ _)); refine blk_put (cs := #[.slice Ao27 t150.length co27, .int .i64 0, .slice none 0 0]) ?_ 1 _ rfl; (with_reducible repeat (first | refine blk_drewN ?_ _ | refine blk_drew ?_ | refine blk_alloc ?_ _)); refine blk_put (cs := #[.slice none 0 0, .int .i64 0, .slice none 0 0]) ?_ 0 _ rfl; (with_reducible repeat (first | refine blk_drewN ?_ _ | refine blk_drew ?_ | refine blk_alloc ?_ _)); exact BK158.out) hb); replace HB := bS_ HB hb; (try clear hb); obtain ⟨hcz33_0, hcz33_1, hcz33_2, hfz33_0, hfz33_1, hfz33_2⟩ := cz3_ BK148; obtain ⟨hcz34_0, hcz34_1, hcz34_2, hfz34_0, hfz34_1, hfz34_2⟩ := cz3_ BK149))
    refine bodyPost_ret (results_ct rfl _ _ gb149 61 #[.slice none 0 0, .int .i64 0, .slice none 0 0] (0, 0) _ rfl (by (with_reducible repeat (first | refine blk_drewN ?_ _ | refine blk_drew ?_ | refine blk_alloc ?_ _)); refine blk_put (cs := #[.slice none 0 0, .int .i64 0, .slice none 0 0]) ?_ 2 _ rfl; (with_reducible repeat (first | refine blk_drewN ?_ _ | refine blk_drew ?_ | refine blk_alloc ?_ _)); refine blk_put (cs := #[.slice none 0 0, .int .i64 0, .slice none 0 0]) ?_ 1 _ rfl; (with_reducible repeat (first | refine blk_drewN ?_ _ | refine blk_drew ?_ | refine blk_alloc ?_ _)); refine blk_put (cs := #[.slice none 0 0, .int .i64 0, .slice none 0 0]) ?_ 0 _ rfl; (with_reducible repeat (first | refine blk_drewN ?_ _ | refine blk_drew ?_ | refine blk_alloc ?_ _)); exact BK149.out) Try.underlying61 rfl (by kernel_rfl)) rfl ?_
    exact ⟨_, _, fin_, nil_, nil_, bl_ HB⟩
   ·rw [if_neg c20] at H
    have c20b0 : decide (4096 < (wrap64 ((l0_2.length : Int) + (l1.length : Int)))) = false := decide_eq_false c20
    clear c20
    replace H := Option.bind_eq_some_iff.mp H
    obtain ⟨t160, A350, H⟩ := H
    try dsimp only at H
    have A35 := Aside0.mk A350
    clear A350
    by_cases c36 : t154.length + t160.length < 5864062014805
    ·rw [if_pos c36] at H
     have LMc36 := Aside0.mk c36
     clear c36
     obtain ⟨y163, hy163⟩ : ∃ y_ : List (List Int), y_ = (t154 ++ t160) := ⟨_, rfl⟩
     replace H : (some (t150, t153, y163, 0)) = some (r1, r2, r3, r4) := by first | (rw [hy163]; with_reducible exact H) | (have H2_ := (Option.bind_some _ _).symm.trans H; rw [hy163]; with_reducible exact H2_) | (have H2_ := (Option.bind_some _ _).symm.trans H; with_reducible exact H2_) | with_reducible exact H | (rw [hy163]; exact H) | exact H
     have Ny163 := Aside0.mk hy163
     clear hy163
     simp only [Option.some.injEq, Prod.mk.injEq] at H
     obtain ⟨rfl, rfl, rfl, rfl⟩ := H
     go_enter Try.func35, Try.ntmps35
     try go_wp2_with (first | ((with_reducible refine gate_dst (N := 2) rfl ?_); refine bx_ 2 #[.slice A0_0 l0_0.length c0_0, .int .i64 a0_1, .slice A0_2 l0_2.length c0_2] 61 ?_; intro gb148 hg w37 hbox hb; have BK148 := Aside0.mk (hbox); have GW148 := bG_ HB hg; have GE148 := bG_ HB hg; replace HB := bS_ HB hb; clear hb hbox hg) | ((with_reducible refine gate_dst (N := 4) rfl ?_); refine bx_ 4 #[.slice none 0 0, .int .i64 0, .slice none 0 0] 61 ?_; intro gb149 hg w38 hbox hb; have BK149 := Aside0.mk (hbox); have GW149 := bG_ HB hg; have GE149 := bG_ HB hg; replace HB := bS_ HB hb; have NB148_149 := nL_ BK148 hg; have NB149_148 := nG_ BK148 hg; replace BK148 := bK_ BK148 hb; clear hb hbox hg; have hnb39 := NB148_149.out; have hnc39 := NB149_148.out; obtain ⟨hcz40_0, hcz40_1, hcz40_2, hfz40_0, hfz40_1, hfz40_2⟩ := cz3_ BK148) | ((with_reducible refine gate_callee (f := 66) rfl ?_); refine gL_ (some 10) Try.func66 #[.agg #[.slice A0_0 l0_0.length c0_0, .int .i64 a0_1, .slice A0_2 l0_2.length c0_2]] ?_; (with_reducible refine (wal_own.calls k _ _ l0_0 a0_1 _ _ l0_2 t150 t153 t154 t157 _ ?_ ?_ ?_ ?_ A3.out).mono ?_); exact cB_ HR0_0 HB; exact HC0_0.out; exact cB_ HR0_2 HB; exact HC0_2.out; rintro e w41 ⟨v151, v155, rfl, ho0, ho1, hb⟩; refine ⟨_, rfl, ?_⟩; have HO152 := Aside0.mk (Kd.N_lower (Kd.N_mono (ok' := fun k_ => (w.heap.size ≤ k_) ∧ some k_ ≠ (v155 : Value).ownBlock ∧ k_ ≠ gb148 ∧ k_ ≠ gb149) (Kd.S_N (Kd.S_bound (Kd.S_apart' ho0 (Kd.S_typed ho1) (by decide)))) (fun k_ hk_ => ⟨(Nat.le_trans (bs_ HB) hk_.2.1), hk_.1.2, (Kd.freshB (bA_ BK148) k_ hk_.2.1), (Kd.freshB (bA_ BK149) k_ hk_.2.1)⟩)) (bs_ HB)); have HO156 := Aside0.mk (Kd.N_lower (Kd.N_mono (ok' := fun k_ => (w.heap.size ≤ k_) ∧ some k_ ≠ (v151 : Value).ownBlock ∧ k_ ≠ gb148 ∧ k_ ≠ gb149) (Kd.S_N (Kd.S_bound (Kd.S_apart' ho1 (Kd.S_typed ho0) (by decide)))) (fun k_ hk_ => ⟨(Nat.le_trans (bs_ HB) hk_.2.1), hk_.1.2, (Kd.freshB (bA_ BK148) k_ hk_.2.1), (Kd.freshB (bA_ BK149) k_ hk_.2.1)⟩)) (bs_ HB)); replace BK148 := bK_ BK148 hb; replace BK149 := bK_ BK149 hb; replace HB := bS_ HB hb; (try clear hb ho0 ho1)) | ((with_reducible refine gate_dst (N := 6) rfl ?_); refine bx_ 6 #[.slice none 0 0, .int .i64 0, .slice none 0 0] 61 ?_; intro gb158 hg w42 hbox hb; replace HO152 := Aside0.mk (Kd.N_below (Kd.N_elderB (nA_ HO152) gb158 (Nat.le_of_eq hg.symm)) hb); replace HO156 := Aside0.mk (Kd.N_below (Kd.N_elderB (nA_ HO156) gb158 (Nat.le_of_eq hg.symm)) hb); have BK158 := Aside0.mk (hbox); have GW158 := bG_ HB hg; have GE158 := bG_ HB hg; replace HB := bS_ HB hb; have NB148_158 := nL_ BK148 hg; have NB158_148 := nG_ BK148 hg; replace BK148 := bK_ BK148 hb; have NB149_158 := nL_ BK149 hg; have NB158_149 := nG_ BK149 hg; replace BK149 := bK_ BK149 hb; clear hb hbox hg; obtain ⟨Ao43, co43, eo43⟩ := Kd.N_slice HO152.out; subst eo43; have hnb44 := NB158_148.out; have hnc44 := NB148_158.out; have hnb45 := NB158_149.out; have hnc45 := NB149_158.out; obtain ⟨hcz46_0, hcz46_1, hcz46_2, hfz46_0, hfz46_1, hfz46_2⟩ := cz3_ BK158; obtain ⟨Ao47, co47, eo47⟩ := Kd.N_slice HO156.out; subst eo47) | ((with_reducible refine gate_callee (f := 67) rfl ?_); refine gL_ (some 20) Try.func67 #[.slice A1 l1.length c1, .func (.func 68) #[] #[]] ?_; (with_reducible refine (slices_ContainsFunc_byte_byte.calls _ _ l1 68 false _ ?_ ?_ A5.out).mono ?_); exact Kd.C_below HR1.out (bl_ HB); exact HC1.out; rintro e w48 ⟨rfl, hb⟩; refine ⟨_, rfl, ?_⟩; replace HO152 := Aside0.mk (Kd.N_below (nC_ HO152 (fun k_ hk => hk.2)) hb); replace HO156 := Aside0.mk (Kd.N_below (nC_ HO156 (fun k_ hk => hk.2)) hb); replace BK148 := bK_ BK148 hb; replace BK149 := bK_ BK149 hb; replace BK158 := Aside0.mk (blk_below (g := gb158) (o := .cells #[.slice Ao43 t150.length co43, .int .i64 t153, .slice Ao47 t154.length co47] 61 (0, 0)) (by (with_reducible repeat (first | refine blk_drewN ?_ _ | refine blk_drew ?_ | refine blk_alloc ?_ _)); refine blk_put (cs := #[.slice Ao43 t150.length co43, .int .i64 t153, .slice none 0 0]) ?_ 2 _ rfl; (with_reducible repeat (first | refine blk_drewN ?_ _ | refine blk_drew ?_ | refine blk_alloc ?_ _)); refine blk_put (cs := #[.slice Ao43 t150.length co43, .int .i64 0, .slice none 0 0]) ?_ 1 _ rfl; (with_reducible repeat (first | refine blk_drewN ?_ _ | refine blk_drew ?_ | refine blk_alloc ?_ _)); refine blk_put (cs := #[.slice none 0 0, .int .i64 0, .slice none 0 0]) ?_ 0 _ rfl; (with_reducible repeat (first | refine blk_drewN ?_ _ | refine blk_drew ?_ | refine blk_alloc ?_ _)); exact BK158.out) hb); replace HB := bS_ HB hb; (try clear hb); obtain ⟨hcz49_0, hcz49_1, hcz49_2, hfz49_0, hfz49_1, hfz49_2⟩ := cz3_ BK148))
     replace HO152 := Aside0.mk (Kd.N_drew HO152.out)
     replace HO156 := Aside0.mk (Kd.N_drew HO156.out)
     replace BK148 := Aside0.mk (blk_drew BK148.out)
     replace BK149 := Aside0.mk (blk_drew BK149.out)
     replace BK158 := Aside0.mk (blk_drew BK158.out)
     replace HB := Aside0.mk (below_drew1 HB.out)
     refine start_ (n := 7) (S := fun w' => w'.cell? ⟨gb158, 0, none⟩ = some (.slice Ao43 t150.length co43) ∧ w'.cell? ⟨gb158, 1, none⟩ = some (.int .i64 t153) ∧ w'.cell? ⟨gb158, 2, none⟩ = some (.slice Ao47 t154.length co47)) (ds := [6]) #[false, false, false, false, false, false, false] (by kernel_rfl) rfl rfl ⟨(blk_cell BK158.out 0).trans rfl, (blk_cell BK158.out 1).trans rfl, (blk_cell BK158.out 2).trans rfl⟩ (fun hHeld => ?_)
     generalize w48.drew = w50 at HO152 HO156 BK148 BK149 BK158 HB hHeld ⊢
     refine pure_ (i := 0) (N := some 31) (v := ?_) (a' := ?_) #[true, false, false, false, false, false, false] rfl rfl (by kernel_rfl) (fun _ _ _ h => h) (Or.inl ⟨by rfl, ?_⟩) ?_ ?_
     rotate_left
     ·intro w'
      go_simp
      with_reducible rfl
     rotate_left
     ·simp only [Act.put, List.setIfInBounds_toArray, List.set_cons_zero, List.set_cons_succ, i64_w, i32_w]
      rfl
     refine pure_ (i := 2) (N := some 33) (v := ?_) (a' := ?_) #[true, false, true, false, false, false, false] rfl rfl (by kernel_rfl) (fun _ _ _ h => h) (Or.inl ⟨by rfl, ?_⟩) ?_ ?_
     rotate_left
     ·intro w'
      go_simp
      with_reducible rfl
     rotate_left
     ·simp only [Act.put, List.setIfInBounds_toArray, List.set_cons_zero, List.set_cons_succ, i64_w, i32_w]
      rfl
     refine take_ (i := 1) (N := some 32) (v := ?_) (a' := ?_) #[true, true, true, false, false, false, false] rfl rfl (by kernel_rfl) (fun _ _ _ h => h) (Or.inl ⟨by rfl, ?_⟩) hHeld ?_ ?_
     rotate_left
     ·rintro w' ⟨s0, s1, s2⟩
      go_simp
      with_reducible rfl
     rotate_left
     ·simp only [Act.put, List.setIfInBounds_toArray, List.set_cons_zero, List.set_cons_succ, i64_w, i32_w]
      rfl
     refine one_ (i := 3) (N := some 34) #[true, true, true, true, false, false, false] rfl rfl (by kernel_rfl) (by decide) (fun K hK => ?_)
     refine goes_ Try.func69 (by kernel_rfl) rfl #[.slice A1 l1.length c1] (by rfl) rfl rfl (by (try simp only [List.map_toArray, List.map_cons, List.map_nil]); first | done | rfl | (simp only [List.length_drop, List.length_take]; rfl)) ?_
     with_reducible refine (wal_cloneAll.calls k _ _ l1 t160 _ ?_ ?_ A35.out).mono ?_
     exact cB_ HR1 HB
     exact HC1.out
     rintro e w51 ⟨v161, rfl, ho0, hb⟩
     refine ⟨_, rfl, ?_⟩
     have HO162 := Aside0.mk (Kd.N_lower (Kd.N_mono (ok' := fun k_ => (w.heap.size ≤ k_) ∧ some k_ ≠ (.slice Ao43 t150.length co43 : Value).ownBlock ∧ some k_ ≠ (.slice Ao47 t154.length co47 : Value).ownBlock ∧ k_ ≠ gb148 ∧ k_ ≠ gb149 ∧ k_ ≠ gb158) (Kd.S_N (Kd.S_bound ho0)) (fun k_ hk_ => ⟨(Nat.le_trans (bs_ HB) hk_.2.1), (Kd.fresh' (Kd.N_lt (nA_ HO152)) k_ hk_.2.1), (Kd.fresh' (Kd.N_lt (nA_ HO156)) k_ hk_.2.1), (Kd.freshB (bA_ BK148) k_ hk_.2.1), (Kd.freshB (bA_ BK149) k_ hk_.2.1), (Kd.freshB (bA_ BK158) k_ hk_.2.1)⟩)) (bs_ HB))
     replace HO152 := Aside0.mk (Kd.N_elder' (nA_ HO152) (Kd.S_base ho0) hb)
     replace HO156 := Aside0.mk (Kd.N_elder' (nA_ HO156) (Kd.S_base ho0) hb)
     replace BK148 := bK_ BK148 hb
     replace BK149 := bK_ BK149 hb
     replace BK158 := bK_ BK158 hb
     replace HB := bS_ HB hb
     (try clear hb ho0)
     obtain ⟨Ao53, co53, eo53⟩ := Kd.N_slice HO162.out
     (first | subst eo53 | (injection eo53 with f1_ f2_ f3_; have f4_ := f1_.symm; have f5_ := f3_.symm; clear f1_ f2_ f3_; subst f4_; subst f5_))
     refine hK.out _ _ ⟨(blk_cell BK158.out 0).trans rfl, (blk_cell BK158.out 1).trans rfl, (blk_cell BK158.out 2).trans rfl⟩ (fun hHeld => ?_)
     clear hK K
     refine norm_ (a' := ?_) ?_ ?_
     rotate_left
     ·show Act.put _ (some 34) _ = _
      simp only [Act.put, List.setIfInBounds_toArray, List.set_cons_zero, List.set_cons_succ, i64_w, i32_w]
      rfl
     refine one_ (i := 4) (N := some 35) #[true, true, true, true, true, false, false] rfl rfl (by kernel_rfl) (by decide) (fun K hK => ?_)
     refine Kd.N_append_rows_step (Kd.slice 5 (Kd.int .u8)) (w0 := w) w.heap.size (by rfl) (.tmp 32) (.tmp 34) 56 26 (.slice none 0 0) 24 rfl Try.underlying56 info26 rfl (by decide) (by omega) (.slice Ao47 t154.length co47) t154 t160 _ _ _ (fun k_ => (w.heap.size ≤ k_) ∧ some k_ ≠ (.slice Ao43 t150.length co43 : Value).ownBlock ∧ k_ ≠ gb148 ∧ k_ ≠ gb149 ∧ k_ ≠ gb158) (fun k_ => ((fun k_ => (w.heap.size ≤ k_) ∧ some k_ ≠ (.slice Ao43 t150.length co43 : Value).ownBlock ∧ k_ ≠ gb148 ∧ k_ ≠ gb149 ∧ k_ ≠ gb158)) k_ ∧ some k_ ≠ (.slice Ao47 t154.length co47 : Value).ownBlock) rfl rfl ?aO ?aR (fun _ hk => hk) ?aF ?aB ?aS ?aL ?_
     (case aR => exact (by skip; exact Kd.N_F (Kd.N_mono (ok' := (fun k_ => ((fun k_ => (w.heap.size ≤ k_) ∧ some k_ ≠ (.slice Ao43 t150.length co43 : Value).ownBlock ∧ k_ ≠ gb148 ∧ k_ ≠ gb149 ∧ k_ ≠ gb158)) k_ ∧ some k_ ≠ (.slice Ao47 t154.length co47 : Value).ownBlock)) (HO162.out) (fun k_ hk => ⟨⟨hk.1, ⟨hk.2.1, ⟨hk.2.2.2.1, ⟨hk.2.2.2.2.1, hk.2.2.2.2.2⟩⟩⟩⟩, hk.2.2.1⟩))))
     (case aB => exact (bl_ HB))
     (case aF => exact (fun k_ hk => ⟨(Nat.le_trans (bs_ HB) hk), Kd.fresh' (Kd.N_lt (nA_ HO152)) k_ hk, Kd.freshB (bA_ BK148) k_ hk, Kd.freshB (bA_ BK149) k_ hk, Kd.freshB (bA_ BK158) k_ hk⟩))
     (case aO => exact (by (with_reducible repeat (first | apply Kd.N_alloc | apply Kd.N_drewN | apply Kd.N_drew)); exact Kd.N_mono HO156.out (fun _ hk => ⟨hk.1.1.1, ⟨hk.1.1.2.1, ⟨hk.1.1.2.2.1, ⟨hk.1.1.2.2.2, hk.1.2⟩⟩⟩⟩)))
     (case aS => exact (bs_ HB))
     (case aL => have := LMc36.out; omega)
     intro v164 w52 ho hb hg hat
     rw [← Ny163.out] at ho
     replace BK148 := Aside0.mk (blk_grown (bA_ BK148) hg (Kd.N_ne HO156.out BK148.out (by decide)))
     replace BK149 := Aside0.mk (blk_grown (bA_ BK149) hg (Kd.N_ne HO156.out BK149.out (by decide)))
     replace HO152 := Aside0.mk (Kd.N_afterv (ok := (fun k_ => (w.heap.size ≤ k_) ∧ some k_ ≠ (.slice Ao53 t160.length co53 : Value).ownBlock ∧ k_ ≠ gb148 ∧ k_ ≠ gb149 ∧ k_ ≠ gb158)) (by (with_reducible repeat (first | apply Kd.N_alloc | apply Kd.N_drewN | apply Kd.N_drew)); exact Kd.N_mono HO152.out (fun _ hk => ⟨⟨hk.1.1.1, ⟨hk.2, ⟨hk.1.1.2.2.1, ⟨hk.1.1.2.2.2, hk.1.2⟩⟩⟩⟩, hk.1.1.2.1⟩)) hg hat)
     replace BK158 := Aside0.mk (blk_grown (bA_ BK158) hg (Kd.N_ne HO156.out BK158.out (by decide)))
     replace HO162 := Aside0.mk (Kd.N_afterv (ok := (fun k_ => (w.heap.size ≤ k_) ∧ some k_ ≠ (.slice Ao43 t150.length co43 : Value).ownBlock ∧ k_ ≠ gb148 ∧ k_ ≠ gb149 ∧ k_ ≠ gb158)) (by (with_reducible repeat (first | apply Kd.N_alloc | apply Kd.N_drewN | apply Kd.N_drew)); exact Kd.N_mono HO162.out (fun _ hk => ⟨⟨hk.1, ⟨hk.2.1, ⟨hk.2.2.2.1, ⟨hk.2.2.2.2.1, hk.2.2.2.2.2⟩⟩⟩⟩, hk.2.2.1⟩)) hg hat)
     replace HB := Aside0.mk (hb)
     have HO165 := Aside0.mk (ho)
     clear HO156
     clear ho hb hg hat
     obtain ⟨Ao54, co54, eo54⟩ := Kd.N_slice HO165.out
     (first | subst eo54 | (injection eo54 with f1_ f2_ f3_; have f4_ := f1_.symm; have f5_ := f3_.symm; clear f1_ f2_ f3_; subst f4_; subst f5_))
     refine hK.out _ _ ⟨(blk_cell BK158.out 0).trans rfl, (blk_cell BK158.out 1).trans rfl, (blk_cell BK158.out 2).trans rfl⟩ (fun hHeld => ?_)
     clear hK K
     refine norm_ (a' := ?_) ?_ ?_
     rotate_left
     ·show Act.put _ (some 35) _ = _
      simp only [Act.put, List.setIfInBounds_toArray, List.set_cons_zero, List.set_cons_succ, i64_w, i32_w]
      rfl
     refine pure_ (i := 5) (N := some 36) (v := ?_) (a' := ?_) #[true, true, true, true, true, true, false] rfl rfl (by kernel_rfl) (fun _ _ _ h => h) (Or.inl ⟨by rfl, ?_⟩) ?_ ?_
     rotate_left
     ·intro w'
      go_simp
      with_reducible rfl
     rotate_left
     ·simp only [Act.put, List.setIfInBounds_toArray, List.set_cons_zero, List.set_cons_succ, i64_w, i32_w]
      rfl
     refine last_ (i := 6) (N := none) #[true, true, true, true, true, true, true] rfl rfl (by kernel_rfl) (by decide) (fun K hK => ?_)
     have hs55 : w52.cell? ⟨gb158, 2, none⟩ = some (.slice Ao47 t154.length co47) := (blk_cell BK158.out 2).trans rfl
     have hfs55 := blk_frozen BK158.out 2
     have hns55_0 := NB148_158.out
     have hns55_1 := NB149_158.out
     have hms55_0 := NB158_148.out
     have hms55_1 := NB158_149.out
     refine skip_ (w1 := ?_) (by rfl) rfl ?_ ?_
     rotate_left
     ·go_simp
      rfl
     refine hK.out _ _ ?_
     clear hK K
     refine done_ (by kernel_rfl) ?_
     obtain ⟨hcz56_0, hcz56_1, hcz56_2, hfz56_0, hfz56_1, hfz56_2⟩ := cz3_ BK158
     obtain ⟨hcz57_0, hcz57_1, hcz57_2, hfz57_0, hfz57_1, hfz57_2⟩ := cz3_ BK149
     try go_wp2
     refine bodyPost_ret (results_ct rfl _ _ gb149 61 #[.slice Ao43 t150.length co43, .int .i64 t153, .slice Ao54 y163.length co54] (0, 0) _ rfl (by (with_reducible repeat (first | refine blk_drewN ?_ _ | refine blk_drew ?_ | refine blk_alloc ?_ _)); refine blk_put (cs := #[.slice Ao43 t150.length co43, .int .i64 t153, .slice none 0 0]) ?_ 2 _ rfl; (with_reducible repeat (first | refine blk_drewN ?_ _ | refine blk_drew ?_ | refine blk_alloc ?_ _)); refine blk_put (cs := #[.slice Ao43 t150.length co43, .int .i64 0, .slice none 0 0]) ?_ 1 _ rfl; (with_reducible repeat (first | refine blk_drewN ?_ _ | refine blk_drew ?_ | refine blk_alloc ?_ _)); refine blk_put (cs := #[.slice none 0 0, .int .i64 0, .slice none 0 0]) ?_ 0 _ rfl; (with_reducible repeat (first | refine blk_drewN ?_ _ | refine blk_drew ?_ | refine blk_alloc ?_ _)); refine blk_far ?_ NB149_158.out _; (with_reducible repeat (first | refine blk_drewN ?_ _ | refine blk_drew ?_ | refine blk_alloc ?_ _)); exact BK149.out) Try.underlying61 rfl (by kernel_rfl)) rfl ?_
     exact ⟨_, _, fin_, by (with_reducible repeat (first | apply Kd.N_alloc | apply Kd.N_drewN | apply Kd.N_drew)); exact Kd.N_mono (Kd.N_far (p := ⟨gb149, 2, none⟩) (Kd.N_far (p := ⟨gb149, 1, none⟩) (Kd.N_far (p := ⟨gb149, 0, none⟩) (Kd.N_far (p := ⟨gb158, 2, none⟩) (Kd.N_mono (Kd.N_mono HO152.out (fun k_ hk => (⟨hk, hk.1.2.2.2.2⟩ : _ ∧ k_ ≠ gb158))) (fun k_ hk => (⟨hk, hk.1.1.2.2.2.1⟩ : _ ∧ k_ ≠ gb149))) (fun _ hk => hk.1.2) (.slice Ao54 y163.length co54)) (fun _ hk => hk.2) (.slice Ao43 t150.length co43)) (fun _ hk => hk.2) (.int .i64 t153)) (fun _ hk => hk.2) (.slice Ao54 y163.length co54)) (fun _ hk => ⟨hk.1.1.1.1, hk.1.1.2⟩), by (with_reducible repeat (first | apply Kd.N_alloc | apply Kd.N_drewN | apply Kd.N_drew)); exact Kd.N_mono (Kd.N_far (p := ⟨gb149, 2, none⟩) (Kd.N_far (p := ⟨gb149, 1, none⟩) (Kd.N_far (p := ⟨gb149, 0, none⟩) (Kd.N_far (p := ⟨gb158, 2, none⟩) (Kd.N_mono (Kd.N_mono HO165.out (fun k_ hk => (⟨hk, hk.2.2.2.2⟩ : _ ∧ k_ ≠ gb158))) (fun k_ hk => (⟨hk, hk.1.2.2.2.1⟩ : _ ∧ k_ ≠ gb149))) (fun _ hk => hk.1.2) (.slice Ao54 y163.length co54)) (fun _ hk => hk.2) (.slice Ao43 t150.length co43)) (fun _ hk => hk.2) (.int .i64 t153)) (fun _ hk => hk.2) (.slice Ao54 y163.length co54)) (fun _ hk => ⟨hk.1.1.1, hk.1.1.2.1⟩), bl_ HB⟩
    ·rw [if_neg c36] at H
     exact absurd H (by simp)
 ·rw [if_neg c4] at H
  have c4b0 : (t157 == 0) = false := beq_eq_false_iff_ne.mpr c4
  have c4b1 : (t157 != 0) = true := bne_iff_ne.mpr c4
  simp only [Option.some.injEq, Prod.mk.injEq] at H
  obtain ⟨rfl, rfl, rfl, rfl⟩ := H
  go_enter Try.func35, Try.ntmps35
  go_wp2_with (first | ((with_reducible refine gate_dst (N := 2) rfl ?_); refine bx_ 2 #[.slice A0_0 l0_0.length c0_0, .int .i64 a0_1, .slice A0_2 l0_2.length c0_2] 61 ?_; intro gb148 hg w58 hbox hb; have BK148 := Aside0.mk (hbox); have GW148 := bG_ HB hg; have GE148 := bG_ HB hg; replace HB := bS_ HB hb; clear hb hbox hg) | ((with_reducible refine gate_dst (N := 4) rfl ?_); refine bx_ 4 #[.slice none 0 0, .int .i64 0, .slice none 0 0] 61 ?_; intro gb149 hg w59 hbox hb; have BK149 := Aside0.mk (hbox); have GW149 := bG_ HB hg; have GE149 := bG_ HB hg; replace HB := bS_ HB hb; have NB148_149 := nL_ BK148 hg; have NB149_148 := nG_ BK148 hg; replace BK148 := bK_ BK148 hb; clear hb hbox hg; have hnb60 := NB148_149.out; have hnc60 := NB149_148.out; obtain ⟨hcz61_0, hcz61_1, hcz61_2, hfz61_0, hfz61_1, hfz61_2⟩ := cz3_ BK148) | ((with_reducible refine gate_callee (f := 66) rfl ?_); refine gL_ (some 10) Try.func66 #[.agg #[.slice A0_0 l0_0.length c0_0, .int .i64 a0_1, .slice A0_2 l0_2.length c0_2]] ?_; (with_reducible refine (wal_own.calls k _ _ l0_0 a0_1 _ _ l0_2 t150 t153 t154 t157 _ ?_ ?_ ?_ ?_ A3.out).mono ?_); exact cB_ HR0_0 HB; exact HC0_0.out; exact cB_ HR0_2 HB; exact HC0_2.out; rintro e w62 ⟨v151, v155, rfl, ho0, ho1, hb⟩; refine ⟨_, rfl, ?_⟩; have HO152 := Aside0.mk (Kd.N_lower (Kd.N_mono (ok' := fun k_ => (w.heap.size ≤ k_) ∧ some k_ ≠ (v155 : Value).ownBlock ∧ k_ ≠ gb148 ∧ k_ ≠ gb149) (Kd.S_N (Kd.S_bound (Kd.S_apart' ho0 (Kd.S_typed ho1) (by decide)))) (fun k_ hk_ => ⟨(Nat.le_trans (bs_ HB) hk_.2.1), hk_.1.2, (Kd.freshB (bA_ BK148) k_ hk_.2.1), (Kd.freshB (bA_ BK149) k_ hk_.2.1)⟩)) (bs_ HB)); have HO156 := Aside0.mk (Kd.N_lower (Kd.N_mono (ok' := fun k_ => (w.heap.size ≤ k_) ∧ some k_ ≠ (v151 : Value).ownBlock ∧ k_ ≠ gb148 ∧ k_ ≠ gb149) (Kd.S_N (Kd.S_bound (Kd.S_apart' ho1 (Kd.S_typed ho0) (by decide)))) (fun k_ hk_ => ⟨(Nat.le_trans (bs_ HB) hk_.2.1), hk_.1.2, (Kd.freshB (bA_ BK148) k_ hk_.2.1), (Kd.freshB (bA_ BK149) k_ hk_.2.1)⟩)) (bs_ HB)); replace BK148 := bK_ BK148 hb; replace BK149 := bK_ BK149 hb; replace HB := bS_ HB hb; (try clear hb ho0 ho1)) | ((with_reducible refine gate_dst (N := 6) rfl ?_); refine bx_ 6 #[.slice none 0 0, .int .i64 0, .slice none 0 0] 61 ?_; intro gb158 hg w63 hbox hb; replace HO152 := Aside0.mk (Kd.N_below (Kd.N_elderB (nA_ HO152) gb158 (Nat.le_of_eq hg.symm)) hb); replace HO156 := Aside0.mk (Kd.N_below (Kd.N_elderB (nA_ HO156) gb158 (Nat.le_of_eq hg.symm)) hb); have BK158 := Aside0.mk (hbox); have GW158 := bG_ HB hg; have GE158 := bG_ HB hg; replace HB := bS_ HB hb; have NB148_158 := nL_ BK148 hg; have NB158_148 := nG_ BK148 hg; replace BK148 := bK_ BK148 hb; have NB149_158 := nL_ BK149 hg; have NB158_149 := nG_ BK149 hg; replace BK149 := bK_ BK149 hb; clear hb hbox hg; obtain ⟨Ao64, co64, eo64⟩ := Kd.N_slice HO152.out; subst eo64; have hnb65 := NB158_148.out; have hnc65 := NB148_158.out; have hnb66 := NB158_149.out; have hnc66 := NB149_158.out; obtain ⟨hcz67_0, hcz67_1, hcz67_2, hfz67_0, hfz67_1, hfz67_2⟩ := cz3_ BK158; obtain ⟨Ao68, co68, eo68⟩ := Kd.N_slice HO156.out; subst eo68; obtain ⟨hcz69_0, hcz69_1, hcz69_2, hfz69_0, hfz69_1, hfz69_2⟩ := cz3_ BK149))
  refine bodyPost_ret (results_ct rfl _ _ gb149 61 #[.slice none 0 0, .int .i64 0, .slice none 0 0] (0, 0) _ rfl (by (with_reducible repeat (first | refine blk_drewN ?_ _ | refine blk_drew ?_ | refine blk_alloc ?_ _)); refine blk_put (cs := #[.slice none 0 0, .int .i64 0, .slice none 0 0]) ?_ 2 _ rfl; (with_reducible repeat (first | refine blk_drewN ?_ _ | refine blk_drew ?_ | refine blk_alloc ?_ _)); refine blk_put (cs := #[.slice none 0 0, .int .i64 0, .slice none 0 0]) ?_ 1 _ rfl; (with_reducible repeat (first | refine blk_drewN ?_ _ | refine blk_drew ?_ | refine blk_alloc ?_ _)); refine blk_put (cs := #[.slice none 0 0, .int .i64 0, .slice none 0 0]) ?_ 0 _ rfl; (with_reducible repeat (first | refine blk_drewN ?_ _ | refine blk_drew ?_ | refine blk_alloc ?_ _)); refine blk_far ?_ NB149_158.out _; (with_reducible repeat (first | refine blk_drewN ?_ _ | refine blk_drew ?_ | refine blk_alloc ?_ _)); refine blk_far ?_ NB149_158.out _; (with_reducible repeat (first | refine blk_drewN ?_ _ | refine blk_drew ?_ | refine blk_alloc ?_ _)); refine blk_far ?_ NB149_158.out _; (with_reducible repeat (first | refine blk_drewN ?_ _ | refine blk_drew ?_ | refine blk_alloc ?_ _)); exact BK149.out) Try.underlying61 rfl (by kernel_rfl)) rfl ?_
  exact ⟨_, _, fin_, nil_, nil_, bl_ HB⟩
end Go.Proofs.Ytooabchnbmnchaa.Q
namespace Go.Proofs.Ytooabchnbmnchaa.Q
open Go.RowKit Go.Proofs.YtooabchnbmnchaaW.PrintWords Go.Proofs.YtooabchnbmnchaaW.PrintLast Go.Proofs.YtooabchnbmnchaaW.PrintMore
attribute [local go_sem] max2_int min2_int max_two min_two max_three min_three max_four min_four binOp_string_leq binOp_string_geq binOp_string_gtr   -- for this text's walks alone
set_option linter.unusedVariables false
set_option linter.unusedSimpArgs false
def transeptlaw08_num.f (a0 : Int) : Option (Int) := some a0
set_option maxHeartbeats 8000000 in
set_option maxRecDepth 100000 in
theorem transeptlaw08_num.calls (a0 : Int) (r : Int) (w : World) (h : transeptlaw08_num.f a0 = some r) :
  Calls Try.prog 36 #[.int .i64 a0] w fun e w' => e = .returned (.int .i64 r) ∧ Drawn0 w w' := by
 have H : (some a0) = some r := h
 clear h
 obtain rfl := Option.some.inj H
 go_enter Try.func36, Try.ntmps36
 go_wp2
 go_ret
 exact ⟨by first | rfl | (simp; done) | (simp [*]; done), by repeat (first | exact Drawn0.refl _ | apply Drawn0.step)⟩
end Go.Proofs.Ytooabchnbmnchaa.Q
namespace Go.Proofs.Ytooabchnbmnchaa.Q
open Go.RowKit Go.Proofs.YtooabchnbmnchaaW.PrintWords Go.Proofs.YtooabchnbmnchaaW.PrintLast Go.Proofs.YtooabchnbmnchaaW.PrintMore
attribute [local go_sem] max2_int min2_int max_two min_two max_three min_three max_four min_four binOp_string_leq binOp_string_geq binOp_string_gtr   -- for this text's walks alone
set_option linter.unusedVariables false
set_option linter.unusedSimpArgs false
def bits_Len64.j0 : Nat → Int → Int → Option (Int)
 | 0, _, _ => none
 | k + 1, x0, x2 => if x0 ≥ 65536 then (if (x0 / 65536) ≥ 256 then (if 0 ≤ (((x0 / 65536) / 256) % 256) then (if (((x0 / 65536) / 256) % 256) < 256 then (some (wrap64 ((wrap64 ((wrap64 (x2 + 16)) + 8)) + (wrap64 (bt (⟨#[0, 1, 2, 2, 3, 3, 3, 3, 4, 4, 4, 4, 4, 4, 4, 4, 5, 5, 5, 5, 5, 5, 5, 5, 5, 5, 5, 5, 5, 5, 5, 5, 6, 6, 6, 6, 6, 6, 6, 6, 6, 6, 6, 6, 6, 6, 6, 6, 6, 6, 6, 6, 6, 6, 6, 6, 6, 6, 6, 6, 6, 6, 6, 6, 7, 7, 7, 7, 7, 7, 7, 7, 7, 7, 7, 7, 7, 7, 7, 7, 7, 7, 7, 7, 7, 7, 7, 7, 7, 7, 7, 7, 7, 7, 7, 7, 7, 7, 7, 7, 7, 7, 7, 7, 7, 7, 7, 7, 7, 7, 7, 7, 7, 7, 7, 7, 7, 7, 7, 7, 7, 7, 7, 7, 7, 7, 7, 7, 8, 8, 8, 8, 8, 8, 8, 8, 8, 8, 8, 8, 8, 8, 8, 8, 8, 8, 8, 8, 8, 8, 8, 8, 8, 8, 8, 8, 8, 8, 8, 8, 8, 8, 8, 8, 8, 8, 8, 8, 8, 8, 8, 8, 8, 8, 8, 8, 8, 8, 8, 8, 8, 8, 8, 8, 8, 8, 8, 8, 8, 8, 8, 8, 8, 8, 8, 8, 8, 8, 8, 8, 8, 8, 8, 8, 8, 8, 8, 8, 8, 8, 8, 8, 8, 8, 8, 8, 8, 8, 8, 8, 8, 8, 8, 8, 8, 8, 8, 8, 8, 8, 8, 8, 8, 8, 8, 8, 8, 8, 8, 8, 8, 8, 8, 8, 8, 8, 8, 8, 8, 8, 8, 8, 8, 8, 8, 8]⟩ : ByteArray) (((x0 / 65536) / 256) % 256)))))) else (none)) else (none)) else (if 0 ≤ ((x0 / 65536) % 256) then (if ((x0 / 65536) % 256) < 256 then (some (wrap64 ((wrap64 (x2 + 16)) + (wrap64 (bt (⟨#[0, 1, 2, 2, 3, 3, 3, 3, 4, 4, 4, 4, 4, 4, 4, 4, 5, 5, 5, 5, 5, 5, 5, 5, 5, 5, 5, 5, 5, 5, 5, 5, 6, 6, 6, 6, 6, 6, 6, 6, 6, 6, 6, 6, 6, 6, 6, 6, 6, 6, 6, 6, 6, 6, 6, 6, 6, 6, 6, 6, 6, 6, 6, 6, 7, 7, 7, 7, 7, 7, 7, 7, 7, 7, 7, 7, 7, 7, 7, 7, 7, 7, 7, 7, 7, 7, 7, 7, 7, 7, 7, 7, 7, 7, 7, 7, 7, 7, 7, 7, 7, 7, 7, 7, 7, 7, 7, 7, 7, 7, 7, 7, 7, 7, 7, 7, 7, 7, 7, 7, 7, 7, 7, 7, 7, 7, 7, 7, 8, 8, 8, 8, 8, 8, 8, 8, 8, 8, 8, 8, 8, 8, 8, 8, 8, 8, 8, 8, 8, 8, 8, 8, 8, 8, 8, 8, 8, 8, 8, 8, 8, 8, 8, 8, 8, 8, 8, 8, 8, 8, 8, 8, 8, 8, 8, 8, 8, 8, 8, 8, 8, 8, 8, 8, 8, 8, 8, 8, 8, 8, 8, 8, 8, 8, 8, 8, 8, 8, 8, 8, 8, 8, 8, 8, 8, 8, 8, 8, 8, 8, 8, 8, 8, 8, 8, 8, 8, 8, 8, 8, 8, 8, 8, 8, 8, 8, 8, 8, 8, 8, 8, 8, 8, 8, 8, 8, 8, 8, 8, 8, 8, 8, 8, 8, 8, 8, 8, 8, 8, 8, 8, 8, 8, 8, 8, 8]⟩ : ByteArray) ((x0 / 65536) % 256)))))) else (none)) else (none))) else (if x0 ≥ 256 then (if 0 ≤ ((x0 / 256) % 256) then (if ((x0 / 256) % 256) < 256 then (some (wrap64 ((wrap64 (x2 + 8)) + (wrap64 (bt (⟨#[0, 1, 2, 2, 3, 3, 3, 3, 4, 4, 4, 4, 4, 4, 4, 4, 5, 5, 5, 5, 5, 5, 5, 5, 5, 5, 5, 5, 5, 5, 5, 5, 6, 6, 6, 6, 6, 6, 6, 6, 6, 6, 6, 6, 6, 6, 6, 6, 6, 6, 6, 6, 6, 6, 6, 6, 6, 6, 6, 6, 6, 6, 6, 6, 7, 7, 7, 7, 7, 7, 7, 7, 7, 7, 7, 7, 7, 7, 7, 7, 7, 7, 7, 7, 7, 7, 7, 7, 7, 7, 7, 7, 7, 7, 7, 7, 7, 7, 7, 7, 7, 7, 7, 7, 7, 7, 7, 7, 7, 7, 7, 7, 7, 7, 7, 7, 7, 7, 7, 7, 7, 7, 7, 7, 7, 7, 7, 7, 8, 8, 8, 8, 8, 8, 8, 8, 8, 8, 8, 8, 8, 8, 8, 8, 8, 8, 8, 8, 8, 8, 8, 8, 8, 8, 8, 8, 8, 8, 8, 8, 8, 8, 8, 8, 8, 8, 8, 8, 8, 8, 8, 8, 8, 8, 8, 8, 8, 8, 8, 8, 8, 8, 8, 8, 8, 8, 8, 8, 8, 8, 8, 8, 8, 8, 8, 8, 8, 8, 8, 8, 8, 8, 8, 8, 8, 8, 8, 8, 8, 8, 8, 8, 8, 8, 8, 8, 8, 8, 8, 8, 8, 8, 8, 8, 8, 8, 8, 8, 8, 8, 8, 8, 8, 8, 8, 8, 8, 8, 8, 8, 8, 8, 8, 8, 8, 8, 8, 8, 8, 8, 8, 8, 8, 8, 8, 8]⟩ : ByteArray) ((x0 / 256) % 256)))))) else (none)) else (none)) else (if 0 ≤ ((x0) % 256) then (if ((x0) % 256) < 256 then (some (wrap64 (x2 + (wrap64 (bt (⟨#[0, 1, 2, 2, 3, 3, 3, 3, 4, 4, 4, 4, 4, 4, 4, 4, 5, 5, 5, 5, 5, 5, 5, 5, 5, 5, 5, 5, 5, 5, 5, 5, 6, 6, 6, 6, 6, 6, 6, 6, 6, 6, 6, 6, 6, 6, 6, 6, 6, 6, 6, 6, 6, 6, 6, 6, 6, 6, 6, 6, 6, 6, 6, 6, 7, 7, 7, 7, 7, 7, 7, 7, 7, 7, 7, 7, 7, 7, 7, 7, 7, 7, 7, 7, 7, 7, 7, 7, 7, 7, 7, 7, 7, 7, 7, 7, 7, 7, 7, 7, 7, 7, 7, 7, 7, 7, 7, 7, 7, 7, 7, 7, 7, 7, 7, 7, 7, 7, 7, 7, 7, 7, 7, 7, 7, 7, 7, 7, 8, 8, 8, 8, 8, 8, 8, 8, 8, 8, 8, 8, 8, 8, 8, 8, 8, 8, 8, 8, 8, 8, 8, 8, 8, 8, 8, 8, 8, 8, 8, 8, 8, 8, 8, 8, 8, 8, 8, 8, 8, 8, 8, 8, 8, 8, 8, 8, 8, 8, 8, 8, 8, 8, 8, 8, 8, 8, 8, 8, 8, 8, 8, 8, 8, 8, 8, 8, 8, 8, 8, 8, 8, 8, 8, 8, 8, 8, 8, 8, 8, 8, 8, 8, 8, 8, 8, 8, 8, 8, 8, 8, 8, 8, 8, 8, 8, 8, 8, 8, 8, 8, 8, 8, 8, 8, 8, 8, 8, 8, 8, 8, 8, 8, 8, 8, 8, 8, 8, 8, 8, 8, 8, 8, 8, 8, 8, 8]⟩ : ByteArray) ((x0) % 256)))))) else (none)) else (none)))
def bits_Len64.f (k : Nat) (a0 : Int) : Option (Int) := if a0 ≥ 4294967296 then (bits_Len64.j0 k (a0 / 4294967296) 32) else (bits_Len64.j0 k a0 0)
theorem bits_Len64.mono_l : ∀ k, (∀ y0 y1, LeO (bits_Len64.j0 k y0 y1) (bits_Len64.j0 (k + 1) y0 y1))
 | 0 => fun _ _ r h => by simp [bits_Len64.j0] at h
 | k + 1 => by
  have ih0 := bits_Len64.mono_l k
  ·intro y0 y1
   unfold bits_Len64.j0
   repeat' first
   | (with_reducible exact ih0 _ _)
   | (with_reducible exact LeO.refl _)
   | (with_reducible exact LeO.none _)
   | (with_reducible refine LeO.ite ?_ ?_)
   | (with_reducible refine LeO.bind ?_ (fun _ => ?_))
   | exact ih0 _ _
   | exact LeO.none _
   | refine LeO.ite ?_ ?_
   | refine LeO.bind ?_ (fun _ => ?_)
theorem bits_Len64.mono : ∀ a0 k, LeO (bits_Len64.f k a0) (bits_Len64.f (k + 1) a0) := by
 intro a0 k
 have ih0 := bits_Len64.mono_l k
 unfold bits_Len64.f
 repeat' first
   | (with_reducible exact ih0 _ _)
   | (with_reducible exact LeO.refl _)
   | (with_reducible exact LeO.none _)
   | (with_reducible refine LeO.ite ?_ ?_)
   | (with_reducible refine LeO.bind ?_ (fun _ => ?_))
   | exact ih0 _ _
   | exact LeO.none _
   | refine LeO.ite ?_ ?_
   | refine LeO.bind ?_ (fun _ => ?_)
set_option maxHeartbeats 8000000 in
set_option maxRecDepth 100000 in
theorem bits_Len64.calls (k : Nat) (a0 : Int) (r : Int) (w : World) (h : bits_Len64.f k a0 = some r) :
  Calls Try.prog 94 #[.int .u64 a0] w fun e w' => e = .returned (.int .i64 r) ∧ Drawn0 w w' := by
 have H : (if a0 ≥ 4294967296 then (bits_Len64.j0 k (a0 / 4294967296) 32) else (bits_Len64.j0 k a0 0)) = some r := h
 clear h
 have HC2 := Aside0.mk H
 clear H
 go_enter Try.func94, Try.ntmps94
 go_upto_if 4 with (fail)
 go_cut [0, 2] (fun v0 v2 wc => ∃ (kq : Nat) (x0_1 : Int) (x2_1 : Int), v0 = .int .u64 x0_1 ∧ v2 = .int .i64 x2_1 ∧ Aside0 (bits_Len64.j0 kq x0_1 x2_1 = some r) ∧ Aside0 (kq ≤ k) ∧ Drawn0 w wc)
 case first =>
  have H := HC2.out
  clear HC2
  by_cases c3 : a0 ≥ 4294967296
  ·rw [if_pos c3] at H
   have c3b0 : decide (4294967296 ≤ a0) = true := decide_eq_true c3
   clear c3
   (first | rw [c3b0] | (simp only [i64_w, i32_w]; rw [c3b0]) | skip)
   have H' := Aside0.mk H
   clear H
   go_wp2
   go_meet
   case rel => exact ⟨_, (a0 / 4294967296), (32), (by first | rfl | (simp; done) | (simp [*]; done)), (by first | rfl | (simp; done) | (simp [*]; done)), H', ⟨by first | omega | exact Nat.le_refl _⟩, by repeat (first | exact Drawn0.refl _ | apply Drawn0.step)⟩
  ·rw [if_neg c3] at H
   have c3b0 : decide (4294967296 ≤ a0) = false := decide_eq_false c3
   clear c3
   (first | rw [c3b0] | (simp only [i64_w, i32_w]; rw [c3b0]) | skip)
   have H' := Aside0.mk H
   clear H
   go_wp2
   go_meet
   case rel => exact ⟨_, (a0), (0), (by first | rfl | (simp; done) | (simp [*]; done)), (by first | rfl | (simp; done) | (simp [*]; done)), H', ⟨by first | omega | exact Nat.le_refl _⟩, by repeat (first | exact Drawn0.refl _ | apply Drawn0.step)⟩
 case rest =>
  clear HC2
  try clear p2
  try clear c3
  try clear c3b0
  obtain ⟨kq, x0_1, x2_1, rfl, rfl, HA, HJ1, ⟨mc1, rfl⟩⟩ := hcut
  cases kq with
  | zero => exact absurd HA.out (by simp [bits_Len64.j0])
  | succ kj1 =>
   have H := HA.out
   clear HA
   simp only [bits_Len64.j0] at H
   by_cases c4 : x0_1 ≥ 65536
   ·rw [if_pos c4] at H
    have c4b0 : decide (65536 ≤ x0_1) = true := decide_eq_true c4
    clear c4
    by_cases c5 : (x0_1 / 65536) ≥ 256
    ·rw [if_pos c5] at H
     have c5b0 : decide (256 ≤ (x0_1 / 65536)) = true := decide_eq_true c5
     clear c5
     obtain ⟨ji6, hji6⟩ : ∃ j_ : Int, (((x0_1 / 65536) / 256) % 256) = j_ := ⟨_, rfl⟩
     replace H : (if 0 ≤ (ji6) then (if (ji6) < 256 then (some (wrap64 ((wrap64 ((wrap64 (x2_1 + 16)) + 8)) + (wrap64 (bt (⟨#[0, 1, 2, 2, 3, 3, 3, 3, 4, 4, 4, 4, 4, 4, 4, 4, 5, 5, 5, 5, 5, 5, 5, 5, 5, 5, 5, 5, 5, 5, 5, 5, 6, 6, 6, 6, 6, 6, 6, 6, 6, 6, 6, 6, 6, 6, 6, 6, 6, 6, 6, 6, 6, 6, 6, 6, 6, 6, 6, 6, 6, 6, 6, 6, 7, 7, 7, 7, 7, 7, 7, 7, 7, 7, 7, 7, 7, 7, 7, 7, 7, 7, 7, 7, 7, 7, 7, 7, 7, 7, 7, 7, 7, 7, 7, 7, 7, 7, 7, 7, 7, 7, 7, 7, 7, 7, 7, 7, 7, 7, 7, 7, 7, 7, 7, 7, 7, 7, 7, 7, 7, 7, 7, 7, 7, 7, 7, 7, 8, 8, 8, 8, 8, 8, 8, 8, 8, 8, 8, 8, 8, 8, 8, 8, 8, 8, 8, 8, 8, 8, 8, 8, 8, 8, 8, 8, 8, 8, 8, 8, 8, 8, 8, 8, 8, 8, 8, 8, 8, 8, 8, 8, 8, 8, 8, 8, 8, 8, 8, 8, 8, 8, 8, 8, 8, 8, 8, 8, 8, 8, 8, 8, 8, 8, 8, 8, 8, 8, 8, 8, 8, 8, 8, 8, 8, 8, 8, 8, 8, 8, 8, 8, 8, 8, 8, 8, 8, 8, 8, 8, 8, 8, 8, 8, 8, 8, 8, 8, 8, 8, 8, 8, 8, 8, 8, 8, 8, 8, 8, 8, 8, 8, 8, 8, 8, 8, 8, 8, 8, 8, 8, 8, 8, 8, 8, 8]⟩ : ByteArray) (ji6)))))) else (none)) else (none)) = some r := by first | (rw [hji6] at H; exact H) | (simp only [hji6] at H ⊢; exact H)
     by_cases c7 : 0 ≤ (ji6)
     ·rw [if_pos c7] at H
      have c7b0 : decide (0 ≤ (ji6)) = true := decide_eq_true c7
      clear c7
      by_cases c8 : (ji6) < 256
      ·rw [if_pos c8] at H
       have c8b0 : decide ((ji6) < 256) = true := decide_eq_true c8
       clear c8
       obtain rfl := Option.some.inj H
       have p9 : 0 ≤ ((ji6) : Int) := of_decide_eq_true (by first | (with_reducible assumption) | assumption)
       have q9 : (ji6) < (256 : Int) := of_decide_eq_true (by first | (with_reducible assumption) | assumption)
       have hx9 := bt_at (⟨#[0, 1, 2, 2, 3, 3, 3, 3, 4, 4, 4, 4, 4, 4, 4, 4, 5, 5, 5, 5, 5, 5, 5, 5, 5, 5, 5, 5, 5, 5, 5, 5, 6, 6, 6, 6, 6, 6, 6, 6, 6, 6, 6, 6, 6, 6, 6, 6, 6, 6, 6, 6, 6, 6, 6, 6, 6, 6, 6, 6, 6, 6, 6, 6, 7, 7, 7, 7, 7, 7, 7, 7, 7, 7, 7, 7, 7, 7, 7, 7, 7, 7, 7, 7, 7, 7, 7, 7, 7, 7, 7, 7, 7, 7, 7, 7, 7, 7, 7, 7, 7, 7, 7, 7, 7, 7, 7, 7, 7, 7, 7, 7, 7, 7, 7, 7, 7, 7, 7, 7, 7, 7, 7, 7, 7, 7, 7, 7, 8, 8, 8, 8, 8, 8, 8, 8, 8, 8, 8, 8, 8, 8, 8, 8, 8, 8, 8, 8, 8, 8, 8, 8, 8, 8, 8, 8, 8, 8, 8, 8, 8, 8, 8, 8, 8, 8, 8, 8, 8, 8, 8, 8, 8, 8, 8, 8, 8, 8, 8, 8, 8, 8, 8, 8, 8, 8, 8, 8, 8, 8, 8, 8, 8, 8, 8, 8, 8, 8, 8, 8, 8, 8, 8, 8, 8, 8, 8, 8, 8, 8, 8, 8, 8, 8, 8, 8, 8, 8, 8, 8, 8, 8, 8, 8, 8, 8, 8, 8, 8, 8, 8, 8, 8, 8, 8, 8, 8, 8, 8, 8, 8, 8, 8, 8, 8, 8, 8, 8, 8, 8, 8, 8, 8, 8, 8, 8]⟩ : ByteArray) (ji6)
       replace p9 := eq_true p9
       replace q9 := eq_true q9
       go_wp2
       go_ret
       exact ⟨by first | rfl | (simp; done) | (simp only [← hji6] <;> (first | rfl | simp)) | (simp [*]; done), by repeat (first | exact Drawn0.refl _ | apply Drawn0.step)⟩
      ·rw [if_neg c8] at H
       exact absurd H (by simp)
     ·rw [if_neg c7] at H
      exact absurd H (by simp)
    ·rw [if_neg c5] at H
     have c5b0 : decide (256 ≤ (x0_1 / 65536)) = false := decide_eq_false c5
     clear c5
     obtain ⟨ji10, hji10⟩ : ∃ j_ : Int, ((x0_1 / 65536) % 256) = j_ := ⟨_, rfl⟩
     replace H : (if 0 ≤ (ji10) then (if (ji10) < 256 then (some (wrap64 ((wrap64 (x2_1 + 16)) + (wrap64 (bt (⟨#[0, 1, 2, 2, 3, 3, 3, 3, 4, 4, 4, 4, 4, 4, 4, 4, 5, 5, 5, 5, 5, 5, 5, 5, 5, 5, 5, 5, 5, 5, 5, 5, 6, 6, 6, 6, 6, 6, 6, 6, 6, 6, 6, 6, 6, 6, 6, 6, 6, 6, 6, 6, 6, 6, 6, 6, 6, 6, 6, 6, 6, 6, 6, 6, 7, 7, 7, 7, 7, 7, 7, 7, 7, 7, 7, 7, 7, 7, 7, 7, 7, 7, 7, 7, 7, 7, 7, 7, 7, 7, 7, 7, 7, 7, 7, 7, 7, 7, 7, 7, 7, 7, 7, 7, 7, 7, 7, 7, 7, 7, 7, 7, 7, 7, 7, 7, 7, 7, 7, 7, 7, 7, 7, 7, 7, 7, 7, 7, 8, 8, 8, 8, 8, 8, 8, 8, 8, 8, 8, 8, 8, 8, 8, 8, 8, 8, 8, 8, 8, 8, 8, 8, 8, 8, 8, 8, 8, 8, 8, 8, 8, 8, 8, 8, 8, 8, 8, 8, 8, 8, 8, 8, 8, 8, 8, 8, 8, 8, 8, 8, 8, 8, 8, 8, 8, 8, 8, 8, 8, 8, 8, 8, 8, 8, 8, 8, 8, 8, 8, 8, 8, 8, 8, 8, 8, 8, 8, 8, 8, 8, 8, 8, 8, 8, 8, 8, 8, 8, 8, 8, 8, 8, 8, 8, 8, 8, 8, 8, 8, 8, 8, 8, 8, 8, 8, 8, 8, 8, 8, 8, 8, 8, 8, 8, 8, 8, 8, 8, 8, 8, 8, 8, 8, 8, 8, 8]⟩ : ByteArray) (ji10)))))) else (none)) else (none)) = some r := by first | (rw [hji10] at H; exact H) | (simp only [hji10] at H ⊢; exact H)
     by_cases c11 : 0 ≤ (ji10)
     ·rw [if_pos c11] at H
      have c11b0 : decide (0 ≤ (ji10)) = true := decide_eq_true c11
      clear c11
      by_cases c12 : (ji10) < 256
      ·rw [if_pos c12] at H
       have c12b0 : decide ((ji10) < 256) = true := decide_eq_true c12
       clear c12
       obtain rfl := Option.some.inj H
       have p13 : 0 ≤ ((ji10) : Int) := of_decide_eq_true (by first | (with_reducible assumption) | assumption)
       have q13 : (ji10) < (256 : Int) := of_decide_eq_true (by first | (with_reducible assumption) | assumption)
       have hx13 := bt_at (⟨#[0, 1, 2, 2, 3, 3, 3, 3, 4, 4, 4, 4, 4, 4, 4, 4, 5, 5, 5, 5, 5, 5, 5, 5, 5, 5, 5, 5, 5, 5, 5, 5, 6, 6, 6, 6, 6, 6, 6, 6, 6, 6, 6, 6, 6, 6, 6, 6, 6, 6, 6, 6, 6, 6, 6, 6, 6, 6, 6, 6, 6, 6, 6, 6, 7, 7, 7, 7, 7, 7, 7, 7, 7, 7, 7, 7, 7, 7, 7, 7, 7, 7, 7, 7, 7, 7, 7, 7, 7, 7, 7, 7, 7, 7, 7, 7, 7, 7, 7, 7, 7, 7, 7, 7, 7, 7, 7, 7, 7, 7, 7, 7, 7, 7, 7, 7, 7, 7, 7, 7, 7, 7, 7, 7, 7, 7, 7, 7, 8, 8, 8, 8, 8, 8, 8, 8, 8, 8, 8, 8, 8, 8, 8, 8, 8, 8, 8, 8, 8, 8, 8, 8, 8, 8, 8, 8, 8, 8, 8, 8, 8, 8, 8, 8, 8, 8, 8, 8, 8, 8, 8, 8, 8, 8, 8, 8, 8, 8, 8, 8, 8, 8, 8, 8, 8, 8, 8, 8, 8, 8, 8, 8, 8, 8, 8, 8, 8, 8, 8, 8, 8, 8, 8, 8, 8, 8, 8, 8, 8, 8, 8, 8, 8, 8, 8, 8, 8, 8, 8, 8, 8, 8, 8, 8, 8, 8, 8, 8, 8, 8, 8, 8, 8, 8, 8, 8, 8, 8, 8, 8, 8, 8, 8, 8, 8, 8, 8, 8, 8, 8, 8, 8, 8, 8, 8, 8]⟩ : ByteArray) (ji10)
       replace p13 := eq_true p13
       replace q13 := eq_true q13
       go_wp2
       go_ret
       exact ⟨by first | rfl | (simp; done) | (simp only [← hji10] <;> (first | rfl | simp)) | (simp [*]; done), by repeat (first | exact Drawn0.refl _ | apply Drawn0.step)⟩
      ·rw [if_neg c12] at H
       exact absurd H (by simp)
     ·rw [if_neg c11] at H
      exact absurd H (by simp)
   ·rw [if_neg c4] at H
    have c4b0 : decide (65536 ≤ x0_1) = false := decide_eq_false c4
    clear c4
    by_cases c14 : x0_1 ≥ 256
    ·rw [if_pos c14] at H
     have c14b0 : decide (256 ≤ x0_1) = true := decide_eq_true c14
     clear c14
     obtain ⟨ji15, hji15⟩ : ∃ j_ : Int, ((x0_1 / 256) % 256) = j_ := ⟨_, rfl⟩
     replace H : (if 0 ≤ (ji15) then (if (ji15) < 256 then (some (wrap64 ((wrap64 (x2_1 + 8)) + (wrap64 (bt (⟨#[0, 1, 2, 2, 3, 3, 3, 3, 4, 4, 4, 4, 4, 4, 4, 4, 5, 5, 5, 5, 5, 5, 5, 5, 5, 5, 5, 5, 5, 5, 5, 5, 6, 6, 6, 6, 6, 6, 6, 6, 6, 6, 6, 6, 6, 6, 6, 6, 6, 6, 6, 6, 6, 6, 6, 6, 6, 6, 6, 6, 6, 6, 6, 6, 7, 7, 7, 7, 7, 7, 7, 7, 7, 7, 7, 7, 7, 7, 7, 7, 7, 7, 7, 7, 7, 7, 7, 7, 7, 7, 7, 7, 7, 7, 7, 7, 7, 7, 7, 7, 7, 7, 7, 7, 7, 7, 7, 7, 7, 7, 7, 7, 7, 7, 7, 7, 7, 7, 7, 7, 7, 7, 7, 7, 7, 7, 7, 7, 8, 8, 8, 8, 8, 8, 8, 8, 8, 8, 8, 8, 8, 8, 8, 8, 8, 8, 8, 8, 8, 8, 8, 8, 8, 8, 8, 8, 8, 8, 8, 8, 8, 8, 8, 8, 8, 8, 8, 8, 8, 8, 8, 8, 8, 8, 8, 8, 8, 8, 8, 8, 8, 8, 8, 8, 8, 8, 8, 8, 8, 8, 8, 8, 8, 8, 8, 8, 8, 8, 8, 8, 8, 8, 8, 8, 8, 8, 8, 8, 8, 8, 8, 8, 8, 8, 8, 8, 8, 8, 8, 8, 8, 8, 8, 8, 8, 8, 8, 8, 8, 8, 8, 8, 8, 8, 8, 8, 8, 8, 8, 8, 8, 8, 8, 8, 8, 8, 8, 8, 8, 8, 8, 8, 8, 8, 8, 8]⟩ : ByteArray) (ji15)))))) else (none)) else (none)) = some r := by first | (rw [hji15] at H; exact H) | (simp only [hji15] at H ⊢; exact H)
     by_cases c16 : 0 ≤ (ji15)
     ·rw [if_pos c16] at H
      have c16b0 : decide (0 ≤ (ji15)) = true := decide_eq_true c16
      clear c16
      by_cases c17 : (ji15) < 256
      ·rw [if_pos c17] at H
       have c17b0 : decide ((ji15) < 256) = true := decide_eq_true c17
       clear c17
       obtain rfl := Option.some.inj H
       have p18 : 0 ≤ ((ji15) : Int) := of_decide_eq_true (by first | (with_reducible assumption) | assumption)
       have q18 : (ji15) < (256 : Int) := of_decide_eq_true (by first | (with_reducible assumption) | assumption)
       have hx18 := bt_at (⟨#[0, 1, 2, 2, 3, 3, 3, 3, 4, 4, 4, 4, 4, 4, 4, 4, 5, 5, 5, 5, 5, 5, 5, 5, 5, 5, 5, 5, 5, 5, 5, 5, 6, 6, 6, 6, 6, 6, 6, 6, 6, 6, 6, 6, 6, 6, 6, 6, 6, 6, 6, 6, 6, 6, 6, 6, 6, 6, 6, 6, 6, 6, 6, 6, 7, 7, 7, 7, 7, 7, 7, 7, 7, 7, 7, 7, 7, 7, 7, 7, 7, 7, 7, 7, 7, 7, 7, 7, 7, 7, 7, 7, 7, 7, 7, 7, 7, 7, 7, 7, 7, 7, 7, 7, 7, 7, 7, 7, 7, 7, 7, 7, 7, 7, 7, 7, 7, 7, 7, 7, 7, 7, 7, 7, 7, 7, 7, 7, 8, 8, 8, 8, 8, 8, 8, 8, 8, 8, 8, 8, 8, 8, 8, 8, 8, 8, 8, 8, 8, 8, 8, 8, 8, 8, 8, 8, 8, 8, 8, 8, 8, 8, 8, 8, 8, 8, 8, 8, 8, 8, 8, 8, 8, 8, 8, 8, 8, 8, 8, 8, 8, 8, 8, 8, 8, 8, 8, 8, 8, 8, 8, 8, 8, 8, 8, 8, 8, 8, 8, 8, 8, 8, 8, 8, 8, 8, 8, 8, 8, 8, 8, 8, 8, 8, 8, 8, 8, 8, 8, 8, 8, 8, 8, 8, 8, 8, 8, 8, 8, 8, 8, 8, 8, 8, 8, 8, 8, 8, 8, 8, 8, 8, 8, 8, 8, 8, 8, 8, 8, 8, 8, 8, 8, 8, 8, 8]⟩ : ByteArray) (ji15)
       replace p18 := eq_true p18
       replace q18 := eq_true q18
       go_wp2
       go_ret
       exact ⟨by first | rfl | (simp; done) | (simp only [← hji15] <;> (first | rfl | simp)) | (simp [*]; done), by repeat (first | exact Drawn0.refl _ | apply Drawn0.step)⟩
      ·rw [if_neg c17] at H
       exact absurd H (by simp)
     ·rw [if_neg c16] at H
      exact absurd H (by simp)
    ·rw [if_neg c14] at H
     have c14b0 : decide (256 ≤ x0_1) = false := decide_eq_false c14
     clear c14
     obtain ⟨ji19, hji19⟩ : ∃ j_ : Int, ((x0_1) % 256) = j_ := ⟨_, rfl⟩
     replace H : (if 0 ≤ (ji19) then (if (ji19) < 256 then (some (wrap64 (x2_1 + (wrap64 (bt (⟨#[0, 1, 2, 2, 3, 3, 3, 3, 4, 4, 4, 4, 4, 4, 4, 4, 5, 5, 5, 5, 5, 5, 5, 5, 5, 5, 5, 5, 5, 5, 5, 5, 6, 6, 6, 6, 6, 6, 6, 6, 6, 6, 6, 6, 6, 6, 6, 6, 6, 6, 6, 6, 6, 6, 6, 6, 6, 6, 6, 6, 6, 6, 6, 6, 7, 7, 7, 7, 7, 7, 7, 7, 7, 7, 7, 7, 7, 7, 7, 7, 7, 7, 7, 7, 7, 7, 7, 7, 7, 7, 7, 7, 7, 7, 7, 7, 7, 7, 7, 7, 7, 7, 7, 7, 7, 7, 7, 7, 7, 7, 7, 7, 7, 7, 7, 7, 7, 7, 7, 7, 7, 7, 7, 7, 7, 7, 7, 7, 8, 8, 8, 8, 8, 8, 8, 8, 8, 8, 8, 8, 8, 8, 8, 8, 8, 8, 8, 8, 8, 8, 8, 8, 8, 8, 8, 8, 8, 8, 8, 8, 8, 8, 8, 8, 8, 8, 8, 8, 8, 8, 8, 8, 8, 8, 8, 8, 8, 8, 8, 8, 8, 8, 8, 8, 8, 8, 8, 8, 8, 8, 8, 8, 8, 8, 8, 8, 8, 8, 8, 8, 8, 8, 8, 8, 8, 8, 8, 8, 8, 8, 8, 8, 8, 8, 8, 8, 8, 8, 8, 8, 8, 8, 8, 8, 8, 8, 8, 8, 8, 8, 8, 8, 8, 8, 8, 8, 8, 8, 8, 8, 8, 8, 8, 8, 8, 8, 8, 8, 8, 8, 8, 8, 8, 8, 8, 8]⟩ : ByteArray) (ji19)))))) else (none)) else (none)) = some r := by first | (rw [hji19] at H; exact H) | (simp only [hji19] at H ⊢; exact H)
     by_cases c20 : 0 ≤ (ji19)
     ·rw [if_pos c20] at H
      have c20b0 : decide (0 ≤ (ji19)) = true := decide_eq_true c20
      clear c20
      by_cases c21 : (ji19) < 256
      ·rw [if_pos c21] at H
       have c21b0 : decide ((ji19) < 256) = true := decide_eq_true c21
       clear c21
       obtain rfl := Option.some.inj H
       have p22 : 0 ≤ ((ji19) : Int) := of_decide_eq_true (by first | (with_reducible assumption) | assumption)
       have q22 : (ji19) < (256 : Int) := of_decide_eq_true (by first | (with_reducible assumption) | assumption)
       have hx22 := bt_at (⟨#[0, 1, 2, 2, 3, 3, 3, 3, 4, 4, 4, 4, 4, 4, 4, 4, 5, 5, 5, 5, 5, 5, 5, 5, 5, 5, 5, 5, 5, 5, 5, 5, 6, 6, 6, 6, 6, 6, 6, 6, 6, 6, 6, 6, 6, 6, 6, 6, 6, 6, 6, 6, 6, 6, 6, 6, 6, 6, 6, 6, 6, 6, 6, 6, 7, 7, 7, 7, 7, 7, 7, 7, 7, 7, 7, 7, 7, 7, 7, 7, 7, 7, 7, 7, 7, 7, 7, 7, 7, 7, 7, 7, 7, 7, 7, 7, 7, 7, 7, 7, 7, 7, 7, 7, 7, 7, 7, 7, 7, 7, 7, 7, 7, 7, 7, 7, 7, 7, 7, 7, 7, 7, 7, 7, 7, 7, 7, 7, 8, 8, 8, 8, 8, 8, 8, 8, 8, 8, 8, 8, 8, 8, 8, 8, 8, 8, 8, 8, 8, 8, 8, 8, 8, 8, 8, 8, 8, 8, 8, 8, 8, 8, 8, 8, 8, 8, 8, 8, 8, 8, 8, 8, 8, 8, 8, 8, 8, 8, 8, 8, 8, 8, 8, 8, 8, 8, 8, 8, 8, 8, 8, 8, 8, 8, 8, 8, 8, 8, 8, 8, 8, 8, 8, 8, 8, 8, 8, 8, 8, 8, 8, 8, 8, 8, 8, 8, 8, 8, 8, 8, 8, 8, 8, 8, 8, 8, 8, 8, 8, 8, 8, 8, 8, 8, 8, 8, 8, 8, 8, 8, 8, 8, 8, 8, 8, 8, 8, 8, 8, 8, 8, 8, 8, 8, 8, 8]⟩ : ByteArray) (ji19)
       replace p22 := eq_true p22
       replace q22 := eq_true q22
       go_wp2
       go_ret
       exact ⟨by first | rfl | (simp; done) | (simp only [← hji19] <;> (first | rfl | simp)) | (simp [*]; done), by repeat (first | exact Drawn0.refl _ | apply Drawn0.step)⟩
      ·rw [if_neg c21] at H
       exact absurd H (by simp)
     ·rw [if_neg c20] at H
      exact absurd H (by simp)
end Go.Proofs.Ytooabchnbmnchaa.Q
namespace Go.Proofs.Ytooabchnbmnchaa.Q
open Go.RowKit Go.Proofs.YtooabchnbmnchaaW.PrintWords Go.Proofs.YtooabchnbmnchaaW.PrintLast Go.Proofs.YtooabchnbmnchaaW.PrintMore
attribute [local go_sem] max2_int min2_int max_two min_two max_three min_three max_four min_four binOp_string_leq binOp_string_geq binOp_string_gtr   -- for this text's walks alone
set_option linter.unusedVariables false
set_option linter.unusedSimpArgs false
def BitLen (n L : Int) : Prop := 0 ≤ L ∧ ∀ m : Nat, (L > (m : Int) ↔ n ≥ 2 ^ m)
theorem BitLen.shift {n L : Int} (s : Nat) (hn : n ≥ 2 ^ s) (h : BitLen (n / 2 ^ s) L) : BitLen n (L + s) := by
 refine ⟨by have := h.1; omega, fun m => ?_⟩
 have hp : (0 : Int) < 2 ^ s := Int.pow_pos (by decide)
 rcases Nat.lt_or_ge m s with hm | hm
 ·have : (2 : Int) ^ m ≤ 2 ^ s := by
   have := Nat.pow_le_pow_right (show 0 < 2 by decide) (Nat.le_of_lt hm)
   exact_mod_cast this
  have := h.1
  constructor <;> intro _ <;> omega
 ·obtain ⟨d, rfl⟩ : ∃ d, m = d + s := ⟨m - s, by omega⟩
  have h2 := h.2 d
  rw [Int.pow_add]
  have hd : (n / 2 ^ s ≥ 2 ^ d) ↔ (n ≥ 2 ^ d * 2 ^ s) := by
   show (2 ^ d ≤ n / 2 ^ s) ↔ _
   exact Int.le_ediv_iff_mul_le hp
  rw [← hd, ← h2]
  push_cast
  omega
theorem pow2_256 (m : Nat) (hm : 8 ≤ m) : (256 : Int) ≤ 2 ^ m := by
 have h1 : (256 : Nat) ≤ 2 ^ m := Nat.le_trans (by decide : 256 ≤ 2 ^ 8) (Nat.pow_le_pow_right (by decide) hm)
 have h2 : ((256 : Nat) : Int) ≤ ((2 ^ m : Nat) : Int) := Int.ofNat_le.mpr h1
 rw [Int.natCast_pow] at h2
 exact h2
set_option maxRecDepth 100000 in
theorem bitLen_byte : ∀ x : Fin 256, ∀ m : Fin 8, ((bits_Len64.f 1 (x.val : Int)).getD 0 > (m.val : Int) ↔ (x.val : Int) ≥ 2 ^ m.val) ∧ 0 ≤ (bits_Len64.f 1 (x.val : Int)).getD 0 ∧ (bits_Len64.f 1 (x.val : Int)).getD 0 ≤ 8 ∧ (bits_Len64.f 1 (x.val : Int)).isSome = true := by decide +kernel
def len8 (x : Int) : Int := (bits_Len64.f 1 x).getD 0
theorem len8_is (x : Int) (h0 : 0 ≤ x) (h1 : x < 256) : bits_Len64.f 1 x = some (len8 x) ∧ BitLen x (len8 x) ∧ len8 x ≤ 8 := by
 obtain ⟨n, rfl⟩ := Int.eq_ofNat_of_zero_le h0
 have hb := bitLen_byte ⟨n, by omega⟩
 simp only at hb
 have h8 := hb 0
 refine ⟨?_, ⟨h8.2.1, fun m => ?_⟩, h8.2.2.1⟩
 ·have := h8.2.2.2
  unfold len8
  cases hq : bits_Len64.f 1 (n : Int) with
  | none => rw [hq] at this; cases this
  | some v => rfl
 ·rcases Nat.lt_or_ge m 8 with hm | hm
  ·exact (hb ⟨m, hm⟩).1
  ·have := pow2_256 m hm
   have := h8.2.2.1
   unfold len8
   constructor <;> intro _ <;> omega
set_option maxRecDepth 100000 in
theorem j0_byte (x c : Int) (h0 : 0 ≤ x) (h1 : x < 256) (hc : 0 ≤ c) (hc1 : c ≤ 64) : bits_Len64.j0 1 x c = some (c + len8 x) := by
 have h := (len8_is x h0 h1).2.1.1
 have h8 := (len8_is x h0 h1).2.2
 unfold len8 bits_Len64.f at h h8 ⊢
 rw [if_neg (by omega)] at h h8 ⊢
 simp only [bits_Len64.j0] at h h8 ⊢
 rw [if_neg (by omega), if_neg (by omega), if_pos (by omega), if_pos (by omega)] at h h8 ⊢
 rw [if_neg (by omega), if_neg (by omega), if_pos (by omega), if_pos (by omega)]
 simp only [Option.getD_some, Option.some.injEq] at h h8 ⊢
 unfold wrap64 at h h8 ⊢
 omega
set_option maxRecDepth 100000 in
theorem j0_two (x c : Int) (h0 : 256 ≤ x) (h1 : x < 65536) (hc : 0 ≤ c) (hc1 : c ≤ 56) : bits_Len64.j0 1 x c = some (c + 8 + len8 (x / 256)) := by
 have h := (len8_is (x / 256) (by omega) (by omega)).2.1.1
 have h8 := (len8_is (x / 256) (by omega) (by omega)).2.2
 have hb := j0_byte (x / 256) (c + 8) (by omega) (by omega) (by omega) (by omega)
 rw [← hb]
 simp only [bits_Len64.j0]
 rw [if_neg (by omega), if_pos (by omega), if_pos (by omega), if_pos (by omega), if_neg (by omega), if_neg (by omega), if_pos (by omega), if_pos (by omega)]
 rw [wrap64_id (x := c + 8) (by omega) (by omega)]
set_option maxRecDepth 100000 in
theorem j0_four (x c : Int) (h0 : 65536 ≤ x) (h1 : x < 4294967296) (hc : 0 ≤ c) (hc1 : c ≤ 32) : bits_Len64.j0 1 x c = bits_Len64.j0 1 (x / 65536) (c + 16) := by
 simp only [bits_Len64.j0]
 rw [if_pos (by omega), if_neg (show ¬ x / 65536 ≥ 65536 by omega)]
 rw [wrap64_id (x := c + 16) (by omega) (by omega)]
theorem j0_is (x c : Int) (h0 : 0 ≤ x) (h1 : x < 4294967296) (hc : 0 ≤ c) (hc1 : c ≤ 32) : ∃ L, bits_Len64.j0 1 x c = some (c + L) ∧ BitLen x L ∧ L ≤ 32 := by
 have two : ∀ (x c : Int), 0 ≤ x → x < 65536 → 0 ≤ c → c ≤ 48 → ∃ L, bits_Len64.j0 1 x c = some (c + L) ∧ BitLen x L ∧ L ≤ 16 := by
  intro x c h0 h1 hc hc1
  by_cases h : x < 256
  ·have := len8_is x h0 h
   exact ⟨len8 x, j0_byte x c h0 h hc (by omega), this.2.1, by have := this.2.2; omega⟩
  ·have h2 := len8_is (x / 256) (by omega) (by omega)
   refine ⟨len8 (x / 256) + (8 : Nat), ?_, BitLen.shift 8 (by show (x : Int) ≥ 256; omega) h2.2.1, by have := h2.2.2; omega⟩
   rw [j0_two x c (by omega) (by omega) hc (by omega)]
   congr 1
   omega
 by_cases h : x < 65536
 ·obtain ⟨L, h2, h3, h4⟩ := two x c h0 h hc (by omega)
  exact ⟨L, h2, h3, by omega⟩
 ·obtain ⟨L, h2, h3, h4⟩ := two (x / 65536) (c + 16) (by omega) (by omega) (by omega) (by omega)
  refine ⟨L + (16 : Nat), ?_, BitLen.shift 16 (by show (x : Int) ≥ 65536; omega) h3, by omega⟩
  rw [j0_four x c (by omega) h1 hc hc1, h2]
  congr 1
  omega
theorem len64_is (x : Int) (h0 : 0 ≤ x) (h1 : x < 18446744073709551616) : ∃ L, bits_Len64.f 1 x = some L ∧ BitLen x L ∧ L ≤ 64 := by
 unfold bits_Len64.f
 by_cases h : x < 4294967296
 ·obtain ⟨L, h2, h3, h4⟩ := j0_is x 0 h0 h (by omega) (by omega)
  exact ⟨L, by rw [if_neg (by omega), h2]; congr 1; omega, h3, by omega⟩
 ·obtain ⟨L, h2, h3, h4⟩ := j0_is (x / 4294967296) 32 (by omega) (by omega) (by omega) (by omega)
  refine ⟨L + (32 : Nat), ?_, BitLen.shift 32 (by show (x : Int) ≥ 4294967296; omega) h3, by omega⟩
  rw [if_pos (by omega), h2]
  congr 1
  omega
section
open Go.Shelf
attribute [local go_sem] Oper.semAt_some
def Keep2 (lo b : Nat) (W W' : World) : Prop := Below lo W W' ∧ W'.heap[b]? = W.heap[b]?
theorem Keep2.trans {lo b : Nat} {A B C : World} (h : Keep2 lo b A B) (k : Keep2 lo b B C) : Keep2 lo b A C := ⟨h.1.trans k.1, k.2.trans h.2⟩
theorem Keep2.other {lo b : Nat} {w : World} (hlo : lo ≤ w.heap.size) (hb : b < w.heap.size) (W : World) (l : Nat) (o o' : Obj) (hl : w.heap.size ≤ l) (ho : W.heap[l]? = some o) (hc : o.isCells = false) (hw : o.isWalk = false) : Keep2 lo b W (W.putObj l o') :=
 ⟨belowK_b (w := w) hlo W l o o' hl ho hc hw, World.putObj_heap_other (by omega)⟩
abbrev Sh := { x : Int // 0 ≤ x ∧ x < 64 }
def shOf (x : Int) : Sh := if h : 0 ≤ x ∧ x < 64 then ⟨x, h⟩ else ⟨0, by omega⟩
theorem shOf_val (x : Int) (h : 0 ≤ x ∧ x < 64) : (shOf x).1 = x := by unfold shOf; rw [dif_pos h]
def shiftsUp (size k : Nat) : List Sh := (List.range k).map fun (i : Nat) => shOf (8 * ((size : Int) - 1 - i))
def shiftsOf (size : Nat) : List Sh := shiftsUp size size
theorem shiftsUp_succ (size k : Nat) : shiftsUp size (k + 1) = shiftsUp size k ++ [shOf (8 * ((size : Int) - 1 - k))] := by simp [shiftsUp, List.range_succ]
theorem shiftsUp_length (size k : Nat) : (shiftsUp size k).length = k := by simp [shiftsUp]
set_option maxRecDepth 100000 in
set_option maxHeartbeats 1000000 in
theorem octets_shifts1_in (n : Nat) (hn : 1 ≤ n) (l Bn lo : Nat) (size : Nat) (hs : size ≤ 8) (J Jx : List Sh → World → Prop)
  (hY : ∀ pre x W, J pre W → pre.length < size → YieldAt Fence.wide (n - 1) Try.prog l #[.int .i64 x.1] W fun e W' =>
   (e = .returned (.bool true) ∧ J (pre ++ [x]) W' ∧ Keep2 lo Bn W W') ∨ (e = .returned (.bool false) ∧ Jx (pre ++ [x]) W'))
  (W : World) (hBn : W.cell? ⟨Bn, 0, none⟩ = some (.int .i64 (size : Int))) (h0 : J [] W) :
  CallsIn Fence.wide n Try.prog 101 #[.func (.yield l) #[] #[], .pointer (some ⟨Bn, 0, none⟩)] W fun e W' => (∃ v, e = .returned v) ∧
   ((∃ ys, ys = shiftsOf size ∧ J ys W') ∨ (∃ pre, True ∧ Jx pre W')) := by
 refine callsIn_of_wp Try.func101 rfl trivial ?_ rfl
 simp only [Try.ntmps101, List.size_toArray, List.length_cons, List.length_nil, Nat.reduceAdd, Nat.reduceSub, Array.replicate_succ, Array.replicate_zero, List.push_toArray, List.append_toArray, List.nil_append, List.cons_append]
 gi_wp2
 gi_loopw [5] (fun i wr => ∃ k : Nat, k ≤ size ∧ i = .int .i64 (k : Int) ∧ J (shiftsUp size k) wr ∧ Keep2 lo Bn W wr) (fun i _ => size - (intOf i).toNat)
 case atStart => exact ⟨0, Nat.zero_le _, rfl, h0, Below.refl _ _, rfl⟩
 case round =>
  obtain ⟨k, hk, rfl, hJs, hnx⟩ := hrel
  have hcx : wr.cell? ⟨Bn, 0, none⟩ = some (.int .i64 (size : Int)) := (World.cell?_of_block (a := ⟨Bn, 0, none⟩) hnx.2).trans hBn
  have HNX := Aside0.mk hnx
  clear hnx
  by_cases hlt : k < size
  ·obtain ⟨fn, tmps, assign, body, hy, hR⟩ := hY _ (shOf (8 * ((size : Int) - 1 - k))) wr hJs (by rw [shiftsUp_length]; exact hlt)
   rw [shOf_val _ (by omega)] at hy
   gi_wp2
   refine hR.mono ?_
   rintro e W3 (⟨rfl, hJ3, hk3⟩ | ⟨rfl, hJx3⟩)
   ·have HK3 := Aside0.mk hk3
    clear hk3
    gi_wp2
    go_roundw
    case rel => exact ⟨k + 1, by omega, by push_cast; rfl, by rw [shiftsUp_succ]; exact hJ3, HNX.out.trans HK3.out⟩
    case measure => simp [intOf]; omega
   ·gi_wp2
    refine bodyPost_ret (results_none rfl _ _ _) rfl ?_
    exact ⟨⟨_, rfl⟩, .inr ⟨_, trivial, hJx3⟩⟩
  ·obtain rfl : k = size := by omega
   gi_wp2
   go_end0
   exact ⟨⟨_, rfl⟩, .inl ⟨_, rfl, hJs⟩⟩
set_option maxHeartbeats 1000000 in
theorem octets_shifts_in (n : Nat) (size : Int) (w : World) :
  CallsIn Fence.wide n Try.prog 95 #[.int .i64 size] w fun e w' => e = .returned (.func (.func 101) #[] #[.pointer (some ⟨w.heap.size, 0, none⟩)]) ∧ w' = w.alloc (.cells #[.int .i64 size] 3) := by
 refine callsIn_of_wp Try.func95 rfl trivial ?_ rfl
 simp only [Try.ntmps95, List.size_toArray, List.length_cons, List.length_nil, Nat.reduceAdd, Nat.reduceSub, Array.replicate_succ, Array.replicate_zero, List.push_toArray, List.append_toArray, List.nil_append, List.cons_append]
 gi_wp2
 go_ret
 exact ⟨rfl, rfl⟩
def beOf (n : Int) (l : List Sh) : List Int := l.map fun s => (n / 2 ^ s.1.toNat) % 256
theorem beOf_snoc (n : Int) (l : List Sh) (s : Sh) : beOf n (l ++ [s]) = beOf n l ++ [(n / 2 ^ s.1.toNat) % 256] := by simp [beOf]
theorem beOf_length (n : Int) (l : List Sh) : (beOf n l).length = l.length := by simp [beOf]
def octets_Put.f (a0 a1 : Int) : Option (List Int × Int) :=
 if 0 ≤ a0 ∧ a0 < 18446744073709551616 then (if a1 < 1 ∨ a1 > 8 ∨ a0 ≥ 2 ^ (8 * a1.toNat) then some ([], 4) else some (beOf a0 (shiftsOf a1.toNat), 0)) else none
theorem put_close {a0 : Int} {size : Nat} {w W w1 : World} {B : Nat} {pre : List Sh} {x : Sh} {v v' : Value} {tmp : Obj} (hn0 : Boxed W w.heap.size 119 (.int .u64 a0)) (hs0 : Boxed W (w.heap.size + 1 + 1) 3 (.int .i64 (size : Int))) (hB : Below w.heap.size w W)
  (hrow : W.ownsRow (w.heap.size + 3) 5 1 v pre.length (nums .u8 (beOf a0 pre)))
  (HF : Boxed (w1.setCell ⟨w.heap.size + 1, 0, none⟩ v') (w.heap.size + 1) 26 v' ∧ (w1.setCell ⟨w.heap.size + 1, 0, none⟩ v').ownsRow (w.heap.size + 3) 5 1 v' (pre.length + 1) (nums .u8 (beOf a0 pre) ++ [.int .u8 (IntKind.u8.wrap (a0 / 2 ^ x.1.toNat))]) ∧ KeepsOthers W (w1.setCell ⟨w.heap.size + 1, 0, none⟩ v') ∧ Below w.heap.size W (w1.setCell ⟨w.heap.size + 1, 0, none⟩ v') ∧ (W.alloc tmp).grownBy w1 v.ownBlock) :
  KeepsFrom B W (w1.setCell ⟨w.heap.size + 1, 0, none⟩ v') ∧ Keep2 w.heap.size (w.heap.size + 1 + 1) W (w1.setCell ⟨w.heap.size + 1, 0, none⟩ v') ∧
   ((∃ v, Boxed (w1.setCell ⟨w.heap.size + 1, 0, none⟩ v') (w.heap.size + 1) 26 v ∧ (w1.setCell ⟨w.heap.size + 1, 0, none⟩ v').ownsRow (w.heap.size + 3) 5 1 v (pre ++ [x]).length (nums .u8 (beOf a0 (pre ++ [x]))) ∧ True) ∧ Boxed (w1.setCell ⟨w.heap.size + 1, 0, none⟩ v') w.heap.size 119 (.int .u64 a0) ∧ Boxed (w1.setCell ⟨w.heap.size + 1, 0, none⟩ v') (w.heap.size + 1 + 1) 3 (.int .i64 (size : Int)) ∧ Below w.heap.size w (w1.setCell ⟨w.heap.size + 1, 0, none⟩ v')) := by
 obtain ⟨hv2, hr3, hk2, hb2, hgrow⟩ := HF
 have hN := ((hn0.alloc tmp).kept hgrow (hn0.not_row (by decide) hrow)).kept (grownBy_setCell' w1 (w.heap.size + 1) v') (by simp)
 have hS := ((hs0.alloc tmp).kept hgrow (hs0.not_row (by decide) hrow)).kept (grownBy_setCell' w1 (w.heap.size + 1) v') (by simp)
 have hwr : IntKind.u8.wrap (a0 / 2 ^ x.1.toNat) = (a0 / 2 ^ x.1.toNat) % 256 := by simp [IntKind.wrap, IntKind.bits, IntKind.signed]
 refine ⟨hk2.from _, ⟨hb2, (show _ = _ from hS).trans (show _ = _ from hs0).symm⟩, ⟨v', hv2, ?_, trivial⟩, hN, hS, hB.trans hb2⟩
 rw [beOf_snoc, nums_append, List.length_append, List.length_singleton]
 rw [hwr] at hr3
 exact hr3
set_option maxRecDepth 100000 in
set_option maxHeartbeats 4000000 in
theorem octets_Put.calls (a0 a1 : Int) (r1 : List Int) (r2 : Int) (w : World) (h : octets_Put.f a0 a1 = some (r1, r2)) : Calls Try.prog 81 #[.int .u64 a0, .int .i64 a1] w fun e w' => ∃ v0_ : Value, e = .returned (.tuple #[v0_, .int .i64 r2]) ∧ Kd.R (Kd.int .u8) 5 w' w.heap.size (fun _ => True) v0_ r1 ∧ Below w.heap.size w w' := by
 unfold octets_Put.f at h
 by_cases hn : 0 ≤ a0 ∧ a0 < 18446744073709551616
 case neg => rw [if_neg hn] at h; cases h
 rw [if_pos hn] at h
 obtain ⟨L, hL1, hL2, hL3⟩ := len64_is a0 hn.1 hn.2
 have HL1 := Aside0.mk hL1
 clear hL1
 by_cases hbad : a1 < 1 ∨ a1 > 8 ∨ a0 ≥ 2 ^ (8 * a1.toNat)
 ·rw [if_pos hbad] at h
  cases h
  by_cases h1 : a1 < 1
  ·clear hbad
   go_enter Try.func81, Try.ntmps81
   go_wp2
   go_ret2
   exact ⟨_, rfl, Kd.R_nil _ _ _ _ _, below_alloc (Below.refl _ _) _⟩
  ·by_cases h8 : a1 > 8
   ·clear hbad
    go_enter Try.func81, Try.ntmps81
    go_wp2
    go_ret2
    exact ⟨_, rfl, Kd.R_nil _ _ _ _ _, below_alloc (Below.refl _ _) _⟩
   ·have hb : a0 ≥ 2 ^ (8 * a1.toNat) := by rcases hbad with h | h | h <;> first | exact absurd h (by omega) | exact h
    have hL : L > 8 * a1 := by have := (hL2.2 (8 * a1.toNat)).mpr hb; push_cast at this; omega
    have hLd : decide (8 * a1 < L) = true := by simp; omega
    clear hbad hb hL2
    go_enter Try.func81, Try.ntmps81
    go_wp2_with (go_at_call 94; refine (bits_Len64.calls 1 a0 L _ HL1.out).mono ?_; rintro e w' ⟨rfl, ⟨nd, rfl⟩⟩)
    go_ret2
    exact ⟨_, rfl, Kd.R_nil _ _ _ _ _, pw_below_drewN (below_alloc (Below.refl _ _) _) _⟩
 ·rw [if_neg hbad] at h
  cases h
  obtain ⟨size, rfl⟩ : ∃ s : Nat, a1 = (s : Int) := ⟨a1.toNat, by omega⟩
  have hs1 : 1 ≤ size := by omega
  have hs8 : size ≤ 8 := by omega
  have hLle : L ≤ 8 * (size : Int) := by
   have := hL2.2 (8 * size)
   have h2 : ¬ (L > ((8 * size : Nat) : Int)) := fun hc => hbad (.inr (.inr (by simpa using this.mp hc)))
   push_cast at h2
   omega
  have hLd : decide (8 * (size : Int) < L) = false := by simp; omega
  clear hbad hL2
  have hi1 : decide ((size : Int) < 1) = false := by simp; omega
  have hi8 : decide (8 < (size : Int)) = false := by simp; omega
  simp only [Int.toNat_natCast]
  refine (callsIn_wide (n := 6)).1 ?_
  refine callsIn_of_wp_marks Try.func81 rfl trivial ?_ rfl
  simp only [Try.ntmps81, List.size_toArray, List.length_cons, List.length_nil, Nat.reduceAdd, Nat.reduceSub, Array.replicate_succ, Array.replicate_zero, List.push_toArray, List.append_toArray, List.nil_append, List.cons_append]
  gi_wp2_with (first
   | (refine ⟨trivial, ?_⟩; gi_at_call 94; refine (callsIn_wide.2 (bits_Len64.calls 1 a0 L _ HL1.out)).mono ?_; rintro e w' ⟨rfl, ⟨nd, rfl⟩⟩)
   | (refine ⟨trivial, ?_⟩; gi_at_call 95; refine (octets_shifts_in 5 _ _).mono ?_; rintro e w' ⟨rfl, rfl⟩))
  have bN := (Boxed.new w 119 (.int .u64 a0))
  have bB := (Boxed.new ((w.alloc (.cells #[.int .u64 a0] 119)).drewN nd) 26 (.slice none 0 0))
  have bS := (Boxed.new ((((w.alloc (.cells #[.int .u64 a0] 119)).drewN nd).alloc (.cells #[.slice none 0 0] 26))) 3 (.int .i64 (size : Int)))
  obtain ⟨W3, hW3⟩ : ∃ W3, W3 = ((((w.alloc (.cells #[.int .u64 a0] 119)).drewN nd).alloc (.cells #[.slice none 0 0] 26)).alloc (.cells #[.int .i64 (size : Int)] 3)) := ⟨_, rfl⟩
  have hB3 : Below w.heap.size w W3 := by rw [hW3]; exact below_alloc (below_alloc (pw_below_drewN (below_alloc (Below.refl _ _) _) _) _) _
  have hz3 : W3.heap.size = w.heap.size + 3 := by rw [hW3]; simp
  rw [show ((w.alloc (.cells #[.int .u64 a0] 119)).drewN nd).heap.size = w.heap.size + 1 from World.size_alloc _ _] at bB
  rw [World.size_alloc, show ((w.alloc (.cells #[.int .u64 a0] 119)).drewN nd).heap.size = w.heap.size + 1 from World.size_alloc _ _] at bS
  rw [← hW3] at bS ⊢
  have bN3 : Boxed W3 w.heap.size 119 (.int .u64 a0) := by rw [hW3]; exact (Boxed.alloc (Boxed.alloc (show Boxed ((w.alloc (.cells #[.int .u64 a0] 119)).drewN nd) w.heap.size 119 (.int .u64 a0) from bN) _) _)
  have bB3 : Boxed W3 (w.heap.size + 1) 26 (.slice none 0 0) := by rw [hW3]; exact Boxed.alloc bB _
  clear hW3 bN bB
  have hinfo : (Try.prog.info? 5).map (fun i => (i.zero, i.size, i.bytes)) = some (some (.int .u8 0), 1, 1) := by kernel_rfl
  obtain ⟨i0, hi, hz0, hz1, hz2⟩ := info_parts hinfo
  have HLT := Aside0.mk hn
  clear hinfo hn HL1 hL3 hLle hLd hi1 hi8
  refine wpIn_rangeFunc_ownG (α := Sh) rfl (by decide) (gf := 101) (lb := #[.pointer (some ⟨w.heap.size + 1 + 1, 0, none⟩)]) rfl trivial (enters_of Try.func101 (by kernel_rfl) rfl)
   (encs := fun x => #[.int .i64 x.1]) (Kp := Keep2 w.heap.size (w.heap.size + 1 + 1)) (S := fun ys => ys = shiftsOf size) (Sp := fun _ => True) (N := size) (w0 := W3)
   (fun l J Jx W hW _ _ hY h0 => octets_shifts1_in _ (by decide) l (w.heap.size + 1 + 1) w.heap.size size hs8 J Jx hY W ((hW.cell (p := ⟨w.heap.size + 1 + 1, 0, none⟩) (by show w.heap.size + 1 + 1 < _; omega)).trans bS.cell) h0)
   Keep2.trans (Keep2.other (by omega) (by omega)) (Below.refl _ _) (fun _ => rfl)
   (fun pre W => (∃ v, Boxed W (w.heap.size + 1) 26 v ∧ W.ownsRow (w.heap.size + 3) 5 1 v pre.length (nums .u8 (beOf a0 pre)) ∧ True) ∧ Boxed W w.heap.size 119 (.int .u64 a0) ∧ Boxed W (w.heap.size + 1 + 1) 3 (.int .i64 (size : Int)) ∧ Below w.heap.size w W)
   (fun _ _ _ => False)
   (OwnFrom.and (Own.from (holdsRow_own (w.heap.size + 3) (w.heap.size + 1) 26 5 1 (fun pre => pre.length) (fun pre => nums .u8 (beOf a0 pre)) (fun _ _ => True)) _) (OwnFrom.and (Own.from (boxed_own _ _ (fun _ => .int .u64 a0)) _) (OwnFrom.and (Own.from (boxed_own _ _ (fun _ => .int .i64 (size : Int))) _) (ownFrom_below (Nat.le_refl _) (by omega)))))
   (fun _ _ _ _ _ hs _ _ => hs)
   ⟨⟨_, bB3, World.ownsRow_nil _ _ _ _, trivial⟩, bN3, bS, hB3⟩
   (fun x => { tmps := #[.int .u64 a0, .int .i64 (size : Int), .pointer (some ⟨w.heap.size, 0, none⟩), undef, .slice none 0 0, .int .i64 0, .pointer (some ⟨w.heap.size + 1, 0, none⟩), .int .i64 x.1, .int .i64 (size : Int), .bool false, .bool false, .int .i64 (size : Int), .bool false, .bool false, .bool false, .int .u64 a0, .int .i64 L, .int .i64 (size : Int), .int .i64 (8 * (size : Int)), .bool false, .bool false, .int .i64 (size : Int), .func (.func 101) #[] #[.pointer (some ⟨w.heap.size + 1 + 1, 0, none⟩)], .int .i64 x.1, undef, undef, undef, undef, undef, undef, undef, undef], defers := [] }) ?assign ?body ?done ?stop
  case assign =>
   intro l x W K hK
   gi_wp2
   exact hK
  case stop =>
   rintro D c pre W _ _ h _
   exact h.elim
  case done =>
   rintro D ys W hD rfl ⟨⟨v, hv, hrow, _⟩, hn0, hs0, hB⟩ hK
   have hc := hv.cell
   gi_wp2
   refine ⟨by simp, .inl ⟨_, _, rfl, run_takeDeferred hK, ?_⟩⟩
   exact ⟨_, results_tmp2 rfl _ _ _, v, rfl, Kd.R_of_own (by rw [beOf_length]; exact ownsRow_putObj (own_weaken hrow (by omega)) _ hK rfl) (fun _ _ => trivial), hB.trans (belowK_b (w := w) (Nat.le_refl _) W D _ _ (by omega) hK rfl rfl)⟩
  case body =>
   rintro l pre x W ⟨⟨v, hv, hrow, _⟩, hn0, hs0, hB⟩ hlt
   have hc := hv.cell
   have hcn := hn0.cell
   obtain ⟨x, hx0, hx1⟩ := x
   gi_wp2
   have hsz := hB.size
   have hW3 : w.heap.size + 1 + 1 < W.heap.size := hs0.lt
   have hrow1 : W.drew.ownsRow (w.heap.size + 3) 5 1 v pre.length (nums .u8 (beOf a0 pre)) := hrow
   have HRW := Aside0.mk hrow
   have hcA := (Boxed.alloc hv (.cells #[.int .u8 (IntKind.u8.wrap (a0 / 2 ^ x.toNat))] 5)).cell
   clear hrow
   refine wpIn_region_any (by kernel_rfl) ?_
   refine wpAnyIn_ready (rs := [0, 1, 2]) (by kernel_rfl) (by simp) ?_
   refine AllReadyIn.cons rfl (fun K hK => ?_) ?_
   ·go_simp
    refine hK _ _ ?_
    clear hK K
    refine wpAnyIn_ready (rs := [1, 2]) (by kernel_rfl) (by simp) ?_
    refine AllReadyIn.cons rfl (fun K hK => ?_) ?_
    ·go_simp
     refine hK _ _ ?_
     clear hK K
     refine wpAnyIn_ready (rs := [2]) (by kernel_rfl) (by simp) ?_
     refine AllReadyIn.cons rfl (fun K hK => ?_) ?_
     ·go_simp
      refine hK _ _ ?_
      clear hK K
      refine wpAnyIn_ready (rs := [3]) (by kernel_rfl) (by simp) ?_
      refine AllReadyIn.cons rfl (fun K hK => ?_) ?_
      ·go_simp
       refine hK _ _ ?_
       clear hK K
       refine wpAnyIn_ready (rs := [4]) (by kernel_rfl) (by simp) ?_
       refine AllReadyIn.cons rfl (fun K hK => ?_) ?_
       ·go_simp
        refine hK _ _ ?_
        clear hK K
        refine wpAnyIn_ready (rs := [5]) (by kernel_rfl) (by simp) ?_
        refine AllReadyIn.cons rfl (fun K hK => ?_) ?_
        ·go_simp
         refine hK _ _ ?_
         clear hK K
         refine wpAnyIn_ready (rs := [6]) (by kernel_rfl) (by simp) ?_
         refine AllReadyIn.cons rfl (fun K hK => ?_) ?_
         ·refine stepIn_append_own (w := W.drew.alloc (.cells #[.int .u8 (IntKind.u8.wrap (a0 / 2 ^ x.toNat))] 5)) rfl (.tmp 24) (.tmp 29) 26 rfl (w.heap.size + 3) 5 i0 (.int .u8 0) 1 1 Try.underlying26 hi hz0 hz1 hz2 rfl (by decide) v pre.length (nums .u8 (beOf a0 pre)) rfl (hrow1.alloc _) ⟨W.heap.size, 0, none⟩ 1 1 [.int .u8 (IntKind.u8.wrap (a0 / 2 ^ x.toNat))] rfl rfl (cell_one_new _ _ _) (by simp [Value.oneCell']) (by simp only [maxLen]; omega) (by omega) (by simp; omega) ?_
          intro v' w1 hown' hgrow0 _
          have hgrow : (W.alloc (.cells #[.int .u8 (IntKind.u8.wrap (a0 / 2 ^ x.toNat))] 5)).grownBy w1 v.ownBlock := ⟨hgrow0.os, hgrow0.tape, hgrow0.output, hgrow0.size, hgrow0.block⟩
          clear hgrow0
          refine hK _ _ ?_
          clear hK K
          obtain ⟨g', cap', rfl⟩ := ownsRow_succ hown'
          obtain ⟨hv1, hv2, hr2, hk2, hb2⟩ := hv.appended (W := W) (n₀ := w.heap.size) (by decide) (own_weaken HRW.out (by omega)) (by omega) (by omega) (own_weaken hown' (by omega)) hgrow
          have hr3 := hown'.kept (grownBy_setCell' w1 (w.heap.size + 1) (.slice (some ⟨g', 0, none⟩) (pre.length + 1) cap')) (.inr (hv1.not_row (by decide) hown').symm)
          have HF := Aside0.mk (And.intro hv2 (And.intro hr3 (And.intro hk2 (And.intro hb2 hgrow))))
          clear hr2 hv2 hr3 hk2 hb2 hgrow hown'
          have hc1 := hv1.cell
          have hf1 := hv1.frozen
          refine wpAnyIn_ready (rs := [7]) (by kernel_rfl) (by simp) ?_
          refine AllReadyIn.cons rfl (fun K hK => ?_) ?_
          ·go_simp
           refine hK _ _ ?_
           clear hK K
           refine wpAnyIn_done (by kernel_rfl) ?_ _
           exact put_close (x := ⟨x, hx0, hx1⟩) hn0 hs0 hB HRW.out HF.out
          exact AllReadyIn.nil
         exact AllReadyIn.nil
        exact AllReadyIn.nil
       exact AllReadyIn.nil
      exact AllReadyIn.nil
     exact AllReadyIn.nil
    refine AllReadyIn.cons rfl (fun K hK => ?_) ?_
    ·go_simp
     refine hK _ _ ?_
     clear hK K
     refine wpAnyIn_ready (rs := [1]) (by kernel_rfl) (by simp) ?_
     refine AllReadyIn.cons rfl (fun K hK => ?_) ?_
     ·go_simp
      refine hK _ _ ?_
      clear hK K
      refine wpAnyIn_ready (rs := [3]) (by kernel_rfl) (by simp) ?_
      refine AllReadyIn.cons rfl (fun K hK => ?_) ?_
      ·go_simp
       refine hK _ _ ?_
       clear hK K
       refine wpAnyIn_ready (rs := [4]) (by kernel_rfl) (by simp) ?_
       refine AllReadyIn.cons rfl (fun K hK => ?_) ?_
       ·go_simp
        refine hK _ _ ?_
        clear hK K
        refine wpAnyIn_ready (rs := [5]) (by kernel_rfl) (by simp) ?_
        refine AllReadyIn.cons rfl (fun K hK => ?_) ?_
        ·go_simp
         refine hK _ _ ?_
         clear hK K
         refine wpAnyIn_ready (rs := [6]) (by kernel_rfl) (by simp) ?_
         refine AllReadyIn.cons rfl (fun K hK => ?_) ?_
         ·refine stepIn_append_own (w := W.drew.alloc (.cells #[.int .u8 (IntKind.u8.wrap (a0 / 2 ^ x.toNat))] 5)) rfl (.tmp 24) (.tmp 29) 26 rfl (w.heap.size + 3) 5 i0 (.int .u8 0) 1 1 Try.underlying26 hi hz0 hz1 hz2 rfl (by decide) v pre.length (nums .u8 (beOf a0 pre)) rfl (hrow1.alloc _) ⟨W.heap.size, 0, none⟩ 1 1 [.int .u8 (IntKind.u8.wrap (a0 / 2 ^ x.toNat))] rfl rfl (cell_one_new _ _ _) (by simp [Value.oneCell']) (by simp only [maxLen]; omega) (by omega) (by simp; omega) ?_
          intro v' w1 hown' hgrow0 _
          have hgrow : (W.alloc (.cells #[.int .u8 (IntKind.u8.wrap (a0 / 2 ^ x.toNat))] 5)).grownBy w1 v.ownBlock := ⟨hgrow0.os, hgrow0.tape, hgrow0.output, hgrow0.size, hgrow0.block⟩
          clear hgrow0
          refine hK _ _ ?_
          clear hK K
          obtain ⟨g', cap', rfl⟩ := ownsRow_succ hown'
          obtain ⟨hv1, hv2, hr2, hk2, hb2⟩ := hv.appended (W := W) (n₀ := w.heap.size) (by decide) (own_weaken HRW.out (by omega)) (by omega) (by omega) (own_weaken hown' (by omega)) hgrow
          have hr3 := hown'.kept (grownBy_setCell' w1 (w.heap.size + 1) (.slice (some ⟨g', 0, none⟩) (pre.length + 1) cap')) (.inr (hv1.not_row (by decide) hown').symm)
          have HF := Aside0.mk (And.intro hv2 (And.intro hr3 (And.intro hk2 (And.intro hb2 hgrow))))
          clear hr2 hv2 hr3 hk2 hb2 hgrow hown'
          have hc1 := hv1.cell
          have hf1 := hv1.frozen
          refine wpAnyIn_ready (rs := [7]) (by kernel_rfl) (by simp) ?_
          refine AllReadyIn.cons rfl (fun K hK => ?_) ?_
          ·go_simp
           refine hK _ _ ?_
           clear hK K
           refine wpAnyIn_done (by kernel_rfl) ?_ _
           exact put_close (x := ⟨x, hx0, hx1⟩) hn0 hs0 hB HRW.out HF.out
          exact AllReadyIn.nil
         exact AllReadyIn.nil
        exact AllReadyIn.nil
       exact AllReadyIn.nil
      exact AllReadyIn.nil
     exact AllReadyIn.nil
    exact AllReadyIn.nil
   refine AllReadyIn.cons rfl (fun K hK => ?_) ?_
   ·go_simp
    refine hK _ _ ?_
    clear hK K
    refine wpAnyIn_ready (rs := [0, 2]) (by kernel_rfl) (by simp) ?_
    refine AllReadyIn.cons rfl (fun K hK => ?_) ?_
    ·go_simp
     refine hK _ _ ?_
     clear hK K
     refine wpAnyIn_ready (rs := [2]) (by kernel_rfl) (by simp) ?_
     refine AllReadyIn.cons rfl (fun K hK => ?_) ?_
     ·go_simp
      refine hK _ _ ?_
      clear hK K
      refine wpAnyIn_ready (rs := [3]) (by kernel_rfl) (by simp) ?_
      refine AllReadyIn.cons rfl (fun K hK => ?_) ?_
      ·go_simp
       refine hK _ _ ?_
       clear hK K
       refine wpAnyIn_ready (rs := [4]) (by kernel_rfl) (by simp) ?_
       refine AllReadyIn.cons rfl (fun K hK => ?_) ?_
       ·go_simp
        refine hK _ _ ?_
        clear hK K
        refine wpAnyIn_ready (rs := [5]) (by kernel_rfl) (by simp) ?_
        refine AllReadyIn.cons rfl (fun K hK => ?_) ?_
        ·go_simp
         refine hK _ _ ?_
         clear hK K
         refine wpAnyIn_ready (rs := [6]) (by kernel_rfl) (by simp) ?_
         refine AllReadyIn.cons rfl (fun K hK => ?_) ?_
         ·refine stepIn_append_own (w := W.drew.alloc (.cells #[.int .u8 (IntKind.u8.wrap (a0 / 2 ^ x.toNat))] 5)) rfl (.tmp 24) (.tmp 29) 26 rfl (w.heap.size + 3) 5 i0 (.int .u8 0) 1 1 Try.underlying26 hi hz0 hz1 hz2 rfl (by decide) v pre.length (nums .u8 (beOf a0 pre)) rfl (hrow1.alloc _) ⟨W.heap.size, 0, none⟩ 1 1 [.int .u8 (IntKind.u8.wrap (a0 / 2 ^ x.toNat))] rfl rfl (cell_one_new _ _ _) (by simp [Value.oneCell']) (by simp only [maxLen]; omega) (by omega) (by simp; omega) ?_
          intro v' w1 hown' hgrow0 _
          have hgrow : (W.alloc (.cells #[.int .u8 (IntKind.u8.wrap (a0 / 2 ^ x.toNat))] 5)).grownBy w1 v.ownBlock := ⟨hgrow0.os, hgrow0.tape, hgrow0.output, hgrow0.size, hgrow0.block⟩
          clear hgrow0
          refine hK _ _ ?_
          clear hK K
          obtain ⟨g', cap', rfl⟩ := ownsRow_succ hown'
          obtain ⟨hv1, hv2, hr2, hk2, hb2⟩ := hv.appended (W := W) (n₀ := w.heap.size) (by decide) (own_weaken HRW.out (by omega)) (by omega) (by omega) (own_weaken hown' (by omega)) hgrow
          have hr3 := hown'.kept (grownBy_setCell' w1 (w.heap.size + 1) (.slice (some ⟨g', 0, none⟩) (pre.length + 1) cap')) (.inr (hv1.not_row (by decide) hown').symm)
          have HF := Aside0.mk (And.intro hv2 (And.intro hr3 (And.intro hk2 (And.intro hb2 hgrow))))
          clear hr2 hv2 hr3 hk2 hb2 hgrow hown'
          have hc1 := hv1.cell
          have hf1 := hv1.frozen
          refine wpAnyIn_ready (rs := [7]) (by kernel_rfl) (by simp) ?_
          refine AllReadyIn.cons rfl (fun K hK => ?_) ?_
          ·go_simp
           refine hK _ _ ?_
           clear hK K
           refine wpAnyIn_done (by kernel_rfl) ?_ _
           exact put_close (x := ⟨x, hx0, hx1⟩) hn0 hs0 hB HRW.out HF.out
          exact AllReadyIn.nil
         exact AllReadyIn.nil
        exact AllReadyIn.nil
       exact AllReadyIn.nil
      exact AllReadyIn.nil
     exact AllReadyIn.nil
    refine AllReadyIn.cons rfl (fun K hK => ?_) ?_
    ·go_simp
     refine hK _ _ ?_
     clear hK K
     refine wpAnyIn_ready (rs := [0, 3]) (by kernel_rfl) (by simp) ?_
     refine AllReadyIn.cons rfl (fun K hK => ?_) ?_
     ·go_simp
      refine hK _ _ ?_
      clear hK K
      refine wpAnyIn_ready (rs := [3]) (by kernel_rfl) (by simp) ?_
      refine AllReadyIn.cons rfl (fun K hK => ?_) ?_
      ·go_simp
       refine hK _ _ ?_
       clear hK K
       refine wpAnyIn_ready (rs := [4]) (by kernel_rfl) (by simp) ?_
       refine AllReadyIn.cons rfl (fun K hK => ?_) ?_
       ·go_simp
        refine hK _ _ ?_
        clear hK K
        refine wpAnyIn_ready (rs := [5]) (by kernel_rfl) (by simp) ?_
        refine AllReadyIn.cons rfl (fun K hK => ?_) ?_
        ·go_simp
         refine hK _ _ ?_
         clear hK K
         refine wpAnyIn_ready (rs := [6]) (by kernel_rfl) (by simp) ?_
         refine AllReadyIn.cons rfl (fun K hK => ?_) ?_
         ·refine stepIn_append_own (w := W.drew.alloc (.cells #[.int .u8 (IntKind.u8.wrap (a0 / 2 ^ x.toNat))] 5)) rfl (.tmp 24) (.tmp 29) 26 rfl (w.heap.size + 3) 5 i0 (.int .u8 0) 1 1 Try.underlying26 hi hz0 hz1 hz2 rfl (by decide) v pre.length (nums .u8 (beOf a0 pre)) rfl (hrow1.alloc _) ⟨W.heap.size, 0, none⟩ 1 1 [.int .u8 (IntKind.u8.wrap (a0 / 2 ^ x.toNat))] rfl rfl (cell_one_new _ _ _) (by simp [Value.oneCell']) (by simp only [maxLen]; omega) (by omega) (by simp; omega) ?_
          intro v' w1 hown' hgrow0 _
          have hgrow : (W.alloc (.cells #[.int .u8 (IntKind.u8.wrap (a0 / 2 ^ x.toNat))] 5)).grownBy w1 v.ownBlock := ⟨hgrow0.os, hgrow0.tape, hgrow0.output, hgrow0.size, hgrow0.block⟩
          clear hgrow0
          refine hK _ _ ?_
          clear hK K
          obtain ⟨g', cap', rfl⟩ := ownsRow_succ hown'
          obtain ⟨hv1, hv2, hr2, hk2, hb2⟩ := hv.appended (W := W) (n₀ := w.heap.size) (by decide) (own_weaken HRW.out (by omega)) (by omega) (by omega) (own_weaken hown' (by omega)) hgrow
          have hr3 := hown'.kept (grownBy_setCell' w1 (w.heap.size + 1) (.slice (some ⟨g', 0, none⟩) (pre.length + 1) cap')) (.inr (hv1.not_row (by decide) hown').symm)
          have HF := Aside0.mk (And.intro hv2 (And.intro hr3 (And.intro hk2 (And.intro hb2 hgrow))))
          clear hr2 hv2 hr3 hk2 hb2 hgrow hown'
          have hc1 := hv1.cell
          have hf1 := hv1.frozen
          refine wpAnyIn_ready (rs := [7]) (by kernel_rfl) (by simp) ?_
          refine AllReadyIn.cons rfl (fun K hK => ?_) ?_
          ·go_simp
           refine hK _ _ ?_
           clear hK K
           refine wpAnyIn_done (by kernel_rfl) ?_ _
           exact put_close (x := ⟨x, hx0, hx1⟩) hn0 hs0 hB HRW.out HF.out
          exact AllReadyIn.nil
         exact AllReadyIn.nil
        exact AllReadyIn.nil
       exact AllReadyIn.nil
      exact AllReadyIn.nil
     refine AllReadyIn.cons rfl (fun K hK => ?_) ?_
     ·go_simp
      refine hK _ _ ?_
      clear hK K
      refine wpAnyIn_ready (rs := [0, 4]) (by kernel_rfl) (by simp) ?_
      refine AllReadyIn.cons rfl (fun K hK => ?_) ?_
      ·go_simp
       refine hK _ _ ?_
       clear hK K
       refine wpAnyIn_ready (rs := [4]) (by kernel_rfl) (by simp) ?_
       refine AllReadyIn.cons rfl (fun K hK => ?_) ?_
       ·go_simp
        refine hK _ _ ?_
        clear hK K
        refine wpAnyIn_ready (rs := [5]) (by kernel_rfl) (by simp) ?_
        refine AllReadyIn.cons rfl (fun K hK => ?_) ?_
        ·go_simp
         refine hK _ _ ?_
         clear hK K
         refine wpAnyIn_ready (rs := [6]) (by kernel_rfl) (by simp) ?_
         refine AllReadyIn.cons rfl (fun K hK => ?_) ?_
         ·refine stepIn_append_own (w := W.drew.alloc (.cells #[.int .u8 (IntKind.u8.wrap (a0 / 2 ^ x.toNat))] 5)) rfl (.tmp 24) (.tmp 29) 26 rfl (w.heap.size + 3) 5 i0 (.int .u8 0) 1 1 Try.underlying26 hi hz0 hz1 hz2 rfl (by decide) v pre.length (nums .u8 (beOf a0 pre)) rfl (hrow1.alloc _) ⟨W.heap.size, 0, none⟩ 1 1 [.int .u8 (IntKind.u8.wrap (a0 / 2 ^ x.toNat))] rfl rfl (cell_one_new _ _ _) (by simp [Value.oneCell']) (by simp only [maxLen]; omega) (by omega) (by simp; omega) ?_
          intro v' w1 hown' hgrow0 _
          have hgrow : (W.alloc (.cells #[.int .u8 (IntKind.u8.wrap (a0 / 2 ^ x.toNat))] 5)).grownBy w1 v.ownBlock := ⟨hgrow0.os, hgrow0.tape, hgrow0.output, hgrow0.size, hgrow0.block⟩
          clear hgrow0
          refine hK _ _ ?_
          clear hK K
          obtain ⟨g', cap', rfl⟩ := ownsRow_succ hown'
          obtain ⟨hv1, hv2, hr2, hk2, hb2⟩ := hv.appended (W := W) (n₀ := w.heap.size) (by decide) (own_weaken HRW.out (by omega)) (by omega) (by omega) (own_weaken hown' (by omega)) hgrow
          have hr3 := hown'.kept (grownBy_setCell' w1 (w.heap.size + 1) (.slice (some ⟨g', 0, none⟩) (pre.length + 1) cap')) (.inr (hv1.not_row (by decide) hown').symm)
          have HF := Aside0.mk (And.intro hv2 (And.intro hr3 (And.intro hk2 (And.intro hb2 hgrow))))
          clear hr2 hv2 hr3 hk2 hb2 hgrow hown'
          have hc1 := hv1.cell
          have hf1 := hv1.frozen
          refine wpAnyIn_ready (rs := [7]) (by kernel_rfl) (by simp) ?_
          refine AllReadyIn.cons rfl (fun K hK => ?_) ?_
          ·go_simp
           refine hK _ _ ?_
           clear hK K
           refine wpAnyIn_done (by kernel_rfl) ?_ _
           exact put_close (x := ⟨x, hx0, hx1⟩) hn0 hs0 hB HRW.out HF.out
          exact AllReadyIn.nil
         exact AllReadyIn.nil
        exact AllReadyIn.nil
       exact AllReadyIn.nil
      refine AllReadyIn.cons rfl (fun K hK => ?_) ?_
      ·go_simp
       refine hK _ _ ?_
       clear hK K
       refine wpAnyIn_ready (rs := [0, 5]) (by kernel_rfl) (by simp) ?_
       refine AllReadyIn.cons rfl (fun K hK => ?_) ?_
       ·go_simp
        refine hK _ _ ?_
        clear hK K
        refine wpAnyIn_ready (rs := [5]) (by kernel_rfl) (by simp) ?_
        refine AllReadyIn.cons rfl (fun K hK => ?_) ?_
        ·go_simp
         refine hK _ _ ?_
         clear hK K
         refine wpAnyIn_ready (rs := [6]) (by kernel_rfl) (by simp) ?_
         refine AllReadyIn.cons rfl (fun K hK => ?_) ?_
         ·refine stepIn_append_own (w := W.drew.alloc (.cells #[.int .u8 (IntKind.u8.wrap (a0 / 2 ^ x.toNat))] 5)) rfl (.tmp 24) (.tmp 29) 26 rfl (w.heap.size + 3) 5 i0 (.int .u8 0) 1 1 Try.underlying26 hi hz0 hz1 hz2 rfl (by decide) v pre.length (nums .u8 (beOf a0 pre)) rfl (hrow1.alloc _) ⟨W.heap.size, 0, none⟩ 1 1 [.int .u8 (IntKind.u8.wrap (a0 / 2 ^ x.toNat))] rfl rfl (cell_one_new _ _ _) (by simp [Value.oneCell']) (by simp only [maxLen]; omega) (by omega) (by simp; omega) ?_
          intro v' w1 hown' hgrow0 _
          have hgrow : (W.alloc (.cells #[.int .u8 (IntKind.u8.wrap (a0 / 2 ^ x.toNat))] 5)).grownBy w1 v.ownBlock := ⟨hgrow0.os, hgrow0.tape, hgrow0.output, hgrow0.size, hgrow0.block⟩
          clear hgrow0
          refine hK _ _ ?_
          clear hK K
          obtain ⟨g', cap', rfl⟩ := ownsRow_succ hown'
          obtain ⟨hv1, hv2, hr2, hk2, hb2⟩ := hv.appended (W := W) (n₀ := w.heap.size) (by decide) (own_weaken HRW.out (by omega)) (by omega) (by omega) (own_weaken hown' (by omega)) hgrow
          have hr3 := hown'.kept (grownBy_setCell' w1 (w.heap.size + 1) (.slice (some ⟨g', 0, none⟩) (pre.length + 1) cap')) (.inr (hv1.not_row (by decide) hown').symm)
          have HF := Aside0.mk (And.intro hv2 (And.intro hr3 (And.intro hk2 (And.intro hb2 hgrow))))
          clear hr2 hv2 hr3 hk2 hb2 hgrow hown'
          have hc1 := hv1.cell
          have hf1 := hv1.frozen
          refine wpAnyIn_ready (rs := [7]) (by kernel_rfl) (by simp) ?_
          refine AllReadyIn.cons rfl (fun K hK => ?_) ?_
          ·go_simp
           refine hK _ _ ?_
           clear hK K
           refine wpAnyIn_done (by kernel_rfl) ?_ _
           exact put_close (x := ⟨x, hx0, hx1⟩) hn0 hs0 hB HRW.out HF.out
          exact AllReadyIn.nil
         exact AllReadyIn.nil
        exact AllReadyIn.nil
       refine AllReadyIn.cons rfl (fun K hK => ?_) ?_
       ·go_simp
        refine hK _ _ ?_
        clear hK K
        refine wpAnyIn_ready (rs := [0]) (by kernel_rfl) (by simp) ?_
        refine AllReadyIn.cons rfl (fun K hK => ?_) ?_
        ·go_simp
         refine hK _ _ ?_
         clear hK K
         refine wpAnyIn_ready (rs := [6]) (by kernel_rfl) (by simp) ?_
         refine AllReadyIn.cons rfl (fun K hK => ?_) ?_
         ·refine stepIn_append_own (w := W.drew.alloc (.cells #[.int .u8 (IntKind.u8.wrap (a0 / 2 ^ x.toNat))] 5)) rfl (.tmp 24) (.tmp 29) 26 rfl (w.heap.size + 3) 5 i0 (.int .u8 0) 1 1 Try.underlying26 hi hz0 hz1 hz2 rfl (by decide) v pre.length (nums .u8 (beOf a0 pre)) rfl (hrow1.alloc _) ⟨W.heap.size, 0, none⟩ 1 1 [.int .u8 (IntKind.u8.wrap (a0 / 2 ^ x.toNat))] rfl rfl (cell_one_new _ _ _) (by simp [Value.oneCell']) (by simp only [maxLen]; omega) (by omega) (by simp; omega) ?_
          intro v' w1 hown' hgrow0 _
          have hgrow : (W.alloc (.cells #[.int .u8 (IntKind.u8.wrap (a0 / 2 ^ x.toNat))] 5)).grownBy w1 v.ownBlock := ⟨hgrow0.os, hgrow0.tape, hgrow0.output, hgrow0.size, hgrow0.block⟩
          clear hgrow0
          refine hK _ _ ?_
          clear hK K
          obtain ⟨g', cap', rfl⟩ := ownsRow_succ hown'
          obtain ⟨hv1, hv2, hr2, hk2, hb2⟩ := hv.appended (W := W) (n₀ := w.heap.size) (by decide) (own_weaken HRW.out (by omega)) (by omega) (by omega) (own_weaken hown' (by omega)) hgrow
          have hr3 := hown'.kept (grownBy_setCell' w1 (w.heap.size + 1) (.slice (some ⟨g', 0, none⟩) (pre.length + 1) cap')) (.inr (hv1.not_row (by decide) hown').symm)
          have HF := Aside0.mk (And.intro hv2 (And.intro hr3 (And.intro hk2 (And.intro hb2 hgrow))))
          clear hr2 hv2 hr3 hk2 hb2 hgrow hown'
          have hc1 := hv1.cell
          have hf1 := hv1.frozen
          refine wpAnyIn_ready (rs := [7]) (by kernel_rfl) (by simp) ?_
          refine AllReadyIn.cons rfl (fun K hK => ?_) ?_
          ·go_simp
           refine hK _ _ ?_
           clear hK K
           refine wpAnyIn_done (by kernel_rfl) ?_ _
           exact put_close (x := ⟨x, hx0, hx1⟩) hn0 hs0 hB HRW.out HF.out
          exact AllReadyIn.nil
         exact AllReadyIn.nil
        exact AllReadyIn.nil
       exact AllReadyIn.nil
      exact AllReadyIn.nil
     exact AllReadyIn.nil
    exact AllReadyIn.nil
   refine AllReadyIn.cons rfl (fun K hK => ?_) ?_
   ·go_simp
    refine hK _ _ ?_
    clear hK K
    refine wpAnyIn_ready (rs := [0, 1]) (by kernel_rfl) (by simp) ?_
    refine AllReadyIn.cons rfl (fun K hK => ?_) ?_
    ·go_simp
     refine hK _ _ ?_
     clear hK K
     refine wpAnyIn_ready (rs := [1]) (by kernel_rfl) (by simp) ?_
     refine AllReadyIn.cons rfl (fun K hK => ?_) ?_
     ·go_simp
      refine hK _ _ ?_
      clear hK K
      refine wpAnyIn_ready (rs := [3]) (by kernel_rfl) (by simp) ?_
      refine AllReadyIn.cons rfl (fun K hK => ?_) ?_
      ·go_simp
       refine hK _ _ ?_
       clear hK K
       refine wpAnyIn_ready (rs := [4]) (by kernel_rfl) (by simp) ?_
       refine AllReadyIn.cons rfl (fun K hK => ?_) ?_
       ·go_simp
        refine hK _ _ ?_
        clear hK K
        refine wpAnyIn_ready (rs := [5]) (by kernel_rfl) (by simp) ?_
        refine AllReadyIn.cons rfl (fun K hK => ?_) ?_
        ·go_simp
         refine hK _ _ ?_
         clear hK K
         refine wpAnyIn_ready (rs := [6]) (by kernel_rfl) (by simp) ?_
         refine AllReadyIn.cons rfl (fun K hK => ?_) ?_
         ·refine stepIn_append_own (w := W.drew.alloc (.cells #[.int .u8 (IntKind.u8.wrap (a0 / 2 ^ x.toNat))] 5)) rfl (.tmp 24) (.tmp 29) 26 rfl (w.heap.size + 3) 5 i0 (.int .u8 0) 1 1 Try.underlying26 hi hz0 hz1 hz2 rfl (by decide) v pre.length (nums .u8 (beOf a0 pre)) rfl (hrow1.alloc _) ⟨W.heap.size, 0, none⟩ 1 1 [.int .u8 (IntKind.u8.wrap (a0 / 2 ^ x.toNat))] rfl rfl (cell_one_new _ _ _) (by simp [Value.oneCell']) (by simp only [maxLen]; omega) (by omega) (by simp; omega) ?_
          intro v' w1 hown' hgrow0 _
          have hgrow : (W.alloc (.cells #[.int .u8 (IntKind.u8.wrap (a0 / 2 ^ x.toNat))] 5)).grownBy w1 v.ownBlock := ⟨hgrow0.os, hgrow0.tape, hgrow0.output, hgrow0.size, hgrow0.block⟩
          clear hgrow0
          refine hK _ _ ?_
          clear hK K
          obtain ⟨g', cap', rfl⟩ := ownsRow_succ hown'
          obtain ⟨hv1, hv2, hr2, hk2, hb2⟩ := hv.appended (W := W) (n₀ := w.heap.size) (by decide) (own_weaken HRW.out (by omega)) (by omega) (by omega) (own_weaken hown' (by omega)) hgrow
          have hr3 := hown'.kept (grownBy_setCell' w1 (w.heap.size + 1) (.slice (some ⟨g', 0, none⟩) (pre.length + 1) cap')) (.inr (hv1.not_row (by decide) hown').symm)
          have HF := Aside0.mk (And.intro hv2 (And.intro hr3 (And.intro hk2 (And.intro hb2 hgrow))))
          clear hr2 hv2 hr3 hk2 hb2 hgrow hown'
          have hc1 := hv1.cell
          have hf1 := hv1.frozen
          refine wpAnyIn_ready (rs := [7]) (by kernel_rfl) (by simp) ?_
          refine AllReadyIn.cons rfl (fun K hK => ?_) ?_
          ·go_simp
           refine hK _ _ ?_
           clear hK K
           refine wpAnyIn_done (by kernel_rfl) ?_ _
           exact put_close (x := ⟨x, hx0, hx1⟩) hn0 hs0 hB HRW.out HF.out
          exact AllReadyIn.nil
         exact AllReadyIn.nil
        exact AllReadyIn.nil
       exact AllReadyIn.nil
      exact AllReadyIn.nil
     exact AllReadyIn.nil
    refine AllReadyIn.cons rfl (fun K hK => ?_) ?_
    ·go_simp
     refine hK _ _ ?_
     clear hK K
     refine wpAnyIn_ready (rs := [0, 3]) (by kernel_rfl) (by simp) ?_
     refine AllReadyIn.cons rfl (fun K hK => ?_) ?_
     ·go_simp
      refine hK _ _ ?_
      clear hK K
      refine wpAnyIn_ready (rs := [3]) (by kernel_rfl) (by simp) ?_
      refine AllReadyIn.cons rfl (fun K hK => ?_) ?_
      ·go_simp
       refine hK _ _ ?_
       clear hK K
       refine wpAnyIn_ready (rs := [4]) (by kernel_rfl) (by simp) ?_
       refine AllReadyIn.cons rfl (fun K hK => ?_) ?_
       ·go_simp
        refine hK _ _ ?_
        clear hK K
        refine wpAnyIn_ready (rs := [5]) (by kernel_rfl) (by simp) ?_
        refine AllReadyIn.cons rfl (fun K hK => ?_) ?_
        ·go_simp
         refine hK _ _ ?_
         clear hK K
         refine wpAnyIn_ready (rs := [6]) (by kernel_rfl) (by simp) ?_
         refine AllReadyIn.cons rfl (fun K hK => ?_) ?_
         ·refine stepIn_append_own (w := W.drew.alloc (.cells #[.int .u8 (IntKind.u8.wrap (a0 / 2 ^ x.toNat))] 5)) rfl (.tmp 24) (.tmp 29) 26 rfl (w.heap.size + 3) 5 i0 (.int .u8 0) 1 1 Try.underlying26 hi hz0 hz1 hz2 rfl (by decide) v pre.length (nums .u8 (beOf a0 pre)) rfl (hrow1.alloc _) ⟨W.heap.size, 0, none⟩ 1 1 [.int .u8 (IntKind.u8.wrap (a0 / 2 ^ x.toNat))] rfl rfl (cell_one_new _ _ _) (by simp [Value.oneCell']) (by simp only [maxLen]; omega) (by omega) (by simp; omega) ?_
          intro v' w1 hown' hgrow0 _
          have hgrow : (W.alloc (.cells #[.int .u8 (IntKind.u8.wrap (a0 / 2 ^ x.toNat))] 5)).grownBy w1 v.ownBlock := ⟨hgrow0.os, hgrow0.tape, hgrow0.output, hgrow0.size, hgrow0.block⟩
          clear hgrow0
          refine hK _ _ ?_
          clear hK K
          obtain ⟨g', cap', rfl⟩ := ownsRow_succ hown'
          obtain ⟨hv1, hv2, hr2, hk2, hb2⟩ := hv.appended (W := W) (n₀ := w.heap.size) (by decide) (own_weaken HRW.out (by omega)) (by omega) (by omega) (own_weaken hown' (by omega)) hgrow
          have hr3 := hown'.kept (grownBy_setCell' w1 (w.heap.size + 1) (.slice (some ⟨g', 0, none⟩) (pre.length + 1) cap')) (.inr (hv1.not_row (by decide) hown').symm)
          have HF := Aside0.mk (And.intro hv2 (And.intro hr3 (And.intro hk2 (And.intro hb2 hgrow))))
          clear hr2 hv2 hr3 hk2 hb2 hgrow hown'
          have hc1 := hv1.cell
          have hf1 := hv1.frozen
          refine wpAnyIn_ready (rs := [7]) (by kernel_rfl) (by simp) ?_
          refine AllReadyIn.cons rfl (fun K hK => ?_) ?_
          ·go_simp
           refine hK _ _ ?_
           clear hK K
           refine wpAnyIn_done (by kernel_rfl) ?_ _
           exact put_close (x := ⟨x, hx0, hx1⟩) hn0 hs0 hB HRW.out HF.out
          exact AllReadyIn.nil
         exact AllReadyIn.nil
        exact AllReadyIn.nil
       exact AllReadyIn.nil
      exact AllReadyIn.nil
     refine AllReadyIn.cons rfl (fun K hK => ?_) ?_
     ·go_simp
      refine hK _ _ ?_
      clear hK K
      refine wpAnyIn_ready (rs := [0, 4]) (by kernel_rfl) (by simp) ?_
      refine AllReadyIn.cons rfl (fun K hK => ?_) ?_
      ·go_simp
       refine hK _ _ ?_
       clear hK K
       refine wpAnyIn_ready (rs := [4]) (by kernel_rfl) (by simp) ?_
       refine AllReadyIn.cons rfl (fun K hK => ?_) ?_
       ·go_simp
        refine hK _ _ ?_
        clear hK K
        refine wpAnyIn_ready (rs := [5]) (by kernel_rfl) (by simp) ?_
        refine AllReadyIn.cons rfl (fun K hK => ?_) ?_
        ·go_simp
         refine hK _ _ ?_
         clear hK K
         refine wpAnyIn_ready (rs := [6]) (by kernel_rfl) (by simp) ?_
         refine AllReadyIn.cons rfl (fun K hK => ?_) ?_
         ·refine stepIn_append_own (w := W.drew.alloc (.cells #[.int .u8 (IntKind.u8.wrap (a0 / 2 ^ x.toNat))] 5)) rfl (.tmp 24) (.tmp 29) 26 rfl (w.heap.size + 3) 5 i0 (.int .u8 0) 1 1 Try.underlying26 hi hz0 hz1 hz2 rfl (by decide) v pre.length (nums .u8 (beOf a0 pre)) rfl (hrow1.alloc _) ⟨W.heap.size, 0, none⟩ 1 1 [.int .u8 (IntKind.u8.wrap (a0 / 2 ^ x.toNat))] rfl rfl (cell_one_new _ _ _) (by simp [Value.oneCell']) (by simp only [maxLen]; omega) (by omega) (by simp; omega) ?_
          intro v' w1 hown' hgrow0 _
          have hgrow : (W.alloc (.cells #[.int .u8 (IntKind.u8.wrap (a0 / 2 ^ x.toNat))] 5)).grownBy w1 v.ownBlock := ⟨hgrow0.os, hgrow0.tape, hgrow0.output, hgrow0.size, hgrow0.block⟩
          clear hgrow0
          refine hK _ _ ?_
          clear hK K
          obtain ⟨g', cap', rfl⟩ := ownsRow_succ hown'
          obtain ⟨hv1, hv2, hr2, hk2, hb2⟩ := hv.appended (W := W) (n₀ := w.heap.size) (by decide) (own_weaken HRW.out (by omega)) (by omega) (by omega) (own_weaken hown' (by omega)) hgrow
          have hr3 := hown'.kept (grownBy_setCell' w1 (w.heap.size + 1) (.slice (some ⟨g', 0, none⟩) (pre.length + 1) cap')) (.inr (hv1.not_row (by decide) hown').symm)
          have HF := Aside0.mk (And.intro hv2 (And.intro hr3 (And.intro hk2 (And.intro hb2 hgrow))))
          clear hr2 hv2 hr3 hk2 hb2 hgrow hown'
          have hc1 := hv1.cell
          have hf1 := hv1.frozen
          refine wpAnyIn_ready (rs := [7]) (by kernel_rfl) (by simp) ?_
          refine AllReadyIn.cons rfl (fun K hK => ?_) ?_
          ·go_simp
           refine hK _ _ ?_
           clear hK K
           refine wpAnyIn_done (by kernel_rfl) ?_ _
           exact put_close (x := ⟨x, hx0, hx1⟩) hn0 hs0 hB HRW.out HF.out
          exact AllReadyIn.nil
         exact AllReadyIn.nil
        exact AllReadyIn.nil
       exact AllReadyIn.nil
      refine AllReadyIn.cons rfl (fun K hK => ?_) ?_
      ·go_simp
       refine hK _ _ ?_
       clear hK K
       refine wpAnyIn_ready (rs := [0, 5]) (by kernel_rfl) (by simp) ?_
       refine AllReadyIn.cons rfl (fun K hK => ?_) ?_
       ·go_simp
        refine hK _ _ ?_
        clear hK K
        refine wpAnyIn_ready (rs := [5]) (by kernel_rfl) (by simp) ?_
        refine AllReadyIn.cons rfl (fun K hK => ?_) ?_
        ·go_simp
         refine hK _ _ ?_
         clear hK K
         refine wpAnyIn_ready (rs := [6]) (by kernel_rfl) (by simp) ?_
         refine AllReadyIn.cons rfl (fun K hK => ?_) ?_
         ·refine stepIn_append_own (w := W.drew.alloc (.cells #[.int .u8 (IntKind.u8.wrap (a0 / 2 ^ x.toNat))] 5)) rfl (.tmp 24) (.tmp 29) 26 rfl (w.heap.size + 3) 5 i0 (.int .u8 0) 1 1 Try.underlying26 hi hz0 hz1 hz2 rfl (by decide) v pre.length (nums .u8 (beOf a0 pre)) rfl (hrow1.alloc _) ⟨W.heap.size, 0, none⟩ 1 1 [.int .u8 (IntKind.u8.wrap (a0 / 2 ^ x.toNat))] rfl rfl (cell_one_new _ _ _) (by simp [Value.oneCell']) (by simp only [maxLen]; omega) (by omega) (by simp; omega) ?_
          intro v' w1 hown' hgrow0 _
          have hgrow : (W.alloc (.cells #[.int .u8 (IntKind.u8.wrap (a0 / 2 ^ x.toNat))] 5)).grownBy w1 v.ownBlock := ⟨hgrow0.os, hgrow0.tape, hgrow0.output, hgrow0.size, hgrow0.block⟩
          clear hgrow0
          refine hK _ _ ?_
          clear hK K
          obtain ⟨g', cap', rfl⟩ := ownsRow_succ hown'
          obtain ⟨hv1, hv2, hr2, hk2, hb2⟩ := hv.appended (W := W) (n₀ := w.heap.size) (by decide) (own_weaken HRW.out (by omega)) (by omega) (by omega) (own_weaken hown' (by omega)) hgrow
          have hr3 := hown'.kept (grownBy_setCell' w1 (w.heap.size + 1) (.slice (some ⟨g', 0, none⟩) (pre.length + 1) cap')) (.inr (hv1.not_row (by decide) hown').symm)
          have HF := Aside0.mk (And.intro hv2 (And.intro hr3 (And.intro hk2 (And.intro hb2 hgrow))))
          clear hr2 hv2 hr3 hk2 hb2 hgrow hown'
          have hc1 := hv1.cell
          have hf1 := hv1.frozen
          refine wpAnyIn_ready (rs := [7]) (by kernel_rfl) (by simp) ?_
          refine AllReadyIn.cons rfl (fun K hK => ?_) ?_
          ·go_simp
           refine hK _ _ ?_
           clear hK K
           refine wpAnyIn_done (by kernel_rfl) ?_ _
           exact put_close (x := ⟨x, hx0, hx1⟩) hn0 hs0 hB HRW.out HF.out
          exact AllReadyIn.nil
         exact AllReadyIn.nil
        exact AllReadyIn.nil
       refine AllReadyIn.cons rfl (fun K hK => ?_) ?_
       ·go_simp
        refine hK _ _ ?_
        clear hK K
        refine wpAnyIn_ready (rs := [0]) (by kernel_rfl) (by simp) ?_
        refine AllReadyIn.cons rfl (fun K hK => ?_) ?_
        ·go_simp
         refine hK _ _ ?_
         clear hK K
         refine wpAnyIn_ready (rs := [6]) (by kernel_rfl) (by simp) ?_
         refine AllReadyIn.cons rfl (fun K hK => ?_) ?_
         ·refine stepIn_append_own (w := W.drew.alloc (.cells #[.int .u8 (IntKind.u8.wrap (a0 / 2 ^ x.toNat))] 5)) rfl (.tmp 24) (.tmp 29) 26 rfl (w.heap.size + 3) 5 i0 (.int .u8 0) 1 1 Try.underlying26 hi hz0 hz1 hz2 rfl (by decide) v pre.length (nums .u8 (beOf a0 pre)) rfl (hrow1.alloc _) ⟨W.heap.size, 0, none⟩ 1 1 [.int .u8 (IntKind.u8.wrap (a0 / 2 ^ x.toNat))] rfl rfl (cell_one_new _ _ _) (by simp [Value.oneCell']) (by simp only [maxLen]; omega) (by omega) (by simp; omega) ?_
          intro v' w1 hown' hgrow0 _
          have hgrow : (W.alloc (.cells #[.int .u8 (IntKind.u8.wrap (a0 / 2 ^ x.toNat))] 5)).grownBy w1 v.ownBlock := ⟨hgrow0.os, hgrow0.tape, hgrow0.output, hgrow0.size, hgrow0.block⟩
          clear hgrow0
          refine hK _ _ ?_
          clear hK K
          obtain ⟨g', cap', rfl⟩ := ownsRow_succ hown'
          obtain ⟨hv1, hv2, hr2, hk2, hb2⟩ := hv.appended (W := W) (n₀ := w.heap.size) (by decide) (own_weaken HRW.out (by omega)) (by omega) (by omega) (own_weaken hown' (by omega)) hgrow
          have hr3 := hown'.kept (grownBy_setCell' w1 (w.heap.size + 1) (.slice (some ⟨g', 0, none⟩) (pre.length + 1) cap')) (.inr (hv1.not_row (by decide) hown').symm)
          have HF := Aside0.mk (And.intro hv2 (And.intro hr3 (And.intro hk2 (And.intro hb2 hgrow))))
          clear hr2 hv2 hr3 hk2 hb2 hgrow hown'
          have hc1 := hv1.cell
          have hf1 := hv1.frozen
          refine wpAnyIn_ready (rs := [7]) (by kernel_rfl) (by simp) ?_
          refine AllReadyIn.cons rfl (fun K hK => ?_) ?_
          ·go_simp
           refine hK _ _ ?_
           clear hK K
           refine wpAnyIn_done (by kernel_rfl) ?_ _
           exact put_close (x := ⟨x, hx0, hx1⟩) hn0 hs0 hB HRW.out HF.out
          exact AllReadyIn.nil
         exact AllReadyIn.nil
        exact AllReadyIn.nil
       exact AllReadyIn.nil
      exact AllReadyIn.nil
     exact AllReadyIn.nil
    exact AllReadyIn.nil
   exact AllReadyIn.nil
end
end Go.Proofs.Ytooabchnbmnchaa.Q
namespace Go.Proofs.Ytooabchnbmnchaa.Q
open Go.RowKit Go.Proofs.YtooabchnbmnchaaW.PrintWords Go.Proofs.YtooabchnbmnchaaW.PrintLast Go.Proofs.YtooabchnbmnchaaW.PrintMore
attribute [local go_sem] max2_int min2_int max_two min_two max_three min_three max_four min_four binOp_string_leq binOp_string_geq binOp_string_gtr   -- for this text's walks alone
set_option linter.unusedVariables false
set_option linter.unusedSimpArgs false
set_option maxHeartbeats 800000 in
set_option maxRecDepth 100000 in
theorem slices_Grow_byte_nil (n : Nat) (hn : n ≤ 140737488355328) (w : World) : Calls Try.prog 99 #[.slice none 0 0, .int .i64 (n : Int)] w fun e w' => ∃ v, e = .returned v ∧ Kd.R (Kd.int .u8) 5 w' w.heap.size (fun _ => True) v [] ∧ Below w.heap.size w w' := by
 have hinfo : (Try.prog.info? 5).map (fun i => (i.zero, i.size, i.bytes)) = some (some (.int .u8 0), 1, 1) := by kernel_rfl
 have HI := Aside0.mk hinfo
 have HB := Aside0.mk (Below.refl w.heap.size w)
 clear hinfo
 have h0 : decide ((n : Int) < 0) = false := by simp
 by_cases hp : 0 < n
 ·have h1 : decide (0 < (n : Int)) = true := by simp; omega
  have hby : Try.t5.bytes = 1 := by kernel_rfl
  have hnx : Builtin.nextslicecap n 0 = n := by unfold Builtin.nextslicecap; rw [if_pos (by omega)]
  have g1 : ¬ (281474976710656 < Builtin.nextslicecap n 0 * Try.t5.bytes) := by rw [hnx, hby]; omega
  have g2 : ¬ (281474976710656 < (n : Int) * (Try.t5.bytes : Int)) := by rw [hby]; omega
  have hge := grownCap_ge w n 0 5
  have hcm := grownCap_le_maxLen w n 0 5 (by unfold maxLen; omega)
  have G := Aside0.mk (And.intro g1 (And.intro g2 (And.intro hge hcm)))
  clear hby hnx g1 g2 hge hcm
  go_enter Try.func99, Try.ntmps99
  go_wp2
  all_goals first
   | (exact absurd (by assumption) G.out.1)
   | (exact absurd (by assumption) G.out.2.1)
   | (exact absurd (by assumption) (Int.not_lt.mpr G.out.2.1))
   | skip
  go_ret
  refine ⟨_, rfl, Kd.R_drew (Kd.R_of_own (World.ownsRow_made w _ _ (Nat.le_refl _) G.out.2.2.2 ?_) (fun _ _ => trivial)) , ?_⟩
  ·rw [Array.size_append, size_zeroCells, size_zeroCells]
   have : n ≤ (Question.appendCap n 0 5).cut (w.tape w.drawn (Question.appendCap n 0 5)) := G.out.2.2.1
   simp only [List.size_toArray, List.length_cons, List.length_nil]
   omega
  ·exact below_drew (below_alloc HB.out _)
 ·have : n = 0 := by omega
  subst this
  go_enter Try.func99, Try.ntmps99
  go_wp2
  go_ret
  exact ⟨_, rfl, Kd.R_nil _ _ _ _ _, Below.refl _ _⟩
theorem concat_at {w : World} {A : Option Addr} {n : Nat} {xs : List (List Int)} (h : Kd.C (Kd.slice 5 (Kd.int .u8)) w A n xs) (i : Nat) (h0 : i < n) (h1 : i < xs.length) : ∃ ad A0 c0, A = some ad ∧ w.cell? (ad.add i) = some (.slice A0 xs[i].length c0) ∧ xs[i].length ≤ c0 ∧ (Kd.int .u8).C w A0 xs[i].length xs[i] := by
 obtain ⟨ad, c, e, _, hK, hc0⟩ := Kd.C_get h ([] : List Int) (i : Int) (by omega) (by omega)
 have hx : xs.getD ((i : Int)).toNat [] = xs[i] := by rw [Int.toNat_natCast, List.getD_eq_getElem?_getD, List.getElem?_eq_getElem h1]; rfl
 rw [hx] at hK
 have hc : ∀ j u, c[j]? = some u → w.cell? (ad.add (((i : Int)).toNat * 1 + j)) = some u := hc0
 obtain ⟨A0, c0, rfl, l0, g0⟩ := hK
 exact ⟨ad, A0, c0, e, by have hq := hc 0 _ rfl; rwa [Nat.mul_one, Nat.add_zero, Int.toNat_natCast] at hq, l0, g0⟩
theorem slices_Concat_take (l : List (List Int)) (k : Nat) (h : k < l.length) : (l.take (k + 1)).flatten = (l.take k).flatten ++ l[k] := by
 rw [List.take_succ_eq_append_getElem h, List.flatten_append]
 simp
theorem slices_Concat_le (l : List (List Int)) (k : Nat) : (l.take k).flatten.length ≤ l.flatten.length := by
 conv => rhs; rw [← List.take_append_drop k l, List.flatten_append, List.length_append]
 omega
def slices_Concat_byte_byte.f (l0 : List (List Int)) : Option (List Int) := if l0.flatten.length ≤ 140737488355328 then some l0.flatten else none
set_option maxHeartbeats 1600000 in
set_option maxRecDepth 100000 in
theorem slices_Concat_byte_byte.calls (A0 : Option Addr) (c0 : Nat) (l0 : List (List Int)) (r : List Int) (w : World) (hr0 : Kd.C (Kd.slice 5 (Kd.int .u8)) w A0 l0.length l0) (hc0 : l0.length ≤ c0) (h : slices_Concat_byte_byte.f l0 = some r) : Calls Try.prog 92 #[.slice A0 l0.length c0] w fun e w' => ∃ v0_ : Value, e = .returned (v0_) ∧ Kd.R (Kd.int .u8) 5 w' w.heap.size (fun _ => True) v0_ r ∧ Below w.heap.size w w' := by
 unfold slices_Concat_byte_byte.f at h
 by_cases hl : l0.flatten.length ≤ 140737488355328
 case neg => rw [if_neg hl] at h; cases h
 rw [if_pos hl] at h
 cases h
 have HR0 := Aside0.mk hr0
 have HC0 := Aside0.mk hc0
 have hmax := Kd.C_max hr0
 clear hr0 hc0
 have hinfo : (Try.prog.info? 5).map (fun i => (i.zero, i.size, i.bytes)) = some (some (.int .u8 0), 1, 1) := by kernel_rfl
 have HI := Aside0.mk hinfo
 clear hinfo
 go_enter Try.func92, Try.ntmps92
 go_wp2
 go_loop [3, 11] (fun v3 v11 => ∃ k : Nat, v11 = .int .i64 (k : Int) ∧ k ≤ l0.length ∧ v3 = .int .i64 ((l0.take k).flatten.length : Nat)) (fun _ v11 => l0.length - (intOf v11).toNat)
 case atStart => exact ⟨0, rfl, by omega, rfl⟩
 case round =>
  obtain ⟨k, rfl, hk, rfl⟩ := hrel
  by_cases hkn : k < l0.length
  ·obtain ⟨ad, A, c, hae, hcell, hlc, hin⟩ := concat_at HR0.out k hkn hkn
   cases hae
   clear hin hlc
   have hnext := congrArg List.length (slices_Concat_take l0 k hkn)
   rw [List.length_append] at hnext
   have hle := slices_Concat_le l0 (k + 1)
   obtain ⟨m, hm⟩ : ∃ m, m = l0[k].length := ⟨_, rfl⟩
   obtain ⟨p, hp⟩ : ∃ p, p = (l0.take k).flatten.length := ⟨_, rfl⟩
   rw [← hm] at hcell hnext
   rw [← hp] at hnext ⊢
   have HN := Aside0.mk hnext
   have hw : wrap64 ((p : Int) + (m : Int)) = (p : Int) + (m : Int) := wrap64_id (by omega) (by omega)
   have h0 : decide ((p : Int) + (m : Int) < 0) = false := by simp; omega
   clear hnext hle hp hm
   go_wp2
   exact ⟨⟨k + 1, by push_cast; rfl, by omega, by rw [hw, HN.out]; rfl⟩, by simp [intOf]; omega⟩
  ·have : k = l0.length := by omega
   subst this
   rw [List.take_length]
   obtain ⟨n, hn⟩ : ∃ n, n = l0.flatten.length := ⟨_, rfl⟩
   rw [← hn] at hl ⊢
   have HNN := Aside0.mk hn
   clear hn
   go_wp2_with (go_at_call 99; refine (slices_Grow_byte_nil _ hl w).mono ?_; rintro e w1 ⟨v, rfl, ho, hb⟩; obtain ⟨A1, c1, rfl⟩ := Kd.R_slice ho; have HO := Aside0.mk ho; have HB := Aside0.mk hb; clear ho hb)
   go_loopw [6, 27] (fun v6 v27 wr => ∃ k : Nat, v27 = .int .i64 (k : Int) ∧ k ≤ l0.length ∧ Aside0 (Kd.R (Kd.int .u8) 5 wr w.heap.size (fun _ => True) v6 (l0.take k).flatten) ∧ Aside0 (Below w.heap.size w wr)) (fun _ v27 _ => l0.length - (intOf v27).toNat)
   case atStart => exact ⟨0, rfl, by omega, HO, HB⟩
   case round =>
    obtain ⟨k, rfl, hk, HO2, HB2⟩ := hrel
    clear HO HB
    obtain ⟨A2, c2, rfl⟩ := Kd.R_slice HO2.out
    by_cases hkn : k < l0.length
    ·obtain ⟨ad, A, c, hae, hcell, hlc, hin⟩ := concat_at (Kd.C_below HR0.out HB2.out) k hkn hkn
     cases hae
     have HIN := Aside0.mk hin
     clear hin hlc
     have HN := Aside0.mk (slices_Concat_take l0 k hkn)
     have HLE := Aside0.mk (slices_Concat_le l0 (k + 1))
     obtain ⟨x, hx⟩ : ∃ x, x = l0[k] := ⟨_, rfl⟩
     obtain ⟨p, hp⟩ : ∃ p, p = (l0.take k).flatten := ⟨_, rfl⟩
     rw [← hx] at hcell HIN HN
     rw [← hp] at HN HO2 ⊢
     have HBD := Aside0.mk (show p.length + x.length ≤ 140737488355328 by have h1 := HLE.out; have h2 := HNN.out; rw [HN.out, List.length_append] at h1; omega)
     clear hx hp HLE
     go_wp2_with (first | ((with_reducible refine gate_builtin (b := .append) (xs := #[.tmp 31, .tmp 32]) rfl ?_); at_builtin; refine Kd.R_append_rows (Kd.int .u8) (w0 := w) w.heap.size rfl (.tmp 31) (.tmp 32) 26 5 (.int .u8 0) 1 rfl Try.underlying26 HI.out rfl (by decide) (by omega) _ p x _ _ _ (fun _ => True) (fun _ => False) rfl rfl HO2.out HIN.out (fun _ _ h => h) (fun _ h => h.elim) (fun _ _ => trivial) HB2.out (below_size HB2.out) ?aL ?_; (case aL => have := HBD.out; omega); intro v157 w3 ho hb hg hat; have HOb := Aside0.mk hb; have HO3 := Aside0.mk ho; clear ho hb hg hat))
     go_roundw
     case rel => exact ⟨k + 1, by push_cast; rfl, by omega, ⟨by rw [HN.out]; exact HO3.out⟩, HOb⟩
     case measure => simp [intOf]; omega
    ·have : k = l0.length := by omega
     subst this
     go_wp2
     go_ret
     refine ⟨_, rfl, ?_, HB2.out⟩
     have := HO2.out
     rw [List.take_length] at this ⊢
     exact this
end Go.Proofs.Ytooabchnbmnchaa.Q
namespace Go.Proofs.Ytooabchnbmnchaa.Q
open Go.RowKit Go.Proofs.YtooabchnbmnchaaW.PrintWords Go.Proofs.YtooabchnbmnchaaW.PrintLast Go.Proofs.YtooabchnbmnchaaW.PrintMore
attribute [local go_sem] max2_int min2_int max_two min_two max_three min_three max_four min_four binOp_string_leq binOp_string_geq binOp_string_gtr   -- for this text's walks alone
set_option linter.unusedVariables false
set_option linter.unusedSimpArgs false
def frames_Seal.f (a0_0 : Int) (l0_1 : List Int) : Option (List Int × Int) := if (l0_1.length : Int) > 4096 then (some (([] : List Int), 5)) else ((octets_Put.f (IntKind.u64.wrap ((l0_1.length : Int))) 2).bind fun bt167 => ((slices_Concat_byte_byte.f (([(([167, a0_0] : List Int)), bt167.1, l0_1] : List (List Int)))).bind fun t177 => ((crc_Sum.f t177).bind fun t180 => ((octets_Put.f (IntKind.u64.wrap (t180)) 4).bind fun bt181 => (if t177.length + bt181.1.length < 140737488355328 then (some ((t177 ++ bt181.1), 0)) else (none))))))
set_option maxHeartbeats 8000000 in
set_option maxRecDepth 100000 in
theorem frames_Seal.calls (a0_0 : Int) (P0_1_ : Nat → Prop) (A0_1 : Option Addr) (c0_1 : Nat) (l0_1 : List Int) (r1 : List Int) (r2 : Int) (w : World) (hs0_1 : Kd.V (Kd.int .u8) 5 w w.heap.size (fun k_ => P0_1_ k_) (.slice A0_1 l0_1.length c0_1) l0_1) (h : frames_Seal.f a0_0 l0_1 = some (r1, r2)) :
  Calls Try.prog 80 #[.agg #[.int .u8 a0_0, .slice A0_1 l0_1.length c0_1]] w fun e w' => ∃ v0_ : Value, e = .returned (.tuple #[v0_, .int .i64 r2]) ∧ Kd.R (Kd.int .u8) 5 w' w.heap.size (fun k_ => (w.heap.size ≤ k_)) v0_ r1 ∧ Below w.heap.size w w' := by
 have hu117 := Try.underlying117
 have HO0_1 := Aside0.mk (show Kd.V (Kd.int .u8) 5 w w.heap.size (fun k_ => (P0_1_ k_ ∨ w.heap.size ≤ k_)) (.slice A0_1 l0_1.length c0_1) l0_1 from Kd.V_mono hs0_1 (fun k_ hk => .inl hk))
 have HB := Aside0.mk (Below.refl w.heap.size w)
 have H : (if (l0_1.length : Int) > 4096 then (some (([] : List Int), 5)) else ((octets_Put.f (IntKind.u64.wrap ((l0_1.length : Int))) 2).bind fun bt167 => ((slices_Concat_byte_byte.f (([(([167, a0_0] : List Int)), bt167.1, l0_1] : List (List Int)))).bind fun t177 => ((crc_Sum.f t177).bind fun t180 => ((octets_Put.f (IntKind.u64.wrap (t180)) 4).bind fun bt181 => (if t177.length + bt181.1.length < 140737488355328 then (some ((t177 ++ bt181.1), 0)) else (none))))))) = some (r1, r2) := h
 clear h
 by_cases c2 : (l0_1.length : Int) > 4096
 ·rw [if_pos c2] at H
  have c2b0 : decide (4096 < (l0_1.length : Int)) = true := decide_eq_true c2
  have c2b1 : decide (4096 < l0_1.length) = true := decide_eq_true (by omega)
  clear c2
  simp only [Option.some.injEq, Prod.mk.injEq] at H
  obtain ⟨rfl, rfl⟩ := H
  go_enter Try.func80, Try.ntmps80
  go_wp2_with (first | ((with_reducible refine gate_dst (N := 1) rfl ?_); refine bx_ 1 #[.int .u8 a0_0, .slice A0_1 l0_1.length c0_1] 117 ?_; intro gb166 hg w3 hbox hb; replace HO0_1 := Aside0.mk (Kd.V_below (Kd.V_elderB (vA_ HO0_1) gb166 (Nat.le_of_eq hg.symm)) hb); have BK166 := Aside0.mk (hbox); have GW166 := bG_ HB hg; have GE166 := bG_ HB hg; replace HB := bS_ HB hb; clear hb hbox hg; obtain ⟨hcz4_0, hcz4_1, hfz4_0, hfz4_1⟩ := cz2_ BK166))
  go_ret2
  exact ⟨_, fin_, nil_, bl_ HB⟩
 ·rw [if_neg c2] at H
  have c2b0 : decide (4096 < (l0_1.length : Int)) = false := decide_eq_false c2
  have c2b1 : decide (4096 < l0_1.length) = false := decide_eq_false (by omega)
  clear c2
  replace H := Option.bind_eq_some_iff.mp H
  obtain ⟨⟨t167, t168⟩, A50, H⟩ := H
  try dsimp only at H
  have A5 := Aside0.mk A50
  clear A50
  obtain ⟨y171, hy171⟩ : ∃ y_ : List Int, y_ = (([167, a0_0] : List Int)) := ⟨_, rfl⟩
  replace H : ((slices_Concat_byte_byte.f (([y171, t167, l0_1] : List (List Int)))).bind fun t177 => ((crc_Sum.f t177).bind fun t180 => ((octets_Put.f (IntKind.u64.wrap (t180)) 4).bind fun bt181 => (if t177.length + bt181.1.length < 140737488355328 then (some ((t177 ++ bt181.1), 0)) else (none))))) = some (r1, r2) := by first | (rw [hy171]; with_reducible exact H) | (have H2_ := (Option.bind_some _ _).symm.trans H; rw [hy171]; with_reducible exact H2_) | (have H2_ := (Option.bind_some _ _).symm.trans H; with_reducible exact H2_) | with_reducible exact H | (rw [hy171]; exact H) | exact H
  have Ny171 := Aside0.mk hy171
  clear hy171
  obtain ⟨y174, hy174⟩ : ∃ y_ : List (List Int), y_ = (([y171, t167, l0_1] : List (List Int))) := ⟨_, rfl⟩
  replace H : ((slices_Concat_byte_byte.f y174).bind fun t177 => ((crc_Sum.f t177).bind fun t180 => ((octets_Put.f (IntKind.u64.wrap (t180)) 4).bind fun bt181 => (if t177.length + bt181.1.length < 140737488355328 then (some ((t177 ++ bt181.1), 0)) else (none))))) = some (r1, r2) := by first | (rw [hy174]; with_reducible exact H) | (have H2_ := (Option.bind_some _ _).symm.trans H; rw [hy174]; with_reducible exact H2_) | (have H2_ := (Option.bind_some _ _).symm.trans H; with_reducible exact H2_) | with_reducible exact H | (rw [hy174]; exact H) | exact H
  have Ny174 := Aside0.mk hy174
  clear hy174
  replace H := Option.bind_eq_some_iff.mp H
  obtain ⟨t177, A60, H⟩ := H
  try dsimp only at H
  have A6 := Aside0.mk A60
  clear A60
  replace H := Option.bind_eq_some_iff.mp H
  obtain ⟨t180, A70, H⟩ := H
  try dsimp only at H
  have A7 := Aside0.mk A70
  clear A70
  replace H := Option.bind_eq_some_iff.mp H
  obtain ⟨⟨t181, t182⟩, A80, H⟩ := H
  try dsimp only at H
  have A8 := Aside0.mk A80
  clear A80
  by_cases c9 : t177.length + t181.length < 140737488355328
  ·rw [if_pos c9] at H
   have LMc9 := Aside0.mk c9
   clear c9
   obtain ⟨y185, hy185⟩ : ∃ y_ : List Int, y_ = (t177 ++ t181) := ⟨_, rfl⟩
   replace H : (some (y185, 0)) = some (r1, r2) := by first | (rw [hy185]; with_reducible exact H) | (have H2_ := (Option.bind_some _ _).symm.trans H; rw [hy185]; with_reducible exact H2_) | (have H2_ := (Option.bind_some _ _).symm.trans H; with_reducible exact H2_) | with_reducible exact H | (rw [hy185]; exact H) | exact H
   have Ny185 := Aside0.mk hy185
   clear hy185
   simp only [Option.some.injEq, Prod.mk.injEq] at H
   obtain ⟨rfl, rfl⟩ := H
   go_enter Try.func80, Try.ntmps80
   go_wp2_with (first | ((with_reducible refine gate_dst (N := 1) rfl ?_); refine bx_ 1 #[.int .u8 a0_0, .slice A0_1 l0_1.length c0_1] 117 ?_; intro gb166 hg w10 hbox hb; replace HO0_1 := Aside0.mk (Kd.V_below (Kd.V_elderB (vA_ HO0_1) gb166 (Nat.le_of_eq hg.symm)) hb); have BK166 := Aside0.mk (hbox); have GW166 := bG_ HB hg; have GE166 := bG_ HB hg; replace HB := bS_ HB hb; clear hb hbox hg; obtain ⟨hcz11_0, hcz11_1, hfz11_0, hfz11_1⟩ := cz2_ BK166) | ((with_reducible refine gate_callee (f := 81) rfl ?_); refine gL_ (some 18) Try.func81 #[.int .u64 (IntKind.u64.wrap ((l0_1.length : Int))), .int .i64 2] ?_; (with_reducible refine (octets_Put.calls (IntKind.u64.wrap ((l0_1.length : Int))) 2 t167 t168 _ A5.out).mono ?_); rintro e w12 ⟨v169, rfl, ho0, hb⟩; refine ⟨_, rfl, ?_⟩; replace HO0_1 := Aside0.mk (Kd.V_elder' (vA_ HO0_1) (Kd.R_base ho0) hb); have HO170 := Aside0.mk (Kd.R_lower (Kd.R_newM (M := fun k_ => (w.heap.size ≤ k_)) ho0 (bs_ HB) (fun k_ h_ => h_)) (bs_ HB)); replace BK166 := bK_ BK166 hb; replace HB := bS_ HB hb; (try clear hb ho0); obtain ⟨hcz13_0, hcz13_1, hfz13_0, hfz13_1⟩ := cz2_ BK166) | ((with_reducible refine gate_dst (N := 23) rfl ?_); refine Kd.R_lit (Kd.int .u8) _ 5 ?hg (N := 23) ?hd (xs := ([167, a0_0] : List Int)) (inner := [.int .u8 167, .int .u8 a0_0]) (ok := fun _ => True) (okp := fun _ => True) ?hr ?hp (fun _ hk => hk) trivial (Below.refl _ _) (Nat.le_refl _) (by simp) ?_; (case hd => rfl); (case hg => rfl); (case hr => first | (go_simp; done) | (go_simp; rfl)); (case hp => exact (Reps.one (show Kd.M (Kd.int .u8) _ _ _ 167 [.int .u8 167] from rfl) (Reps.one (show Kd.M (Kd.int .u8) _ _ _ a0_0 [.int .u8 a0_0] from rfl) (Reps.none _ _)))); intro v172 w14 ho15 hb hg_ hnew_; clear hg_ hnew_; (first | rw [← Ny171.out] at ho15 | (simp only [Int.reduceToNat] at ho15; rw [← Ny171.out] at ho15)); replace HO0_1 := Aside0.mk (Kd.V_elder' (vA_ HO0_1) (Kd.R_base ho15) hb); have HO173 := Aside0.mk (Kd.R_lower (Kd.R_new' (Kd.R_newM (M := fun k_ => (w.heap.size ≤ k_)) ho15 (bs_ HB) (fun k_ h_ => h_)) (Kd.R_lt (rA_ HO170))) (bs_ HB)); replace HO170 := Aside0.mk (Kd.R_elder' (rA_ HO170) (Kd.R_base ho15) hb); replace BK166 := bK_ BK166 hb; replace HB := bS_ HB hb; clear hb ho15; obtain ⟨Ao16, co16, eo16⟩ := Kd.R_slice HO173.out; subst eo16; obtain ⟨hcz17_0, hcz17_1, hfz17_0, hfz17_1⟩ := cz2_ BK166; obtain ⟨Ao18, co18, eo18⟩ := Kd.R_slice HO170.out; subst eo18) | ((with_reducible refine gate_dst (N := 27) rfl ?_); refine Kd.N_lit (Kd.slice 5 (Kd.int .u8)) _ 26 ?hg (N' := 27) ?hd (xs := ([y171, t167, l0_1] : List (List Int))) (inner := [.slice Ao16 y171.length co16, .slice Ao18 t167.length co18, .slice A0_1 l0_1.length c0_1]) (ok := (fun k_ => (P0_1_ k_ ∨ w.heap.size ≤ k_) ∧ k_ ≠ gb166)) (okp := (fun k_ => (P0_1_ k_ ∨ w.heap.size ≤ k_) ∧ k_ ≠ gb166)) ?hr ?hp (fun _ hk => hk) ((show ∀ k_, w14.heap.size ≤ k_ → (fun k_ => (P0_1_ k_ ∨ w.heap.size ≤ k_) ∧ k_ ≠ gb166) k_ from fun k_ hk => ⟨(.inr (Nat.le_trans (bs_ HB) hk)), Kd.freshB (bA_ BK166) k_ hk⟩) _ (Nat.le_refl _)) (Below.refl _ _) (Nat.le_refl _) (by simp) ?_; (case hd => rfl); (case hg => rfl); (case hr => first | (go_simp; done) | (go_simp; rfl)); (case hp => exact (Reps.one (show Kd.FK (Kd.slice 5 (Kd.int .u8)) _ _ y171 [.slice Ao16 y171.length co16] from (Kd.FK_slice_mk (Kd.R_reads' (Kd.R_mono (ok' := (fun k_ => (P0_1_ k_ ∨ w.heap.size ≤ k_) ∧ k_ ≠ gb166)) (Kd.R_types (HO173.out) BK166.out (by decide)) (fun k_ hk => ⟨(.inr (hk.1.1.1)), hk.2⟩))).2.1 (Kd.R_F (Kd.R_mono (ok' := (fun k_ => (P0_1_ k_ ∨ w.heap.size ≤ k_) ∧ k_ ≠ gb166)) (Kd.R_types (HO173.out) BK166.out (by decide)) (fun k_ hk => ⟨(.inr (hk.1.1.1)), hk.2⟩))))) (Reps.one (show Kd.FK (Kd.slice 5 (Kd.int .u8)) _ _ t167 [.slice Ao18 t167.length co18] from (Kd.FK_slice_mk (Kd.R_reads' (Kd.R_mono (ok' := (fun k_ => (P0_1_ k_ ∨ w.heap.size ≤ k_) ∧ k_ ≠ gb166)) (Kd.R_types (HO170.out) BK166.out (by decide)) (fun k_ hk => ⟨(.inr (hk.1.1.1)), hk.2⟩))).2.1 (Kd.R_F (Kd.R_mono (ok' := (fun k_ => (P0_1_ k_ ∨ w.heap.size ≤ k_) ∧ k_ ≠ gb166)) (Kd.R_types (HO170.out) BK166.out (by decide)) (fun k_ hk => ⟨(.inr (hk.1.1.1)), hk.2⟩))))) (Reps.one (show Kd.FK (Kd.slice 5 (Kd.int .u8)) _ _ l0_1 [.slice A0_1 l0_1.length c0_1] from (Kd.FK_slice_mk (Kd.V_reads' (Kd.V_mono (ok' := (fun k_ => (P0_1_ k_ ∨ w.heap.size ≤ k_) ∧ k_ ≠ gb166)) (HO0_1.out) (fun k_ hk => ⟨hk.1.1.1, hk.1.1.2⟩))).2.1 (Kd.V_F (Kd.V_mono (ok' := (fun k_ => (P0_1_ k_ ∨ w.heap.size ≤ k_) ∧ k_ ≠ gb166)) (HO0_1.out) (fun k_ hk => ⟨hk.1.1.1, hk.1.1.2⟩))))) (Reps.none _ _))))); intro v175 w19 ho20 hb hg_ hnew_; clear hg_ hnew_; (first | rw [← Ny174.out] at ho20 | (simp only [Int.reduceToNat] at ho20; rw [← Ny174.out] at ho20)); replace HO0_1 := Aside0.mk (Kd.V_elder' (vA_ HO0_1) (Kd.N_base ho20) hb); have HO176 := Aside0.mk (Kd.N_lower ho20 (bs_ HB)); replace BK166 := bK_ BK166 hb; replace HB := bS_ HB hb; clear HO170 HO173; clear hb ho20; obtain ⟨Ao21, co21, eo21⟩ := Kd.N_slice HO176.out; subst eo21) | ((with_reducible refine gate_callee (f := 92) rfl ?_); refine gL_ (some 28) Try.func92 #[.slice Ao21 y174.length co21] ?_; (with_reducible refine (slices_Concat_byte_byte.calls _ _ y174 t177 _ ?_ ?_ A6.out).mono ?_); exact cO_ (Kd.N_reads' HO176.out).2.2; exact (Kd.N_reads' HO176.out).2.1; rintro e w22 ⟨v178, rfl, ho0, hb⟩; refine ⟨_, rfl, ?_⟩; replace HO0_1 := Aside0.mk (Kd.V_elder' (vA_ HO0_1) (Kd.R_base ho0) hb); replace HO176 := Aside0.mk (Kd.N_elder' (nA_ HO176) (Kd.R_base ho0) hb); have HO179 := Aside0.mk (Kd.R_lower (Kd.R_newM (M := fun k_ => (w.heap.size ≤ k_)) ho0 (bs_ HB) (fun k_ h_ => h_)) (bs_ HB)); replace BK166 := bK_ BK166 hb; replace HB := bS_ HB hb; (try clear hb ho0); obtain ⟨Ao23, co23, eo23⟩ := Kd.R_slice HO179.out; subst eo23) | ((with_reducible refine gate_callee (f := 93) rfl ?_); refine gL_ (some 31) Try.func93 #[.slice Ao23 t177.length co23] ?_; (with_reducible refine (crc_Sum.calls _ _ t177 t180 _ ?_ ?_ A7.out).mono ?_); exact cO_ (Kd.R_reads' HO179.out).2.2; exact (Kd.R_reads' HO179.out).2.1; rintro e w24 ⟨rfl, hb⟩; refine ⟨_, rfl, ?_⟩; replace HO0_1 := vB_ HO0_1 hb; replace HO176 := nB_ HO176 hb; replace HO179 := rB_ HO179 hb; replace BK166 := bK_ BK166 hb; replace HB := bS_ HB hb; (try clear hb)) | ((with_reducible refine gate_callee (f := 81) rfl ?_); refine gL_ (some 33) Try.func81 #[.int .u64 (IntKind.u64.wrap (t180)), .int .i64 4] ?_; (with_reducible refine (octets_Put.calls (IntKind.u64.wrap (t180)) 4 t181 t182 _ A8.out).mono ?_); rintro e w25 ⟨v183, rfl, ho0, hb⟩; refine ⟨_, rfl, ?_⟩; replace HO0_1 := Aside0.mk (Kd.V_elder' (vA_ HO0_1) (Kd.R_base ho0) hb); replace HO176 := Aside0.mk (Kd.N_elder' (nA_ HO176) (Kd.R_base ho0) hb); have HO184 := Aside0.mk (Kd.R_lower (Kd.R_new' (Kd.R_newM (M := fun k_ => (w.heap.size ≤ k_)) ho0 (bs_ HB) (fun k_ h_ => h_)) (Kd.R_lt (rA_ HO179))) (bs_ HB)); replace HO179 := Aside0.mk (Kd.R_elder' (rA_ HO179) (Kd.R_base ho0) hb); replace BK166 := bK_ BK166 hb; replace HB := bS_ HB hb; (try clear hb ho0); obtain ⟨Ao27, co27, eo27⟩ := Kd.R_slice HO184.out; subst eo27) | ((with_reducible refine gate_builtin (b := .append) (xs := #[.tmp 36, .tmp 37]) rfl ?_); at_builtin; refine Kd.R_append_rows (Kd.int .u8) (w0 := w) w.heap.size rfl (.tmp 36) (.tmp 37) 26 5 (.int .u8 0) 1 rfl Try.underlying26 info5 rfl (by decide) (by omega) (.slice Ao23 t177.length co23) t177 t181 _ _ _ (fun k_ => (w.heap.size ≤ k_) ∧ some k_ ≠ (.slice Ao27 t181.length co27 : Value).ownBlock) (fun _ => False) rfl rfl ?aO ?aR (fun _ _ h => h) (fun _ h => h.elim) ?aF ?aB ?aS ?aL ?_; (case aR => exact cO_ (Kd.R_reads' HO184.out).2.2); (case aB => exact (bl_ HB)); (case aF => exact (fun k_ hk => ⟨(Nat.le_trans (bs_ HB) hk), Kd.fresh' (Kd.R_lt (rA_ HO184)) k_ hk⟩)); (case aO => exact (by (with_reducible repeat (first | apply Kd.R_alloc | apply Kd.R_drewN | apply Kd.R_drew)); exact Kd.R_mono HO179.out (fun _ hk => ⟨hk.1.1, hk.2⟩))); (case aS => exact (bs_ HB)); (case aL => have := LMc9.out; omega); intro v186 w26 ho hb hg hat; rw [← Ny185.out] at ho; replace HO0_1 := Aside0.mk (Kd.V_afterv (ok := (fun k_ => (P0_1_ k_ ∨ w.heap.size ≤ k_) ∧ some k_ ≠ (.slice Ao21 y174.length co21 : Value).ownBlock ∧ some k_ ≠ (.slice Ao27 t181.length co27 : Value).ownBlock ∧ k_ ≠ gb166)) (by (with_reducible repeat (first | apply Kd.V_alloc | apply Kd.V_drewN | apply Kd.V_drew)); exact Kd.V_mono HO0_1.out (fun _ hk => ⟨⟨hk.1.1.1.1.1.1, ⟨hk.1.1.2, ⟨hk.2, hk.1.1.1.1.1.2⟩⟩⟩, hk.1.2⟩)) hg hat); replace BK166 := Aside0.mk (blk_grown (bA_ BK166) hg (Kd.R_ne HO179.out BK166.out (by decide))); replace HO176 := Aside0.mk (Kd.N_afterv (ok := (fun k_ => (P0_1_ k_ ∨ w.heap.size ≤ k_) ∧ some k_ ≠ (.slice Ao27 t181.length co27 : Value).ownBlock ∧ k_ ≠ gb166)) (by (with_reducible repeat (first | apply Kd.N_alloc | apply Kd.N_drewN | apply Kd.N_drew)); exact Kd.N_mono HO176.out (fun _ hk => ⟨⟨hk.1.1.1, ⟨hk.2, hk.1.1.2⟩⟩, hk.1.2⟩)) hg hat); replace HO184 := Aside0.mk (Kd.R_after (ok := (fun k_ => (w.heap.size ≤ k_))) (by (with_reducible repeat (first | apply Kd.R_alloc | apply Kd.R_drewN | apply Kd.R_drew)); exact Kd.R_mono HO184.out (fun _ hk => ⟨hk.1.1, hk.2⟩)) hg hat); replace HB := Aside0.mk (hb); have HO187 := Aside0.mk (ho); clear HO179; clear ho hb hg hat))
   go_ret2
   exact ⟨_, fin_, by (with_reducible repeat (first | apply Kd.R_alloc | apply Kd.R_drewN | apply Kd.R_drew)); exact Kd.R_mono HO187.out (fun _ hk => hk.1), bl_ HB⟩
  ·rw [if_neg c9] at H
   exact absurd H (by simp)
end Go.Proofs.Ytooabchnbmnchaa.Q
