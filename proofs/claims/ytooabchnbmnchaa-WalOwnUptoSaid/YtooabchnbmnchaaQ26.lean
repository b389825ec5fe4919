-- Laid by this session's own program (wip/tools) out of the translation; Lean checks it. Thinned, shortened and merged for this claim.
import Derived.Test.YtooabchnbmnchaaQ0
import Derived.Test.YtooabchnbmnchaaSq
import Derived.Test.YtooabchnbmnchaaQ16
namespace Go.Proofs.Ytooabchnbmnchaa.Q
open Go.RowKit Go.Proofs.YtooabchnbmnchaaW.PrintWords Go.Proofs.YtooabchnbmnchaaW.PrintLast Go.Proofs.YtooabchnbmnchaaW.PrintMore
attribute [local go_sem] max2_int min2_int max_two min_two max_three min_three max_four min_four binOp_string_leq binOp_string_geq binOp_string_gtr   -- for this text's walks alone
set_option linter.unusedVariables false
set_option linter.unusedSimpArgs false
section
def openSeg (limit next : Int) (segs : List S70) : List S70 :=
  if segs.length = 0 then segs ++ [⟨next, []⟩] else if limit ≤ ((rd_T70 segs ((segs.length : Int) - 1)).f1.length : Int) then segs ++ [⟨next, []⟩] else segs
theorem openSeg_pos (limit next : Int) (segs : List S70) : 0 < (openSeg limit next segs).length := by
  unfold openSeg; split
  · simp
  · split
    · simp
    · omega
def LastPost (g : Nat) (limit : Int) (v0 v2 : Value) (segs : List S70) (next : Int) (ok : Nat → Prop) (base : Nat) (w : World) (e : Ending) (w' : World) : Prop := ∃ (gs cap : Nat),
    e = .returned (.pointer (some ⟨gs, ((openSeg limit next segs).length - 1) * 2, none⟩)) ∧ w'.heap[g]? = some (.cells #[.slice (some ⟨gs, 0, none⟩) (openSeg limit next segs).length cap, .int .i64 next, v2] 61 (0, 0)) ∧
    Kd.S k70 70 w' base ok (.slice (some ⟨gs, 0, none⟩) (openSeg limit next segs).length cap) (openSeg limit next segs) ∧ Below 0 w w' ∧ Kept w w' (fun k => k = g ∨ some k = v0.ownBlock)
set_option maxHeartbeats 8000000 in
set_option maxRecDepth 100000 in
theorem wal_last.calls (g : Nat) (limit : Int) (v0 v2 : Value) (segs : List S70) (next : Int) (ok : Nat → Prop) (base : Nat) (w : World)
  (hg : w.heap[g]? = some (.cells #[v0, .int .i64 next, v2] 61 (0, 0))) (ho : Kd.S k70 70 w base ok v0 segs) (hfresh : ∀ k, w.heap.size ≤ k → ok k) (hbase : base ≤ w.heap.size) (hlen : segs.length < 4398046511104) :
  Calls Try.prog 79 #[.pointer (some ⟨g, 0, none⟩), .int .i64 limit] w fun e w' => LastPost g limit v0 v2 segs next ok base w e w' := by
  have hu61 := Try.underlying61
  have hu70 := Try.underlying70
  have BK1 := Aside0.mk hg
  have HO1 := Aside0.mk ho
  have HL := Aside0.mk hlen
  have HF := Aside0.mk hfresh
  have HBS := Aside0.mk hbase
  clear hg ho hlen hfresh hbase
  obtain ⟨A0, c0, rfl⟩ := Kd.S_slice HO1.out
  obtain ⟨hcz0, hcz1, hcz2, hfz0, hfz1, hfz2⟩ := cz3_ BK1
  by_cases hn : segs.length = 0
  · have c1b : ((segs.length : Int) == 0) = true := beq_iff_eq.mpr (by omega)
    have HN := Aside0.mk hn
    clear hn
    go_enter Try.func79, Try.ntmps79
    try go_wp2
    replace BK1 := Aside0.mk (blk_drew BK1.out)
    replace HO1 := Aside0.mk (Kd.S_drew HO1.out)
    have HBW := Aside0.mk (below_drew (Below.refl w.heap.size w))
    have HKW : Aside0 (Kept w w.drew (fun k => k = g ∨ some k = (.slice A0 segs.length c0 : Value).ownBlock)) := ⟨Kept.drew (Kept.refl _ _)⟩
    refine st_ (n := 15) (fun w' => w'.cell? ⟨g, 0, none⟩ = some (.slice A0 segs.length c0) ∧ w'.cell? ⟨g, 1, none⟩ = some (.int .i64 next)) [14] #[false, false, false, false, false, false, false, false, false, false, false, false, false, false, false] ⟨(blk_cell BK1.out 0).trans rfl, (blk_cell BK1.out 1).trans rfl⟩ (fun hHeld => ?_)
    refine tb_ (fun HT_ HW_ => ?_)
    have HZ : Aside0 (w.drew.heap.size = w.heap.size) := ⟨rfl⟩
    generalize w.drew = w1 at BK1 HO1 HBW HKW HZ hHeld ⊢
    refine pu_ 0 (some 27) HT_ ?_
    refine pu_ 1 (some 28) HT_ ?_
    refine pu_ 2 (some 29) HT_ ?_
    refine pu_ 3 (some 30) HT_ ?_
    refine pu_ 5 (some 32) HT_ ?_
    refine pu_ 6 (some 33) HT_ ?_
    refine pu_ 7 (some 34) HT_ ?_
    refine tk_ 4 (some 31) HT_ HW_ hHeld ?_
    refine tk_ 8 (some 35) HT_ HW_ hHeld ?_
    refine pu_ 9 (some 36) HT_ ?_
    refine on_ 10 (some 37) HT_ (fun K hK => ?_)
    refine value_ (w1 := ?_) (v := ?_) (by rfl) rfl ?_ ?_
    rotate_left 2
    · go_simp
      constructor
      · rfl
      · rfl
    refine hK.out _ _ ⟨(blk_cell (blk_alloc BK1.out _) 0).trans rfl, (blk_cell (blk_alloc BK1.out _) 1).trans rfl⟩ (fun hHeld => ?_)
    clear hK K
    refine norm_ (a' := ?_) ?_ ?_
    rotate_left
    · show Act.put _ (some 37) _ = _
      simp only [Act.put, List.setIfInBounds_toArray, List.set_cons_zero, List.set_cons_succ, i64_w, i32_w]
      rfl
    refine on_ 11 (some 38) HT_ (fun K hK => ?_)
    refine Kd.S_append_step k70 (w0 := w) base (by rfl) (.tmp 31) (.tmp 37) 59 70 (.agg #[(.int .i64 0), (.slice none 0 0)]) 32 rfl Try.underlying59 info70 rfl (by decide) (by omega) (.slice A0 segs.length c0) segs (⟨next, []⟩ : S70) [.int .i64 next, .slice none 0 0] ok (fun _ => False) rfl rfl ?aP (fun _ hk => hk.elim) ?aF ?aO ?aB ?aS ?aL ?_
    (case aP => exact k70_mkM _ _ _ (⟨next, []⟩ : S70) (Kd.R_nil _ _ _ _ _))
    (case aF => exact fun k hk => HF.out k (by rw [← HZ.out]; exact hk))
    (case aO => exact Kd.S_mono HO1.out (fun k hk => ⟨hk, fun h => h⟩))
    (case aB => exact HBW.out.mono HBS.out)
    (case aS => rw [HZ.out]; exact HBS.out)
    (case aL => have := HL.out; simp at this ⊢; try omega)
    intro v5 w5 ho hb hg hat
    obtain ⟨ys, hys2⟩ : ∃ ys, ys = segs ++ [(⟨next, []⟩ : S70)] := ⟨_, rfl⟩
    rw [← hys2] at ho
    have HYS := Aside0.mk hys2
    clear hys2
    have HS5 := Aside0.mk ho
    have HG5 := Aside0.mk hg
    have HB5 := Aside0.mk hb
    have BK5 := Aside0.mk (blk_grown BK1.out hg (Kd.S_ne HO1.out BK1.out (by decide)))
    refine hK.out _ _ ⟨(blk_cell BK5.out 0).trans rfl, (blk_cell BK5.out 1).trans rfl⟩ (fun hHeld => ?_)
    obtain ⟨A5, c5, rfl⟩ := Kd.S_slice HS5.out
    clear ho hb hg hat
    clear hK K
    refine norm_ (a' := ?_) ?_ ?_
    rotate_left
    · show Act.put _ (some 38) _ = _
      simp only [Act.put, List.setIfInBounds_toArray, List.set_cons_zero, List.set_cons_succ, i64_w, i32_w]
      rfl
    refine pu_ 12 (some 39) HT_ ?_
    refine pu_ 13 (some 40) HT_ ?_
    refine last_ (i := 14) (N := none) #[true, true, true, true, true, true, true, true, true, true, true, true, true, true, true] rfl rfl (one_of HT_.out (by kernel_rfl)) (by decide) (fun K hK => ?_)
    have hs6 := (blk_cell BK5.out 0)
    have hf6 := blk_frozen BK5.out 0
    refine skip_ (w1 := ?_) (by rfl) rfl ?_ ?_
    rotate_left
    · go_simp
      rfl
    refine hK.out _ _ ?_
    clear hK K
    refine done_ (done_of HT_.out (by kernel_rfl)) ?_
    clear HT_ HW_ hHeld hs6 hf6
    have HE : Aside0 (openSeg limit next segs = ys) := ⟨by rw [HYS.out]; unfold openSeg; rw [if_pos HN.out]⟩
    have BK7 : Aside0 ((w5.setCell ⟨g, 0, none⟩ (.slice A5 ys.length c5)).heap[g]? = some (.cells #[.slice A5 ys.length c5, .int .i64 next, v2] 61 (0, 0))) := ⟨blk_put BK5.out 0 _ rfl⟩
    have HS7 : Aside0 (Kd.S k70 70 (w5.setCell ⟨g, 0, none⟩ (.slice A5 ys.length c5)) base ok (.slice A5 ys.length c5) ys) := ⟨Kd.S_mono (Kd.S_far (p := ⟨g, 0, none⟩) (Kd.S_types HS5.out BK5.out (by decide)) (fun _ hk => hk.2) _) (fun _ hk => hk.1)⟩
    have HB7 : Aside0 (Below 0 w (w5.setCell ⟨g, 0, none⟩ (.slice A5 ys.length c5))) := ⟨(HB5.out.mono (Nat.zero_le _)).setCell (Nat.zero_le _) _⟩
    have HK7 : Aside0 (Kept w (w5.setCell ⟨g, 0, none⟩ (.slice A5 ys.length c5)) (fun k => k = g ∨ some k = (Value.slice A0 segs.length c0).ownBlock)) := ⟨Kept.setCell (Kept.of_grown HG5.out HKW.out (fun k h_ => .inl (.inr h_.symm))) (.inl (.inl rfl)) _⟩
    try go_wp2
    generalize (w5.setCell ⟨g, 0, none⟩ (.slice A5 ys.length c5)) = w7 at BK7 HS7 HB7 HK7 ⊢
    have hyl : 0 < ys.length := by rw [HYS.out]; simp
    obtain ⟨gs, cap, hv, _⟩ := Kd.R_form (Kd.S_R HS7.out) hyl
    injection hv with e1 e2 e3
    subst e1
    subst e3
    obtain ⟨m, hm⟩ : ∃ m, ys.length = m + 1 := ⟨ys.length - 1, by omega⟩
    have hmx := Kd.C_max (Kd.R_reads' (Kd.S_R HS7.out)).2.2
    have hj : wrap64 ((ys.length : Int) - 1) = (m : Int) := by rw [wrap64_id (by omega) (by omega)]; omega
    have hjw : IntKind.i64.wrap ((ys.length : Int) - 1) = (m : Int) := (i64_w _).trans hj
    have p0 : (0 ≤ (m : Int)) = True := eq_true (by omega)
    have q0 : ((m : Int) < (ys.length : Int)) = True := eq_true (by omega)
    have p1 : decide (0 ≤ (m : Int)) = true := decide_eq_true (by omega)
    have q1 : decide ((m : Int) < (ys.length : Int)) = true := decide_eq_true (by omega)
    have HM := Aside0.mk hm
    clear hm hmx
    replace BK7 := Aside0.mk (blk_drew BK7.out)
    replace HS7 := Aside0.mk (Kd.S_drew HS7.out)
    replace HB7 := Aside0.mk (below_drew HB7.out)
    replace HK7 := Aside0.mk (Kept.drew HK7.out)
    refine st_ (n := 12) (fun w' => w'.cell? ⟨g, 0, none⟩ = some (.slice (some ⟨gs, 0, none⟩) ys.length c5)) [] #[false, false, false, false, false, false, false, false, false, false, false, false] ((blk_cell BK7.out 0).trans rfl) (fun hHeld => ?_)
    refine tb_ (fun HT_ HW_ => ?_)
    generalize w7.drew = w8 at BK7 HS7 HB7 HK7 hHeld ⊢
    refine pu_ 0 (some 41) HT_ ?_
    refine pu_ 1 (some 42) HT_ ?_
    refine pu_ 2 (some 43) HT_ ?_
    refine pu_ 4 (some 45) HT_ ?_
    refine pu_ 5 (some 46) HT_ ?_
    refine pu_ 6 (some 47) HT_ ?_
    refine tk_ 3 (some 44) HT_ HW_ hHeld ?_
    refine tk_ 7 (some 48) HT_ HW_ hHeld ?_
    refine pu_ 8 (some 49) HT_ ?_
    refine pu_ 9 (some 50) HT_ ?_
    refine pu_ 10 (some 51) HT_ ?_
    refine pu_ 11 (some 4) HT_ ?_
    refine done_ (done_of HT_.out (by kernel_rfl)) ?_
    try go_wp2
    go_ret
    unfold LastPost
    rw [HE.out]
    exact ⟨gs, c5, by have := HM.out; simp [hj, this], BK7.out, HS7.out, HB7.out, HK7.out⟩
  · have c1b : ((segs.length : Int) == 0) = false := beq_eq_false_iff_ne.mpr (by omega)
    obtain ⟨m0, hm0⟩ : ∃ m0, segs.length = m0 + 1 := ⟨segs.length - 1, by omega⟩
    have hj0 : wrap64 ((segs.length : Int) - 1) = (m0 : Int) := by have := HL.out; rw [wrap64_id (by omega) (by omega)]; omega
    have hjw0 : IntKind.i64.wrap ((segs.length : Int) - 1) = (m0 : Int) := (i64_w _).trans hj0
    obtain ⟨ad, A1, c1, e1, hx0, hx1, hl1, hi1⟩ := at_T70 (Kd.R_reads' (Kd.S_R HO1.out)).2.2 (m0 : Int) (by omega) (by omega)
    subst e1
    simp only [Int.toNat_natCast] at hx0 hx1
    have p2 : (0 ≤ (m0 : Int)) = True := eq_true (by omega)
    have q2 : ((m0 : Int) < (segs.length : Int)) = True := eq_true (by omega)
    have p3 : decide (0 ≤ (m0 : Int)) = true := decide_eq_true (by omega)
    have q3 : decide ((m0 : Int) < (segs.length : Int)) = true := decide_eq_true (by omega)
    have hrd : (segs.length : Int) - 1 = (m0 : Int) := by omega
    have HN := Aside0.mk hn
    have HRD := Aside0.mk hrd
    have HM0 := Aside0.mk hm0
    clear hl1 hi1 hn hrd hm0
    by_cases hc : limit ≤ ((rd_T70 segs (m0 : Int)).f1.length : Int)
    · have c2b : decide (limit ≤ ((rd_T70 segs (m0 : Int)).f1.length : Int)) = true := decide_eq_true hc
      have c2c : decide (((rd_T70 segs (m0 : Int)).f1.length : Int) ≥ limit) = true := decide_eq_true hc
      have HC := Aside0.mk hc
      clear hc
      go_enter Try.func79, Try.ntmps79
      try go_wp2
      replace BK1 := Aside0.mk (blk_drew BK1.out)
      replace HO1 := Aside0.mk (Kd.S_drew HO1.out)
      have HBW := Aside0.mk (below_drew (Below.refl w.heap.size w))
      have HKW : Aside0 (Kept w w.drew (fun k => k = g ∨ some k = (.slice (some ad) segs.length c0 : Value).ownBlock)) := ⟨Kept.drew (Kept.refl _ _)⟩
      refine st_ (n := 15) (fun w' => w'.cell? ⟨g, 0, none⟩ = some (.slice (some ad) segs.length c0) ∧ w'.cell? ⟨g, 1, none⟩ = some (.int .i64 next)) [14] #[false, false, false, false, false, false, false, false, false, false, false, false, false, false, false] ⟨(blk_cell BK1.out 0).trans rfl, (blk_cell BK1.out 1).trans rfl⟩ (fun hHeld => ?_)
      refine tb_ (fun HT_ HW_ => ?_)
      have HZ : Aside0 (w.drew.heap.size = w.heap.size) := ⟨rfl⟩
      generalize w.drew = w1 at BK1 HO1 HBW HKW HZ hHeld ⊢
      refine pu_ 0 (some 27) HT_ ?_
      refine pu_ 1 (some 28) HT_ ?_
      refine pu_ 2 (some 29) HT_ ?_
      refine pu_ 3 (some 30) HT_ ?_
      refine pu_ 5 (some 32) HT_ ?_
      refine pu_ 6 (some 33) HT_ ?_
      refine pu_ 7 (some 34) HT_ ?_
      refine tk_ 4 (some 31) HT_ HW_ hHeld ?_
      refine tk_ 8 (some 35) HT_ HW_ hHeld ?_
      refine pu_ 9 (some 36) HT_ ?_
      refine on_ 10 (some 37) HT_ (fun K hK => ?_)
      refine value_ (w1 := ?_) (v := ?_) (by rfl) rfl ?_ ?_
      rotate_left 2
      · go_simp
        constructor
        · rfl
        · rfl
      refine hK.out _ _ ⟨(blk_cell (blk_alloc BK1.out _) 0).trans rfl, (blk_cell (blk_alloc BK1.out _) 1).trans rfl⟩ (fun hHeld => ?_)
      clear hK K
      refine norm_ (a' := ?_) ?_ ?_
      rotate_left
      · show Act.put _ (some 37) _ = _
        simp only [Act.put, List.setIfInBounds_toArray, List.set_cons_zero, List.set_cons_succ, i64_w, i32_w]
        rfl
      refine on_ 11 (some 38) HT_ (fun K hK => ?_)
      refine Kd.S_append_step k70 (w0 := w) base (by rfl) (.tmp 31) (.tmp 37) 59 70 (.agg #[(.int .i64 0), (.slice none 0 0)]) 32 rfl Try.underlying59 info70 rfl (by decide) (by omega) (.slice (some ad) segs.length c0) segs (⟨next, []⟩ : S70) [.int .i64 next, .slice none 0 0] ok (fun _ => False) rfl rfl ?aP (fun _ hk => hk.elim) ?aF ?aO ?aB ?aS ?aL ?_
      (case aP => exact k70_mkM _ _ _ (⟨next, []⟩ : S70) (Kd.R_nil _ _ _ _ _))
      (case aF => exact fun k hk => HF.out k (by rw [← HZ.out]; exact hk))
      (case aO => exact Kd.S_mono HO1.out (fun k hk => ⟨hk, fun h => h⟩))
      (case aB => exact HBW.out.mono HBS.out)
      (case aS => rw [HZ.out]; exact HBS.out)
      (case aL => have := HL.out; simp at this ⊢; try omega)
      intro v5 w5 ho hb hg hat
      obtain ⟨ys, hys2⟩ : ∃ ys, ys = segs ++ [(⟨next, []⟩ : S70)] := ⟨_, rfl⟩
      rw [← hys2] at ho
      have HYS := Aside0.mk hys2
      clear hys2
      have HS5 := Aside0.mk ho
      have HG5 := Aside0.mk hg
      have HB5 := Aside0.mk hb
      have BK5 := Aside0.mk (blk_grown BK1.out hg (Kd.S_ne HO1.out BK1.out (by decide)))
      refine hK.out _ _ ⟨(blk_cell BK5.out 0).trans rfl, (blk_cell BK5.out 1).trans rfl⟩ (fun hHeld => ?_)
      obtain ⟨A5, c5, rfl⟩ := Kd.S_slice HS5.out
      clear ho hb hg hat
      clear hK K
      refine norm_ (a' := ?_) ?_ ?_
      rotate_left
      · show Act.put _ (some 38) _ = _
        simp only [Act.put, List.setIfInBounds_toArray, List.set_cons_zero, List.set_cons_succ, i64_w, i32_w]
        rfl
      refine pu_ 12 (some 39) HT_ ?_
      refine pu_ 13 (some 40) HT_ ?_
      refine last_ (i := 14) (N := none) #[true, true, true, true, true, true, true, true, true, true, true, true, true, true, true] rfl rfl (one_of HT_.out (by kernel_rfl)) (by decide) (fun K hK => ?_)
      have hs6 := (blk_cell BK5.out 0)
      have hf6 := blk_frozen BK5.out 0
      refine skip_ (w1 := ?_) (by rfl) rfl ?_ ?_
      rotate_left
      · go_simp
        rfl
      refine hK.out _ _ ?_
      clear hK K
      refine done_ (done_of HT_.out (by kernel_rfl)) ?_
      clear HT_ HW_ hHeld hs6 hf6
      have HE : Aside0 (openSeg limit next segs = ys) := ⟨by rw [HYS.out]; unfold openSeg; rw [if_neg HN.out, HRD.out, if_pos HC.out]⟩
      have BK7 : Aside0 ((w5.setCell ⟨g, 0, none⟩ (.slice A5 ys.length c5)).heap[g]? = some (.cells #[.slice A5 ys.length c5, .int .i64 next, v2] 61 (0, 0))) := ⟨blk_put BK5.out 0 _ rfl⟩
      have HS7 : Aside0 (Kd.S k70 70 (w5.setCell ⟨g, 0, none⟩ (.slice A5 ys.length c5)) base ok (.slice A5 ys.length c5) ys) := ⟨Kd.S_mono (Kd.S_far (p := ⟨g, 0, none⟩) (Kd.S_types HS5.out BK5.out (by decide)) (fun _ hk => hk.2) _) (fun _ hk => hk.1)⟩
      have HB7 : Aside0 (Below 0 w (w5.setCell ⟨g, 0, none⟩ (.slice A5 ys.length c5))) := ⟨(HB5.out.mono (Nat.zero_le _)).setCell (Nat.zero_le _) _⟩
      have HK7 : Aside0 (Kept w (w5.setCell ⟨g, 0, none⟩ (.slice A5 ys.length c5)) (fun k => k = g ∨ some k = (Value.slice (some ad) segs.length c0).ownBlock)) := ⟨Kept.setCell (Kept.of_grown HG5.out HKW.out (fun k h_ => .inl (.inr h_.symm))) (.inl (.inl rfl)) _⟩
      try go_wp2
      generalize (w5.setCell ⟨g, 0, none⟩ (.slice A5 ys.length c5)) = w7 at BK7 HS7 HB7 HK7 ⊢
      have hyl : 0 < ys.length := by rw [HYS.out]; simp
      obtain ⟨gs, cap, hv, _⟩ := Kd.R_form (Kd.S_R HS7.out) hyl
      injection hv with e1 e2 e3
      subst e1
      subst e3
      obtain ⟨m, hm⟩ : ∃ m, ys.length = m + 1 := ⟨ys.length - 1, by omega⟩
      have hmx := Kd.C_max (Kd.R_reads' (Kd.S_R HS7.out)).2.2
      have hj : wrap64 ((ys.length : Int) - 1) = (m : Int) := by rw [wrap64_id (by omega) (by omega)]; omega
      have hjw : IntKind.i64.wrap ((ys.length : Int) - 1) = (m : Int) := (i64_w _).trans hj
      have p0 : (0 ≤ (m : Int)) = True := eq_true (by omega)
      have q0 : ((m : Int) < (ys.length : Int)) = True := eq_true (by omega)
      have p1 : decide (0 ≤ (m : Int)) = true := decide_eq_true (by omega)
      have q1 : decide ((m : Int) < (ys.length : Int)) = true := decide_eq_true (by omega)
      have HM := Aside0.mk hm
      clear hm hmx
      replace BK7 := Aside0.mk (blk_drew BK7.out)
      replace HS7 := Aside0.mk (Kd.S_drew HS7.out)
      replace HB7 := Aside0.mk (below_drew HB7.out)
      replace HK7 := Aside0.mk (Kept.drew HK7.out)
      refine st_ (n := 12) (fun w' => w'.cell? ⟨g, 0, none⟩ = some (.slice (some ⟨gs, 0, none⟩) ys.length c5)) [] #[false, false, false, false, false, false, false, false, false, false, false, false] ((blk_cell BK7.out 0).trans rfl) (fun hHeld => ?_)
      refine tb_ (fun HT_ HW_ => ?_)
      generalize w7.drew = w8 at BK7 HS7 HB7 HK7 hHeld ⊢
      refine pu_ 0 (some 41) HT_ ?_
      refine pu_ 1 (some 42) HT_ ?_
      refine pu_ 2 (some 43) HT_ ?_
      refine pu_ 4 (some 45) HT_ ?_
      refine pu_ 5 (some 46) HT_ ?_
      refine pu_ 6 (some 47) HT_ ?_
      refine tk_ 3 (some 44) HT_ HW_ hHeld ?_
      refine tk_ 7 (some 48) HT_ HW_ hHeld ?_
      refine pu_ 8 (some 49) HT_ ?_
      refine pu_ 9 (some 50) HT_ ?_
      refine pu_ 10 (some 51) HT_ ?_
      refine pu_ 11 (some 4) HT_ ?_
      refine done_ (done_of HT_.out (by kernel_rfl)) ?_
      try go_wp2
      go_ret
      unfold LastPost
      rw [HE.out]
      exact ⟨gs, c5, by have := HM.out; simp [hj, this], BK7.out, HS7.out, HB7.out, HK7.out⟩
    · have c2b : decide (limit ≤ ((rd_T70 segs (m0 : Int)).f1.length : Int)) = false := decide_eq_false hc
      have c2c : decide (((rd_T70 segs (m0 : Int)).f1.length : Int) ≥ limit) = false := decide_eq_false hc
      have HC := Aside0.mk hc
      clear hc
      have hys : openSeg limit next segs = segs := by unfold openSeg; rw [if_neg HN.out, HRD.out, if_neg HC.out]
      go_enter Try.func79, Try.ntmps79
      try go_wp2
      clear hx0 hx1
      obtain ⟨ys, hys2⟩ : ∃ ys, ys = segs := ⟨_, rfl⟩
      have HE : Aside0 (openSeg limit next segs = ys) := ⟨by rw [hys2]; exact hys⟩
      subst hys2
      clear hys
      have hyl : 0 < ys.length := by rw [HM0.out]; omega
      have BK7 := BK1
      have HS7 := HO1
      have HB7 := Aside0.mk (Below.refl 0 w)
      have HK7 : Aside0 (Kept w w (fun k => k = g ∨ some k = (Value.slice (some ad) ys.length c0).ownBlock)) := ⟨Kept.refl _ _⟩
      obtain ⟨gs, cap, hv, _⟩ := Kd.R_form (Kd.S_R HS7.out) hyl
      injection hv with e1 e2 e3
      injection e1 with e1
      subst e1
      subst e3
      obtain ⟨m, hm⟩ : ∃ m, ys.length = m + 1 := ⟨ys.length - 1, by omega⟩
      have hmx := Kd.C_max (Kd.R_reads' (Kd.S_R HS7.out)).2.2
      have hj : wrap64 ((ys.length : Int) - 1) = (m : Int) := by rw [wrap64_id (by omega) (by omega)]; omega
      have hjw : IntKind.i64.wrap ((ys.length : Int) - 1) = (m : Int) := (i64_w _).trans hj
      have p0 : (0 ≤ (m : Int)) = True := eq_true (by omega)
      have q0 : ((m : Int) < (ys.length : Int)) = True := eq_true (by omega)
      have p1 : decide (0 ≤ (m : Int)) = true := decide_eq_true (by omega)
      have q1 : decide ((m : Int) < (ys.length : Int)) = true := decide_eq_true (by omega)
      have HM := Aside0.mk hm
      clear hm hmx
      replace BK7 := Aside0.mk (blk_drew BK7.out)
      replace HS7 := Aside0.mk (Kd.S_drew HS7.out)
      replace HB7 := Aside0.mk (below_drew HB7.out)
      replace HK7 := Aside0.mk (Kept.drew HK7.out)
      refine st_ (n := 12) (fun w' => w'.cell? ⟨g, 0, none⟩ = some (.slice (some ⟨gs, 0, none⟩) ys.length c0)) [] #[false, false, false, false, false, false, false, false, false, false, false, false] ((blk_cell BK7.out 0).trans rfl) (fun hHeld => ?_)
      refine tb_ (fun HT_ HW_ => ?_)
      generalize w.drew = w8 at BK7 HS7 HB7 HK7 hHeld ⊢
      refine pu_ 0 (some 41) HT_ ?_
      refine pu_ 1 (some 42) HT_ ?_
      refine pu_ 2 (some 43) HT_ ?_
      refine pu_ 4 (some 45) HT_ ?_
      refine pu_ 5 (some 46) HT_ ?_
      refine pu_ 6 (some 47) HT_ ?_
      refine tk_ 3 (some 44) HT_ HW_ hHeld ?_
      refine tk_ 7 (some 48) HT_ HW_ hHeld ?_
      refine pu_ 8 (some 49) HT_ ?_
      refine pu_ 9 (some 50) HT_ ?_
      refine pu_ 10 (some 51) HT_ ?_
      refine pu_ 11 (some 4) HT_ ?_
      refine done_ (done_of HT_.out (by kernel_rfl)) ?_
      try go_wp2
      go_ret
      unfold LastPost
      rw [HE.out]
      exact ⟨gs, c0, by have := HM.out; simp [hj, this], BK7.out, HS7.out, HB7.out, HK7.out⟩
end
section
def lastData (segs : List S70) : List Int := (segs.getD (segs.length - 1) ⟨0, []⟩).f1
def putLast (segs : List S70) (d : List Int) : List S70 := segs.set (segs.length - 1) ⟨(segs.getD (segs.length - 1) ⟨0, []⟩).f0, d⟩
def wal_Flush.l0 : List (List Int) → Int → List S70 → Int → Option (List S70 × Int × List (List Int) × Int)
  | [], _, segs, next => some (segs, next, [], 0)
  | b :: bs, limit, segs, next => if segs.length < 4398046511104 then
      (frames_Seal.f 1 b).bind fun x =>
        if (lastData (openSeg limit next segs)).length + x.1.length < 140737488355328 then
          (if wrap64 (next + 1) > 1099511627776 then some ([], 0, [], 51)
           else if ((putLast (openSeg limit next segs) (lastData (openSeg limit next segs) ++ x.1)).length : Int) > 4096 then some ([], 0, [], 51)
           else wal_Flush.l0 bs limit (putLast (openSeg limit next segs) (lastData (openSeg limit next segs) ++ x.1)) (wrap64 (next + 1)))
        else none
    else none
def wal_Flush.f (k : Nat) (l0_0 : List S70) (a0_1 : Int) (l0_2 : List (List Int)) (a1 : Int) : Option (List S70 × Int × List (List Int) × Int) :=
  (wal_own.f k l0_0 a0_1 l0_2).bind fun o => if o.2.2.2 = 0 then (if a1 < 1 then some ([], 0, [], 4) else if a1 > 1048576 then some ([], 0, [], 4) else wal_Flush.l0 o.2.2.1 a1 o.1 o.2.1) else some ([], 0, [], o.2.2.2)
theorem wal_Flush.mono : ∀ a0 a1 a2 a3 k, LeO (wal_Flush.f k a0 a1 a2 a3) (wal_Flush.f (k + 1) a0 a1 a2 a3) := by
  intro a0 a1 a2 a3 k
  unfold wal_Flush.f
  exact LeO.bind (wal_own.mono _ _ _ _) (fun _ => LeO.refl _)
theorem Below.of_kept {B : Nat} {w0 w w' : World} (h : Below B w0 w) (h0 : Below 0 w w') {S : Nat → Prop} (hk : Kept w w' S) (hB : B ≤ w.heap.size) (hS : ∀ k, S k → B ≤ k) : Below B w0 w' :=
  ⟨h0.os.trans h.os, h0.tape.trans h.tape, h0.output.trans h.output, Nat.le_trans h.size hk.1, fun k hlt => (hk.2 k (Nat.lt_of_lt_of_le hlt hB) (fun hs => by have := hS k hs; omega)).trans (h.block k hlt)⟩
structure Fl (w : World) (m g4 g6 : Nat) (wv : Value) (wl : List (List Int)) (wr : World) (v0 : Value) (segs : List S70) (next : Int) : Prop where
  b4 : wr.heap[g4]? = some (.cells #[.slice none 0 0, .int .i64 0, .slice none 0 0] 61 (0, 0))
  b6 : wr.heap[g6]? = some (.cells #[v0, .int .i64 next, wv] 61 (0, 0))
  hs : Kd.S k70 70 wr w.heap.size (fun k => m ≤ k) v0 segs
  hw : Kd.S (Kd.slice 5 (Kd.int .u8)) 26 wr w.heap.size (fun k => k < m) wv wl
  hb : Below w.heap.size w wr
  hm : m ≤ wr.heap.size
theorem Fl.last {w : World} {m g4 g6 : Nat} {wv : Value} {wl : List (List Int)} {wr : World} {v0 : Value} {segs : List S70} {next : Int} (h : Fl w m g4 g6 wv wl wr v0 segs next) (h46 : g4 ≠ g6) (hg6 : w.heap.size ≤ g6)
    {limit : Int} {e : Ending} {w' : World} (hp : LastPost g6 limit v0 wv segs next (fun k => m ≤ k) w.heap.size wr e w') :
    ∃ gs cap, e = .returned (.pointer (some ⟨gs, ((openSeg limit next segs).length - 1) * 2, none⟩)) ∧ Fl w m g4 g6 wv wl w' (.slice (some ⟨gs, 0, none⟩) (openSeg limit next segs).length cap) (openSeg limit next segs) next ∧ Below 0 wr w' ∧ Kept wr w' (fun k => k = g6 ∨ some k = v0.ownBlock) := by
  obtain ⟨gs, cap, he, hg, hs, h0, hk⟩ := hp
  have hn4 : ¬ (g4 = g6 ∨ some g4 = v0.ownBlock) := fun hh => hh.elim h46 (Kd.S_ne h.hs h.b4 (by decide))
  refine ⟨gs, cap, he, ⟨(hk.2 g4 (blk_lt h.b4) hn4).trans h.b4, hg, hs, ?_, ?_, Nat.le_trans h.hm hk.1⟩, h0, hk⟩
  · refine Kd.S_mono (Kd.S_step (Kd.S_types h.hw h.b6 (by decide)) (fun k hk1 hlt => hk.2 k hlt (fun hh => hh.elim hk1.2 (fun he => ?_)))) (fun _ hk => hk.1)
    have := (Kd.S_R h.hs).1 k he.symm
    exact absurd hk1.1 (by omega)
  · exact Below.of_kept h.hb h0 hk h.hb.size (fun k hh => hh.elim (fun he => he ▸ hg6) (fun he => Kd.S_base h.hs k he.symm))
theorem Fl.below {w : World} {m g4 g6 : Nat} {wv : Value} {wl : List (List Int)} {wr w2 : World} {v0 : Value} {segs : List S70} {next : Int} (h : Fl w m g4 g6 wv wl wr v0 segs next) (hb : Below wr.heap.size wr w2) : Fl w m g4 g6 wv wl w2 v0 segs next :=
  ⟨blk_below h.b4 hb, blk_below h.b6 hb, Kd.S_below h.hs hb, Kd.S_below h.hw hb, below_step h.hb hb, Nat.le_trans h.hm hb.size⟩
theorem Fl.put {w : World} {m g4 g6 gs n cap : Nat} {wv : Value} {wl : List (List Int)} {w4 w5 w6 : World} {os os' : List S70} {next : Int} (h : Fl w m g4 g6 wv wl w4 (.slice (some ⟨gs, 0, none⟩) n cap) os next) {row : Option Nat}
    (hg : w4.grownBy w5 row) (hrow : ∀ k, row = some k → m ≤ k ∧ ∃ cells, w4.heap[k]? = some (.cells cells 5 (0, 0))) (hg2 : w5.grownBy w6 (some gs)) (hs : Kd.S k70 70 w6 w.heap.size (fun k => m ≤ k) (.slice (some ⟨gs, 0, none⟩) n cap) os')
    (hb : Below w.heap.size w w6) : Fl w m g4 g6 wv wl w6 (.slice (some ⟨gs, 0, none⟩) n cap) os' next := by
  have hne : ∀ {g : Nat} {cs : Array Value}, w4.heap[g]? = some (.cells cs 61 (0, 0)) → some g ≠ row := by
    intro g cs hc he
    obtain ⟨_, cells, hc2⟩ := hrow g he.symm
    rw [hc] at hc2
    injection hc2 with hc2
    injection hc2 with _ hc2
    exact absurd hc2 (by decide)
  have hgs : m ≤ gs := (Kd.S_R h.hs).1 gs rfl
  have hne2 : ∀ {g : Nat} {cs : Array Value}, w4.heap[g]? = some (.cells cs 61 (0, 0)) → some g ≠ some gs := by
    intro g cs hc
    have := Kd.S_ne h.hs hc (by decide)
    simpa [Value.ownBlock] using this
  refine ⟨blk_grown (blk_grown h.b4 hg (hne h.b4)) hg2 (hne2 h.b4), blk_grown (blk_grown h.b6 hg (hne h.b6)) hg2 (hne2 h.b6), hs, ?_, hb, Nat.le_trans h.hm (Nat.le_trans hg.size hg2.size)⟩
  refine Kd.S_grown (Kd.S_grown h.hw hg (fun k hk he => ?_)) hg2 (fun k hk he => ?_)
  · have := (hrow k he.symm).1
    omega
  · injection he with he
    omega
theorem Fl.step {w : World} {m g4 g6 : Nat} {wv : Value} {wl : List (List Int)} {wr : World} {v0 : Value} {segs : List S70} {next : Int} (h : Fl w m g4 g6 wv wl wr v0 segs next) (h46 : g4 ≠ g6) (hg6 : w.heap.size ≤ g6) (next' : Int) : Fl w m g4 g6 wv wl (wr.setCell ⟨g6, 1, none⟩ (.int .i64 next')) v0 segs next' :=
  ⟨blk_far h.b4 h46 _, blk_put h.b6 1 _ rfl, Kd.S_set h.hs h.b6 (by decide) _ _, Kd.S_set h.hw h.b6 (by decide) _ _, below_set h.hb hg6, by rw [setCell_size']; exact h.hm⟩
theorem Fl.row {w : World} {m g4 g6 : Nat} {wv : Value} {wl : List (List Int)} {wr w3 : World} {v0 : Value} {segs : List S70} {next : Int} (h : Fl w m g4 g6 wv wl wr v0 segs next) (hk : Kept wr w3 (fun k => k = g6 ∨ some k = v0.ownBlock))
    {oki : Nat → Prop} (hoki : ∀ k, oki k → k < m) {base : Nat} {v : Value} {b : List Int} (hR : Kd.R (Kd.int .u8) 5 wr base oki v b) : Kd.R (Kd.int .u8) 5 w3 base oki v b := by
  refine Kd.R_mono (Kd.R_step (Kd.R_types hR h.b6 (by decide)) (fun k hk1 hlt => hk.2 k hlt (fun hh => hh.elim hk1.2 (fun he => ?_)))) (fun _ hk => hk.1)
  have := (Kd.S_R h.hs).1 k he.symm
  exact absurd (hoki k hk1.1) (by omega)
theorem Kd.H_widen' {α : Type} {d : Kd α} {e : Nat} {w : World} {base m : Nat} {oki : Nat → Prop} {v : Value} {xs : List α} {i : Int} {c : List Value} (h : Kd.H d e w base (fun k => m ≤ k) v xs i oki c) : Kd.H d e w base (fun k => m ≤ k) v xs i (fun k => oki k ∨ m ≤ k ∧ w.heap.size ≤ k) c := Kd.H_widen h
set_option maxHeartbeats 8000000 in
set_option maxRecDepth 100000 in
theorem wal_Flush.calls (k : Nat) (A0_0 : Option Addr) (c0_0 : Nat) (l0_0 : List S70) (a0_1 : Int) (A0_2 : Option Addr) (c0_2 : Nat) (l0_2 : List (List Int)) (a1 : Int) (r1 : List S70) (r2 : Int) (r3 : List (List Int)) (r4 : Int) (w : World)
    (hr0_0 : Kd.C k70 w A0_0 l0_0.length l0_0) (hc0_0 : l0_0.length ≤ c0_0) (hr0_2 : Kd.C (Kd.slice 5 (Kd.int .u8)) w A0_2 l0_2.length l0_2) (hc0_2 : l0_2.length ≤ c0_2) (h : wal_Flush.f k l0_0 a0_1 l0_2 a1 = some (r1, r2, r3, r4)) :
    Calls Try.prog 48 #[.agg #[.slice A0_0 l0_0.length c0_0, .int .i64 a0_1, .slice A0_2 l0_2.length c0_2], .int .i64 a1] w fun e w' => ∃ v0_ v2_ : Value, e = .returned (.tuple #[.agg #[v0_, .int .i64 r2, v2_], .int .i64 r4]) ∧ Kd.S k70 70 w' w.heap.size (fun _ => True) v0_ r1 ∧ Kd.S (Kd.slice 5 (Kd.int .u8)) 26 w' w.heap.size (fun _ => True) v2_ r3 ∧ Below w.heap.size w w' := by
  have hu61 := Try.underlying61
  have hu70 := Try.underlying70
  have HR0_0 := Aside0.mk hr0_0
  have HC0_0 := Aside0.mk hc0_0
  have HR0_2 := Aside0.mk hr0_2
  have HC0_2 := Aside0.mk hc0_2
  clear hr0_0 hc0_0 hr0_2 hc0_2
  have HB := Aside0.mk (Below.refl w.heap.size w)
  unfold wal_Flush.f at h
  replace h := Option.bind_eq_some_iff.1 h
  obtain ⟨⟨o1, o2, o3, o4⟩, ho, h⟩ := h
  have A1 := Aside0.mk ho
  have H := Aside0.mk h
  clear ho h
  have tests : ∃ b0 b1 b2 : Bool, (o4 != 0) = b0 ∧ decide (a1 < 1) = b1 ∧ decide (a1 > 1048576) = b2 := ⟨_, _, _, rfl, rfl, rfl⟩
  obtain ⟨b0, b1, b2, hb0, hb1, hb2⟩ := tests
  go_enter Try.func48, Try.ntmps48
  try go_wp2_with (first | ((with_reducible refine gate_dst (N := 2) rfl ?_); refine bx_ 2 #[.slice A0_0 l0_0.length c0_0, .int .i64 a0_1, .slice A0_2 l0_2.length c0_2] 61 ?_; intro g2 hg w2 hbox hb; have BK2 := Aside0.mk hbox; have GE2 := bG_ HB hg; replace HB := bS_ HB hb; clear hb hbox hg; obtain ⟨hy0, hy1, hy2, hz0, hz1, hz2⟩ := cz3_ BK2) | ((with_reducible refine gate_dst (N := 4) rfl ?_); refine bx_ 4 #[.slice none 0 0, .int .i64 0, .slice none 0 0] 61 ?_; intro g4 hg w4 hbox hb; have BK4 := Aside0.mk hbox; have GE4 := bG_ HB hg; replace HB := bS_ HB hb; have NB24 := nL_ BK2 hg; have NB42 := nG_ BK2 hg; replace BK2 := bK_ BK2 hb; clear hb hbox hg; have hnb24 := NB24.out; have hnb42 := NB42.out; clear hy0 hy1 hy2 hz0 hz1 hz2; obtain ⟨hy0, hy1, hy2, hz0, hz1, hz2⟩ := cz3_ BK2; obtain ⟨hy3, hy4, hy5, hz3, hz4, hz5⟩ := cz3_ BK4) | ((with_reducible refine gate_callee (f := 66) rfl ?_); refine gL_ (some 15) Try.func66 #[.agg #[.slice A0_0 l0_0.length c0_0, .int .i64 a0_1, .slice A0_2 l0_2.length c0_2]] ?_; (with_reducible refine (wal_own.calls2 k _ _ l0_0 a0_1 _ _ l0_2 o1 o2 o3 o4 _ ?_ ?_ ?_ ?_ A1.out).mono ?_); exact cB_ HR0_0 HB; exact HC0_0.out; exact cB_ HR0_2 HB; exact HC0_2.out; rintro e w5 ⟨m, v0, v2, rfl, hs, hw, hm, hb⟩; have HM := Aside0.mk hm; clear hm; refine ⟨_, rfl, ?_⟩; have HS := Aside0.mk (Kd.S_lower hs (bs_ HB)); have HW := Aside0.mk (Kd.S_lower hw (bs_ HB)); replace BK2 := bK_ BK2 hb; replace BK4 := bK_ BK4 hb; replace HB := bS_ HB hb; clear hs hw hb; obtain ⟨Aw, cw, ew⟩ := Kd.S_slice HW.out; subst ew; obtain ⟨As, cs, es⟩ := Kd.S_slice HS.out; subst es; clear hy0 hy1 hy2 hz0 hz1 hz2 hy3 hy4 hy5 hz3 hz4 hz5) | ((with_reducible refine gate_dst (N := 6) rfl ?_); refine bx_ 6 #[.slice none 0 0, .int .i64 0, .slice none 0 0] 61 ?_; intro g6 hg w6 hbox hb; have BK6 := Aside0.mk hbox; have GE6 := bG_ HB hg; replace HM := Aside0.mk (Nat.le_trans HM.out hb.size); replace HB := bS_ HB hb; have NB46 := nL_ BK4 hg; have NB64 := nG_ BK4 hg; have NB26 := nL_ BK2 hg; have NB62 := nG_ BK2 hg; replace BK4 := bK_ BK4 hb; replace HS := sB_ HS hb; replace HW := sB_ HW hb; replace BK2 := bK_ BK2 hb; clear hb hbox hg; have hnb46 := NB46.out; have hnb64 := NB64.out; have hnb26 := NB26.out; have hnb62 := NB62.out; obtain ⟨hy3, hy4, hy5, hz3, hz4, hz5⟩ := cz3_ BK4; obtain ⟨hy6, hy7, hy8, hz6, hz7, hz8⟩ := cz3_ BK6))
  · have h := H.out
    rw [show b0 = true by assumption] at hb0
    rw [if_neg (by simpa using hb0)] at h
    obtain ⟨rfl, rfl, rfl, rfl⟩ : [] = r1 ∧ 0 = r2 ∧ [] = r3 ∧ o4 = r4 := by simpa using h
    refine bodyPost_ret (results_ct rfl _ _ g4 61 #[.slice none 0 0, .int .i64 0, .slice none 0 0] (0, 0) _ rfl (blk_put (blk_put (blk_put (blk_far (blk_far (blk_far BK4.out NB46.out _) NB46.out _) NB46.out _) 0 _ rfl) 1 _ rfl) 2 _ rfl) Try.underlying61 rfl (by kernel_rfl)) rfl ?_
    exact ⟨_, _, fin_, Kd.S_nil _ _ _ _ _, Kd.S_nil _ _ _ _ _, bl_ HB⟩
  · have h := H.out
    rw [show b0 = false by assumption] at hb0
    rw [show b1 = true by assumption] at hb1
    rw [if_pos (by simpa using hb0), if_pos (by simpa using hb1)] at h
    obtain ⟨rfl, rfl, rfl, rfl⟩ : [] = r1 ∧ 0 = r2 ∧ [] = r3 ∧ 4 = r4 := by simpa using h
    refine bodyPost_ret (results_ct rfl _ _ g4 61 #[.slice none 0 0, .int .i64 0, .slice none 0 0] (0, 0) _ rfl (blk_put (blk_put (blk_put (blk_far (blk_far (blk_far BK4.out NB46.out _) NB46.out _) NB46.out _) 0 _ rfl) 1 _ rfl) 2 _ rfl) Try.underlying61 rfl (by kernel_rfl)) rfl ?_
    exact ⟨_, _, fin_, Kd.S_nil _ _ _ _ _, Kd.S_nil _ _ _ _ _, bl_ HB⟩
  · have h := H.out
    rw [show b0 = false by assumption] at hb0
    rw [show b1 = false from Bool.eq_false_iff.2 (by assumption)] at hb1
    rw [show b2 = true by assumption] at hb2
    rw [if_pos (by simpa using hb0), if_neg (by simpa using hb1), if_pos (by simpa using hb2)] at h
    obtain ⟨rfl, rfl, rfl, rfl⟩ : [] = r1 ∧ 0 = r2 ∧ [] = r3 ∧ 4 = r4 := by simpa using h
    refine bodyPost_ret (results_ct rfl _ _ g4 61 #[.slice none 0 0, .int .i64 0, .slice none 0 0] (0, 0) _ rfl (blk_put (blk_put (blk_put (blk_far (blk_far (blk_far BK4.out NB46.out _) NB46.out _) NB46.out _) 0 _ rfl) 1 _ rfl) 2 _ rfl) Try.underlying61 rfl (by kernel_rfl)) rfl ?_
    exact ⟨_, _, fin_, Kd.S_nil _ _ _ _ _, Kd.S_nil _ _ _ _ _, bl_ HB⟩
  have h := H.out
  clear H
  rw [show b0 = false by assumption] at hb0
  rw [show b1 = false from Bool.eq_false_iff.2 (by assumption)] at hb1
  rw [show b2 = false by assumption] at hb2
  rw [if_pos (by simpa using hb0), if_neg (by simpa using hb1), if_neg (by simpa using hb2)] at h
  have H := Aside0.mk h
  clear h hb0 hb1 hb2
  have FL : Aside0 (Fl w m g4 g6 (.slice Aw o3.length cw) o3 (((w6.setCell ⟨g6, 0, none⟩ (.slice As o1.length cs)).setCell ⟨g6, 1, none⟩ (.int .i64 o2)).setCell ⟨g6, 2, none⟩ (.slice Aw o3.length cw)) (.slice As o1.length cs) o1 o2) :=
    ⟨⟨blk_far (blk_far (blk_far BK4.out NB46.out _) NB46.out _) NB46.out _, blk_put (blk_put (blk_put BK6.out 0 _ rfl) 1 _ rfl) 2 _ rfl, sS_ HS BK6, sS_ HW BK6, bl_ HB, by simp only [setCell_size']; exact HM.out⟩⟩
  try go_wp2
  generalize ((w6.setCell ⟨g6, 0, none⟩ (.slice As o1.length cs)).setCell ⟨g6, 1, none⟩ (.int .i64 o2)).setCell ⟨g6, 2, none⟩ (.slice Aw o3.length cw) = w7 at FL ⊢
  clear BK2 BK4 BK6 HS HW HB HM hy3 hy4 hy5 hy6 hy7 hy8 hz3 hz4 hz5 hz6 hz7 hz8 NB24 NB42 NB26 NB62 hnb24 hnb42 hnb26 hnb62 hnb46 hnb64 GE2
  try go_wp2
  go_loopw [34] (fun v34 wr => ∃ (i : Nat) (segs : List S70) (next : Int) (v0 : Value), v34 = .int .i64 (i : Int) ∧ Aside0 (i ≤ o3.length) ∧ Aside0 (wal_Flush.l0 (o3.drop i) a1 segs next = some (r1, r2, r3, r4)) ∧ Aside0 (Fl w m g4 g6 (.slice Aw o3.length cw) o3 wr v0 segs next)) (fun v34 _ => o3.length - (intOf v34).toNat)
  case atStart => exact ⟨0, o1, o2, _, rfl, ⟨Nat.zero_le _⟩, H, FL⟩
  case round =>
    clear H FL
    obtain ⟨i, segs, next, v0, rfl, HI, H, FLr⟩ := hrel
    by_cases hi : i < o3.length
    · have c1b : decide ((i : Int) < (o3.length : Int)) = true := decide_eq_true (by omega)
      have c1c : ((i : Int) < (o3.length : Int)) = True := eq_true (by omega)
      have c1d : (0 ≤ (i : Int)) = True := eq_true (by omega)
      have h := H.out
      clear H
      rw [List.drop_eq_getElem_cons hi] at h
      simp only [wal_Flush.l0] at h
      by_cases hl : segs.length < 4398046511104
      case neg => rw [if_neg hl] at h; cases h
      rw [if_pos hl] at h
      have LM := Aside0.mk hl
      replace h := Option.bind_eq_some_iff.1 h
      obtain ⟨x, hx, h⟩ := h
      obtain ⟨os, hos⟩ : ∃ os, os = openSeg a1 next segs := ⟨_, rfl⟩
      rw [← hos] at h
      have HOS := Aside0.mk hos
      obtain ⟨ds, hds⟩ : ∃ ds, ds = lastData os ++ x.1 := ⟨_, rfl⟩
      rw [← hds] at h
      have HDS := Aside0.mk hds
      clear hds
      by_cases hl2 : (lastData os).length + x.1.length < 140737488355328
      case neg => rw [if_neg hl2] at h; cases h
      rw [if_pos hl2] at h
      have LM2 := Aside0.mk hl2
      have HPOS : Aside0 (0 < os.length) := ⟨by rw [hos]; exact openSeg_pos _ _ _⟩
      have H := Aside0.mk h
      obtain ⟨b, hbe⟩ : ∃ b, b = o3[i] := ⟨_, rfl⟩
      rw [← hbe] at hx
      have AX := Aside0.mk hx
      have HIL := Aside0.mk hi
      clear hl hl2 h hx hos
      obtain ⟨ga, ca, hva, _⟩ := Kd.R_form (Kd.S_R FLr.out.hw) (by have := HIL.out; omega)
      injection hva with e1 e2 e3
      subst e1
      subst e3
      obtain ⟨oki, c, hcl, hM, hcc, hfr, hoki, _⟩ := Kd.S_elem FLr.out.hw [] (i : Int) (by omega) (by have := HIL.out; omega)
      rw [Int.toNat_natCast, List.getD_eq_getElem?_getD, List.getElem?_eq_getElem HIL.out, Option.getD_some, ← hbe] at hM
      obtain ⟨vb, rfl, hRb⟩ := hM
      obtain ⟨Ab, cb, rfl⟩ := Kd.R_slice hRb
      have hcb : wr.cell? ⟨ga, i, none⟩ = some (.slice Ab b.length cb) := by have := hcc 0 _ rfl; simpa [Kd.slice] using this
      have HRb := Aside0.mk hRb
      have HOK := Aside0.mk hoki
      clear hbe hRb hoki hcl hcc hfr
      clear hi
      obtain ⟨b3, b4, hb3, hb4⟩ : ∃ b3 b4 : Bool, decide (wrap64 (next + 1) > 1099511627776) = b3 ∧ decide ((os.length : Int) > 4096) = b4 := ⟨_, _, rfl, rfl⟩
      have hb3w : decide (IntKind.i64.wrap (next + 1) > 1099511627776) = b3 := by rw [show IntKind.i64.wrap (next + 1) = wrap64 (next + 1) from i64_w _]; exact hb3
      try go_wp2_with (first | ((with_reducible refine gate_callee (f := 79) rfl ?_); refine gL_ (some 39) Try.func79 #[.pointer (some ⟨g6, 0, none⟩), .int .i64 a1] ?_; refine (wal_last.calls g6 a1 v0 _ segs next (fun k => m ≤ k) w.heap.size _ FLr.out.b6 FLr.out.hs (fun k hk => Nat.le_trans FLr.out.hm hk) FLr.out.hb.size LM.out).mono ?_; rintro e w3 hp; obtain ⟨gs, cp, rfl, hfl, h0, hk⟩ := FLr.out.last NB46.out GE6.out hp; refine ⟨_, rfl, ?_⟩; rw [← HOS.out] at hfl ⊢; have FL3 := Aside0.mk hfl; have HV := Aside0.mk (FLr.out.row hk (fun k h_ => (HOK.out k h_).1) HRb.out); clear hp hfl h0 hk) | ((with_reducible refine gate_callee (f := 80) rfl ?_); refine gL_ (some 43) Try.func80 #[.agg #[.int .u8 1, .slice Ab b.length cb]] ?_; refine (frames_Seal.calls 1 oki Ab cb b x.1 x.2 _ (Kd.R_V HV.out) AX.out).mono ?_; rintro e w4 ⟨vx, rfl, hox, hb⟩; refine ⟨_, rfl, ?_⟩; have FL4 := Aside0.mk (FL3.out.below hb); have HX := Aside0.mk (Kd.R_lower hox FL3.out.hb.size); clear hox hb; obtain ⟨Ax, cx, rfl⟩ := Kd.R_slice HX.out; obtain ⟨oki2, c2, hcl2, hM2, hcc2, hfr2, hoki2, hH2⟩ := Kd.S_elem FL4.out.hs ⟨0, []⟩ ((os.length - 1 : Nat) : Int) (by omega) (by have := HPOS.out; omega); rw [Int.toNat_natCast] at hM2; obtain ⟨c0, c1, rfl, hc0, vd, rfl, hRd⟩ := hM2; obtain rfl : c0 = [_] := hc0; obtain ⟨Ad, cd, rfl⟩ := Kd.R_slice hRd; have hcd : w4.cell? ⟨gs, (os.length - 1) * 2 + 1, none⟩ = some (.slice Ad (lastData os).length cd) := (by have := hcc2 1 _ rfl; rw [Int.toNat_natCast] at this; exact this); have HRd := Aside0.mk hRd; have HH2 := Aside0.mk hH2; have HOK2 := Aside0.mk hoki2; clear hcl2 hcc2 hfr2 hoki2 hH2 hRd) | ((with_reducible refine gate_dst (N := 52) rfl ?_); refine Kd.R_append_row (Value.int .u8) 0 (h1 := fun _ => rfl) (w0 := w) w.heap.size rfl (.tmp 50) (.tmp 51) 26 5 (.int .u8 0) 1 rfl Try.underlying26 (by kernel_rfl) rfl (by decide) (.slice Ad (lastData os).length cd) (lastData os) x.1 Ax x.1.length cx (fun k => oki2 k ∨ m ≤ k ∧ w4.heap.size ≤ k) rfl rfl ?aF ?aO ?aR ?aB ?aS ?aL ?_; (case aF => exact fun k hk => .inr ⟨Nat.le_trans FL4.out.hm hk, hk⟩); (case aO => exact Kd.R_mono HRd.out (fun _ hk => .inl hk)); (case aR => exact (Kd.R_reads' HX.out).2.2); (case aB => exact FL4.out.hb); (case aS => exact FL4.out.hb.size); (case aL => have := LM2.out; omega); intro v1 w5 ho hb hg hat; rw [← HDS.out] at ho; obtain ⟨A1', c1', rfl⟩ := Kd.R_slice ho; have HO5 := Aside0.mk ho; have HB5 := Aside0.mk hb; have HG5 := Aside0.mk hg; clear ho hb hg hat) | ((with_reducible refine gate_store (t := 26) (p := 54) rfl ?_); refine Kd.H_store k70 (g := gs) (n := os.length) (cap := cp) (o' := (os.length - 1) * 2 + 1) (w0 := w) w.heap.size rfl rfl 26 (.tmp 54) (.tmp 52) rfl 70 ((os.length - 1 : Nat) : Int) 1 os (⟨(os.getD (os.length - 1) ⟨0, []⟩).f0, ds⟩) (.slice A1' ds.length c1') [.slice A1' ds.length c1'] [.int .i64 (os.getD (os.length - 1) ⟨0, []⟩).f0, .slice Ad (lastData os).length cd] (fun k => m ≤ k) (fun k => oki2 k ∨ m ≤ k ∧ w4.heap.size ≤ k) (fun k => oki2 k ∨ m ≤ k ∧ w4.heap.size ≤ k) ?sA ?sO ?sX rfl (by kernel_rfl) (fun q hq => by rw [List.mem_singleton.1 hq]; rfl) ?sH (by omega) ?sI (Nat.le_refl 2) ?sM (fun _ h_ => h_) ?sB ?_; (case sA => rfl); (case sX => rfl); (case sO => rw [Int.toNat_natCast]; rfl); (case sH => exact Kd.H_grown (Kd.H_widen' HH2.out) HG5.out (fun k hk => .inl (HRd.out.1 k hk))); (case sI => have := HPOS.out; omega); (case sM => exact k70_mkM _ _ _ _ HO5.out); (case sB => exact HB5.out); intro w6 hs6 hb6 hg6; rw [Int.toNat_natCast] at hs6; have FL6 := Aside0.mk (FL4.out.put HG5.out (fun k hk => ⟨(HOK2.out k (HRd.out.1 k hk)).1, Kd.R_typed HRd.out k hk⟩) hg6 hs6 hb6); clear hs6 hb6 hg6; obtain ⟨hy3, hy4, hy5, hz3, hz4, hz5⟩ := cz3_ ⟨FL6.out.b4⟩; obtain ⟨hy6, hy7, hy8, hz6, hz7, hz8⟩ := cz3_ ⟨FL6.out.b6⟩; have hnb46 := NB46.out; have hnb64 := NB64.out))
      · have HB6 := Aside0.mk FL6.out.hb
        have h := H.out
        rw [show b3 = true by assumption] at hb3
        rw [if_pos (of_decide_eq_true hb3)] at h
        obtain ⟨rfl, rfl, rfl, rfl⟩ : [] = r1 ∧ 0 = r2 ∧ [] = r3 ∧ 51 = r4 := by simpa using h
        refine bodyPost_ret (results_ct rfl _ _ g4 61 #[.slice none 0 0, .int .i64 0, .slice none 0 0] (0, 0) _ rfl (blk_put (blk_put (blk_put (blk_far FL6.out.b4 NB46.out _) 0 _ rfl) 1 _ rfl) 2 _ rfl) Try.underlying61 rfl (by kernel_rfl)) rfl ?_
        exact ⟨_, _, fin_, Kd.S_nil _ _ _ _ _, Kd.S_nil _ _ _ _ _, bl_ HB6⟩
      · have HB6 := Aside0.mk FL6.out.hb
        have h := H.out
        rw [show b3 = false from Bool.eq_false_iff.2 (by assumption)] at hb3
        rw [show b4 = true by assumption] at hb4
        rw [if_neg (of_decide_eq_false hb3), if_pos (by unfold putLast; rw [List.length_set]; exact of_decide_eq_true hb4)] at h
        obtain ⟨rfl, rfl, rfl, rfl⟩ : [] = r1 ∧ 0 = r2 ∧ [] = r3 ∧ 51 = r4 := by simpa using h
        refine bodyPost_ret (results_ct rfl _ _ g4 61 #[.slice none 0 0, .int .i64 0, .slice none 0 0] (0, 0) _ rfl (blk_put (blk_put (blk_put (blk_far FL6.out.b4 NB46.out _) 0 _ rfl) 1 _ rfl) 2 _ rfl) Try.underlying61 rfl (by kernel_rfl)) rfl ?_
        exact ⟨_, _, fin_, Kd.S_nil _ _ _ _ _, Kd.S_nil _ _ _ _ _, bl_ HB6⟩
      · have h := H.out
        rw [show b3 = false from Bool.eq_false_iff.2 (by assumption)] at hb3
        rw [show b4 = false by assumption] at hb4
        rw [if_neg (of_decide_eq_false hb3), if_neg (by unfold putLast; rw [List.length_set]; exact of_decide_eq_false hb4)] at h
        have hmx := Kd.C_max (Kd.R_reads' (Kd.S_R FLr.out.hw)).2.2
        have hil := HIL.out
        have hw1 : wrap64 ((i : Int) + 1) = ((i + 1 : Nat) : Int) := by rw [wrap64_id (by omega) (by omega)]; omega
        refine ⟨⟨i + 1, putLast os ds, wrap64 (next + 1), _, by rw [hw1], ⟨by omega⟩, ⟨h⟩, ⟨FL6.out.step NB46.out GE6.out _⟩⟩, ?_⟩
        rw [hw1]
        simp [intOf]
        omega
    · have c1b : decide ((i : Int) < (o3.length : Int)) = false := decide_eq_false (by omega)
      have c1c : ((i : Int) < (o3.length : Int)) = False := eq_false (by omega)
      have h := H.out
      clear H
      have HIE : i = o3.length := by have := HI.out; omega
      rw [HIE, List.drop_length] at h
      simp only [wal_Flush.l0] at h
      obtain ⟨rfl, rfl, rfl, rfl⟩ : segs = r1 ∧ next = r2 ∧ [] = r3 ∧ 0 = r4 := by simpa using h
      clear h HIE hi
      obtain ⟨Av, cv, rfl⟩ := Kd.S_slice FLr.out.hs
      obtain ⟨hy3, hy4, hy5, hz3, hz4, hz5⟩ := cz3_ ⟨FLr.out.b4⟩
      obtain ⟨hy6, hy7, hy8, hz6, hz7, hz8⟩ := cz3_ ⟨FLr.out.b6⟩
      have hnb46 := NB46.out
      have hnb64 := NB64.out
      have HB6 := Aside0.mk FLr.out.hb
      have HS6 := Aside0.mk FLr.out.hs
      have B4 := Aside0.mk FLr.out.b4
      have B6 := Aside0.mk FLr.out.b6
      try go_wp2
      refine bodyPost_ret (results_ct rfl _ _ g4 61 #[.slice Av segs.length cv, .int .i64 next, .slice none 0 0] (0, 0) _ rfl (blk_put (blk_put (blk_put (blk_far B4.out NB46.out _) 0 _ rfl) 1 _ rfl) 2 _ rfl) Try.underlying61 rfl (by kernel_rfl)) rfl ?_
      exact ⟨_, _, fin_, Kd.S_mono (sS2_ HS6 B4 B6) (fun _ _ => trivial), Kd.S_nil _ _ _ _ _, bl_ HB6⟩
end
end Go.Proofs.Ytooabchnbmnchaa.Q
namespace Go.Proofs.Ytooabchnbmnchaa.Q
open Go.RowKit Go.Proofs.YtooabchnbmnchaaW.PrintWords Go.Proofs.YtooabchnbmnchaaW.PrintLast Go.Proofs.YtooabchnbmnchaaW.PrintMore
attribute [local go_sem] max2_int min2_int max_two min_two max_three min_three max_four min_four binOp_string_leq binOp_string_geq binOp_string_gtr   -- for this text's walks alone
set_option linter.unusedVariables false
set_option linter.unusedSimpArgs false
section
theorem conv_bytes (W : World) (b n : Nat) (cs : Array Value) (hb : W.heap[b]? = some (.cells cs 5 (0, 0))) : Sem.run Try.prog (convert 26 26 (.slice (some ⟨b, 0, none⟩) n n)) W = .ok (.slice (some ⟨b, 0, none⟩) n n) (W.freeze ⟨b, cs.size, none⟩ 1) := by
 have h := Try.underlying26
 have h5 := Try.underlying5
 have hs : W.shape? b = some (5, cs.size) := by unfold World.shape?; rw [hb]
 simp [convert, h, h5, hs, go_sem, markStringish, shape, freeze, Functor.map]
 simp [Bind.bind, Sem.bind, Pure.pure, go_sem, Sem.run, hs]
theorem frz_facts (W W2 : World) (n : Int) (hW2 : W2 = (W.alloc (.cells #[.int .u8 n] 5 (0, 0))).freeze ⟨W.heap.size, 1, none⟩ 1) : Below W.heap.size W W2 ∧ ∀ W' : World, W'.heap[W.heap.size]? = W2.heap[W.heap.size]? → Kd.C (Kd.int .u8) W' (some ⟨W.heap.size, 0, none⟩) ([n] : List Int).length [n] := by
 have hb0 := World.alloc_heap_new W (.cells #[.int .u8 n] 5 (0, 0))
 have hc2 : W2.cell? ⟨W.heap.size, 0, none⟩ = some (.int .u8 n) := by
  subst hW2
  unfold World.cell? World.freeze
  rw [if_neg (by decide)]
  simp only [Array.getElem?_modify, hb0]
  simp
 refine ⟨?_, fun W' hW' => ?_⟩
 ·subst hW2
  refine (below_alloc (Below.refl W.heap.size W) (.cells #[.int .u8 n] 5 (0, 0))).trans ⟨rfl, rfl, rfl, ?_, fun k hk => ?_⟩
  ·simp [World.freeze]
  ·simp only [World.freeze]
   rw [if_neg (by decide)]
   simp only [Array.getElem?_modify]
   rw [if_neg (by omega)]
 ·have hc3 : W'.cell? ⟨W.heap.size, 0, none⟩ = some (.int .u8 n) := (World.cell?_of_block (w := W2) hW').trans hc2
  refine ⟨rfl, by simp, fun _ => ⟨_, rfl, fun j p hj => ?_⟩⟩
  have hj0 : j = 0 := by
   have := (List.getElem?_eq_some_iff.1 hj).1
   simp at this
   exact this
  subst hj0
  obtain rfl : n = p := by simpa using hj
  refine ⟨[.int .u8 n], rfl, rfl, fun i u hu => ?_⟩
  have hi0 : i = 0 := by
   have := (List.getElem?_eq_some_iff.1 hu).1
   simp at this
   exact this
  subst hi0
  obtain rfl : Value.int .u8 n = u := by simpa using hu
  exact hc3
variable {ops : Array Oper} {Q : Exit → Act → World → Prop}
theorem lit1_ {o1 o2 : Oper} {rest : List Oper} {a : Act} {W : World} (N1 N2 : Tmp) (n : Int)
  (h : ∀ g w2, g = W.heap.size → Below W.heap.size W w2 → (∀ ok : Nat → Prop, ok g → Kd.FK (Kd.slice 5 (Kd.int .u8)) w2 ok [n] [.slice (some ⟨g, 0, none⟩) 1 1]) → wpList Try.prog ops Q rest ((a.put (some N1) (.slice (some ⟨g, 0, none⟩) 1 1)).put (some N2) (.slice (some ⟨g, 0, none⟩) 1 1)) w2)
  (hgd1 : o1.guard = none := by rfl) (hgd2 : o2.guard = none := by rfl) (hd1 : o1.dst = some N1 := by rfl) (hd2 : o2.dst = some N2 := by rfl) (hop2 : o2.op = .convert 26 26 (.tmp N1) := by rfl)
  (hrun : (execOp a.eval o1).run Try.prog W = .ok (.value (.slice (some ⟨W.heap.size, 0, none⟩) 1 1)) (W.alloc (.cells #[.int .u8 n] 5 (0, 0))) := by first | (go_simp; done) | (go_simp; rfl))
  (hev : ∀ v, (a.put (some N1) v).eval (.tmp N1) = v := by intro v; first | rfl | (simp [Act.put, Act.eval]; done)) : wpList Try.prog ops Q (o1 :: o2 :: rest) a W := by
 refine Kd.event_run hgd1 hrun ?_
 rw [hd1]
 obtain ⟨W2, hW2⟩ : ∃ W2, W2 = (W.alloc (.cells #[.int .u8 n] 5 (0, 0))).freeze ⟨W.heap.size, 1, none⟩ 1 := ⟨_, rfl⟩
 have hcv := conv_bytes (W.alloc (.cells #[.int .u8 n] 5 (0, 0))) W.heap.size 1 _ (World.alloc_heap_new W _)
 obtain ⟨f1, f2⟩ := frz_facts W W2 n hW2
 have hrun2 : (execOp (a.put (some N1) (.slice (some ⟨W.heap.size, 0, none⟩) 1 1)).eval o2).run Try.prog (W.alloc (.cells #[.int .u8 n] 5 (0, 0))) = .ok (.value (.slice (some ⟨W.heap.size, 0, none⟩) 1 1)) W2 := by
  unfold execOp
  simp only [hop2, hev]
  rw [hW2]
  simp [go_sem, hcv]
 refine Kd.event_run hgd2 hrun2 ?_
 rw [hd2]
 refine h W.heap.size W2 rfl f1 (fun ok hok => ?_)
 refine Kd.FK_slice_mk (Nat.le_refl _) ?_
 intro W' hW'
 exact f2 W' (hW' _ hok (by subst hW2; simp [World.freeze, World.size_alloc]))
end
section
def transeptlaw08_alive.f (k : Nat) : Option Bool := (wal_Append.f k [] 0 [] [[97], [98]]).bind fun a => (wal_Flush.f k a.1 a.2.1 a.2.2.1 10).bind fun b => (wal_Append.f k b.1 b.2.1 b.2.2.1 [[99]]).bind fun c => (wal_Flush.f k c.1 c.2.1 c.2.2.1 10).bind fun d =>
 if a.2.2.2 = 0 ∧ b.2.2.2 = 0 ∧ c.2.2.2 = 0 ∧ d.2.2.2 = 0 ∧ b.1.length = 1 ∧ d.1.length = 2 ∧ (rd_T70 d.1 1).f0 = 2 ∧ d.2.1 = 3 then some true else none
theorem transeptlaw08_alive.mono : ∀ k, LeO (transeptlaw08_alive.f k) (transeptlaw08_alive.f (k + 1)) := by
 intro k
 unfold transeptlaw08_alive.f
 exact LeO.bind (wal_Append.mono _ _ _ _ _) (fun _ => LeO.bind (wal_Flush.mono _ _ _ _ _) (fun _ => LeO.bind (wal_Append.mono _ _ _ _ _) (fun _ => LeO.bind (wal_Flush.mono _ _ _ _ _) (fun _ => LeO.refl _))))
set_option maxHeartbeats 8000000 in
set_option maxRecDepth 100000 in
theorem transeptlaw08_alive.calls (k : Nat) (r : Bool) (w : World) (h : transeptlaw08_alive.f k = some r) : Calls Try.prog 32 #[] w fun e w' => e = .returned (.bool r) ∧ Below w.heap.size w w' := by
 have hu61 := Try.underlying61
 have HB := Aside0.mk (Below.refl w.heap.size w)
 unfold transeptlaw08_alive.f at h
 obtain ⟨y194, hy194⟩ : ∃ y : List (List Int), y = [[97], [98]] := ⟨_, rfl⟩
 obtain ⟨y217, hy217⟩ : ∃ y : List (List Int), y = [[99]] := ⟨_, rfl⟩
 rw [← hy194, ← hy217] at h
 have Ny194 := Aside0.mk hy194
 have Ny217 := Aside0.mk hy217
 clear hy194 hy217
 replace h := Option.bind_eq_some_iff.1 h
 obtain ⟨⟨t197, t200, t201, t204⟩, A10, h⟩ := h
 replace h := Option.bind_eq_some_iff.1 h
 obtain ⟨⟨t206, t209, t210, t213⟩, A20, h⟩ := h
 replace h := Option.bind_eq_some_iff.1 h
 obtain ⟨⟨t220, t223, t224, t227⟩, A30, h⟩ := h
 replace h := Option.bind_eq_some_iff.1 h
 obtain ⟨⟨t228, t231, t232, t235⟩, A40, h⟩ := h
 dsimp only at h A10 A20 A30 A40
 by_cases hc : t204 = 0 ∧ t213 = 0 ∧ t227 = 0 ∧ t235 = 0 ∧ t206.length = 1 ∧ t228.length = 2 ∧ (rd_T70 t228 1).f0 = 2 ∧ t231 = 3
 case neg => rw [if_neg hc] at h; cases h
 rw [if_pos hc] at h
 obtain rfl := Option.some.inj h
 obtain ⟨d1, d2, d3, d4, d5, d6, d7, d8⟩ := hc
 obtain ⟨t236, A50⟩ : ∃ t, transeptlaw08_num.f t204 = some t := ⟨_, rfl⟩
 obtain ⟨t237, A60⟩ : ∃ t, transeptlaw08_num.f t213 = some t := ⟨_, rfl⟩
 obtain ⟨t238, A70⟩ : ∃ t, transeptlaw08_num.f t227 = some t := ⟨_, rfl⟩
 obtain ⟨t239, A80⟩ : ∃ t, transeptlaw08_num.f t235 = some t := ⟨_, rfl⟩
 have e1 : t204 = t236 := Option.some.inj A50
 have e2 : t213 = t237 := Option.some.inj A60
 have e3 : t227 = t238 := Option.some.inj A70
 have e4 : t235 = t239 := Option.some.inj A80
 have c9 : wrap64 (wrap64 (wrap64 (t236 + t237) + t238) + t239) = 0 := by rw [← e1, ← e2, ← e3, ← e4, d1, d2, d3, d4]; decide +kernel
 have c9b0 : (wrap64 (wrap64 (wrap64 (t236 + t237) + t238) + t239) == 0) = true := beq_iff_eq.mpr c9
 have c9b1 : (wrap64 (wrap64 (wrap64 (t236 + t237) + t238) + t239) != 0) = false := bne_eq_false_iff_eq.mpr c9
 have c10b0 : ((t206.length : Int) == 1) = true := beq_iff_eq.mpr (by omega)
 have c10b1 : ((t206.length : Int) != 1) = false := bne_eq_false_iff_eq.mpr (by omega)
 have c11b0 : ((t228.length : Int) == 2) = true := beq_iff_eq.mpr (by omega)
 have c11b1 : ((t228.length : Int) != 2) = false := bne_eq_false_iff_eq.mpr (by omega)
 have c12b0 : decide (1 < (t228.length : Int)) = true := decide_eq_true (by omega)
 have c12b1 : decide (1 < t228.length) = true := decide_eq_true (by omega)
 have c13b0 : (((rd_T70 t228 1).f0) == 2) = true := beq_iff_eq.mpr d7
 have c13b1 : (((rd_T70 t228 1).f0) != 2) = false := bne_eq_false_iff_eq.mpr d7
 have c14b0 : (t231 == 3) = true := beq_iff_eq.mpr d8
 have A1 := Aside0.mk A10
 have A2 := Aside0.mk A20
 have A3 := Aside0.mk A30
 have A4 := Aside0.mk A40
 have A5 := Aside0.mk A50
 have A6 := Aside0.mk A60
 have A7 := Aside0.mk A70
 have A8 := Aside0.mk A80
 clear c9 d1 d2 d3 d4 d5 d6 d7 d8 e1 e2 e3 e4 A10 A20 A30 A40 A50 A60 A70 A80 h
 go_enter Try.func32, Try.ntmps32
 go_wp2_with (first | ((with_reducible refine gate_dst (N := 9) rfl ?_); refine lit1_ 9 10 97 ?_; intro g9 w14 hg9 hb hfk; have HK9 := Aside0.mk (hfk (fun _ => True) trivial); replace HB := bS_ HB hb; clear hb hfk hg9) | ((with_reducible refine gate_dst (N := 11) rfl ?_); refine lit1_ 11 12 98 ?_; intro g11 w17 hg11 hb hfk; have HK11 := Aside0.mk (hfk (fun _ => True) trivial); replace HK9 := Aside0.mk (Foot.step HK9.out (fun k_ _ hlt_ => hb.block k_ hlt_)); replace HB := bS_ HB hb; clear hb hfk hg11) | ((with_reducible refine gate_dst (N := 13) rfl ?_); (try (refine gate_guard (by rfl) ?_; dsimp only)); refine Kd.N_lit (Kd.slice 5 (Kd.int .u8)) _ 26 ?hg (N' := 13) ?hd (xs := ([[97], [98]] : List (List Int))) (inner := [.slice (some ⟨g9, 0, none⟩) 1 1, .slice (some ⟨g11, 0, none⟩) 1 1]) (ok := (fun _ => True)) (okp := (fun _ => True)) ?hr ?hp (fun _ hk => hk) ((show ∀ k_, w17.heap.size ≤ k_ → (fun _ => True) k_ from fun k_ hk => trivial) _ (Nat.le_refl _)) (Below.refl _ _) (Nat.le_refl _) (by simp) ?_; (case hd => rfl); (case hg => rfl); (case hr => first | (go_simp; done) | (go_simp; rfl)); (case hp => exact (Reps.one (show Kd.FK (Kd.slice 5 (Kd.int .u8)) _ _ [97] [.slice (some ⟨g9, 0, none⟩) 1 1] from HK9.out) (Reps.one (show Kd.FK (Kd.slice 5 (Kd.int .u8)) _ _ [98] [.slice (some ⟨g11, 0, none⟩) 1 1] from HK11.out) (Reps.none _ _)))); intro v195 w20 ho21 hb hg_ hnew_; clear hg_ hnew_; (first | rw [← Ny194.out] at ho21 | (simp only [Int.reduceToNat] at ho21; rw [← Ny194.out] at ho21)); have HO196 := Aside0.mk (Kd.N_lower ho21 (bs_ HB)); replace HB := bS_ HB hb; clear HK9 HK11; clear hb ho21; obtain ⟨Ao22, co22, eo22⟩ := Kd.N_slice HO196.out; subst eo22) | ((with_reducible refine gate_callee (f := 35) rfl ?_); refine gL_ (some 14) Try.func35 #[.agg #[.slice none 0 0, .int .i64 0, .slice none 0 0], .slice Ao22 y194.length co22] ?_; (refine (wal_Append.calls k _ _ ([] : List (S70)) 0 _ _ ([] : List (List Int)) _ _ y194 t197 t200 t201 t204 _ ?_ ?_ ?_ ?_ ?_ ?_ A1.out).mono ?_); exact Kd.C_nil _ _; exact Nat.le_refl _; exact Kd.C_nil _ _; exact Nat.le_refl _; exact cO_ (Kd.N_reads' HO196.out).2.2; exact (Kd.N_reads' HO196.out).2.1; rintro e w23 ⟨v198, v202, rfl, ho0, ho1, hb⟩; refine ⟨_, rfl, ?_⟩; have HO199 := Aside0.mk (Kd.N_lower (Kd.N_mono (ok' := fun k_ => some k_ ≠ (v202 : Value).ownBlock ∧ some k_ ≠ (.slice Ao22 y194.length co22 : Value).ownBlock) ho0 (fun k_ hk_ => ⟨hk_.2, (Kd.fresh' (Kd.N_lt (nA_ HO196)) k_ hk_.1)⟩)) (bs_ HB)); have HO203 := Aside0.mk (Kd.N_lower (Kd.N_mono (ok' := fun k_ => some k_ ≠ (v198 : Value).ownBlock ∧ some k_ ≠ (.slice Ao22 y194.length co22 : Value).ownBlock) ho1 (fun k_ hk_ => ⟨hk_.2, (Kd.fresh' (Kd.N_lt (nA_ HO196)) k_ hk_.1)⟩)) (bs_ HB)); replace HO196 := Aside0.mk (Kd.N_mono (Kd.N_told (Kd.N_told (Kd.N_old (nA_ HO196) hb) (Kd.N_base ho0)) (Kd.N_base ho1)) (fun _ h_ => h_.1)); replace HB := bS_ HB hb; (try clear hb ho0 ho1)) | ((with_reducible refine gate_dst (N := 1) rfl ?_); (try (refine gate_guard (by rfl) ?_; dsimp only)); refine bx_ 1 #[.slice none 0 0, .int .i64 0, .slice none 0 0] 61 ?_; intro gb205 hg w24 hbox hb; replace HO196 := Aside0.mk (Kd.N_below (Kd.N_elderB (nA_ HO196) gb205 (Nat.le_of_eq hg.symm)) hb); replace HO199 := Aside0.mk (Kd.N_below (Kd.N_elderB (nA_ HO199) gb205 (Nat.le_of_eq hg.symm)) hb); replace HO203 := Aside0.mk (Kd.N_below (Kd.N_elderB (nA_ HO203) gb205 (Nat.le_of_eq hg.symm)) hb); have BK205 := Aside0.mk (hbox); have GW205 := bG_ HB hg; have GE205 := bG_ HB hg; replace HB := bS_ HB hb; clear hb hbox hg; obtain ⟨Ao25, co25, eo25⟩ := Kd.N_slice HO199.out; subst eo25; obtain ⟨hcz26_0, hcz26_1, hcz26_2, hfz26_0, hfz26_1, hfz26_2⟩ := cz3_ BK205; obtain ⟨Ao27, co27, eo27⟩ := Kd.N_slice HO203.out; subst eo27) | ((with_reducible refine gate_callee (f := 48) rfl ?_); refine gL_ (some 19) Try.func48 #[.agg #[.slice Ao25 t197.length co25, .int .i64 t200, .slice Ao27 t201.length co27], .int .i64 10] ?_; (with_reducible refine (wal_Flush.calls k _ _ t197 t200 _ _ t201 10 t206 t209 t210 t213 _ ?_ ?_ ?_ ?_ A2.out).mono ?_); exact (Kd.N_reads' (nC_ HO199 (fun k_ hk => hk.2))).2.2; exact (Kd.N_reads' HO199.out).2.1; exact (Kd.N_reads' (nC_ HO203 (fun k_ hk => hk.2))).2.2; exact (Kd.N_reads' HO203.out).2.1; rintro e w28 ⟨v207, v211, rfl, ho0, ho1, hb⟩; refine ⟨_, rfl, ?_⟩; have HO208 := Aside0.mk (Kd.N_lower (Kd.N_mono (ok' := fun k_ => some k_ ≠ (v211 : Value).ownBlock ∧ some k_ ≠ (.slice Ao22 y194.length co22 : Value).ownBlock ∧ some k_ ≠ (.slice Ao25 t197.length co25 : Value).ownBlock ∧ some k_ ≠ (.slice Ao27 t201.length co27 : Value).ownBlock ∧ k_ ≠ gb205) (Kd.S_N (Kd.S_bound (Kd.S_apart' ho0 (Kd.S_typed ho1) (by decide)))) (fun k_ hk_ => ⟨hk_.1.2, (Kd.fresh' (Kd.N_lt (nC_ HO196 (fun k_ hk => hk.2))) k_ hk_.2.1), (Kd.fresh' (Kd.N_lt (nC_ HO199 (fun k_ hk => hk.2))) k_ hk_.2.1), (Kd.fresh' (Kd.N_lt (nC_ HO203 (fun k_ hk => hk.2))) k_ hk_.2.1), (Kd.freshB (g := gb205) (o := .cells #[.slice Ao25 t197.length co25, .int .i64 t200, .slice Ao27 t201.length co27] 61 (0, 0)) (by (with_reducible repeat (first | refine blk_drewN ?_ _ | refine blk_drew ?_ | refine blk_alloc ?_ _)); refine blk_put (cs := #[.slice Ao25 t197.length co25, .int .i64 t200, .slice none 0 0]) ?_ 2 _ rfl; (with_reducible repeat (first | refine blk_drewN ?_ _ | refine blk_drew ?_ | refine blk_alloc ?_ _)); refine blk_put (cs := #[.slice Ao25 t197.length co25, .int .i64 0, .slice none 0 0]) ?_ 1 _ rfl; (with_reducible repeat (first | refine blk_drewN ?_ _ | refine blk_drew ?_ | refine blk_alloc ?_ _)); refine blk_put (cs := #[.slice none 0 0, .int .i64 0, .slice none 0 0]) ?_ 0 _ rfl; (with_reducible repeat (first | refine blk_drewN ?_ _ | refine blk_drew ?_ | refine blk_alloc ?_ _)); exact BK205.out) k_ hk_.2.1)⟩)) (bs_ HB)); have HO212 := Aside0.mk (Kd.N_lower (Kd.N_mono (ok' := fun k_ => some k_ ≠ (v207 : Value).ownBlock ∧ some k_ ≠ (.slice Ao22 y194.length co22 : Value).ownBlock ∧ some k_ ≠ (.slice Ao25 t197.length co25 : Value).ownBlock ∧ some k_ ≠ (.slice Ao27 t201.length co27 : Value).ownBlock ∧ k_ ≠ gb205) (Kd.S_N (Kd.S_bound (Kd.S_apart' ho1 (Kd.S_typed ho0) (by decide)))) (fun k_ hk_ => ⟨hk_.1.2, (Kd.fresh' (Kd.N_lt (nC_ HO196 (fun k_ hk => hk.2))) k_ hk_.2.1), (Kd.fresh' (Kd.N_lt (nC_ HO199 (fun k_ hk => hk.2))) k_ hk_.2.1), (Kd.fresh' (Kd.N_lt (nC_ HO203 (fun k_ hk => hk.2))) k_ hk_.2.1), (Kd.freshB (g := gb205) (o := .cells #[.slice Ao25 t197.length co25, .int .i64 t200, .slice Ao27 t201.length co27] 61 (0, 0)) (by (with_reducible repeat (first | refine blk_drewN ?_ _ | refine blk_drew ?_ | refine blk_alloc ?_ _)); refine blk_put (cs := #[.slice Ao25 t197.length co25, .int .i64 t200, .slice none 0 0]) ?_ 2 _ rfl; (with_reducible repeat (first | refine blk_drewN ?_ _ | refine blk_drew ?_ | refine blk_alloc ?_ _)); refine blk_put (cs := #[.slice Ao25 t197.length co25, .int .i64 0, .slice none 0 0]) ?_ 1 _ rfl; (with_reducible repeat (first | refine blk_drewN ?_ _ | refine blk_drew ?_ | refine blk_alloc ?_ _)); refine blk_put (cs := #[.slice none 0 0, .int .i64 0, .slice none 0 0]) ?_ 0 _ rfl; (with_reducible repeat (first | refine blk_drewN ?_ _ | refine blk_drew ?_ | refine blk_alloc ?_ _)); exact BK205.out) k_ hk_.2.1)⟩)) (bs_ HB)); replace HO196 := Aside0.mk (Kd.N_mono (Kd.N_told (Kd.N_told (Kd.N_old (nC_ HO196 (fun k_ hk => hk.2)) hb) (Kd.S_base ho0)) (Kd.S_base ho1)) (fun _ h_ => h_.1)); replace HO199 := Aside0.mk (Kd.N_mono (Kd.N_told (Kd.N_told (Kd.N_old (nC_ HO199 (fun k_ hk => hk.2)) hb) (Kd.S_base ho0)) (Kd.S_base ho1)) (fun _ h_ => h_.1)); replace HO203 := Aside0.mk (Kd.N_mono (Kd.N_told (Kd.N_told (Kd.N_old (nC_ HO203 (fun k_ hk => hk.2)) hb) (Kd.S_base ho0)) (Kd.S_base ho1)) (fun _ h_ => h_.1)); replace BK205 := Aside0.mk (blk_below (g := gb205) (o := .cells #[.slice Ao25 t197.length co25, .int .i64 t200, .slice Ao27 t201.length co27] 61 (0, 0)) (by (with_reducible repeat (first | refine blk_drewN ?_ _ | refine blk_drew ?_ | refine blk_alloc ?_ _)); refine blk_put (cs := #[.slice Ao25 t197.length co25, .int .i64 t200, .slice none 0 0]) ?_ 2 _ rfl; (with_reducible repeat (first | refine blk_drewN ?_ _ | refine blk_drew ?_ | refine blk_alloc ?_ _)); refine blk_put (cs := #[.slice Ao25 t197.length co25, .int .i64 0, .slice none 0 0]) ?_ 1 _ rfl; (with_reducible repeat (first | refine blk_drewN ?_ _ | refine blk_drew ?_ | refine blk_alloc ?_ _)); refine blk_put (cs := #[.slice none 0 0, .int .i64 0, .slice none 0 0]) ?_ 0 _ rfl; (with_reducible repeat (first | refine blk_drewN ?_ _ | refine blk_drew ?_ | refine blk_alloc ?_ _)); exact BK205.out) hb); replace HB := bS_ HB hb; (try clear hb ho0 ho1); obtain ⟨Ao29, co29, eo29⟩ := Kd.N_slice HO208.out; subst eo29; obtain ⟨hcz30_0, hcz30_1, hcz30_2, hfz30_0, hfz30_1, hfz30_2⟩ := cz3_ BK205; obtain ⟨Ao31, co31, eo31⟩ := Kd.N_slice HO212.out; subst eo31) | ((with_reducible refine gate_dst (N := 27) rfl ?_); refine lit1_ 27 28 99 ?_; intro g27 w32 hg27 hb hfk; have hsz27 : g27 = w28.heap.size := (by rw [hg27]; simp only [setCell_size']; try rfl); have HK27 := Aside0.mk (hfk (fun k_ => some k_ ≠ (.slice Ao22 y194.length co22 : Value).ownBlock ∧ some k_ ≠ (.slice Ao25 t197.length co25 : Value).ownBlock ∧ some k_ ≠ (.slice Ao27 t201.length co27 : Value).ownBlock ∧ some k_ ≠ (.slice Ao29 t206.length co29 : Value).ownBlock ∧ some k_ ≠ (.slice Ao31 t210.length co31 : Value).ownBlock ∧ k_ ≠ gb205) ⟨fun e_ => by have h_ := Kd.N_lt HO196.out _ e_.symm; omega, fun e_ => by have h_ := Kd.N_lt HO199.out _ e_.symm; omega, fun e_ => by have h_ := Kd.N_lt HO203.out _ e_.symm; omega, fun e_ => by have h_ := Kd.N_lt HO208.out _ e_.symm; omega, fun e_ => by have h_ := Kd.N_lt HO212.out _ e_.symm; omega, fun e_ => by have h_ := blk_lt BK205.out; omega⟩); replace HO196 := Aside0.mk (Kd.N_elder' (u := .slice (some ⟨g27, 0, none⟩) 1 1) (nC_ HO196 (fun k_ hk => hk.1.1.2)) (fun k_ e_ => by rw [← hg27]; exact Nat.le_of_eq (by simpa [Value.ownBlock] using e_)) hb); replace HO199 := Aside0.mk (Kd.N_elder' (u := .slice (some ⟨g27, 0, none⟩) 1 1) (nC_ HO199 (fun k_ hk => hk.1.1.2)) (fun k_ e_ => by rw [← hg27]; exact Nat.le_of_eq (by simpa [Value.ownBlock] using e_)) hb); replace HO203 := Aside0.mk (Kd.N_elder' (u := .slice (some ⟨g27, 0, none⟩) 1 1) (nC_ HO203 (fun k_ hk => hk.1.1.2)) (fun k_ e_ => by rw [← hg27]; exact Nat.le_of_eq (by simpa [Value.ownBlock] using e_)) hb); replace HO208 := Aside0.mk (Kd.N_elder' (u := .slice (some ⟨g27, 0, none⟩) 1 1) (nC_ HO208 (fun k_ hk => hk.2.2.2.2)) (fun k_ e_ => by rw [← hg27]; exact Nat.le_of_eq (by simpa [Value.ownBlock] using e_)) hb); replace HO212 := Aside0.mk (Kd.N_elder' (u := .slice (some ⟨g27, 0, none⟩) 1 1) (nC_ HO212 (fun k_ hk => hk.2.2.2.2)) (fun k_ e_ => by rw [← hg27]; exact Nat.le_of_eq (by simpa [Value.ownBlock] using e_)) hb); replace BK205 := Aside0.mk (blk_below (g := gb205) (o := .cells #[.slice Ao29 t206.length co29, .int .i64 t209, .slice Ao31 t210.length co31] 61 (0, 0)) (by (with_reducible repeat (first | refine blk_drewN ?_ _ | refine blk_drew ?_ | refine blk_alloc ?_ _)); refine blk_put (cs := #[.slice Ao29 t206.length co29, .int .i64 t209, .slice Ao27 t201.length co27]) ?_ 2 _ rfl; (with_reducible repeat (first | refine blk_drewN ?_ _ | refine blk_drew ?_ | refine blk_alloc ?_ _)); refine blk_put (cs := #[.slice Ao29 t206.length co29, .int .i64 t200, .slice Ao27 t201.length co27]) ?_ 1 _ rfl; (with_reducible repeat (first | refine blk_drewN ?_ _ | refine blk_drew ?_ | refine blk_alloc ?_ _)); refine blk_put (cs := #[.slice Ao25 t197.length co25, .int .i64 t200, .slice Ao27 t201.length co27]) ?_ 0 _ rfl; (with_reducible repeat (first | refine blk_drewN ?_ _ | refine blk_drew ?_ | refine blk_alloc ?_ _)); exact BK205.out) hb); replace HB := bS_ HB hb; clear hb hfk hg27 hsz27) | ((with_reducible refine gate_dst (N := 29) rfl ?_); (try (refine gate_guard (by rfl) ?_; dsimp only)); refine Kd.N_lit (Kd.slice 5 (Kd.int .u8)) _ 26 ?hg (N' := 29) ?hd (xs := ([[99]] : List (List Int))) (inner := [.slice (some ⟨g27, 0, none⟩) 1 1]) (ok := (fun k_ => some k_ ≠ (.slice Ao22 y194.length co22 : Value).ownBlock ∧ some k_ ≠ (.slice Ao25 t197.length co25 : Value).ownBlock ∧ some k_ ≠ (.slice Ao27 t201.length co27 : Value).ownBlock ∧ some k_ ≠ (.slice Ao29 t206.length co29 : Value).ownBlock ∧ some k_ ≠ (.slice Ao31 t210.length co31 : Value).ownBlock ∧ k_ ≠ gb205)) (okp := (fun k_ => some k_ ≠ (.slice Ao22 y194.length co22 : Value).ownBlock ∧ some k_ ≠ (.slice Ao25 t197.length co25 : Value).ownBlock ∧ some k_ ≠ (.slice Ao27 t201.length co27 : Value).ownBlock ∧ some k_ ≠ (.slice Ao29 t206.length co29 : Value).ownBlock ∧ some k_ ≠ (.slice Ao31 t210.length co31 : Value).ownBlock ∧ k_ ≠ gb205)) ?hr ?hp (fun _ hk => hk) ((show ∀ k_, w32.heap.size ≤ k_ → (fun k_ => some k_ ≠ (.slice Ao22 y194.length co22 : Value).ownBlock ∧ some k_ ≠ (.slice Ao25 t197.length co25 : Value).ownBlock ∧ some k_ ≠ (.slice Ao27 t201.length co27 : Value).ownBlock ∧ some k_ ≠ (.slice Ao29 t206.length co29 : Value).ownBlock ∧ some k_ ≠ (.slice Ao31 t210.length co31 : Value).ownBlock ∧ k_ ≠ gb205) k_ from fun k_ hk => ⟨Kd.fresh' (Kd.N_lt (nA_ HO196)) k_ hk, Kd.fresh' (Kd.N_lt (nA_ HO199)) k_ hk, Kd.fresh' (Kd.N_lt (nA_ HO203)) k_ hk, Kd.fresh' (Kd.N_lt (nA_ HO208)) k_ hk, Kd.fresh' (Kd.N_lt (nA_ HO212)) k_ hk, Kd.freshB (bA_ BK205) k_ hk⟩) _ (Nat.le_refl _)) (Below.refl _ _) (Nat.le_refl _) (by simp) ?_; (case hd => rfl); (case hg => rfl); (case hr => first | (go_simp; done) | (go_simp; rfl)); (case hp => exact (Reps.one (show Kd.FK (Kd.slice 5 (Kd.int .u8)) _ _ [99] [.slice (some ⟨g27, 0, none⟩) 1 1] from HK27.out) (Reps.none _ _))); intro v218 w35 ho36 hb hg_ hnew_; clear hg_ hnew_; (first | rw [← Ny217.out] at ho36 | (simp only [Int.reduceToNat] at ho36; rw [← Ny217.out] at ho36)); replace HO196 := Aside0.mk (Kd.N_elder' (nA_ HO196) (Kd.N_base ho36) hb); replace HO199 := Aside0.mk (Kd.N_elder' (nA_ HO199) (Kd.N_base ho36) hb); replace HO203 := Aside0.mk (Kd.N_elder' (nA_ HO203) (Kd.N_base ho36) hb); replace HO208 := Aside0.mk (Kd.N_elder' (nA_ HO208) (Kd.N_base ho36) hb); replace HO212 := Aside0.mk (Kd.N_elder' (nA_ HO212) (Kd.N_base ho36) hb); have HO219 := Aside0.mk (Kd.N_lower ho36 (bs_ HB)); replace BK205 := bK_ BK205 hb; replace HB := bS_ HB hb; clear HK27; clear hb ho36; obtain ⟨Ao37, co37, eo37⟩ := Kd.N_slice HO219.out; subst eo37) | ((with_reducible refine gate_callee (f := 35) rfl ?_); refine gL_ (some 30) Try.func35 #[.agg #[.slice Ao29 t206.length co29, .int .i64 t209, .slice Ao31 t210.length co31], .slice Ao37 y217.length co37] ?_; (with_reducible refine (wal_Append.calls k _ _ t206 t209 _ _ t210 _ _ y217 t220 t223 t224 t227 _ ?_ ?_ ?_ ?_ ?_ ?_ A3.out).mono ?_); exact cO_ (Kd.N_reads' HO208.out).2.2; exact (Kd.N_reads' HO208.out).2.1; exact cO_ (Kd.N_reads' HO212.out).2.2; exact (Kd.N_reads' HO212.out).2.1; exact cO_ (Kd.N_reads' HO219.out).2.2; exact (Kd.N_reads' HO219.out).2.1; rintro e w38 ⟨v221, v225, rfl, ho0, ho1, hb⟩; refine ⟨_, rfl, ?_⟩; have HO222 := Aside0.mk (Kd.N_lower (Kd.N_mono (ok' := fun k_ => some k_ ≠ (v225 : Value).ownBlock ∧ some k_ ≠ (.slice Ao22 y194.length co22 : Value).ownBlock ∧ some k_ ≠ (.slice Ao25 t197.length co25 : Value).ownBlock ∧ some k_ ≠ (.slice Ao27 t201.length co27 : Value).ownBlock ∧ some k_ ≠ (.slice Ao29 t206.length co29 : Value).ownBlock ∧ some k_ ≠ (.slice Ao31 t210.length co31 : Value).ownBlock ∧ some k_ ≠ (.slice Ao37 y217.length co37 : Value).ownBlock ∧ k_ ≠ gb205) ho0 (fun k_ hk_ => ⟨hk_.2, (Kd.fresh' (Kd.N_lt (nA_ HO196)) k_ hk_.1), (Kd.fresh' (Kd.N_lt (nA_ HO199)) k_ hk_.1), (Kd.fresh' (Kd.N_lt (nA_ HO203)) k_ hk_.1), (Kd.fresh' (Kd.N_lt (nA_ HO208)) k_ hk_.1), (Kd.fresh' (Kd.N_lt (nA_ HO212)) k_ hk_.1), (Kd.fresh' (Kd.N_lt (nA_ HO219)) k_ hk_.1), (Kd.freshB (bA_ BK205) k_ hk_.1)⟩)) (bs_ HB)); have HO226 := Aside0.mk (Kd.N_lower (Kd.N_mono (ok' := fun k_ => some k_ ≠ (v221 : Value).ownBlock ∧ some k_ ≠ (.slice Ao22 y194.length co22 : Value).ownBlock ∧ some k_ ≠ (.slice Ao25 t197.length co25 : Value).ownBlock ∧ some k_ ≠ (.slice Ao27 t201.length co27 : Value).ownBlock ∧ some k_ ≠ (.slice Ao29 t206.length co29 : Value).ownBlock ∧ some k_ ≠ (.slice Ao31 t210.length co31 : Value).ownBlock ∧ some k_ ≠ (.slice Ao37 y217.length co37 : Value).ownBlock ∧ k_ ≠ gb205) ho1 (fun k_ hk_ => ⟨hk_.2, (Kd.fresh' (Kd.N_lt (nA_ HO196)) k_ hk_.1), (Kd.fresh' (Kd.N_lt (nA_ HO199)) k_ hk_.1), (Kd.fresh' (Kd.N_lt (nA_ HO203)) k_ hk_.1), (Kd.fresh' (Kd.N_lt (nA_ HO208)) k_ hk_.1), (Kd.fresh' (Kd.N_lt (nA_ HO212)) k_ hk_.1), (Kd.fresh' (Kd.N_lt (nA_ HO219)) k_ hk_.1), (Kd.freshB (bA_ BK205) k_ hk_.1)⟩)) (bs_ HB)); replace HO196 := Aside0.mk (Kd.N_mono (Kd.N_told (Kd.N_told (Kd.N_old (nA_ HO196) hb) (Kd.N_base ho0)) (Kd.N_base ho1)) (fun _ h_ => h_.1)); replace HO199 := Aside0.mk (Kd.N_mono (Kd.N_told (Kd.N_told (Kd.N_old (nA_ HO199) hb) (Kd.N_base ho0)) (Kd.N_base ho1)) (fun _ h_ => h_.1)); replace HO203 := Aside0.mk (Kd.N_mono (Kd.N_told (Kd.N_told (Kd.N_old (nA_ HO203) hb) (Kd.N_base ho0)) (Kd.N_base ho1)) (fun _ h_ => h_.1)); replace HO208 := Aside0.mk (Kd.N_mono (Kd.N_told (Kd.N_told (Kd.N_old (nA_ HO208) hb) (Kd.N_base ho0)) (Kd.N_base ho1)) (fun _ h_ => h_.1)); replace HO212 := Aside0.mk (Kd.N_mono (Kd.N_told (Kd.N_told (Kd.N_old (nA_ HO212) hb) (Kd.N_base ho0)) (Kd.N_base ho1)) (fun _ h_ => h_.1)); replace HO219 := Aside0.mk (Kd.N_mono (Kd.N_told (Kd.N_told (Kd.N_old (nA_ HO219) hb) (Kd.N_base ho0)) (Kd.N_base ho1)) (fun _ h_ => h_.1)); replace BK205 := bK_ BK205 hb; replace HB := bS_ HB hb; (try clear hb ho0 ho1); obtain ⟨Ao39, co39, eo39⟩ := Kd.N_slice HO222.out; subst eo39; obtain ⟨hcz40_0, hcz40_1, hcz40_2, hfz40_0, hfz40_1, hfz40_2⟩ := cz3_ BK205; obtain ⟨Ao41, co41, eo41⟩ := Kd.N_slice HO226.out; subst eo41) | ((with_reducible refine gate_callee (f := 48) rfl ?_); refine gL_ (some 35) Try.func48 #[.agg #[.slice Ao39 t220.length co39, .int .i64 t223, .slice Ao41 t224.length co41], .int .i64 10] ?_; (with_reducible refine (wal_Flush.calls k _ _ t220 t223 _ _ t224 10 t228 t231 t232 t235 _ ?side1 ?side2 ?side3 ?side4 A4.out).mono ?_); (case side1 => refine (Kd.N_reads' (e := 70) (base := w.heap.size) (ok := fun k_ => (some k_ ≠ (.slice Ao41 t224.length co41 : Value).ownBlock ∧ (some k_ ≠ (.slice Ao22 y194.length co22 : Value).ownBlock ∧ (some k_ ≠ (.slice Ao25 t197.length co25 : Value).ownBlock ∧ (some k_ ≠ (.slice Ao27 t201.length co27 : Value).ownBlock ∧ (some k_ ≠ (.slice Ao29 t206.length co29 : Value).ownBlock ∧ (some k_ ≠ (.slice Ao31 t210.length co31 : Value).ownBlock ∧ (some k_ ≠ (.slice Ao37 y217.length co37 : Value).ownBlock ∧ k_ ≠ gb205)))))))) (n := t220.length) (c := co39) ?_).2.2; exact (nC_ HO222 (fun k_ hk => hk.2.2.2.2.2.2.2))); (case side2 => exact (Kd.N_reads' HO222.out).2.1); (case side3 => refine (Kd.N_reads' (e := 26) (base := w.heap.size) (ok := fun k_ => (some k_ ≠ (.slice Ao39 t220.length co39 : Value).ownBlock ∧ (some k_ ≠ (.slice Ao22 y194.length co22 : Value).ownBlock ∧ (some k_ ≠ (.slice Ao25 t197.length co25 : Value).ownBlock ∧ (some k_ ≠ (.slice Ao27 t201.length co27 : Value).ownBlock ∧ (some k_ ≠ (.slice Ao29 t206.length co29 : Value).ownBlock ∧ (some k_ ≠ (.slice Ao31 t210.length co31 : Value).ownBlock ∧ (some k_ ≠ (.slice Ao37 y217.length co37 : Value).ownBlock ∧ k_ ≠ gb205)))))))) (n := t224.length) (c := co41) ?_).2.2; exact (nC_ HO226 (fun k_ hk => hk.2.2.2.2.2.2.2))); (case side4 => exact (Kd.N_reads' HO226.out).2.1); rintro e w42 ⟨v229, v233, rfl, ho0, ho1, hb⟩; refine ⟨_, rfl, ?_⟩; have HO230 := Aside0.mk (Kd.N_lower (Kd.N_mono (ok' := fun k_ => some k_ ≠ (v233 : Value).ownBlock ∧ some k_ ≠ (.slice Ao22 y194.length co22 : Value).ownBlock ∧ some k_ ≠ (.slice Ao25 t197.length co25 : Value).ownBlock ∧ some k_ ≠ (.slice Ao27 t201.length co27 : Value).ownBlock ∧ some k_ ≠ (.slice Ao29 t206.length co29 : Value).ownBlock ∧ some k_ ≠ (.slice Ao31 t210.length co31 : Value).ownBlock ∧ some k_ ≠ (.slice Ao37 y217.length co37 : Value).ownBlock ∧ some k_ ≠ (.slice Ao39 t220.length co39 : Value).ownBlock ∧ some k_ ≠ (.slice Ao41 t224.length co41 : Value).ownBlock ∧ k_ ≠ gb205) (Kd.S_N (Kd.S_bound (Kd.S_apart' ho0 (Kd.S_typed ho1) (by decide)))) (fun k_ hk_ => ⟨hk_.1.2, (Kd.fresh' (Kd.N_lt (nC_ HO196 (fun k_ hk => hk.1.1.1.1.1.1.2))) k_ hk_.2.1), (Kd.fresh' (Kd.N_lt (nC_ HO199 (fun k_ hk => hk.1.1.1.1.1.1.2))) k_ hk_.2.1), (Kd.fresh' (Kd.N_lt (nC_ HO203 (fun k_ hk => hk.1.1.1.1.1.1.2))) k_ hk_.2.1), (Kd.fresh' (Kd.N_lt (nC_ HO208 (fun k_ hk => hk.1.1.1.1.2.2.2.2))) k_ hk_.2.1), (Kd.fresh' (Kd.N_lt (nC_ HO212 (fun k_ hk => hk.1.1.1.1.2.2.2.2))) k_ hk_.2.1), (Kd.fresh' (Kd.N_lt (nC_ HO219 (fun k_ hk => hk.1.1.2.2.2.2.2))) k_ hk_.2.1), (Kd.fresh' (Kd.N_lt (nC_ HO222 (fun k_ hk => hk.2.2.2.2.2.2.2))) k_ hk_.2.1), (Kd.fresh' (Kd.N_lt (nC_ HO226 (fun k_ hk => hk.2.2.2.2.2.2.2))) k_ hk_.2.1), (Kd.freshB (g := gb205) (o := .cells #[.slice Ao39 t220.length co39, .int .i64 t223, .slice Ao41 t224.length co41] 61 (0, 0)) (by (with_reducible repeat (first | refine blk_drewN ?_ _ | refine blk_drew ?_ | refine blk_alloc ?_ _)); refine blk_put (cs := #[.slice Ao39 t220.length co39, .int .i64 t223, .slice Ao31 t210.length co31]) ?_ 2 _ rfl; (with_reducible repeat (first | refine blk_drewN ?_ _ | refine blk_drew ?_ | refine blk_alloc ?_ _)); refine blk_put (cs := #[.slice Ao39 t220.length co39, .int .i64 t209, .slice Ao31 t210.length co31]) ?_ 1 _ rfl; (with_reducible repeat (first | refine blk_drewN ?_ _ | refine blk_drew ?_ | refine blk_alloc ?_ _)); refine blk_put (cs := #[.slice Ao29 t206.length co29, .int .i64 t209, .slice Ao31 t210.length co31]) ?_ 0 _ rfl; (with_reducible repeat (first | refine blk_drewN ?_ _ | refine blk_drew ?_ | refine blk_alloc ?_ _)); exact BK205.out) k_ hk_.2.1)⟩)) (bs_ HB)); have HO234 := Aside0.mk (Kd.N_lower (Kd.N_mono (ok' := fun k_ => some k_ ≠ (v229 : Value).ownBlock ∧ some k_ ≠ (.slice Ao22 y194.length co22 : Value).ownBlock ∧ some k_ ≠ (.slice Ao25 t197.length co25 : Value).ownBlock ∧ some k_ ≠ (.slice Ao27 t201.length co27 : Value).ownBlock ∧ some k_ ≠ (.slice Ao29 t206.length co29 : Value).ownBlock ∧ some k_ ≠ (.slice Ao31 t210.length co31 : Value).ownBlock ∧ some k_ ≠ (.slice Ao37 y217.length co37 : Value).ownBlock ∧ some k_ ≠ (.slice Ao39 t220.length co39 : Value).ownBlock ∧ some k_ ≠ (.slice Ao41 t224.length co41 : Value).ownBlock ∧ k_ ≠ gb205) (Kd.S_N (Kd.S_bound (Kd.S_apart' ho1 (Kd.S_typed ho0) (by decide)))) (fun k_ hk_ => ⟨hk_.1.2, (Kd.fresh' (Kd.N_lt (nC_ HO196 (fun k_ hk => hk.1.1.1.1.1.1.2))) k_ hk_.2.1), (Kd.fresh' (Kd.N_lt (nC_ HO199 (fun k_ hk => hk.1.1.1.1.1.1.2))) k_ hk_.2.1), (Kd.fresh' (Kd.N_lt (nC_ HO203 (fun k_ hk => hk.1.1.1.1.1.1.2))) k_ hk_.2.1), (Kd.fresh' (Kd.N_lt (nC_ HO208 (fun k_ hk => hk.1.1.1.1.2.2.2.2))) k_ hk_.2.1), (Kd.fresh' (Kd.N_lt (nC_ HO212 (fun k_ hk => hk.1.1.1.1.2.2.2.2))) k_ hk_.2.1), (Kd.fresh' (Kd.N_lt (nC_ HO219 (fun k_ hk => hk.1.1.2.2.2.2.2))) k_ hk_.2.1), (Kd.fresh' (Kd.N_lt (nC_ HO222 (fun k_ hk => hk.2.2.2.2.2.2.2))) k_ hk_.2.1), (Kd.fresh' (Kd.N_lt (nC_ HO226 (fun k_ hk => hk.2.2.2.2.2.2.2))) k_ hk_.2.1), (Kd.freshB (g := gb205) (o := .cells #[.slice Ao39 t220.length co39, .int .i64 t223, .slice Ao41 t224.length co41] 61 (0, 0)) (by (with_reducible repeat (first | refine blk_drewN ?_ _ | refine blk_drew ?_ | refine blk_alloc ?_ _)); refine blk_put (cs := #[.slice Ao39 t220.length co39, .int .i64 t223, .slice Ao31 t210.length co31]) ?_ 2 _ rfl; (with_reducible repeat (first | refine blk_drewN ?_ _ | refine blk_drew ?_ | refine blk_alloc ?_ _)); refine blk_put (cs := #[.slice Ao39 t220.length co39, .int .i64 t209, .slice Ao31 t210.length co31]) ?_ 1 _ rfl; (with_reducible repeat (first | refine blk_drewN ?_ _ | refine blk_drew ?_ | refine blk_alloc ?_ _)); refine blk_put (cs := #[.slice Ao29 t206.length co29, .int .i64 t209, .slice Ao31 t210.length co31]) ?_ 0 _ rfl; (with_reducible repeat (first | refine blk_drewN ?_ _ | refine blk_drew ?_ | refine blk_alloc ?_ _)); exact BK205.out) k_ hk_.2.1)⟩)) (bs_ HB)); replace HO196 := Aside0.mk (Kd.N_mono (Kd.N_told (Kd.N_told (Kd.N_old (nC_ HO196 (fun k_ hk => hk.1.1.1.1.1.1.2)) hb) (Kd.S_base ho0)) (Kd.S_base ho1)) (fun _ h_ => h_.1)); replace HO199 := Aside0.mk (Kd.N_mono (Kd.N_told (Kd.N_told (Kd.N_old (nC_ HO199 (fun k_ hk => hk.1.1.1.1.1.1.2)) hb) (Kd.S_base ho0)) (Kd.S_base ho1)) (fun _ h_ => h_.1)); replace HO203 := Aside0.mk (Kd.N_mono (Kd.N_told (Kd.N_told (Kd.N_old (nC_ HO203 (fun k_ hk => hk.1.1.1.1.1.1.2)) hb) (Kd.S_base ho0)) (Kd.S_base ho1)) (fun _ h_ => h_.1)); replace HO208 := Aside0.mk (Kd.N_mono (Kd.N_told (Kd.N_told (Kd.N_old (nC_ HO208 (fun k_ hk => hk.1.1.1.1.2.2.2.2)) hb) (Kd.S_base ho0)) (Kd.S_base ho1)) (fun _ h_ => h_.1)); replace HO212 := Aside0.mk (Kd.N_mono (Kd.N_told (Kd.N_told (Kd.N_old (nC_ HO212 (fun k_ hk => hk.1.1.1.1.2.2.2.2)) hb) (Kd.S_base ho0)) (Kd.S_base ho1)) (fun _ h_ => h_.1)); replace HO219 := Aside0.mk (Kd.N_mono (Kd.N_told (Kd.N_told (Kd.N_old (nC_ HO219 (fun k_ hk => hk.1.1.2.2.2.2.2)) hb) (Kd.S_base ho0)) (Kd.S_base ho1)) (fun _ h_ => h_.1)); replace HO222 := Aside0.mk (Kd.N_mono (Kd.N_told (Kd.N_told (Kd.N_old (nC_ HO222 (fun k_ hk => hk.2.2.2.2.2.2.2)) hb) (Kd.S_base ho0)) (Kd.S_base ho1)) (fun _ h_ => h_.1)); replace HO226 := Aside0.mk (Kd.N_mono (Kd.N_told (Kd.N_told (Kd.N_old (nC_ HO226 (fun k_ hk => hk.2.2.2.2.2.2.2)) hb) (Kd.S_base ho0)) (Kd.S_base ho1)) (fun _ h_ => h_.1)); replace BK205 := Aside0.mk (blk_below (g := gb205) (o := .cells #[.slice Ao39 t220.length co39, .int .i64 t223, .slice Ao41 t224.length co41] 61 (0, 0)) (by (with_reducible repeat (first | refine blk_drewN ?_ _ | refine blk_drew ?_ | refine blk_alloc ?_ _)); refine blk_put (cs := #[.slice Ao39 t220.length co39, .int .i64 t223, .slice Ao31 t210.length co31]) ?_ 2 _ rfl; (with_reducible repeat (first | refine blk_drewN ?_ _ | refine blk_drew ?_ | refine blk_alloc ?_ _)); refine blk_put (cs := #[.slice Ao39 t220.length co39, .int .i64 t209, .slice Ao31 t210.length co31]) ?_ 1 _ rfl; (with_reducible repeat (first | refine blk_drewN ?_ _ | refine blk_drew ?_ | refine blk_alloc ?_ _)); refine blk_put (cs := #[.slice Ao29 t206.length co29, .int .i64 t209, .slice Ao31 t210.length co31]) ?_ 0 _ rfl; (with_reducible repeat (first | refine blk_drewN ?_ _ | refine blk_drew ?_ | refine blk_alloc ?_ _)); exact BK205.out) hb); replace HB := bS_ HB hb; (try clear hb ho0 ho1); obtain ⟨Ao43, co43, eo43⟩ := Kd.N_slice HO230.out; subst eo43; obtain ⟨hcz44_0, hcz44_1, hcz44_2, hfz44_0, hfz44_1, hfz44_2⟩ := cz3_ BK205; obtain ⟨Ao45, co45, eo45⟩ := Kd.N_slice HO234.out; subst eo45) | ((with_reducible refine gate_store (t := 61) (p := 1) rfl ?_); refine store_event (t := 61) (p := 1) (v := ?vo_w46) (w1 := (((w42.setCell ⟨gb205, 0, none⟩ (.slice Ao43 t228.length co43)).setCell ⟨gb205, 1, none⟩ (.int .i64 t231)).setCell ⟨gb205, 2, none⟩ (.slice Ao45 t232.length co45))) ?hg ?ho ?hn ?hr ?_; (case ho => rfl); (case hg => rfl); (case hn => rfl); (case hr => first | (go_simp; done) | (go_simp; rfl)); intro w46 hw; replace HO196 : Aside0 (Kd.N (Kd.slice 5 (Kd.int .u8)) 26 w46 w.heap.size (fun k_ => some k_ ≠ (.slice Ao25 t197.length co25 : Value).ownBlock ∧ some k_ ≠ (.slice Ao27 t201.length co27 : Value).ownBlock ∧ some k_ ≠ (.slice Ao29 t206.length co29 : Value).ownBlock ∧ some k_ ≠ (.slice Ao31 t210.length co31 : Value).ownBlock ∧ some k_ ≠ (.slice Ao37 y217.length co37 : Value).ownBlock ∧ some k_ ≠ (.slice Ao39 t220.length co39 : Value).ownBlock ∧ some k_ ≠ (.slice Ao41 t224.length co41 : Value).ownBlock ∧ some k_ ≠ (.slice Ao43 t228.length co43 : Value).ownBlock ∧ some k_ ≠ (.slice Ao45 t232.length co45 : Value).ownBlock ∧ k_ ≠ gb205) (.slice Ao22 y194.length co22) y194) := ⟨(by rw [hw]; exact (Kd.N_mono (nD_ HO196 (fun k_ hk => hk.1.1.1.1.1.1.1.1.2)) (fun _ hk => ⟨hk.1.1.1.1.1.1.1.1.1.1.1.2, ⟨hk.1.1.1.1.1.1.1.1.1.1.2, ⟨hk.1.1.1.1.1.1.1.1.2, ⟨hk.1.1.1.1.1.1.1.2, ⟨hk.1.1.1.1.1.2, ⟨hk.1.1.1.1.2, ⟨hk.1.1.1.2, ⟨hk.1.1.2, ⟨hk.1.2, hk.1.1.1.1.1.1.1.1.1.2⟩⟩⟩⟩⟩⟩⟩⟩⟩)))⟩; replace HO199 : Aside0 (Kd.N k70 70 w46 w.heap.size (fun k_ => some k_ ≠ (.slice Ao22 y194.length co22 : Value).ownBlock ∧ some k_ ≠ (.slice Ao27 t201.length co27 : Value).ownBlock ∧ some k_ ≠ (.slice Ao29 t206.length co29 : Value).ownBlock ∧ some k_ ≠ (.slice Ao31 t210.length co31 : Value).ownBlock ∧ some k_ ≠ (.slice Ao37 y217.length co37 : Value).ownBlock ∧ some k_ ≠ (.slice Ao39 t220.length co39 : Value).ownBlock ∧ some k_ ≠ (.slice Ao41 t224.length co41 : Value).ownBlock ∧ some k_ ≠ (.slice Ao43 t228.length co43 : Value).ownBlock ∧ some k_ ≠ (.slice Ao45 t232.length co45 : Value).ownBlock ∧ k_ ≠ gb205) (.slice Ao25 t197.length co25) t197) := ⟨(by rw [hw]; exact (Kd.N_mono (nD_ HO199 (fun k_ hk => hk.1.1.1.1.1.1.1.1.2)) (fun _ hk => ⟨hk.1.1.1.1.1.1.1.1.1.1.2, ⟨hk.1.1.1.1.1.1.1.1.1.1.1, ⟨hk.1.1.1.1.1.1.1.1.2, ⟨hk.1.1.1.1.1.1.1.2, ⟨hk.1.1.1.1.1.2, ⟨hk.1.1.1.1.2, ⟨hk.1.1.1.2, ⟨hk.1.1.2, ⟨hk.1.2, hk.1.1.1.1.1.1.1.1.1.2⟩⟩⟩⟩⟩⟩⟩⟩⟩)))⟩; replace HO203 : Aside0 (Kd.N (Kd.slice 5 (Kd.int .u8)) 26 w46 w.heap.size (fun k_ => some k_ ≠ (.slice Ao22 y194.length co22 : Value).ownBlock ∧ some k_ ≠ (.slice Ao25 t197.length co25 : Value).ownBlock ∧ some k_ ≠ (.slice Ao29 t206.length co29 : Value).ownBlock ∧ some k_ ≠ (.slice Ao31 t210.length co31 : Value).ownBlock ∧ some k_ ≠ (.slice Ao37 y217.length co37 : Value).ownBlock ∧ some k_ ≠ (.slice Ao39 t220.length co39 : Value).ownBlock ∧ some k_ ≠ (.slice Ao41 t224.length co41 : Value).ownBlock ∧ some k_ ≠ (.slice Ao43 t228.length co43 : Value).ownBlock ∧ some k_ ≠ (.slice Ao45 t232.length co45 : Value).ownBlock ∧ k_ ≠ gb205) (.slice Ao27 t201.length co27) t201) := ⟨(by rw [hw]; exact (Kd.N_mono (nD_ HO203 (fun k_ hk => hk.1.1.1.1.1.1.1.1.2)) (fun _ hk => ⟨hk.1.1.1.1.1.1.1.1.1.1.2, ⟨hk.1.1.1.1.1.1.1.1.1.1.1, ⟨hk.1.1.1.1.1.1.1.1.2, ⟨hk.1.1.1.1.1.1.1.2, ⟨hk.1.1.1.1.1.2, ⟨hk.1.1.1.1.2, ⟨hk.1.1.1.2, ⟨hk.1.1.2, ⟨hk.1.2, hk.1.1.1.1.1.1.1.1.1.2⟩⟩⟩⟩⟩⟩⟩⟩⟩)))⟩; replace HO208 : Aside0 (Kd.N k70 70 w46 w.heap.size (fun k_ => some k_ ≠ (.slice Ao22 y194.length co22 : Value).ownBlock ∧ some k_ ≠ (.slice Ao25 t197.length co25 : Value).ownBlock ∧ some k_ ≠ (.slice Ao27 t201.length co27 : Value).ownBlock ∧ some k_ ≠ (.slice Ao31 t210.length co31 : Value).ownBlock ∧ some k_ ≠ (.slice Ao37 y217.length co37 : Value).ownBlock ∧ some k_ ≠ (.slice Ao39 t220.length co39 : Value).ownBlock ∧ some k_ ≠ (.slice Ao41 t224.length co41 : Value).ownBlock ∧ some k_ ≠ (.slice Ao43 t228.length co43 : Value).ownBlock ∧ some k_ ≠ (.slice Ao45 t232.length co45 : Value).ownBlock ∧ k_ ≠ gb205) (.slice Ao29 t206.length co29) t206) := ⟨(by rw [hw]; exact (Kd.N_mono (nD_ HO208 (fun k_ hk => hk.1.1.1.1.1.1.2.2.2.2)) (fun _ hk => ⟨hk.1.1.1.1.1.1.1.2.1, ⟨hk.1.1.1.1.1.1.1.2.2.1, ⟨hk.1.1.1.1.1.1.1.2.2.2.1, ⟨hk.1.1.1.1.1.1.1.1, ⟨hk.1.1.1.1.1.2, ⟨hk.1.1.1.1.2, ⟨hk.1.1.1.2, ⟨hk.1.1.2, ⟨hk.1.2, hk.1.1.1.1.1.1.1.2.2.2.2⟩⟩⟩⟩⟩⟩⟩⟩⟩)))⟩; replace HO212 : Aside0 (Kd.N (Kd.slice 5 (Kd.int .u8)) 26 w46 w.heap.size (fun k_ => some k_ ≠ (.slice Ao22 y194.length co22 : Value).ownBlock ∧ some k_ ≠ (.slice Ao25 t197.length co25 : Value).ownBlock ∧ some k_ ≠ (.slice Ao27 t201.length co27 : Value).ownBlock ∧ some k_ ≠ (.slice Ao29 t206.length co29 : Value).ownBlock ∧ some k_ ≠ (.slice Ao37 y217.length co37 : Value).ownBlock ∧ some k_ ≠ (.slice Ao39 t220.length co39 : Value).ownBlock ∧ some k_ ≠ (.slice Ao41 t224.length co41 : Value).ownBlock ∧ some k_ ≠ (.slice Ao43 t228.length co43 : Value).ownBlock ∧ some k_ ≠ (.slice Ao45 t232.length co45 : Value).ownBlock ∧ k_ ≠ gb205) (.slice Ao31 t210.length co31) t210) := ⟨(by rw [hw]; exact (Kd.N_mono (nD_ HO212 (fun k_ hk => hk.1.1.1.1.1.1.2.2.2.2)) (fun _ hk => ⟨hk.1.1.1.1.1.1.1.2.1, ⟨hk.1.1.1.1.1.1.1.2.2.1, ⟨hk.1.1.1.1.1.1.1.2.2.2.1, ⟨hk.1.1.1.1.1.1.1.1, ⟨hk.1.1.1.1.1.2, ⟨hk.1.1.1.1.2, ⟨hk.1.1.1.2, ⟨hk.1.1.2, ⟨hk.1.2, hk.1.1.1.1.1.1.1.2.2.2.2⟩⟩⟩⟩⟩⟩⟩⟩⟩)))⟩; replace HO219 : Aside0 (Kd.N (Kd.slice 5 (Kd.int .u8)) 26 w46 w.heap.size (fun k_ => some k_ ≠ (.slice Ao22 y194.length co22 : Value).ownBlock ∧ some k_ ≠ (.slice Ao25 t197.length co25 : Value).ownBlock ∧ some k_ ≠ (.slice Ao27 t201.length co27 : Value).ownBlock ∧ some k_ ≠ (.slice Ao29 t206.length co29 : Value).ownBlock ∧ some k_ ≠ (.slice Ao31 t210.length co31 : Value).ownBlock ∧ some k_ ≠ (.slice Ao39 t220.length co39 : Value).ownBlock ∧ some k_ ≠ (.slice Ao41 t224.length co41 : Value).ownBlock ∧ some k_ ≠ (.slice Ao43 t228.length co43 : Value).ownBlock ∧ some k_ ≠ (.slice Ao45 t232.length co45 : Value).ownBlock ∧ k_ ≠ gb205) (.slice Ao37 y217.length co37) y217) := ⟨(by rw [hw]; exact (Kd.N_mono (nD_ HO219 (fun k_ hk => hk.1.1.1.1.2.2.2.2.2)) (fun _ hk => ⟨hk.1.1.1.1.1.1, ⟨hk.1.1.1.1.1.2.1, ⟨hk.1.1.1.1.1.2.2.1, ⟨hk.1.1.1.1.1.2.2.2.1, ⟨hk.1.1.1.1.1.2.2.2.2.1, ⟨hk.1.1.1.1.2, ⟨hk.1.1.1.2, ⟨hk.1.1.2, ⟨hk.1.2, hk.1.1.1.1.1.2.2.2.2.2⟩⟩⟩⟩⟩⟩⟩⟩⟩)))⟩; replace HO222 : Aside0 (Kd.N k70 70 w46 w.heap.size (fun k_ => some k_ ≠ (.slice Ao22 y194.length co22 : Value).ownBlock ∧ some k_ ≠ (.slice Ao25 t197.length co25 : Value).ownBlock ∧ some k_ ≠ (.slice Ao27 t201.length co27 : Value).ownBlock ∧ some k_ ≠ (.slice Ao29 t206.length co29 : Value).ownBlock ∧ some k_ ≠ (.slice Ao31 t210.length co31 : Value).ownBlock ∧ some k_ ≠ (.slice Ao37 y217.length co37 : Value).ownBlock ∧ some k_ ≠ (.slice Ao41 t224.length co41 : Value).ownBlock ∧ some k_ ≠ (.slice Ao43 t228.length co43 : Value).ownBlock ∧ some k_ ≠ (.slice Ao45 t232.length co45 : Value).ownBlock ∧ k_ ≠ gb205) (.slice Ao39 t220.length co39) t220) := ⟨(by rw [hw]; exact (Kd.N_mono (nD_ HO222 (fun k_ hk => hk.1.1.2.2.2.2.2.2.2)) (fun _ hk => ⟨hk.1.1.1.2.1, ⟨hk.1.1.1.2.2.1, ⟨hk.1.1.1.2.2.2.1, ⟨hk.1.1.1.2.2.2.2.1, ⟨hk.1.1.1.2.2.2.2.2.1, ⟨hk.1.1.1.2.2.2.2.2.2.1, ⟨hk.1.1.1.1, ⟨hk.1.1.2, ⟨hk.1.2, hk.1.1.1.2.2.2.2.2.2.2⟩⟩⟩⟩⟩⟩⟩⟩⟩)))⟩; replace HO226 : Aside0 (Kd.N (Kd.slice 5 (Kd.int .u8)) 26 w46 w.heap.size (fun k_ => some k_ ≠ (.slice Ao22 y194.length co22 : Value).ownBlock ∧ some k_ ≠ (.slice Ao25 t197.length co25 : Value).ownBlock ∧ some k_ ≠ (.slice Ao27 t201.length co27 : Value).ownBlock ∧ some k_ ≠ (.slice Ao29 t206.length co29 : Value).ownBlock ∧ some k_ ≠ (.slice Ao31 t210.length co31 : Value).ownBlock ∧ some k_ ≠ (.slice Ao37 y217.length co37 : Value).ownBlock ∧ some k_ ≠ (.slice Ao39 t220.length co39 : Value).ownBlock ∧ some k_ ≠ (.slice Ao43 t228.length co43 : Value).ownBlock ∧ some k_ ≠ (.slice Ao45 t232.length co45 : Value).ownBlock ∧ k_ ≠ gb205) (.slice Ao41 t224.length co41) t224) := ⟨(by rw [hw]; exact (Kd.N_mono (nD_ HO226 (fun k_ hk => hk.1.1.2.2.2.2.2.2.2)) (fun _ hk => ⟨hk.1.1.1.2.1, ⟨hk.1.1.1.2.2.1, ⟨hk.1.1.1.2.2.2.1, ⟨hk.1.1.1.2.2.2.2.1, ⟨hk.1.1.1.2.2.2.2.2.1, ⟨hk.1.1.1.2.2.2.2.2.2.1, ⟨hk.1.1.1.1, ⟨hk.1.1.2, ⟨hk.1.2, hk.1.1.1.2.2.2.2.2.2.2⟩⟩⟩⟩⟩⟩⟩⟩⟩)))⟩; replace HO230 : Aside0 (Kd.N k70 70 w46 w.heap.size (fun k_ => some k_ ≠ (.slice Ao22 y194.length co22 : Value).ownBlock ∧ some k_ ≠ (.slice Ao25 t197.length co25 : Value).ownBlock ∧ some k_ ≠ (.slice Ao27 t201.length co27 : Value).ownBlock ∧ some k_ ≠ (.slice Ao29 t206.length co29 : Value).ownBlock ∧ some k_ ≠ (.slice Ao31 t210.length co31 : Value).ownBlock ∧ some k_ ≠ (.slice Ao37 y217.length co37 : Value).ownBlock ∧ some k_ ≠ (.slice Ao39 t220.length co39 : Value).ownBlock ∧ some k_ ≠ (.slice Ao41 t224.length co41 : Value).ownBlock ∧ some k_ ≠ (.slice Ao45 t232.length co45 : Value).ownBlock ∧ k_ ≠ gb205) (.slice Ao43 t228.length co43) t228) := ⟨(by rw [hw]; exact (Kd.N_mono (nD_ HO230 (fun k_ hk => hk.2.2.2.2.2.2.2.2.2)) (fun _ hk => ⟨hk.1.2.1, ⟨hk.1.2.2.1, ⟨hk.1.2.2.2.1, ⟨hk.1.2.2.2.2.1, ⟨hk.1.2.2.2.2.2.1, ⟨hk.1.2.2.2.2.2.2.1, ⟨hk.1.2.2.2.2.2.2.2.1, ⟨hk.1.2.2.2.2.2.2.2.2.1, ⟨hk.1.1, hk.1.2.2.2.2.2.2.2.2.2⟩⟩⟩⟩⟩⟩⟩⟩⟩)))⟩; replace HO234 : Aside0 (Kd.N (Kd.slice 5 (Kd.int .u8)) 26 w46 w.heap.size (fun k_ => some k_ ≠ (.slice Ao22 y194.length co22 : Value).ownBlock ∧ some k_ ≠ (.slice Ao25 t197.length co25 : Value).ownBlock ∧ some k_ ≠ (.slice Ao27 t201.length co27 : Value).ownBlock ∧ some k_ ≠ (.slice Ao29 t206.length co29 : Value).ownBlock ∧ some k_ ≠ (.slice Ao31 t210.length co31 : Value).ownBlock ∧ some k_ ≠ (.slice Ao37 y217.length co37 : Value).ownBlock ∧ some k_ ≠ (.slice Ao39 t220.length co39 : Value).ownBlock ∧ some k_ ≠ (.slice Ao41 t224.length co41 : Value).ownBlock ∧ some k_ ≠ (.slice Ao43 t228.length co43 : Value).ownBlock ∧ k_ ≠ gb205) (.slice Ao45 t232.length co45) t232) := ⟨(by rw [hw]; exact (Kd.N_mono (nD_ HO234 (fun k_ hk => hk.2.2.2.2.2.2.2.2.2)) (fun _ hk => ⟨hk.1.2.1, ⟨hk.1.2.2.1, ⟨hk.1.2.2.2.1, ⟨hk.1.2.2.2.2.1, ⟨hk.1.2.2.2.2.2.1, ⟨hk.1.2.2.2.2.2.2.1, ⟨hk.1.2.2.2.2.2.2.2.1, ⟨hk.1.2.2.2.2.2.2.2.2.1, ⟨hk.1.1, hk.1.2.2.2.2.2.2.2.2.2⟩⟩⟩⟩⟩⟩⟩⟩⟩)))⟩; replace BK205 : Aside0 (w46.heap[gb205]? = some (.cells #[.slice Ao43 t228.length co43, .int .i64 t231, .slice Ao45 t232.length co45] 61 (0, 0))) := ⟨(by rw [hw]; exact (by (with_reducible repeat (first | refine blk_drewN ?_ _ | refine blk_drew ?_ | refine blk_alloc ?_ _)); refine blk_put (cs := #[.slice Ao43 t228.length co43, .int .i64 t231, .slice Ao41 t224.length co41]) ?_ 2 _ rfl; (with_reducible repeat (first | refine blk_drewN ?_ _ | refine blk_drew ?_ | refine blk_alloc ?_ _)); refine blk_put (cs := #[.slice Ao43 t228.length co43, .int .i64 t223, .slice Ao41 t224.length co41]) ?_ 1 _ rfl; (with_reducible repeat (first | refine blk_drewN ?_ _ | refine blk_drew ?_ | refine blk_alloc ?_ _)); refine blk_put (cs := #[.slice Ao39 t220.length co39, .int .i64 t223, .slice Ao41 t224.length co41]) ?_ 0 _ rfl; (with_reducible repeat (first | refine blk_drewN ?_ _ | refine blk_drew ?_ | refine blk_alloc ?_ _)); exact BK205.out))⟩; replace HB : Aside0 (Below w.heap.size w w46) := ⟨(by rw [hw]; exact (bl_ HB))⟩; clear hw) | ((with_reducible refine gate_callee (f := 36) rfl ?_); refine gL_ (some 39) Try.func36 #[.int .i64 t204] ?_; (with_reducible refine (transeptlaw08_num.calls t204 t236 _ A5.out).mono ?_); rintro e w' ⟨rfl, ⟨nd, rfl⟩⟩; refine ⟨_, rfl, ?_⟩) | ((with_reducible refine gate_callee (f := 36) rfl ?_); refine gL_ (some 41) Try.func36 #[.int .i64 t213] ?_; (with_reducible refine (transeptlaw08_num.calls t213 t237 _ A6.out).mono ?_); rintro e w' ⟨rfl, ⟨nd, rfl⟩⟩; refine ⟨_, rfl, ?_⟩) | ((with_reducible refine gate_callee (f := 36) rfl ?_); refine gL_ (some 44) Try.func36 #[.int .i64 t227] ?_; (with_reducible refine (transeptlaw08_num.calls t227 t238 _ A7.out).mono ?_); rintro e w' ⟨rfl, ⟨nd, rfl⟩⟩; refine ⟨_, rfl, ?_⟩) | ((with_reducible refine gate_callee (f := 36) rfl ?_); refine gL_ (some 47) Try.func36 #[.int .i64 t235] ?_; (with_reducible refine (transeptlaw08_num.calls t235 t239 _ A8.out).mono ?_); rintro e w' ⟨rfl, ⟨nd, rfl⟩⟩; refine ⟨_, rfl, ?_⟩; obtain ⟨hcz47_0, hcz47_1, hcz47_2, hfz47_0, hfz47_1, hfz47_2⟩ := cz3_ BK205; have p240 : 0 ≤ (1 : Int) := (by omega); have q240 : 1 < (t228.length : Int) := of_decide_eq_true (by first | (with_reducible assumption) | assumption); obtain ⟨ad240, A240_1, c240_1, e240, hx240_0, hx240_1, hl240_1, hi240_1⟩ := at_T70 (Kd.N_reads' HO230.out).2.2 1 p240 q240; cases e240; obtain ⟨ce240, hce240, hMe240, hcc240⟩ := Kd.N_get HO230.out z70 1 p240 (by first | exact q240 | exact of_decide_eq_true (by first | (with_reducible assumption) | assumption) | (have e_ := (Kd.N_reads' HO230.out).1; omega)); obtain ⟨ua240_1, uc240_1, rfl, ul240_1, ge240_1⟩ := k70_openF hMe240; have hv240_1 := hcc240 1 _ rfl; rw [add_field _ _ 1 (by omega)] at hv240_1; replace hv240_1 := Option.some.inj (hv240_1.symm.trans hx240_1); injection hv240_1 with hva_ hvn_ hvc_; rw [hva_] at ge240_1; rw [hvc_] at ul240_1; have HL240_1 := Aside0.mk (show Kd.V (Kd.int .u8) 5 _ w.heap.size _ _ ((rd_T70 t228 1).f1) from Kd.V_mk ul240_1 ge240_1); clear hva_ hvn_ hvc_ ge240_1 ul240_1; clear hcc240 hce240; (try simp only [show (1 : Int).toNat = 1 from rfl, Nat.reduceMul, Nat.reduceEqDiff, Go.Addr.add, ↓reduceIte] at hx240_0); (try simp only [show (1 : Int).toNat = 1 from rfl, Nat.reduceMul, Nat.reduceEqDiff, Go.Addr.add, ↓reduceIte] at hx240_1); have qi240 : (1 < t228.length) = True := eq_true (by omega); (try rw [show ((1 : Int)).toNat = 1 from rfl] at hx240_0); (try rw [show 1 * 2 = 2 from rfl] at hx240_0); (try rw [show ((1 : Int)).toNat = 1 from rfl] at hx240_1); (try rw [show 1 * 2 = 2 from rfl] at hx240_1); have HR240_1 := Aside0.mk hi240_1; have HC240_1 := Aside0.mk hl240_1; clear hi240_1 hl240_1; replace p240 := eq_true p240; replace q240 := eq_true q240))
 go_ret
 exact ⟨fin_, bl_ HB⟩
end
end Go.Proofs.Ytooabchnbmnchaa.Q
namespace Go.Proofs.Ytooabchnbmnchaa.Q
open Go.RowKit Go.Proofs.YtooabchnbmnchaaW.PrintWords Go.Proofs.YtooabchnbmnchaaW.PrintLast Go.Proofs.YtooabchnbmnchaaW.PrintMore
attribute [local go_sem] max2_int min2_int max_two min_two max_three min_three max_four min_four binOp_string_leq binOp_string_geq binOp_string_gtr   -- for this text's walks alone
set_option linter.unusedVariables false
set_option linter.unusedSimpArgs false
def transeptplain_CopyBytes.f (l0 : List Int) : Option (List Int) := if ([] : List Int).length + l0.length < 140737488355328 then (some (([] : List Int) ++ l0)) else (none)
set_option maxHeartbeats 8000000 in
set_option maxRecDepth 100000 in
theorem transeptplain_CopyBytes.calls (A0 : Option Addr) (c0 : Nat) (l0 : List Int) (r : List Int) (w : World) (hr0 : Kd.C (Kd.int .u8) w A0 l0.length l0) (hc0 : l0.length ≤ c0) (h : transeptplain_CopyBytes.f l0 = some r) :
  Calls Try.prog 65 #[.slice A0 l0.length c0] w fun e w' => ∃ v0_ : Value, e = .returned (v0_) ∧ Kd.R (Kd.int .u8) 5 w' w.heap.size (fun _ => True) v0_ r ∧ Below w.heap.size w w' := by
 have HR0 := Aside0.mk hr0
 have HC0 := Aside0.mk hc0
 clear hr0 hc0
 have HB := Aside0.mk (Below.refl w.heap.size w)
 have H : (if ([] : List Int).length + l0.length < 140737488355328 then (some (([] : List Int) ++ l0)) else (none)) = some r := h
 clear h
 by_cases c2 : ([] : List Int).length + l0.length < 140737488355328
 ·rw [if_pos c2] at H
  have LMc2 := Aside0.mk c2
  clear c2
  obtain ⟨y188, hy188⟩ : ∃ y_ : List Int, y_ = (([] : List Int) ++ l0) := ⟨_, rfl⟩
  replace H : (some y188) = some r := by first | (rw [hy188]; with_reducible exact H) | (have H2_ := (Option.bind_some _ _).symm.trans H; rw [hy188]; with_reducible exact H2_) | (have H2_ := (Option.bind_some _ _).symm.trans H; with_reducible exact H2_) | with_reducible exact H | (rw [hy188]; exact H) | exact H
  have Ny188 := Aside0.mk hy188
  clear hy188
  obtain rfl := Option.some.inj H
  go_enter Try.func65, Try.ntmps65
  go_wp2_with (first | ((with_reducible refine gate_builtin (b := .append) (xs := #[.tmp 4, .tmp 5]) rfl ?_); at_builtin; refine Kd.R_append_rows (Kd.int .u8) (w0 := w) w.heap.size rfl (.tmp 4) (.tmp 5) 26 5 (.int .u8 0) 1 rfl Try.underlying26 info5 rfl (by decide) (by omega) (.slice none 0 0) ([] : List Int) l0 _ _ _ (fun _ => True) (fun _ => False) rfl rfl ?aO ?aR (fun _ _ h => h) (fun _ h => h.elim) ?aF ?aB ?aS ?aL ?_; (case aR => exact cO_ HR0.out); (case aB => exact (bl_ HB)); (case aF => exact (fun _ _ => trivial)); (case aO => exact ((Kd.R_nil _ _ _ _ (fun _ => True)))); (case aS => exact (bs_ HB)); (case aL => have := LMc2.out; omega); intro v189 w3 ho hb hg hat; rw [← Ny188.out] at ho; replace HB := Aside0.mk (hb); have HO190 := Aside0.mk (ho); clear ho hb hg hat))
  go_ret
  exact ⟨_, fin_, rA_ HO190, bl_ HB⟩
 ·rw [if_neg c2] at H
  exact absurd H (by simp)
end Go.Proofs.Ytooabchnbmnchaa.Q
namespace Go.Proofs.Ytooabchnbmnchaa.Q
open Go.RowKit Go.Proofs.YtooabchnbmnchaaW.PrintWords Go.Proofs.YtooabchnbmnchaaW.PrintLast Go.Proofs.YtooabchnbmnchaaW.PrintMore
attribute [local go_sem] max2_int min2_int max_two min_two max_three min_three max_four min_four binOp_string_leq binOp_string_geq binOp_string_gtr   -- for this text's walks alone
set_option linter.unusedVariables false
set_option linter.unusedSimpArgs false
def transeptplain_CopyLists.l0 : Nat → List (List Int) → List (List Int) → Int → Option ((List (List Int)))
 | 0, _, _, _ => none
 | k + 1, x0, x3, x4 => if x4 < (x0.length : Int) then (if 0 ≤ x4 then ((transeptplain_CopyBytes.f (rd_L1 x0 x4)).bind fun t192 => (if x3.length < 5864062014805 then (transeptplain_CopyLists.l0 k x0 (x3 ++ [t192]) (wrap64 (x4 + 1))) else (none))) else (none)) else (some x3)
def transeptplain_CopyLists.f (k : Nat) (l0 : List (List Int)) : Option ((List (List Int))) := transeptplain_CopyLists.l0 k l0 ([] : List (List Int)) 0
theorem transeptplain_CopyLists.mono_l : ∀ k, (∀ y0 y1 y2, LeO (transeptplain_CopyLists.l0 k y0 y1 y2) (transeptplain_CopyLists.l0 (k + 1) y0 y1 y2))
 | 0 => fun _ _ _ r h => by simp [transeptplain_CopyLists.l0] at h
 | k + 1 => by
  have ih0 := transeptplain_CopyLists.mono_l k
  ·intro y0 y1 y2
   unfold transeptplain_CopyLists.l0
   repeat' first
   | (with_reducible exact ih0 _ _ _)
   | (with_reducible exact LeO.refl _)
   | (with_reducible exact LeO.none _)
   | (with_reducible refine LeO.ite ?_ ?_)
   | (with_reducible refine LeO.bind ?_ (fun _ => ?_))
   | exact ih0 _ _ _
   | exact LeO.none _
   | refine LeO.ite ?_ ?_
   | refine LeO.bind ?_ (fun _ => ?_)
theorem transeptplain_CopyLists.mono : ∀ a0 k, LeO (transeptplain_CopyLists.f k a0) (transeptplain_CopyLists.f (k + 1) a0) := by
 intro a0 k
 have ih0 := transeptplain_CopyLists.mono_l k
 unfold transeptplain_CopyLists.f
 repeat' first
   | (with_reducible exact ih0 _ _ _)
   | (with_reducible exact LeO.refl _)
   | (with_reducible exact LeO.none _)
   | (with_reducible refine LeO.ite ?_ ?_)
   | (with_reducible refine LeO.bind ?_ (fun _ => ?_))
   | exact ih0 _ _ _
   | exact LeO.none _
   | refine LeO.ite ?_ ?_
   | refine LeO.bind ?_ (fun _ => ?_)
set_option maxHeartbeats 8000000 in
set_option maxRecDepth 100000 in
theorem transeptplain_CopyLists.calls (k : Nat) (A0 : Option Addr) (c0 : Nat) (l0 : List (List Int)) (r : List (List Int)) (w : World) (hr0 : Kd.C (Kd.slice 5 (Kd.int .u8)) w A0 l0.length l0) (hc0 : l0.length ≤ c0) (h : transeptplain_CopyLists.f k l0 = some r) :
  Calls Try.prog 34 #[.slice A0 l0.length c0] w fun e w' => ∃ v0_ : Value, e = .returned (v0_) ∧ Kd.S (Kd.slice 5 (Kd.int .u8)) 26 w' w.heap.size (fun _ => True) v0_ r ∧ Below w.heap.size w w' := by
 have HR0 := Aside0.mk hr0
 have HC0 := Aside0.mk hc0
 clear hr0 hc0
 have HB := Aside0.mk (Below.refl w.heap.size w)
 have H : (transeptplain_CopyLists.l0 k l0 ([] : List (List Int)) 0) = some r := h
 clear h
 have H' := Aside0.mk H
 clear H
 go_enter Try.func34, Try.ntmps34
 go_wp2
 go_loopg [3, 4] k (fun kq v3 v4 w' => ∃ (x3_1 : List (List Int)) (x4_1 : Int), v4 = .int .i64 x4_1 ∧ Aside0 (transeptplain_CopyLists.l0 kq l0 x3_1 x4_1 = some r) ∧ Aside0 (kq ≤ k) ∧ Aside0 (Kd.S (Kd.slice 5 (Kd.int .u8)) 26 w' w.heap.size (fun _ => True) v3 x3_1) ∧ Aside0 (Below w.heap.size w w'))
 case atStart => exact ⟨(([] : List (List Int))), (0), (by first | rfl | (simp; done) | (simp [*]; done)), H', ⟨Nat.le_refl _⟩, ⟨nil_⟩, ⟨bl_ HB⟩⟩
 case round =>
  clear H'
  obtain ⟨x3_1, x4_1, rfl, HA, HK1, HO_3, HB⟩ := hrel
  cases gk with
  | zero => exact absurd HA.out (by simp [transeptplain_CopyLists.l0])
  | succ k1 =>
   have H := HA.out
   clear HA
   simp only [transeptplain_CopyLists.l0] at H
   by_cases c2 : x4_1 < (l0.length : Int)
   ·rw [if_pos c2] at H
    have c2b0 : decide (x4_1 < (l0.length : Int)) = true := decide_eq_true c2
    clear c2
    by_cases c3 : 0 ≤ x4_1
    ·rw [if_pos c3] at H
     have c3b0 : decide (0 ≤ x4_1) = true := decide_eq_true c3
     clear c3
     replace H := Option.bind_eq_some_iff.mp H
     obtain ⟨t192, A40, H⟩ := H
     try dsimp only at H
     have A4 := Aside0.mk A40
     clear A40
     by_cases c5 : x3_1.length < 5864062014805
     ·rw [if_pos c5] at H
      have LMc5 := Aside0.mk c5
      clear c5
      obtain ⟨y195, hy195⟩ : ∃ y_ : List (List Int), y_ = (x3_1 ++ [t192]) := ⟨_, rfl⟩
      replace H : (transeptplain_CopyLists.l0 k1 l0 y195 (wrap64 (x4_1 + 1))) = some r := by first | (rw [hy195]; with_reducible exact H) | (have H2_ := (Option.bind_some _ _).symm.trans H; rw [hy195]; with_reducible exact H2_) | (have H2_ := (Option.bind_some _ _).symm.trans H; with_reducible exact H2_) | with_reducible exact H | (rw [hy195]; exact H) | exact H
      have Ny195 := Aside0.mk hy195
      clear hy195
      have H' := Aside0.mk H
      clear H
      have p191 : 0 ≤ (x4_1 : Int) := of_decide_eq_true (by first | (with_reducible assumption) | assumption)
      have q191 : x4_1 < (l0.length : Int) := of_decide_eq_true (by first | (with_reducible assumption) | assumption)
      obtain ⟨ad191, A191_0, c191_0, e191, hx191_0, hl191_0, hi191_0⟩ := at_L1 HR0.out x4_1 p191 q191
      cases e191
      replace hx191_0 := (HB.out.cell (World.block_lt_of_cell? w _ hx191_0)).trans hx191_0
      have HR191_0 := Aside0.mk hi191_0
      have HC191_0 := Aside0.mk hl191_0
      clear hi191_0 hl191_0
      replace p191 := eq_true p191
      replace q191 := eq_true q191
      go_wp2_with (first | ((with_reducible refine gate_callee (f := 65) rfl ?_); refine gL_ (some 16) Try.func65 #[.slice A191_0 (rd_L1 l0 x4_1).length c191_0] ?_; (with_reducible refine (transeptplain_CopyBytes.calls _ _ (rd_L1 l0 x4_1) t192 _ ?_ ?_ A4.out).mono ?_); exact cB_ HR191_0 HB; exact HC191_0.out; rintro e w6 ⟨v193, rfl, ho0, hb⟩; refine ⟨_, rfl, ?_⟩; replace HO_3 := Aside0.mk (Kd.S_elder' (sA_ HO_3) (Kd.R_base ho0) hb); have HO194 := Aside0.mk (Kd.R_lower ho0 (bs_ HB)); replace HB := bS_ HB hb; (try clear hb ho0); obtain ⟨Ao8, co8, eo8⟩ := Kd.R_slice HO194.out; subst eo8) | ((with_reducible refine gate_builtin (b := .append) (xs := #[.tmp 11, .tmp 17]) rfl ?_); at_builtin; refine Kd.S_append (Kd.slice 5 (Kd.int .u8)) (w0 := w) w.heap.size rfl (.tmp 11) (.tmp 17) 56 26 (.slice none 0 0) 24 rfl Try.underlying56 info26 rfl (by decide) (by omega) u3 x3_1 t192 [.slice Ao8 t192.length co8] (fun _ => True) (fun k_ => some k_ = (.slice Ao8 t192.length co8 : Value).ownBlock) rfl rfl ?aP (fun k_ hk_ => ((Kd.R_mono (ok' := fun k_ => ((fun _ => True)) k_ ∧ some k_ ≠ (u3 : Value).ownBlock) (Kd.R_apart' (HO194.out) (Kd.S_typed HO_3.out) (by decide)) (fun k_ hk => ⟨trivial, hk.2⟩))).1 k_ hk_.symm) ?aF ?aO ?aB ?aS ?aL ?_; (case aP => exact Kd.M_row (Kd.R_mono (Kd.R_tight rfl (Kd.R_mono (ok' := fun k_ => ((fun _ => True)) k_ ∧ some k_ ≠ (u3 : Value).ownBlock) (Kd.R_apart' (HO194.out) (Kd.S_typed HO_3.out) (by decide)) (fun k_ hk => ⟨trivial, hk.2⟩))) (fun _ h_ => h_))); (case aB => exact (bl_ HB)); (case aF => exact (fun _ _ => trivial)); (case aO => exact (by (with_reducible repeat (first | apply Kd.S_alloc | apply Kd.S_drewN | apply Kd.S_drew)); exact Kd.S_mono HO_3.out (fun k_ hk => ⟨trivial, fun e_ => hk.2 e_⟩))); (case aS => exact (bs_ HB)); (case aL => have := LMc5.out; omega); intro v196 w7 ho hb hg hat; rw [← Ny195.out] at ho; replace HB := Aside0.mk (hb); have HO197 := Aside0.mk (ho); clear HO_3 HO194; clear ho hb hg hat))
      go_roundg k1
      case measure => have := HK1.out; omega
      case rel => exact ⟨(y195), (wrap64 (x4_1 + 1)), (by first | rfl | (simp; done) | (simp [*]; done)), H', ⟨by have := HK1.out; omega⟩, ⟨sA_ HO197⟩, ⟨bl_ HB⟩⟩
     ·rw [if_neg c5] at H
      exact absurd H (by simp)
    ·rw [if_neg c3] at H
     exact absurd H (by simp)
   ·rw [if_neg c2] at H
    have c2b0 : decide (x4_1 < (l0.length : Int)) = false := decide_eq_false c2
    clear c2
    obtain rfl := Option.some.inj H
    go_wp2
    go_ret
    exact ⟨_, fin_, sA_ HO_3, bl_ HB⟩
end Go.Proofs.Ytooabchnbmnchaa.Q
namespace Go.Proofs.Ytooabchnbmnchaa.Q
open Go.RowKit Go.Proofs.YtooabchnbmnchaaW.PrintWords Go.Proofs.YtooabchnbmnchaaW.PrintLast Go.Proofs.YtooabchnbmnchaaW.PrintMore
attribute [local go_sem] max2_int min2_int max_two min_two max_three min_three max_four min_four binOp_string_leq binOp_string_geq binOp_string_gtr   -- for this text's walks alone
set_option linter.unusedVariables false
set_option linter.unusedSimpArgs false
def transeptlaw08_Segs.l0 : Nat → List (S87) → List (S70) → Int → Option ((List (S70)))
 | 0, _, _, _ => none
 | k + 1, x0, x3, x4 => if x4 < (x0.length : Int) then (if 0 ≤ x4 then ((transeptplain_CopyBytes.f ((rd_T87 x0 x4).f1)).bind fun t200 => (if x3.length < 4398046511104 then (transeptlaw08_Segs.l0 k x0 (x3 ++ [(⟨(rd_T87 x0 x4).f0, t200⟩ : S70)]) (wrap64 (x4 + 1))) else (none))) else (none)) else (some x3)
def transeptlaw08_Segs.f (k : Nat) (l0 : List (S87)) : Option ((List (S70))) := transeptlaw08_Segs.l0 k l0 ([] : List (S70)) 0
theorem transeptlaw08_Segs.mono_l : ∀ k, (∀ y0 y1 y2, LeO (transeptlaw08_Segs.l0 k y0 y1 y2) (transeptlaw08_Segs.l0 (k + 1) y0 y1 y2))
 | 0 => fun _ _ _ r h => by simp [transeptlaw08_Segs.l0] at h
 | k + 1 => by
  have ih0 := transeptlaw08_Segs.mono_l k
  ·intro y0 y1 y2
   unfold transeptlaw08_Segs.l0
   repeat' first
   | (with_reducible exact ih0 _ _ _)
   | (with_reducible exact LeO.refl _)
   | (with_reducible exact LeO.none _)
   | (with_reducible refine LeO.ite ?_ ?_)
   | (with_reducible refine LeO.bind ?_ (fun _ => ?_))
   | exact ih0 _ _ _
   | exact LeO.none _
   | refine LeO.ite ?_ ?_
   | refine LeO.bind ?_ (fun _ => ?_)
theorem transeptlaw08_Segs.mono : ∀ a0 k, LeO (transeptlaw08_Segs.f k a0) (transeptlaw08_Segs.f (k + 1) a0) := by
 intro a0 k
 have ih0 := transeptlaw08_Segs.mono_l k
 unfold transeptlaw08_Segs.f
 repeat' first
   | (with_reducible exact ih0 _ _ _)
   | (with_reducible exact LeO.refl _)
   | (with_reducible exact LeO.none _)
   | (with_reducible refine LeO.ite ?_ ?_)
   | (with_reducible refine LeO.bind ?_ (fun _ => ?_))
   | exact ih0 _ _ _
   | exact LeO.none _
   | refine LeO.ite ?_ ?_
   | refine LeO.bind ?_ (fun _ => ?_)
def transeptlaw08_Segs.T5 : Bool × List (List Nat × List Nat) := (true, [([], []), ([], []), ([], []), ([1, 2], [1, 2]), ([3], [3]), ([4], [4]), ([], []), ([], []), ([6, 7], [6, 7]), ([8], [8]), ([9], [9]), ([10], [10]), ([5, 11], [5, 11]), ([12], [12]), ([0, 13, 11], [0, 13]), ([14, 14, 0, 1, 2, 3, 4, 5, 6, 7, 8, 9, 10, 11, 12, 13, 14], [0, 14])])
def transeptlaw08_Segs.B5 : List Nat := [0, 0, 0, 6, 14, 30, 0, 0, 192, 448, 960, 1984, 4094, 8190, 16383, 32767]
theorem transeptlaw08_Segs.tab5 : rtab .any (opsOf Try.f44 5) = transeptlaw08_Segs.T5 := by kernel_rfl
theorem transeptlaw08_Segs.bits5 : waitsOk transeptlaw08_Segs.T5.2 transeptlaw08_Segs.B5 = true := by kernel_rfl
set_option maxHeartbeats 8000000 in
set_option maxRecDepth 100000 in
theorem transeptlaw08_Segs.calls (k : Nat) (A0 : Option Addr) (c0 : Nat) (l0 : List (S87)) (r : List (S70)) (w : World) (hr0 : Kd.C k87 w A0 l0.length l0) (hc0 : l0.length ≤ c0) (h : transeptlaw08_Segs.f k l0 = some r) :
  Calls Try.prog 44 #[.slice A0 l0.length c0] w fun e w' => ∃ v0_ : Value, e = .returned (v0_) ∧ Kd.S k70 70 w' w.heap.size (fun _ => True) v0_ r ∧ Below w.heap.size w w' := by
 have hu70 := Try.underlying70
 have HR0 := Aside0.mk hr0
 have HC0 := Aside0.mk hc0
 clear hr0 hc0
 have HB := Aside0.mk (Below.refl w.heap.size w)
 have H : (transeptlaw08_Segs.l0 k l0 ([] : List (S70)) 0) = some r := h
 clear h
 have H' := Aside0.mk H
 clear H
 go_enter Try.func44, Try.ntmps44
 go_wp2
 go_loopg [3, 4] k (fun kq v3 v4 w' => ∃ (x3_1 : List (S70)) (x4_1 : Int), v4 = .int .i64 x4_1 ∧ Aside0 (transeptlaw08_Segs.l0 kq l0 x3_1 x4_1 = some r) ∧ Aside0 (kq ≤ k) ∧ Aside0 (Kd.S k70 70 w' w.heap.size (fun _ => True) v3 x3_1) ∧ Aside0 (Below w.heap.size w w'))
 case atStart => exact ⟨(([] : List (S70))), (0), (by first | rfl | (simp; done) | (simp [*]; done)), H', ⟨Nat.le_refl _⟩, ⟨nil_⟩, ⟨bl_ HB⟩⟩
 case round =>
  clear H'
  obtain ⟨x3_1, x4_1, rfl, HA, HK1, HO_3, HB⟩ := hrel
  cases gk with
  | zero => exact absurd HA.out (by simp [transeptlaw08_Segs.l0])
  | succ k1 =>
   have H := HA.out
   clear HA
   simp only [transeptlaw08_Segs.l0] at H
   by_cases c2 : x4_1 < (l0.length : Int)
   ·rw [if_pos c2] at H
    have c2b0 : decide (x4_1 < (l0.length : Int)) = true := decide_eq_true c2
    clear c2
    by_cases c3 : 0 ≤ x4_1
    ·rw [if_pos c3] at H
     have c3b0 : decide (0 ≤ x4_1) = true := decide_eq_true c3
     clear c3
     replace H := Option.bind_eq_some_iff.mp H
     obtain ⟨t200, A40, H⟩ := H
     try dsimp only at H
     have A4 := Aside0.mk A40
     clear A40
     by_cases c5 : x3_1.length < 4398046511104
     ·rw [if_pos c5] at H
      have LMc5 := Aside0.mk c5
      clear c5
      obtain ⟨y203, hy203⟩ : ∃ y_ : List (S70), y_ = (x3_1 ++ [(⟨(rd_T87 l0 x4_1).f0, t200⟩ : S70)]) := ⟨_, rfl⟩
      replace H : (transeptlaw08_Segs.l0 k1 l0 y203 (wrap64 (x4_1 + 1))) = some r := by first | (rw [hy203]; with_reducible exact H) | (have H2_ := (Option.bind_some _ _).symm.trans H; rw [hy203]; with_reducible exact H2_) | (have H2_ := (Option.bind_some _ _).symm.trans H; with_reducible exact H2_) | with_reducible exact H | (rw [hy203]; exact H) | exact H
      have Ny203 := Aside0.mk hy203
      clear hy203
      have H' := Aside0.mk H
      clear H
      try go_wp2
      replace HO_3 := Aside0.mk (Kd.S_drew HO_3.out)
      replace HB := Aside0.mk (below_drew1 HB.out)
      have p198 : 0 ≤ (x4_1 : Int) := of_decide_eq_true (by first | (with_reducible assumption) | assumption)
      have q198 : x4_1 < (l0.length : Int) := of_decide_eq_true (by first | (with_reducible assumption) | assumption)
      obtain ⟨ad198, A198_1, c198_1, e198, hx198_0, hx198_1, hl198_1, hi198_1⟩ := at_T87 HR0.out x4_1 p198 q198
      have hw198_1 := hx198_1
      have hw198_0 := hx198_0
      cases e198
      replace hx198_0 := (HB.out.cell (World.block_lt_of_cell? w _ hx198_0)).trans hx198_0
      replace hx198_1 := (HB.out.cell (World.block_lt_of_cell? w _ hx198_1)).trans hx198_1
      have HR198_1 := Aside0.mk hi198_1
      have HC198_1 := Aside0.mk hl198_1
      clear hi198_1 hl198_1
      replace p198 := eq_true p198
      replace q198 := eq_true q198
      have p199 : 0 ≤ (x4_1 : Int) := of_decide_eq_true (by first | (with_reducible assumption) | assumption)
      have q199 : x4_1 < (l0.length : Int) := of_decide_eq_true (by first | (with_reducible assumption) | assumption)
      obtain ⟨ad199, A199_1, c199_1, e199, hx199_0, hx199_1, hl199_1, hi199_1⟩ := at_T87 HR0.out x4_1 p199 q199
      have hw199_1 := hx199_1
      have hw199_0 := hx199_0
      obtain rfl : ad198 = ad199 := (by injection e199)
      replace hx199_0 := (HB.out.cell (World.block_lt_of_cell? w _ hx199_0)).trans hx199_0
      replace hx199_1 := (HB.out.cell (World.block_lt_of_cell? w _ hx199_1)).trans hx199_1
      have HR199_1 := Aside0.mk hi199_1
      have HC199_1 := Aside0.mk hl199_1
      clear hi199_1 hl199_1
      replace p199 := eq_true p199
      replace q199 := eq_true q199
      have ea_ := Option.some.inj (hx198_1.symm.trans hx199_1)
      injection ea_ with ea_ en_ ec_
      subst ea_
      subst ec_
      clear en_
      refine start_ (n := 16) (S := fun w' => w'.cell? (ad198.add ((x4_1).toNat * 2)) = some (.int .i64 ((rd_T87 l0 x4_1).f0)) ∧ w'.cell? ⟨(ad198.add ((x4_1).toNat * 2)).block, (ad198.add ((x4_1).toNat * 2)).off + 1, none⟩ = some (.slice A198_1 ((rd_T87 l0 x4_1).f1).length c198_1) ∧ w'.cell? (ad198.add ((x4_1).toNat * 2)) = some (.int .i64 ((rd_T87 l0 x4_1).f0)) ∧ w'.cell? ⟨(ad198.add ((x4_1).toNat * 2)).block, (ad198.add ((x4_1).toNat * 2)).off + 1, none⟩ = some (.slice A198_1 ((rd_T87 l0 x4_1).f1).length c198_1)) (ds := []) #[false, false, false, false, false, false, false, false, false, false, false, false, false, false, false, false] (by kernel_rfl) rfl rfl ⟨((HB.out.cell (World.block_lt_of_cell? w _ hw198_0)).trans hw198_0), ((HB.out.cell (World.block_lt_of_cell? w _ hw198_1)).trans hw198_1), ((HB.out.cell (World.block_lt_of_cell? w _ hw199_0)).trans hw199_0), ((HB.out.cell (World.block_lt_of_cell? w _ hw199_1)).trans hw199_1)⟩ (fun hHeld => ?_); refine with_tabW transeptlaw08_Segs.tab5 transeptlaw08_Segs.bits5 (fun HT_ HW_ => ?_)
      generalize wr.drew = w6 at HO_3 HB HR198_1 HR199_1 hx198_0 hx198_1 hx199_0 hx199_1 hHeld ⊢
      refine pu_ 0 (some 11) HT_ ?_
      refine pu_ 1 (some 12) HT_ ?_
      refine pu_ 2 (some 13) HT_ ?_
      refine pu_ 3 (some 14) HT_ ?_
      refine pu_ 4 (some 15) HT_ ?_
      refine pu_ 6 (some 17) HT_ ?_
      refine pu_ 7 (some 18) HT_ ?_
      refine pu_ 8 (some 19) HT_ ?_
      refine pu_ 9 (some 20) HT_ ?_
      refine tk_ 5 (some 16) HT_ HW_ hHeld ?_
      refine tk_ 10 (some 21) HT_ HW_ hHeld ?_
      refine on_ 11 (some 22) HT_ (fun K hK => ?_)
      refine goes_ Try.func65 (by kernel_rfl) rfl #[.slice A198_1 ((rd_T87 l0 x4_1).f1).length c198_1] (by rfl) rfl rfl (by (try simp only [List.map_toArray, List.map_cons, List.map_nil]); first | done | rfl | (simp only [List.length_drop, List.length_take]; rfl)) ?_
      with_reducible refine (transeptplain_CopyBytes.calls _ _ ((rd_T87 l0 x4_1).f1) t200 _ ?_ ?_ A4.out).mono ?_
      exact cB_ HR199_1 HB
      exact HC199_1.out
      rintro e w7 ⟨v201, rfl, ho0, hb⟩
      refine ⟨_, rfl, ?_⟩
      replace HO_3 := Aside0.mk (Kd.S_elder' (sA_ HO_3) (Kd.R_base ho0) hb)
      have HO202 := Aside0.mk (Kd.R_lower ho0 (bs_ HB))
      replace HB := bS_ HB hb
      (try clear hb ho0)
      obtain ⟨Ao8, co8, eo8⟩ := Kd.R_slice HO202.out
      (first | subst eo8 | (injection eo8 with f1_ f2_ f3_; have f4_ := f1_.symm; have f5_ := f3_.symm; clear f1_ f2_ f3_; subst f4_; subst f5_))
      refine hK.out _ _ ⟨((HB.out.cell (World.block_lt_of_cell? w _ hw198_0)).trans hw198_0), ((HB.out.cell (World.block_lt_of_cell? w _ hw198_1)).trans hw198_1), ((HB.out.cell (World.block_lt_of_cell? w _ hw199_0)).trans hw199_0), ((HB.out.cell (World.block_lt_of_cell? w _ hw199_1)).trans hw199_1)⟩ (fun hHeld => ?_)
      clear hK K
      refine norm_ (a' := ?_) ?_ ?_
      rotate_left
      ·show Act.put _ (some 22) _ = _
       simp only [Act.put, List.setIfInBounds_toArray, List.set_cons_zero, List.set_cons_succ, i64_w, i32_w]
       rfl
      refine pu_ 12 (some 23) HT_ ?_
      refine on_ 13 (some 24) HT_ (fun K hK => ?_)
      refine value_ (w1 := ?_) (v := ?_) (by rfl) rfl ?_ ?_
      rotate_left 2
      ·go_simp
       constructor
       ·rfl
       ·rfl
      refine hK.out _ _ ⟨(World.cell?_alloc_lt _ _ _ (World.block_lt_of_cell? _ _ (((HB.out.cell (World.block_lt_of_cell? w _ hw198_0)).trans hw198_0)))).trans (((HB.out.cell (World.block_lt_of_cell? w _ hw198_0)).trans hw198_0)), (World.cell?_alloc_lt _ _ _ (World.block_lt_of_cell? _ _ (((HB.out.cell (World.block_lt_of_cell? w _ hw198_1)).trans hw198_1)))).trans (((HB.out.cell (World.block_lt_of_cell? w _ hw198_1)).trans hw198_1)), (World.cell?_alloc_lt _ _ _ (World.block_lt_of_cell? _ _ (((HB.out.cell (World.block_lt_of_cell? w _ hw199_0)).trans hw199_0)))).trans (((HB.out.cell (World.block_lt_of_cell? w _ hw199_0)).trans hw199_0)), (World.cell?_alloc_lt _ _ _ (World.block_lt_of_cell? _ _ (((HB.out.cell (World.block_lt_of_cell? w _ hw199_1)).trans hw199_1)))).trans (((HB.out.cell (World.block_lt_of_cell? w _ hw199_1)).trans hw199_1))⟩ (fun hHeld => ?_)
      clear hK K
      refine norm_ (a' := ?_) ?_ ?_
      rotate_left
      ·show Act.put _ (some 24) _ = _
       simp only [Act.put, List.setIfInBounds_toArray, List.set_cons_zero, List.set_cons_succ, i64_w, i32_w]
       rfl
      refine on_ 14 (some 25) HT_ (fun K hK => ?_)
      refine Kd.S_append_step k70 (w0 := w) w.heap.size (by rfl) (.tmp 11) (.tmp 24) 59 70 (.agg #[(.int .i64 0), (.slice none 0 0)]) 32 rfl Try.underlying59 info70 rfl (by decide) (by omega) u3 x3_1 (⟨(rd_T87 l0 x4_1).f0, t200⟩ : S70) [.int .i64 ((rd_T87 l0 x4_1).f0), .slice Ao8 t200.length co8] (fun _ => True) (fun k_ => some k_ = (.slice Ao8 t200.length co8 : Value).ownBlock) rfl rfl ?aP (fun k_ hk_ => ((Kd.R_mono (ok' := fun k_ => ((fun _ => True)) k_ ∧ some k_ ≠ (u3 : Value).ownBlock) (Kd.R_apart' (HO202.out) (Kd.S_typed HO_3.out) (by decide)) (fun k_ hk => ⟨trivial, hk.2⟩))).1 k_ hk_.symm) ?aF ?aO ?aB ?aS ?aL ?_
      (case aP => exact k70_mkM _ _ _ (⟨(rd_T87 l0 x4_1).f0, t200⟩ : S70) (Kd.R_mono (Kd.R_tight rfl (Kd.R_mono (ok' := fun k_ => ((fun _ => True)) k_ ∧ some k_ ≠ (u3 : Value).ownBlock) (Kd.R_apart' (HO202.out) (Kd.S_typed HO_3.out) (by decide)) (fun k_ hk => ⟨trivial, hk.2⟩))) (fun _ h_ => h_)))
      (case aB => exact (bl_ HB))
      (case aF => exact (fun _ _ => trivial))
      (case aO => exact (by (with_reducible repeat (first | apply Kd.S_alloc | apply Kd.S_drewN | apply Kd.S_drew)); exact Kd.S_mono HO_3.out (fun k_ hk => ⟨trivial, fun e_ => hk.2 e_⟩)))
      (case aS => exact (bs_ HB))
      (case aL => have := LMc5.out; omega)
      intro v204 w9 ho hb hg hat
      rw [← Ny203.out] at ho
      replace HB := Aside0.mk (hb)
      have HO205 := Aside0.mk (ho)
      clear HO_3 HO202
      clear ho hb hg hat
      refine hK.out _ _ ⟨((HB.out.cell (World.block_lt_of_cell? w _ hw198_0)).trans hw198_0), ((HB.out.cell (World.block_lt_of_cell? w _ hw198_1)).trans hw198_1), ((HB.out.cell (World.block_lt_of_cell? w _ hw199_0)).trans hw199_0), ((HB.out.cell (World.block_lt_of_cell? w _ hw199_1)).trans hw199_1)⟩ (fun hHeld => ?_)
      clear hK K
      refine norm_ (a' := ?_) ?_ ?_
      rotate_left
      ·show Act.put _ (some 25) _ = _
       simp only [Act.put, List.setIfInBounds_toArray, List.set_cons_zero, List.set_cons_succ, i64_w, i32_w]
       rfl
      refine pu_ 15 (some 3) HT_ ?_
      refine done_ (done_of HT_.out (by kernel_rfl)) ?_
      try go_wp2
      go_roundg k1
      case measure => have := HK1.out; omega
      case rel => exact ⟨(y203), (wrap64 (x4_1 + 1)), (by first | rfl | (simp; done) | (simp [*]; done)), H', ⟨by have := HK1.out; omega⟩, ⟨sA_ HO205⟩, ⟨bl_ HB⟩⟩
     ·rw [if_neg c5] at H
      exact absurd H (by simp)
    ·rw [if_neg c3] at H
     exact absurd H (by simp)
   ·rw [if_neg c2] at H
    have c2b0 : decide (x4_1 < (l0.length : Int)) = false := decide_eq_false c2
    clear c2
    obtain rfl := Option.some.inj H
    go_wp2
    go_ret
    exact ⟨_, fin_, sA_ HO_3, bl_ HB⟩
end Go.Proofs.Ytooabchnbmnchaa.Q
namespace Go.Proofs.Ytooabchnbmnchaa.Q
open Go.RowKit Go.Proofs.YtooabchnbmnchaaW.PrintWords Go.Proofs.YtooabchnbmnchaaW.PrintLast Go.Proofs.YtooabchnbmnchaaW.PrintMore
attribute [local go_sem] max2_int min2_int max_two min_two max_three min_three max_four min_four binOp_string_leq binOp_string_geq binOp_string_gtr   -- for this text's walks alone
set_option linter.unusedVariables false
set_option linter.unusedSimpArgs false
def transeptlaw08_Of.f (k : Nat) (l0_0 : List (S87)) (a0_1 : Int) (l0_2 : List (List Int)) : Option ((List (S70)) × Int × (List (List Int))) := (transeptlaw08_Segs.f k l0_0).bind fun t208 => ((transeptplain_CopyLists.f k l0_2).bind fun t211 => (some (t208, a0_1, t211)))
theorem transeptlaw08_Of.mono : ∀ a0 a1 a2 k, LeO (transeptlaw08_Of.f k a0 a1 a2) (transeptlaw08_Of.f (k + 1) a0 a1 a2) := by
 intro a0 a1 a2 k
 unfold transeptlaw08_Of.f
 repeat' first
   | (with_reducible exact transeptlaw08_Segs.mono _ _)
   | (with_reducible exact transeptplain_CopyLists.mono _ _)
   | (with_reducible exact LeO.refl _)
   | (with_reducible exact LeO.none _)
   | (with_reducible refine LeO.ite ?_ ?_)
   | (with_reducible refine LeO.bind ?_ (fun _ => ?_))
   | exact transeptlaw08_Segs.mono _ _
   | exact transeptplain_CopyLists.mono _ _
   | exact LeO.none _
   | refine LeO.ite ?_ ?_
   | refine LeO.bind ?_ (fun _ => ?_)
def transeptlaw08_Of.T1 : Bool × List (List Nat × List Nat) := (true, [([], []), ([0], [0]), ([1], [1]), ([], []), ([3], [3]), ([], []), ([5], [5]), ([6, 2], [6]), ([2, 4, 7], [2, 4, 7]), ([8, 7, 0, 1, 2, 3, 4, 5, 6, 7, 8], [8])])
def transeptlaw08_Of.B1 : List Nat := [0, 1, 3, 0, 8, 0, 32, 103, 255, 511]
theorem transeptlaw08_Of.tab1 : rtab .any (opsOf Try.f33 1) = transeptlaw08_Of.T1 := by kernel_rfl
theorem transeptlaw08_Of.bits1 : waitsOk transeptlaw08_Of.T1.2 transeptlaw08_Of.B1 = true := by kernel_rfl
set_option maxHeartbeats 8000000 in
set_option maxRecDepth 100000 in
theorem transeptlaw08_Of.calls (k : Nat) (A0_0 : Option Addr) (c0_0 : Nat) (l0_0 : List (S87)) (a0_1 : Int) (A0_2 : Option Addr) (c0_2 : Nat) (l0_2 : List (List Int)) (r1 : List (S70)) (r2 : Int) (r3 : List (List Int)) (w : World) (hr0_0 : Kd.C k87 w A0_0 l0_0.length l0_0) (hc0_0 : l0_0.length ≤ c0_0) (hr0_2 : Kd.C (Kd.slice 5 (Kd.int .u8)) w A0_2 l0_2.length l0_2) (hc0_2 : l0_2.length ≤ c0_2) (h : transeptlaw08_Of.f k l0_0 a0_1 l0_2 = some (r1, r2, r3)) :
  Calls Try.prog 33 #[.agg #[.slice A0_0 l0_0.length c0_0, .int .i64 a0_1, .slice A0_2 l0_2.length c0_2]] w fun e w' => ∃ v0_ v2_ : Value, e = .returned (.agg #[v0_, .int .i64 r2, v2_]) ∧ Kd.S k70 70 w' w.heap.size (fun _ => True) v0_ r1 ∧ Kd.S (Kd.slice 5 (Kd.int .u8)) 26 w' w.heap.size (fun _ => True) v2_ r3 ∧ Below w.heap.size w w' := by
 have hu58 := Try.underlying58
 have hu61 := Try.underlying61
 have HR0_0 := Aside0.mk hr0_0
 have HC0_0 := Aside0.mk hc0_0
 clear hr0_0 hc0_0
 have HR0_2 := Aside0.mk hr0_2
 have HC0_2 := Aside0.mk hc0_2
 clear hr0_2 hc0_2
 have HB := Aside0.mk (Below.refl w.heap.size w)
 have H : ((transeptlaw08_Segs.f k l0_0).bind fun t208 => ((transeptplain_CopyLists.f k l0_2).bind fun t211 => (some (t208, a0_1, t211)))) = some (r1, r2, r3) := h
 clear h
 replace H := Option.bind_eq_some_iff.mp H
 obtain ⟨t208, A20, H⟩ := H
 try dsimp only at H
 have A2 := Aside0.mk A20
 clear A20
 replace H := Option.bind_eq_some_iff.mp H
 obtain ⟨t211, A30, H⟩ := H
 replace H : (some (t208, a0_1, t211)) = some (r1, r2, r3) := H
 have A3 := Aside0.mk A30
 clear A30
 simp only [Option.some.injEq, Prod.mk.injEq] at H
 obtain ⟨rfl, rfl, rfl⟩ := H
 go_enter Try.func33, Try.ntmps33
 try go_wp2_with (first | ((with_reducible refine gate_dst (N := 1) rfl ?_); refine bx_ 1 #[.slice A0_0 l0_0.length c0_0, .int .i64 a0_1, .slice A0_2 l0_2.length c0_2] 58 ?_; intro gb206 hg w4 hbox hb; have BK206 := Aside0.mk (hbox); have GW206 := bG_ HB hg; have GE206 := bG_ HB hg; replace HB := bS_ HB hb; clear hb hbox hg) | ((with_reducible refine gate_dst (N := 2) rfl ?_); refine bx_ 2 #[.slice none 0 0, .int .i64 0, .slice none 0 0] 61 ?_; intro gb207 hg w5 hbox hb; have BK207 := Aside0.mk (hbox); have GW207 := bG_ HB hg; have GE207 := bG_ HB hg; replace HB := bS_ HB hb; have NB206_207 := nL_ BK206 hg; have NB207_206 := nG_ BK206 hg; replace BK206 := bK_ BK206 hb; clear hb hbox hg))
 replace BK206 := Aside0.mk (blk_drew BK206.out)
 replace BK207 := Aside0.mk (blk_drew BK207.out)
 replace HB := Aside0.mk (below_drew1 HB.out)
 refine start_ (n := 10) (S := fun w' => w'.cell? ⟨gb206, 0, none⟩ = some (.slice A0_0 l0_0.length c0_0) ∧ w'.cell? ⟨gb206, 1, none⟩ = some (.int .i64 a0_1) ∧ w'.cell? ⟨gb206, 2, none⟩ = some (.slice A0_2 l0_2.length c0_2)) (ds := []) #[false, false, false, false, false, false, false, false, false, false] (by kernel_rfl) rfl rfl ⟨(blk_cell BK206.out 0).trans rfl, (blk_cell BK206.out 1).trans rfl, (blk_cell BK206.out 2).trans rfl⟩ (fun hHeld => ?_); refine with_tabW transeptlaw08_Of.tab1 transeptlaw08_Of.bits1 (fun HT_ HW_ => ?_)
 generalize w5.drew = w6 at BK206 BK207 HB hHeld ⊢
 refine pu_ 0 (some 3) HT_ ?_
 refine pu_ 3 (some 6) HT_ ?_
 refine pu_ 5 (some 8) HT_ ?_
 refine tk_ 1 (some 4) HT_ HW_ hHeld ?_
 refine tk_ 4 (some 7) HT_ HW_ hHeld ?_
 refine tk_ 6 (some 9) HT_ HW_ hHeld ?_
 refine on_ 2 (some 5) HT_ (fun K hK => ?_)
 refine goes_ Try.func44 (by kernel_rfl) rfl #[.slice A0_0 l0_0.length c0_0] (by rfl) rfl rfl (by (try simp only [List.map_toArray, List.map_cons, List.map_nil]); first | done | rfl | (simp only [List.length_drop, List.length_take]; rfl)) ?_
 with_reducible refine (transeptlaw08_Segs.calls k _ _ l0_0 t208 _ ?_ ?_ A2.out).mono ?_
 exact cB_ HR0_0 HB
 exact HC0_0.out
 rintro e w7 ⟨v209, rfl, ho0, hb⟩
 refine ⟨_, rfl, ?_⟩
 have HO210 := Aside0.mk (Kd.S_lower ho0 (bs_ HB))
 replace BK206 := bK_ BK206 hb
 replace BK207 := bK_ BK207 hb
 replace HB := bS_ HB hb
 (try clear hb ho0)
 refine hK.out _ _ ⟨(blk_cell BK206.out 0).trans rfl, (blk_cell BK206.out 1).trans rfl, (blk_cell BK206.out 2).trans rfl⟩ (fun hHeld => ?_)
 clear hK K
 refine norm_ (a' := ?_) ?_ ?_
 rotate_left
 ·show Act.put _ (some 5) _ = _
  simp only [Act.put, List.setIfInBounds_toArray, List.set_cons_zero, List.set_cons_succ, i64_w, i32_w]
  rfl
 refine on_ 7 (some 10) HT_ (fun K hK => ?_)
 refine goes_ Try.func34 (by kernel_rfl) rfl #[.slice A0_2 l0_2.length c0_2] (by rfl) rfl rfl (by (try simp only [List.map_toArray, List.map_cons, List.map_nil]); first | done | rfl | (simp only [List.length_drop, List.length_take]; rfl)) ?_
 with_reducible refine (transeptplain_CopyLists.calls k _ _ l0_2 t211 _ ?_ ?_ A3.out).mono ?_
 exact cB_ HR0_2 HB
 exact HC0_2.out
 rintro e w8 ⟨v212, rfl, ho0, hb⟩
 refine ⟨_, rfl, ?_⟩
 replace HO210 := sB_ HO210 hb
 have HO213 := Aside0.mk (Kd.S_lower ho0 (bs_ HB))
 replace BK206 := bK_ BK206 hb
 replace BK207 := bK_ BK207 hb
 replace HB := bS_ HB hb
 (try clear hb ho0)
 obtain ⟨Ao9, co9, eo9⟩ := Kd.S_slice HO213.out
 (first | subst eo9 | (injection eo9 with f1_ f2_ f3_; have f4_ := f1_.symm; have f5_ := f3_.symm; clear f1_ f2_ f3_; subst f4_; subst f5_))
 obtain ⟨Ao10, co10, eo10⟩ := Kd.S_slice HO210.out
 (first | subst eo10 | (injection eo10 with f1_ f2_ f3_; have f4_ := f1_.symm; have f5_ := f3_.symm; clear f1_ f2_ f3_; subst f4_; subst f5_))
 refine hK.out _ _ ⟨(blk_cell BK206.out 0).trans rfl, (blk_cell BK206.out 1).trans rfl, (blk_cell BK206.out 2).trans rfl⟩ (fun hHeld => ?_)
 clear hK K
 refine norm_ (a' := ?_) ?_ ?_
 rotate_left
 ·show Act.put _ (some 10) _ = _
  simp only [Act.put, List.setIfInBounds_toArray, List.set_cons_zero, List.set_cons_succ, i64_w, i32_w]
  rfl
 refine pu_ 8 (some 11) HT_ ?_
 refine on_ 9 none HT_ (fun K hK => ?_)
 have hs11 : w8.cell? ⟨gb207, 0, none⟩ = some (.slice none 0 0) := (blk_cell BK207.out 0).trans rfl
 have hfs11 := blk_frozen BK207.out 0
 have hns11_0 := NB206_207.out
 have hms11_0 := NB207_206.out
 have hs12 : w8.cell? ⟨gb207, 1, none⟩ = some (.int .i64 0) := (blk_cell BK207.out 1).trans rfl
 have hfs12 := blk_frozen BK207.out 1
 have hns12_0 := NB206_207.out
 have hms12_0 := NB207_206.out
 have hs13 : w8.cell? ⟨gb207, 2, none⟩ = some (.slice none 0 0) := (blk_cell BK207.out 2).trans rfl
 have hfs13 := blk_frozen BK207.out 2
 have hns13_0 := NB206_207.out
 have hms13_0 := NB207_206.out
 refine skip_ (w1 := ?_) (by rfl) rfl ?_ ?_
 rotate_left
 ·go_simp
  rfl
 refine hK.out _ _ ⟨((cell_far (p := ⟨gb207, _, none⟩) NB206_207.out _).trans (((cell_far (p := ⟨gb207, _, none⟩) NB206_207.out _).trans (((cell_far (p := ⟨gb207, _, none⟩) NB206_207.out _).trans (hHeld.1)))))), ((cell_far (p := ⟨gb207, _, none⟩) NB206_207.out _).trans (((cell_far (p := ⟨gb207, _, none⟩) NB206_207.out _).trans (((cell_far (p := ⟨gb207, _, none⟩) NB206_207.out _).trans (hHeld.2.1)))))), ((cell_far (p := ⟨gb207, _, none⟩) NB206_207.out _).trans (((cell_far (p := ⟨gb207, _, none⟩) NB206_207.out _).trans (((cell_far (p := ⟨gb207, _, none⟩) NB206_207.out _).trans (hHeld.2.2))))))⟩ (fun hHeld => ?_)
 clear hK K
 refine done_ (done_of HT_.out (by kernel_rfl)) ?_
 try go_wp2
 refine bodyPost_ret (results_cell_row rfl _ _ gb207 61 #[.slice Ao10 t208.length co10, .int .i64 a0_1, .slice Ao9 t211.length co9] (0, 0) _ rfl (by (with_reducible repeat (first | refine blk_drewN ?_ _ | refine blk_drew ?_ | refine blk_alloc ?_ _)); refine blk_put (cs := #[.slice Ao10 t208.length co10, .int .i64 a0_1, .slice none 0 0]) ?_ 2 _ rfl; (with_reducible repeat (first | refine blk_drewN ?_ _ | refine blk_drew ?_ | refine blk_alloc ?_ _)); refine blk_put (cs := #[.slice Ao10 t208.length co10, .int .i64 0, .slice none 0 0]) ?_ 1 _ rfl; (with_reducible repeat (first | refine blk_drewN ?_ _ | refine blk_drew ?_ | refine blk_alloc ?_ _)); refine blk_put (cs := #[.slice none 0 0, .int .i64 0, .slice none 0 0]) ?_ 0 _ rfl; (with_reducible repeat (first | refine blk_drewN ?_ _ | refine blk_drew ?_ | refine blk_alloc ?_ _)); exact BK207.out) Try.underlying61 rfl (by kernel_rfl)) rfl ?_
 exact ⟨_, _, fin_, by (with_reducible repeat (first | apply Kd.S_alloc | apply Kd.S_drewN | apply Kd.S_drew)); exact Kd.S_mono (Kd.S_far (p := ⟨gb207, 2, none⟩) (Kd.S_far (p := ⟨gb207, 1, none⟩) (Kd.S_far (p := ⟨gb207, 0, none⟩) (Kd.S_types HO210.out BK207.out (by decide)) (fun _ hk => hk.2) (.slice Ao10 t208.length co10)) (fun _ hk => hk.2) (.int .i64 a0_1)) (fun _ hk => hk.2) (.slice Ao9 t211.length co9)) (fun _ hk => trivial), by (with_reducible repeat (first | apply Kd.S_alloc | apply Kd.S_drewN | apply Kd.S_drew)); exact Kd.S_mono (Kd.S_far (p := ⟨gb207, 2, none⟩) (Kd.S_far (p := ⟨gb207, 1, none⟩) (Kd.S_far (p := ⟨gb207, 0, none⟩) (Kd.S_types HO213.out BK207.out (by decide)) (fun _ hk => hk.2) (.slice Ao10 t208.length co10)) (fun _ hk => hk.2) (.int .i64 a0_1)) (fun _ hk => hk.2) (.slice Ao9 t211.length co9)) (fun _ hk => trivial), bl_ HB⟩
end Go.Proofs.Ytooabchnbmnchaa.Q
namespace Go.Proofs.Ytooabchnbmnchaa.Q
open Go.RowKit Go.Proofs.YtooabchnbmnchaaW.PrintWords Go.Proofs.YtooabchnbmnchaaW.PrintLast Go.Proofs.YtooabchnbmnchaaW.PrintMore
attribute [local go_sem] max2_int min2_int max_two min_two max_three min_three max_four min_four binOp_string_leq binOp_string_geq binOp_string_gtr   -- for this text's walks alone
set_option linter.unusedVariables false
set_option linter.unusedSimpArgs false
def transeptref08_index.f (a0 : Int) : Option (Bool) := if a0 ≥ 0 then (some (decide (a0 ≤ 1099511627776))) else (some false)
set_option maxHeartbeats 8000000 in
set_option maxRecDepth 100000 in
theorem transeptref08_index.calls (a0 : Int) (r : Bool) (w : World) (h : transeptref08_index.f a0 = some r) :
  Calls Try.prog 76 #[.int .i64 a0] w fun e w' => e = .returned (.bool r) ∧ Drawn0 w w' := by
 have H : (if a0 ≥ 0 then (some (decide (a0 ≤ 1099511627776))) else (some false)) = some r := h
 clear h
 by_cases c2 : a0 ≥ 0
 ·rw [if_pos c2] at H
  have c2b0 : decide (0 ≤ a0) = true := decide_eq_true c2
  clear c2
  obtain rfl := Option.some.inj H
  go_enter Try.func76, Try.ntmps76
  go_wp2
  go_ret
  exact ⟨by first | rfl | (simp; done) | (simp [*]; done), by repeat (first | exact Drawn0.refl _ | apply Drawn0.step)⟩
 ·rw [if_neg c2] at H
  have c2b0 : decide (0 ≤ a0) = false := decide_eq_false c2
  clear c2
  obtain rfl := Option.some.inj H
  go_enter Try.func76, Try.ntmps76
  go_wp2
  go_ret
  exact ⟨by first | rfl | (simp; done) | (simp [*]; done), by repeat (first | exact Drawn0.refl _ | apply Drawn0.step)⟩
end Go.Proofs.Ytooabchnbmnchaa.Q
namespace Go.Proofs.Ytooabchnbmnchaa.Q
open Go.RowKit Go.Proofs.YtooabchnbmnchaaW.PrintWords Go.Proofs.YtooabchnbmnchaaW.PrintLast Go.Proofs.YtooabchnbmnchaaW.PrintMore
attribute [local go_sem] max2_int min2_int max_two min_two max_three min_three max_four min_four binOp_string_leq binOp_string_geq binOp_string_gtr   -- for this text's walks alone
set_option linter.unusedVariables false
set_option linter.unusedSimpArgs false
def transeptref03_Copied.f (l0 : List Int) : Option (List Int) := if ([] : List Int).length + l0.length < 140737488355328 then (some (([] : List Int) ++ l0)) else (none)
set_option maxHeartbeats 8000000 in
set_option maxRecDepth 100000 in
theorem transeptref03_Copied.calls (A0 : Option Addr) (c0 : Nat) (l0 : List Int) (r : List Int) (w : World) (hr0 : Kd.C (Kd.int .u8) w A0 l0.length l0) (hc0 : l0.length ≤ c0) (h : transeptref03_Copied.f l0 = some r) :
  Calls Try.prog 72 #[.slice A0 l0.length c0] w fun e w' => ∃ v0_ : Value, e = .returned (v0_) ∧ Kd.R (Kd.int .u8) 5 w' w.heap.size (fun _ => True) v0_ r ∧ Below w.heap.size w w' := by
 have HR0 := Aside0.mk hr0
 have HC0 := Aside0.mk hc0
 clear hr0 hc0
 have HB := Aside0.mk (Below.refl w.heap.size w)
 have H : (if ([] : List Int).length + l0.length < 140737488355328 then (some (([] : List Int) ++ l0)) else (none)) = some r := h
 clear h
 by_cases c2 : ([] : List Int).length + l0.length < 140737488355328
 ·rw [if_pos c2] at H
  have LMc2 := Aside0.mk c2
  clear c2
  obtain ⟨y214, hy214⟩ : ∃ y_ : List Int, y_ = (([] : List Int) ++ l0) := ⟨_, rfl⟩
  replace H : (some y214) = some r := by first | (rw [hy214]; with_reducible exact H) | (have H2_ := (Option.bind_some _ _).symm.trans H; rw [hy214]; with_reducible exact H2_) | (have H2_ := (Option.bind_some _ _).symm.trans H; with_reducible exact H2_) | with_reducible exact H | (rw [hy214]; exact H) | exact H
  have Ny214 := Aside0.mk hy214
  clear hy214
  obtain rfl := Option.some.inj H
  go_enter Try.func72, Try.ntmps72
  go_wp2_with (first | ((with_reducible refine gate_builtin (b := .append) (xs := #[.tmp 4, .tmp 5]) rfl ?_); at_builtin; refine Kd.R_append_rows (Kd.int .u8) (w0 := w) w.heap.size rfl (.tmp 4) (.tmp 5) 26 5 (.int .u8 0) 1 rfl Try.underlying26 info5 rfl (by decide) (by omega) (.slice none 0 0) ([] : List Int) l0 _ _ _ (fun _ => True) (fun _ => False) rfl rfl ?aO ?aR (fun _ _ h => h) (fun _ h => h.elim) ?aF ?aB ?aS ?aL ?_; (case aR => exact cO_ HR0.out); (case aB => exact (bl_ HB)); (case aF => exact (fun _ _ => trivial)); (case aO => exact ((Kd.R_nil _ _ _ _ (fun _ => True)))); (case aS => exact (bs_ HB)); (case aL => have := LMc2.out; omega); intro v215 w3 ho hb hg hat; rw [← Ny214.out] at ho; replace HB := Aside0.mk (hb); have HO216 := Aside0.mk (ho); clear ho hb hg hat))
  go_ret
  exact ⟨_, fin_, rA_ HO216, bl_ HB⟩
 ·rw [if_neg c2] at H
  exact absurd H (by simp)
end Go.Proofs.Ytooabchnbmnchaa.Q
namespace Go.Proofs.Ytooabchnbmnchaa.Q
open Go.RowKit Go.Proofs.YtooabchnbmnchaaW.PrintWords Go.Proofs.YtooabchnbmnchaaW.PrintLast Go.Proofs.YtooabchnbmnchaaW.PrintMore
attribute [local go_sem] max2_int min2_int max_two min_two max_three min_three max_four min_four binOp_string_leq binOp_string_geq binOp_string_gtr   -- for this text's walks alone
set_option linter.unusedVariables false
set_option linter.unusedSimpArgs false
def transeptref01_Number.l0 : Nat → List Int → Int → Int → Option (Int)
 | 0, _, _, _ => none
 | k + 1, x0, x3, x4 => if x4 < (x0.length : Int) then (if 0 ≤ x4 then (transeptref01_Number.l0 k x0 (IntKind.u64.wrap ((IntKind.u64.wrap (x3 * 256)) + (IntKind.u64.wrap (rd x0 x4)))) (wrap64 (x4 + 1))) else (none)) else (some x3)
def transeptref01_Number.f (k : Nat) (l0 : List Int) : Option (Int) := transeptref01_Number.l0 k l0 0 0
theorem transeptref01_Number.mono_l : ∀ k, (∀ y0 y1 y2, LeO (transeptref01_Number.l0 k y0 y1 y2) (transeptref01_Number.l0 (k + 1) y0 y1 y2))
 | 0 => fun _ _ _ r h => by simp [transeptref01_Number.l0] at h
 | k + 1 => by
  have ih0 := transeptref01_Number.mono_l k
  ·intro y0 y1 y2
   unfold transeptref01_Number.l0
   repeat' first
   | (with_reducible exact ih0 _ _ _)
   | (with_reducible exact LeO.refl _)
   | (with_reducible exact LeO.none _)
   | (with_reducible refine LeO.ite ?_ ?_)
   | (with_reducible refine LeO.bind ?_ (fun _ => ?_))
   | exact ih0 _ _ _
   | exact LeO.none _
   | refine LeO.ite ?_ ?_
   | refine LeO.bind ?_ (fun _ => ?_)
theorem transeptref01_Number.mono : ∀ a0 k, LeO (transeptref01_Number.f k a0) (transeptref01_Number.f (k + 1) a0) := by
 intro a0 k
 have ih0 := transeptref01_Number.mono_l k
 unfold transeptref01_Number.f
 repeat' first
   | (with_reducible exact ih0 _ _ _)
   | (with_reducible exact LeO.refl _)
   | (with_reducible exact LeO.none _)
   | (with_reducible refine LeO.ite ?_ ?_)
   | (with_reducible refine LeO.bind ?_ (fun _ => ?_))
   | exact ih0 _ _ _
   | exact LeO.none _
   | refine LeO.ite ?_ ?_
   | refine LeO.bind ?_ (fun _ => ?_)
set_option maxHeartbeats 8000000 in
set_option maxRecDepth 100000 in
theorem transeptref01_Number.calls (k : Nat) (A0 : Option Addr) (c0 : Nat) (l0 : List Int) (r : Int) (w : World) (hr0 : Kd.C (Kd.int .u8) w A0 l0.length l0) (hc0 : l0.length ≤ c0) (h : transeptref01_Number.f k l0 = some r) :
  Calls Try.prog 104 #[.slice A0 l0.length c0] w fun e w' => e = .returned (.int .u64 r) ∧ Drawn0 w w' := by
 have HR0 := Aside0.mk hr0
 have HC0 := Aside0.mk hc0
 clear hr0 hc0
 have H : (transeptref01_Number.l0 k l0 0 0) = some r := h
 clear h
 have H' := Aside0.mk H
 clear H
 go_enter Try.func104, Try.ntmps104
 go_wp2
 go_loopg [3, 4] k (fun kq v3 v4 w' => ∃ (x3_1 : Int) (x4_1 : Int), v3 = .int .u64 x3_1 ∧ v4 = .int .i64 x4_1 ∧ Aside0 (transeptref01_Number.l0 kq l0 x3_1 x4_1 = some r) ∧ Aside0 (kq ≤ k) ∧ Drawn0 w w')
 case atStart => exact ⟨(0), (0), (by first | rfl | (simp; done) | (simp [*]; done)), (by first | rfl | (simp; done) | (simp [*]; done)), H', ⟨Nat.le_refl _⟩, by repeat (first | exact Drawn0.refl _ | apply Drawn0.step)⟩
 case round =>
  clear H'
  try clear c1
  obtain ⟨x3_1, x4_1, rfl, rfl, HA, HK1, ⟨m1, rfl⟩⟩ := hrel
  cases gk with
  | zero => exact absurd HA.out (by simp [transeptref01_Number.l0])
  | succ k1 =>
   have H := HA.out
   clear HA
   simp only [transeptref01_Number.l0] at H
   by_cases c2 : x4_1 < (l0.length : Int)
   ·rw [if_pos c2] at H
    have c2b0 : decide (x4_1 < (l0.length : Int)) = true := decide_eq_true c2
    clear c2
    by_cases c3 : 0 ≤ x4_1
    ·rw [if_pos c3] at H
     have c3b0 : decide (0 ≤ x4_1) = true := decide_eq_true c3
     clear c3
     have H' := Aside0.mk H
     clear H
     have p217 : 0 ≤ (x4_1 : Int) := of_decide_eq_true (by first | (with_reducible assumption) | assumption)
     have q217 : x4_1 < (l0.length : Int) := of_decide_eq_true (by first | (with_reducible assumption) | assumption)
     obtain ⟨ad217, e217, hx217_0⟩ := Kd.at_int HR0.out x4_1 p217 q217
     cases e217
     replace p217 := eq_true p217
     replace q217 := eq_true q217
     go_wp2
     go_roundg k1
     case measure => have := HK1.out; omega
     case rel => exact ⟨(IntKind.u64.wrap ((IntKind.u64.wrap (x3_1 * 256)) + (IntKind.u64.wrap (rd l0 x4_1)))), (wrap64 (x4_1 + 1)), (by first | rfl | (simp; done) | (simp [*]; done)), (by first | rfl | (simp; done) | (simp [*]; done)), H', ⟨by have := HK1.out; omega⟩, by repeat (first | exact Drawn0.refl _ | apply Drawn0.step)⟩
    ·rw [if_neg c3] at H
     exact absurd H (by simp)
   ·rw [if_neg c2] at H
    have c2b0 : decide (x4_1 < (l0.length : Int)) = false := decide_eq_false c2
    clear c2
    obtain rfl := Option.some.inj H
    go_wp2
    go_ret
    exact ⟨by first | rfl | (simp; done) | (simp [*]; done), by repeat (first | exact Drawn0.refl _ | apply Drawn0.step)⟩
end Go.Proofs.Ytooabchnbmnchaa.Q
namespace Go.Proofs.Ytooabchnbmnchaa.Q
open Go.RowKit Go.Proofs.YtooabchnbmnchaaW.PrintWords Go.Proofs.YtooabchnbmnchaaW.PrintLast Go.Proofs.YtooabchnbmnchaaW.PrintMore
attribute [local go_sem] max2_int min2_int max_two min_two max_three min_three max_four min_four binOp_string_leq binOp_string_geq binOp_string_gtr   -- for this text's walks alone
set_option linter.unusedVariables false
set_option linter.unusedSimpArgs false
def transeptref02_turn.l0 : Nat → Int → Int → Option (Int)
 | 0, _, _ => none
 | k + 1, x0, x5 => if x5 < 8 then (if (Go.bits .and .u32 x0 1) = 1 then (transeptref02_turn.l0 k (Go.bits .xor .u32 (x0 / 2) 2197175160) (wrap64 (x5 + 1))) else (transeptref02_turn.l0 k (x0 / 2) (wrap64 (x5 + 1)))) else (some x0)
def transeptref02_turn.f (k : Nat) (a0 : Int) (a1 : Int) : Option (Int) := transeptref02_turn.l0 k (Go.bits .xor .u32 a0 ((a1) % 4294967296)) 0
theorem transeptref02_turn.mono_l : ∀ k, (∀ y0 y1, LeO (transeptref02_turn.l0 k y0 y1) (transeptref02_turn.l0 (k + 1) y0 y1))
 | 0 => fun _ _ r h => by simp [transeptref02_turn.l0] at h
 | k + 1 => by
  have ih0 := transeptref02_turn.mono_l k
  ·intro y0 y1
   unfold transeptref02_turn.l0
   repeat' first
   | (with_reducible exact ih0 _ _)
   | (with_reducible exact LeO.refl _)
   | (with_reducible exact LeO.none _)
   | (with_reducible refine LeO.ite ?_ ?_)
   | (with_reducible refine LeO.bind ?_ (fun _ => ?_))
   | exact ih0 _ _
   | exact LeO.none _
   | refine LeO.ite ?_ ?_
   | refine LeO.bind ?_ (fun _ => ?_)
theorem transeptref02_turn.mono : ∀ a0 a1 k, LeO (transeptref02_turn.f k a0 a1) (transeptref02_turn.f (k + 1) a0 a1) := by
 intro a0 a1 k
 have ih0 := transeptref02_turn.mono_l k
 unfold transeptref02_turn.f
 repeat' first
   | (with_reducible exact ih0 _ _)
   | (with_reducible exact LeO.refl _)
   | (with_reducible exact LeO.none _)
   | (with_reducible refine LeO.ite ?_ ?_)
   | (with_reducible refine LeO.bind ?_ (fun _ => ?_))
   | exact ih0 _ _
   | exact LeO.none _
   | refine LeO.ite ?_ ?_
   | refine LeO.bind ?_ (fun _ => ?_)
set_option maxHeartbeats 8000000 in
set_option maxRecDepth 100000 in
theorem transeptref02_turn.calls (k : Nat) (a0 : Int) (a1 : Int) (r : Int) (w : World) (h : transeptref02_turn.f k a0 a1 = some r) :
  Calls Try.prog 109 #[.int .u32 a0, .int .u8 a1] w fun e w' => e = .returned (.int .u32 r) ∧ Drawn0 w w' := by
 have H : (transeptref02_turn.l0 k (Go.bits .xor .u32 a0 ((a1) % 4294967296)) 0) = some r := h
 clear h
 have H' := Aside0.mk H
 clear H
 go_enter Try.func109, Try.ntmps109
 go_wp2
 go_loopg [0, 5] k (fun kq v0 v5 w' => ∃ (x0_1 : Int) (x5_1 : Int), v0 = .int .u32 x0_1 ∧ v5 = .int .i64 x5_1 ∧ Aside0 (transeptref02_turn.l0 kq x0_1 x5_1 = some r) ∧ Aside0 (kq ≤ k) ∧ Drawn0 w w')
 case atStart => exact ⟨(Go.bits .xor .u32 a0 ((a1) % 4294967296)), (0), (by first | rfl | (simp; done) | (simp [*]; done)), (by first | rfl | (simp; done) | (simp [*]; done)), H', ⟨Nat.le_refl _⟩, by repeat (first | exact Drawn0.refl _ | apply Drawn0.step)⟩
 case round =>
  clear H'
  try clear c1
  try clear p2
  obtain ⟨x0_1, x5_1, rfl, rfl, HA, HK1, ⟨m1, rfl⟩⟩ := hrel
  cases gk with
  | zero => exact absurd HA.out (by simp [transeptref02_turn.l0])
  | succ k1 =>
   have H := HA.out
   clear HA
   simp only [transeptref02_turn.l0] at H
   by_cases c3 : x5_1 < 8
   ·rw [if_pos c3] at H
    have c3b0 : decide (x5_1 < 8) = true := decide_eq_true c3
    clear c3
    by_cases c4 : (Go.bits .and .u32 x0_1 1) = 1
    ·rw [if_pos c4] at H
     have c4b0 : ((Go.bits .and .u32 x0_1 1) == 1) = true := beq_iff_eq.mpr c4
     have c4b1 : ((Go.bits .and .u32 x0_1 1) != 1) = false := bne_eq_false_iff_eq.mpr c4
     clear c4
     have H' := Aside0.mk H
     clear H
     go_wp2
     go_roundg k1
     case measure => have := HK1.out; omega
     case rel => exact ⟨(Go.bits .xor .u32 (x0_1 / 2) 2197175160), (wrap64 (x5_1 + 1)), (by first | rfl | (simp; done) | (simp [*]; done)), (by first | rfl | (simp; done) | (simp [*]; done)), H', ⟨by have := HK1.out; omega⟩, by repeat (first | exact Drawn0.refl _ | apply Drawn0.step)⟩
    ·rw [if_neg c4] at H
     have c4b0 : ((Go.bits .and .u32 x0_1 1) == 1) = false := beq_eq_false_iff_ne.mpr c4
     have c4b1 : ((Go.bits .and .u32 x0_1 1) != 1) = true := bne_iff_ne.mpr c4
     have H' := Aside0.mk H
     clear H
     go_wp2
     go_roundg k1
     case measure => have := HK1.out; omega
     case rel => exact ⟨(x0_1 / 2), (wrap64 (x5_1 + 1)), (by first | rfl | (simp; done) | (simp [*]; done)), (by first | rfl | (simp; done) | (simp [*]; done)), H', ⟨by have := HK1.out; omega⟩, by repeat (first | exact Drawn0.refl _ | apply Drawn0.step)⟩
   ·rw [if_neg c3] at H
    have c3b0 : decide (x5_1 < 8) = false := decide_eq_false c3
    clear c3
    obtain rfl := Option.some.inj H
    go_wp2
    go_ret
    exact ⟨by first | rfl | (simp; done) | (simp [*]; done), by repeat (first | exact Drawn0.refl _ | apply Drawn0.step)⟩
end Go.Proofs.Ytooabchnbmnchaa.Q
namespace Go.Proofs.Ytooabchnbmnchaa.Q
open Go.RowKit Go.Proofs.YtooabchnbmnchaaW.PrintWords Go.Proofs.YtooabchnbmnchaaW.PrintLast Go.Proofs.YtooabchnbmnchaaW.PrintMore
attribute [local go_sem] max2_int min2_int max_two min_two max_three min_three max_four min_four binOp_string_leq binOp_string_geq binOp_string_gtr   -- for this text's walks alone
set_option linter.unusedVariables false
set_option linter.unusedSimpArgs false
def transeptref02_Extend.l0 : Nat → Int → List Int → Int → Option (Int)
 | 0, _, _, _ => none
 | k + 1, x0, x1, x5 => if x5 < (x1.length : Int) then (if 0 ≤ x5 then ((transeptref02_turn.f k x0 (rd x1 x5)).bind fun t219 => (transeptref02_Extend.l0 k t219 x1 (wrap64 (x5 + 1)))) else (none)) else (some (Go.bits .xor .u32 4294967295 x0))
def transeptref02_Extend.f (k : Nat) (a0 : Int) (l1 : List Int) : Option (Int) := transeptref02_Extend.l0 k (Go.bits .xor .u32 4294967295 a0) l1 0
theorem transeptref02_Extend.mono_l : ∀ k, (∀ y0 y1 y2, LeO (transeptref02_Extend.l0 k y0 y1 y2) (transeptref02_Extend.l0 (k + 1) y0 y1 y2))
 | 0 => fun _ _ _ r h => by simp [transeptref02_Extend.l0] at h
 | k + 1 => by
  have ih0 := transeptref02_Extend.mono_l k
  ·intro y0 y1 y2
   unfold transeptref02_Extend.l0
   repeat' first
   | (with_reducible exact ih0 _ _ _)
   | (with_reducible exact transeptref02_turn.mono _ _ _)
   | (with_reducible exact LeO.refl _)
   | (with_reducible exact LeO.none _)
   | (with_reducible refine LeO.ite ?_ ?_)
   | (with_reducible refine LeO.bind ?_ (fun _ => ?_))
   | exact ih0 _ _ _
   | exact transeptref02_turn.mono _ _ _
   | exact LeO.none _
   | refine LeO.ite ?_ ?_
   | refine LeO.bind ?_ (fun _ => ?_)
theorem transeptref02_Extend.mono : ∀ a0 a1 k, LeO (transeptref02_Extend.f k a0 a1) (transeptref02_Extend.f (k + 1) a0 a1) := by
 intro a0 a1 k
 have ih0 := transeptref02_Extend.mono_l k
 unfold transeptref02_Extend.f
 repeat' first
   | (with_reducible exact ih0 _ _ _)
   | (with_reducible exact transeptref02_turn.mono _ _ _)
   | (with_reducible exact LeO.refl _)
   | (with_reducible exact LeO.none _)
   | (with_reducible refine LeO.ite ?_ ?_)
   | (with_reducible refine LeO.bind ?_ (fun _ => ?_))
   | exact ih0 _ _ _
   | exact transeptref02_turn.mono _ _ _
   | exact LeO.none _
   | refine LeO.ite ?_ ?_
   | refine LeO.bind ?_ (fun _ => ?_)
set_option maxHeartbeats 8000000 in
set_option maxRecDepth 100000 in
theorem transeptref02_Extend.calls (k : Nat) (a0 : Int) (A1 : Option Addr) (c1 : Nat) (l1 : List Int) (r : Int) (w : World) (hr1 : Kd.C (Kd.int .u8) w A1 l1.length l1) (hc1 : l1.length ≤ c1) (h : transeptref02_Extend.f k a0 l1 = some r) :
  Calls Try.prog 107 #[.int .u32 a0, .slice A1 l1.length c1] w fun e w' => e = .returned (.int .u32 r) ∧ Drawn0 w w' := by
 have HR1 := Aside0.mk hr1
 have HC1 := Aside0.mk hc1
 clear hr1 hc1
 have H : (transeptref02_Extend.l0 k (Go.bits .xor .u32 4294967295 a0) l1 0) = some r := h
 clear h
 have H' := Aside0.mk H
 clear H
 go_enter Try.func107, Try.ntmps107
 go_wp2
 go_loopg [0, 5] k (fun kq v0 v5 w' => ∃ (x0_1 : Int) (x5_1 : Int), v0 = .int .u32 x0_1 ∧ v5 = .int .i64 x5_1 ∧ Aside0 (transeptref02_Extend.l0 kq x0_1 l1 x5_1 = some r) ∧ Aside0 (kq ≤ k) ∧ Drawn0 w w')
 case atStart => exact ⟨(Go.bits .xor .u32 4294967295 a0), (0), (by first | rfl | (simp; done) | (simp [*]; done)), (by first | rfl | (simp; done) | (simp [*]; done)), H', ⟨Nat.le_refl _⟩, by repeat (first | exact Drawn0.refl _ | apply Drawn0.step)⟩
 case round =>
  clear H'
  try clear c1
  try clear p2
  obtain ⟨x0_1, x5_1, rfl, rfl, HA, HK1, ⟨m1, rfl⟩⟩ := hrel
  cases gk with
  | zero => exact absurd HA.out (by simp [transeptref02_Extend.l0])
  | succ k1 =>
   have H := HA.out
   clear HA
   simp only [transeptref02_Extend.l0] at H
   by_cases c3 : x5_1 < (l1.length : Int)
   ·rw [if_pos c3] at H
    have c3b0 : decide (x5_1 < (l1.length : Int)) = true := decide_eq_true c3
    clear c3
    by_cases c4 : 0 ≤ x5_1
    ·rw [if_pos c4] at H
     have c4b0 : decide (0 ≤ x5_1) = true := decide_eq_true c4
     clear c4
     replace H := Option.bind_eq_some_iff.mp H
     obtain ⟨t219, A50, H⟩ := H
     replace H : (transeptref02_Extend.l0 k1 t219 l1 (wrap64 (x5_1 + 1))) = some r := H
     have A5 := Aside0.mk A50
     clear A50
     have H' := Aside0.mk H
     clear H
     have p218 : 0 ≤ (x5_1 : Int) := of_decide_eq_true (by first | (with_reducible assumption) | assumption)
     have q218 : x5_1 < (l1.length : Int) := of_decide_eq_true (by first | (with_reducible assumption) | assumption)
     obtain ⟨ad218, e218, hx218_0⟩ := Kd.at_int HR1.out x5_1 p218 q218
     cases e218
     replace p218 := eq_true p218
     replace q218 := eq_true q218
     go_wp2_with (first | ((with_reducible refine gate_callee (f := 109) rfl ?_); refine gL_ (some 19) Try.func109 #[.int .u32 x0_1, .int .u8 (rd l1 x5_1)] ?_; (with_reducible refine (transeptref02_turn.calls k1 x0_1 (rd l1 x5_1) t219 _ A5.out).mono ?_); rintro e w' ⟨rfl, ⟨nd, rfl⟩⟩; refine ⟨_, rfl, ?_⟩))
     go_roundg k1
     case measure => have := HK1.out; omega
     case rel => exact ⟨(t219), (wrap64 (x5_1 + 1)), (by first | rfl | (simp; done) | (simp [*]; done)), (by first | rfl | (simp; done) | (simp [*]; done)), H', ⟨by have := HK1.out; omega⟩, by repeat (first | exact Drawn0.refl _ | apply Drawn0.step)⟩
    ·rw [if_neg c4] at H
     exact absurd H (by simp)
   ·rw [if_neg c3] at H
    have c3b0 : decide (x5_1 < (l1.length : Int)) = false := decide_eq_false c3
    clear c3
    obtain rfl := Option.some.inj H
    go_wp2
    go_ret
    exact ⟨by first | rfl | (simp; done) | (simp [*]; done), by repeat (first | exact Drawn0.refl _ | apply Drawn0.step)⟩
end Go.Proofs.Ytooabchnbmnchaa.Q
namespace Go.Proofs.Ytooabchnbmnchaa.Q
open Go.RowKit Go.Proofs.YtooabchnbmnchaaW.PrintWords Go.Proofs.YtooabchnbmnchaaW.PrintLast Go.Proofs.YtooabchnbmnchaaW.PrintMore
attribute [local go_sem] max2_int min2_int max_two min_two max_three min_three max_four min_four binOp_string_leq binOp_string_geq binOp_string_gtr   -- for this text's walks alone
set_option linter.unusedVariables false
set_option linter.unusedSimpArgs false
def transeptref02_Sum.f (k : Nat) (l0 : List Int) : Option (Int) := (transeptref02_Extend.f k 0 l0).bind fun t220 => (some t220)
theorem transeptref02_Sum.mono : ∀ a0 k, LeO (transeptref02_Sum.f k a0) (transeptref02_Sum.f (k + 1) a0) := by
 intro a0 k
 unfold transeptref02_Sum.f
 repeat' first
   | (with_reducible exact transeptref02_Extend.mono _ _ _)
   | (with_reducible exact LeO.refl _)
   | (with_reducible exact LeO.none _)
   | (with_reducible refine LeO.ite ?_ ?_)
   | (with_reducible refine LeO.bind ?_ (fun _ => ?_))
   | exact transeptref02_Extend.mono _ _ _
   | exact LeO.none _
   | refine LeO.ite ?_ ?_
   | refine LeO.bind ?_ (fun _ => ?_)
set_option maxHeartbeats 8000000 in
set_option maxRecDepth 100000 in
theorem transeptref02_Sum.calls (k : Nat) (A0 : Option Addr) (c0 : Nat) (l0 : List Int) (r : Int) (w : World) (hr0 : Kd.C (Kd.int .u8) w A0 l0.length l0) (hc0 : l0.length ≤ c0) (h : transeptref02_Sum.f k l0 = some r) :
  Calls Try.prog 105 #[.slice A0 l0.length c0] w fun e w' => e = .returned (.int .u32 r) ∧ Drawn0 w w' := by
 have HR0 := Aside0.mk hr0
 have HC0 := Aside0.mk hc0
 clear hr0 hc0
 have H : ((transeptref02_Extend.f k 0 l0).bind fun t220 => (some t220)) = some r := h
 clear h
 replace H := Option.bind_eq_some_iff.mp H
 obtain ⟨t220, A20, H⟩ := H
 replace H : (some t220) = some r := H
 have A2 := Aside0.mk A20
 clear A20
 obtain rfl := Option.some.inj H
 go_enter Try.func105, Try.ntmps105
 go_wp2_with (first | ((with_reducible refine gate_callee (f := 107) rfl ?_); refine gL_ (some 4) Try.func107 #[.int .u32 0, .slice A0 l0.length c0] ?_; (with_reducible refine (transeptref02_Extend.calls k 0 _ _ l0 t220 _ ?_ ?_ A2.out).mono ?_); exact cO_ HR0.out; exact HC0.out; rintro e w' ⟨rfl, ⟨nd, rfl⟩⟩; refine ⟨_, rfl, ?_⟩))
 go_ret
 exact ⟨by first | rfl | (simp; done) | (simp [*]; done), by repeat (first | exact Drawn0.refl _ | apply Drawn0.step)⟩
end Go.Proofs.Ytooabchnbmnchaa.Q
