-- Laid by this session's own program (wip/tools) out of the translation; Lean checks it. Thinned, shortened and merged for this claim.
import Derived.Test.YtooabchnbmnchaaQ0
import Derived.Test.YtooabchnbmnchaaSq
import Derived.Test.YtooabchnbmnchaaQ16
import Derived.Test.YtooabchnbmnchaaQ22
namespace Go.Proofs.Ytooabchnbmnchaa.Q
open Go.RowKit Go.Proofs.YtooabchnbmnchaaW.PrintWords Go.Proofs.YtooabchnbmnchaaW.PrintLast Go.Proofs.YtooabchnbmnchaaW.PrintMore
attribute [local go_sem] max2_int min2_int max_two min_two max_three min_three max_four min_four binOp_string_leq binOp_string_geq binOp_string_gtr   -- for this text's walks alone
set_option linter.unusedVariables false
set_option linter.unusedSimpArgs false
section
def openSeg (limit next : Int) (segs : List S70) : List S70 :=
  if segs.length = 0 then segs ++ [⟨next, []⟩] else if limit ≤ ((rd_T70 segs ((segs.length : Int) - 1)).f1.length : Int) then segs ++ [⟨next, []⟩] else segs
theorem openSeg_pos (limit next : Int) (segs : List S70) : 0 < (openSeg limit next segs).length := by
  unfold openSeg; split
  · simp
  · split
    · simp
    · omega
def LastPost (g : Nat) (limit : Int) (v0 v2 : Value) (segs : List S70) (next : Int) (ok : Nat → Prop) (base : Nat) (w : World) (e : Ending) (w' : World) : Prop := ∃ (gs cap : Nat),
    e = .returned (.pointer (some ⟨gs, ((openSeg limit next segs).length - 1) * 2, none⟩)) ∧ w'.heap[g]? = some (.cells #[.slice (some ⟨gs, 0, none⟩) (openSeg limit next segs).length cap, .int .i64 next, v2] 61 (0, 0)) ∧
    Kd.S k70 70 w' base ok (.slice (some ⟨gs, 0, none⟩) (openSeg limit next segs).length cap) (openSeg limit next segs) ∧ Below 0 w w' ∧ Kept w w' (fun k => k = g ∨ some k = v0.ownBlock)
set_option maxHeartbeats 8000000 in
set_option maxRecDepth 100000 in
theorem wal_last.calls (g : Nat) (limit : Int) (v0 v2 : Value) (segs : List S70) (next : Int) (ok : Nat → Prop) (base : Nat) (w : World)
  (hg : w.heap[g]? = some (.cells #[v0, .int .i64 next, v2] 61 (0, 0))) (ho : Kd.S k70 70 w base ok v0 segs) (hfresh : ∀ k, w.heap.size ≤ k → ok k) (hbase : base ≤ w.heap.size) (hlen : segs.length < 4398046511104) :
  Calls Try.prog 79 #[.pointer (some ⟨g, 0, none⟩), .int .i64 limit] w fun e w' => LastPost g limit v0 v2 segs next ok base w e w' := by
  have hu61 := Try.underlying61
  have hu70 := Try.underlying70
  have BK1 := Aside0.mk hg
  have HO1 := Aside0.mk ho
  have HL := Aside0.mk hlen
  have HF := Aside0.mk hfresh
  have HBS := Aside0.mk hbase
  clear hg ho hlen hfresh hbase
  obtain ⟨A0, c0, rfl⟩ := Kd.S_slice HO1.out
  obtain ⟨hcz0, hcz1, hcz2, hfz0, hfz1, hfz2⟩ := cz3_ BK1
  by_cases hn : segs.length = 0
  · have c1b : ((segs.length : Int) == 0) = true := beq_iff_eq.mpr (by omega)
    have HN := Aside0.mk hn
    clear hn
    go_enter Try.func79, Try.ntmps79
    try go_wp2
    replace BK1 := Aside0.mk (blk_drew BK1.out)
    replace HO1 := Aside0.mk (Kd.S_drew HO1.out)
    have HBW := Aside0.mk (below_drew (Below.refl w.heap.size w))
    have HKW : Aside0 (Kept w w.drew (fun k => k = g ∨ some k = (.slice A0 segs.length c0 : Value).ownBlock)) := ⟨Kept.drew (Kept.refl _ _)⟩
    refine st_ (n := 15) (fun w' => w'.cell? ⟨g, 0, none⟩ = some (.slice A0 segs.length c0) ∧ w'.cell? ⟨g, 1, none⟩ = some (.int .i64 next)) [14] #[false, false, false, false, false, false, false, false, false, false, false, false, false, false, false] ⟨(blk_cell BK1.out 0).trans rfl, (blk_cell BK1.out 1).trans rfl⟩ (fun hHeld => ?_)
    refine tb_ (fun HT_ HW_ => ?_)
    have HZ : Aside0 (w.drew.heap.size = w.heap.size) := ⟨rfl⟩
    generalize w.drew = w1 at BK1 HO1 HBW HKW HZ hHeld ⊢
    refine pu_ 0 (some 27) HT_ ?_
    refine pu_ 1 (some 28) HT_ ?_
    refine pu_ 2 (some 29) HT_ ?_
    refine pu_ 3 (some 30) HT_ ?_
    refine pu_ 5 (some 32) HT_ ?_
    refine pu_ 6 (some 33) HT_ ?_
    refine pu_ 7 (some 34) HT_ ?_
    refine tk_ 4 (some 31) HT_ HW_ hHeld ?_
    refine tk_ 8 (some 35) HT_ HW_ hHeld ?_
    refine pu_ 9 (some 36) HT_ ?_
    refine on_ 10 (some 37) HT_ (fun K hK => ?_)
    refine value_ (w1 := ?_) (v := ?_) (by rfl) rfl ?_ ?_
    rotate_left 2
    · go_simp
      constructor
      · rfl
      · rfl
    refine hK.out _ _ ⟨(blk_cell (blk_alloc BK1.out _) 0).trans rfl, (blk_cell (blk_alloc BK1.out _) 1).trans rfl⟩ (fun hHeld => ?_)
    clear hK K
    refine norm_ (a' := ?_) ?_ ?_
    rotate_left
    · show Act.put _ (some 37) _ = _
      simp only [Act.put, List.setIfInBounds_toArray, List.set_cons_zero, List.set_cons_succ, i64_w, i32_w]
      rfl
    refine on_ 11 (some 38) HT_ (fun K hK => ?_)
    refine Kd.S_append_step k70 (w0 := w) base (by rfl) (.tmp 31) (.tmp 37) 59 70 (.agg #[(.int .i64 0), (.slice none 0 0)]) 32 rfl Try.underlying59 info70 rfl (by decide) (by omega) (.slice A0 segs.length c0) segs (⟨next, []⟩ : S70) [.int .i64 next, .slice none 0 0] ok (fun _ => False) rfl rfl ?aP (fun _ hk => hk.elim) ?aF ?aO ?aB ?aS ?aL ?_
    (case aP => exact k70_mkM _ _ _ (⟨next, []⟩ : S70) (Kd.R_nil _ _ _ _ _))
    (case aF => exact fun k hk => HF.out k (by rw [← HZ.out]; exact hk))
    (case aO => exact Kd.S_mono HO1.out (fun k hk => ⟨hk, fun h => h⟩))
    (case aB => exact HBW.out.mono HBS.out)
    (case aS => rw [HZ.out]; exact HBS.out)
    (case aL => have := HL.out; simp at this ⊢; try omega)
    intro v5 w5 ho hb hg hat
    obtain ⟨ys, hys2⟩ : ∃ ys, ys = segs ++ [(⟨next, []⟩ : S70)] := ⟨_, rfl⟩
    rw [← hys2] at ho
    have HYS := Aside0.mk hys2
    clear hys2
    have HS5 := Aside0.mk ho
    have HG5 := Aside0.mk hg
    have HB5 := Aside0.mk hb
    have BK5 := Aside0.mk (blk_grown BK1.out hg (Kd.S_ne HO1.out BK1.out (by decide)))
    refine hK.out _ _ ⟨(blk_cell BK5.out 0).trans rfl, (blk_cell BK5.out 1).trans rfl⟩ (fun hHeld => ?_)
    obtain ⟨A5, c5, rfl⟩ := Kd.S_slice HS5.out
    clear ho hb hg hat
    clear hK K
    refine norm_ (a' := ?_) ?_ ?_
    rotate_left
    · show Act.put _ (some 38) _ = _
      simp only [Act.put, List.setIfInBounds_toArray, List.set_cons_zero, List.set_cons_succ, i64_w, i32_w]
      rfl
    refine pu_ 12 (some 39) HT_ ?_
    refine pu_ 13 (some 40) HT_ ?_
    refine last_ (i := 14) (N := none) #[true, true, true, true, true, true, true, true, true, true, true, true, true, true, true] rfl rfl (one_of HT_.out (by kernel_rfl)) (by decide) (fun K hK => ?_)
    have hs6 := (blk_cell BK5.out 0)
    have hf6 := blk_frozen BK5.out 0
    refine skip_ (w1 := ?_) (by rfl) rfl ?_ ?_
    rotate_left
    · go_simp
      rfl
    refine hK.out _ _ ?_
    clear hK K
    refine done_ (done_of HT_.out (by kernel_rfl)) ?_
    clear HT_ HW_ hHeld hs6 hf6
    have HE : Aside0 (openSeg limit next segs = ys) := ⟨by rw [HYS.out]; unfold openSeg; rw [if_pos HN.out]⟩
    have BK7 : Aside0 ((w5.setCell ⟨g, 0, none⟩ (.slice A5 ys.length c5)).heap[g]? = some (.cells #[.slice A5 ys.length c5, .int .i64 next, v2] 61 (0, 0))) := ⟨blk_put BK5.out 0 _ rfl⟩
    have HS7 : Aside0 (Kd.S k70 70 (w5.setCell ⟨g, 0, none⟩ (.slice A5 ys.length c5)) base ok (.slice A5 ys.length c5) ys) := ⟨Kd.S_mono (Kd.S_far (p := ⟨g, 0, none⟩) (Kd.S_types HS5.out BK5.out (by decide)) (fun _ hk => hk.2) _) (fun _ hk => hk.1)⟩
    have HB7 : Aside0 (Below 0 w (w5.setCell ⟨g, 0, none⟩ (.slice A5 ys.length c5))) := ⟨(HB5.out.mono (Nat.zero_le _)).setCell (Nat.zero_le _) _⟩
    have HK7 : Aside0 (Kept w (w5.setCell ⟨g, 0, none⟩ (.slice A5 ys.length c5)) (fun k => k = g ∨ some k = (Value.slice A0 segs.length c0).ownBlock)) := ⟨Kept.setCell (Kept.of_grown HG5.out HKW.out (fun k h_ => .inl (.inr h_.symm))) (.inl (.inl rfl)) _⟩
    try go_wp2
    generalize (w5.setCell ⟨g, 0, none⟩ (.slice A5 ys.length c5)) = w7 at BK7 HS7 HB7 HK7 ⊢
    have hyl : 0 < ys.length := by rw [HYS.out]; simp
    obtain ⟨gs, cap, hv, _⟩ := Kd.R_form (Kd.S_R HS7.out) hyl
    injection hv with e1 e2 e3
    subst e1
    subst e3
    obtain ⟨m, hm⟩ : ∃ m, ys.length = m + 1 := ⟨ys.length - 1, by omega⟩
    have hmx := Kd.C_max (Kd.R_reads' (Kd.S_R HS7.out)).2.2
    have hj : wrap64 ((ys.length : Int) - 1) = (m : Int) := by rw [wrap64_id (by omega) (by omega)]; omega
    have hjw : IntKind.i64.wrap ((ys.length : Int) - 1) = (m : Int) := (i64_w _).trans hj
    have p0 : (0 ≤ (m : Int)) = True := eq_true (by omega)
    have q0 : ((m : Int) < (ys.length : Int)) = True := eq_true (by omega)
    have p1 : decide (0 ≤ (m : Int)) = true := decide_eq_true (by omega)
    have q1 : decide ((m : Int) < (ys.length : Int)) = true := decide_eq_true (by omega)
    have HM := Aside0.mk hm
    clear hm hmx
    replace BK7 := Aside0.mk (blk_drew BK7.out)
    replace HS7 := Aside0.mk (Kd.S_drew HS7.out)
    replace HB7 := Aside0.mk (below_drew HB7.out)
    replace HK7 := Aside0.mk (Kept.drew HK7.out)
    refine st_ (n := 12) (fun w' => w'.cell? ⟨g, 0, none⟩ = some (.slice (some ⟨gs, 0, none⟩) ys.length c5)) [] #[false, false, false, false, false, false, false, false, false, false, false, false] ((blk_cell BK7.out 0).trans rfl) (fun hHeld => ?_)
    refine tb_ (fun HT_ HW_ => ?_)
    generalize w7.drew = w8 at BK7 HS7 HB7 HK7 hHeld ⊢
    refine pu_ 0 (some 41) HT_ ?_
    refine pu_ 1 (some 42) HT_ ?_
    refine pu_ 2 (some 43) HT_ ?_
    refine pu_ 4 (some 45) HT_ ?_
    refine pu_ 5 (some 46) HT_ ?_
    refine pu_ 6 (some 47) HT_ ?_
    refine tk_ 3 (some 44) HT_ HW_ hHeld ?_
    refine tk_ 7 (some 48) HT_ HW_ hHeld ?_
    refine pu_ 8 (some 49) HT_ ?_
    refine pu_ 9 (some 50) HT_ ?_
    refine pu_ 10 (some 51) HT_ ?_
    refine pu_ 11 (some 4) HT_ ?_
    refine done_ (done_of HT_.out (by kernel_rfl)) ?_
    try go_wp2
    go_ret
    unfold LastPost
    rw [HE.out]
    exact ⟨gs, c5, by have := HM.out; simp [hj, this], BK7.out, HS7.out, HB7.out, HK7.out⟩
  · have c1b : ((segs.length : Int) == 0) = false := beq_eq_false_iff_ne.mpr (by omega)
    obtain ⟨m0, hm0⟩ : ∃ m0, segs.length = m0 + 1 := ⟨segs.length - 1, by omega⟩
    have hj0 : wrap64 ((segs.length : Int) - 1) = (m0 : Int) := by have := HL.out; rw [wrap64_id (by omega) (by omega)]; omega
    have hjw0 : IntKind.i64.wrap ((segs.length : Int) - 1) = (m0 : Int) := (i64_w _).trans hj0
    obtain ⟨ad, A1, c1, e1, hx0, hx1, hl1, hi1⟩ := at_T70 (Kd.R_reads' (Kd.S_R HO1.out)).2.2 (m0 : Int) (by omega) (by omega)
    subst e1
    simp only [Int.toNat_natCast] at hx0 hx1
    have p2 : (0 ≤ (m0 : Int)) = True := eq_true (by omega)
    have q2 : ((m0 : Int) < (segs.length : Int)) = True := eq_true (by omega)
    have p3 : decide (0 ≤ (m0 : Int)) = true := decide_eq_true (by omega)
    have q3 : decide ((m0 : Int) < (segs.length : Int)) = true := decide_eq_true (by omega)
    have hrd : (segs.length : Int) - 1 = (m0 : Int) := by omega
    have HN := Aside0.mk hn
    have HRD := Aside0.mk hrd
    have HM0 := Aside0.mk hm0
    clear hl1 hi1 hn hrd hm0
    by_cases hc : limit ≤ ((rd_T70 segs (m0 : Int)).f1.length : Int)
    · have c2b : decide (limit ≤ ((rd_T70 segs (m0 : Int)).f1.length : Int)) = true := decide_eq_true hc
      have c2c : decide (((rd_T70 segs (m0 : Int)).f1.length : Int) ≥ limit) = true := decide_eq_true hc
      have HC := Aside0.mk hc
      clear hc
      go_enter Try.func79, Try.ntmps79
      try go_wp2
      replace BK1 := Aside0.mk (blk_drew BK1.out)
      replace HO1 := Aside0.mk (Kd.S_drew HO1.out)
      have HBW := Aside0.mk (below_drew (Below.refl w.heap.size w))
      have HKW : Aside0 (Kept w w.drew (fun k => k = g ∨ some k = (.slice (some ad) segs.length c0 : Value).ownBlock)) := ⟨Kept.drew (Kept.refl _ _)⟩
      refine st_ (n := 15) (fun w' => w'.cell? ⟨g, 0, none⟩ = some (.slice (some ad) segs.length c0) ∧ w'.cell? ⟨g, 1, none⟩ = some (.int .i64 next)) [14] #[false, false, false, false, false, false, false, false, false, false, false, false, false, false, false] ⟨(blk_cell BK1.out 0).trans rfl, (blk_cell BK1.out 1).trans rfl⟩ (fun hHeld => ?_)
      refine tb_ (fun HT_ HW_ => ?_)
      have HZ : Aside0 (w.drew.heap.size = w.heap.size) := ⟨rfl⟩
      generalize w.drew = w1 at BK1 HO1 HBW HKW HZ hHeld ⊢
      refine pu_ 0 (some 27) HT_ ?_
      refine pu_ 1 (some 28) HT_ ?_
      refine pu_ 2 (some 29) HT_ ?_
      refine pu_ 3 (some 30) HT_ ?_
      refine pu_ 5 (some 32) HT_ ?_
      refine pu_ 6 (some 33) HT_ ?_
      refine pu_ 7 (some 34) HT_ ?_
      refine tk_ 4 (some 31) HT_ HW_ hHeld ?_
      refine tk_ 8 (some 35) HT_ HW_ hHeld ?_
      refine pu_ 9 (some 36) HT_ ?_
      refine on_ 10 (some 37) HT_ (fun K hK => ?_)
      refine value_ (w1 := ?_) (v := ?_) (by rfl) rfl ?_ ?_
      rotate_left 2
      · go_simp
        constructor
        · rfl
        · rfl
      refine hK.out _ _ ⟨(blk_cell (blk_alloc BK1.out _) 0).trans rfl, (blk_cell (blk_alloc BK1.out _) 1).trans rfl⟩ (fun hHeld => ?_)
      clear hK K
      refine norm_ (a' := ?_) ?_ ?_
      rotate_left
      · show Act.put _ (some 37) _ = _
        simp only [Act.put, List.setIfInBounds_toArray, List.set_cons_zero, List.set_cons_succ, i64_w, i32_w]
        rfl
      refine on_ 11 (some 38) HT_ (fun K hK => ?_)
      refine Kd.S_append_step k70 (w0 := w) base (by rfl) (.tmp 31) (.tmp 37) 59 70 (.agg #[(.int .i64 0), (.slice none 0 0)]) 32 rfl Try.underlying59 info70 rfl (by decide) (by omega) (.slice (some ad) segs.length c0) segs (⟨next, []⟩ : S70) [.int .i64 next, .slice none 0 0] ok (fun _ => False) rfl rfl ?aP (fun _ hk => hk.elim) ?aF ?aO ?aB ?aS ?aL ?_
      (case aP => exact k70_mkM _ _ _ (⟨next, []⟩ : S70) (Kd.R_nil _ _ _ _ _))
      (case aF => exact fun k hk => HF.out k (by rw [← HZ.out]; exact hk))
      (case aO => exact Kd.S_mono HO1.out (fun k hk => ⟨hk, fun h => h⟩))
      (case aB => exact HBW.out.mono HBS.out)
      (case aS => rw [HZ.out]; exact HBS.out)
      (case aL => have := HL.out; simp at this ⊢; try omega)
      intro v5 w5 ho hb hg hat
      obtain ⟨ys, hys2⟩ : ∃ ys, ys = segs ++ [(⟨next, []⟩ : S70)] := ⟨_, rfl⟩
      rw [← hys2] at ho
      have HYS := Aside0.mk hys2
      clear hys2
      have HS5 := Aside0.mk ho
      have HG5 := Aside0.mk hg
      have HB5 := Aside0.mk hb
      have BK5 := Aside0.mk (blk_grown BK1.out hg (Kd.S_ne HO1.out BK1.out (by decide)))
      refine hK.out _ _ ⟨(blk_cell BK5.out 0).trans rfl, (blk_cell BK5.out 1).trans rfl⟩ (fun hHeld => ?_)
      obtain ⟨A5, c5, rfl⟩ := Kd.S_slice HS5.out
      clear ho hb hg hat
      clear hK K
      refine norm_ (a' := ?_) ?_ ?_
      rotate_left
      · show Act.put _ (some 38) _ = _
        simp only [Act.put, List.setIfInBounds_toArray, List.set_cons_zero, List.set_cons_succ, i64_w, i32_w]
        rfl
      refine pu_ 12 (some 39) HT_ ?_
      refine pu_ 13 (some 40) HT_ ?_
      refine last_ (i := 14) (N := none) #[true, true, true, true, true, true, true, true, true, true, true, true, true, true, true] rfl rfl (one_of HT_.out (by kernel_rfl)) (by decide) (fun K hK => ?_)
      have hs6 := (blk_cell BK5.out 0)
      have hf6 := blk_frozen BK5.out 0
      refine skip_ (w1 := ?_) (by rfl) rfl ?_ ?_
      rotate_left
      · go_simp
        rfl
      refine hK.out _ _ ?_
      clear hK K
      refine done_ (done_of HT_.out (by kernel_rfl)) ?_
      clear HT_ HW_ hHeld hs6 hf6
      have HE : Aside0 (openSeg limit next segs = ys) := ⟨by rw [HYS.out]; unfold openSeg; rw [if_neg HN.out, HRD.out, if_pos HC.out]⟩
      have BK7 : Aside0 ((w5.setCell ⟨g, 0, none⟩ (.slice A5 ys.length c5)).heap[g]? = some (.cells #[.slice A5 ys.length c5, .int .i64 next, v2] 61 (0, 0))) := ⟨blk_put BK5.out 0 _ rfl⟩
      have HS7 : Aside0 (Kd.S k70 70 (w5.setCell ⟨g, 0, none⟩ (.slice A5 ys.length c5)) base ok (.slice A5 ys.length c5) ys) := ⟨Kd.S_mono (Kd.S_far (p := ⟨g, 0, none⟩) (Kd.S_types HS5.out BK5.out (by decide)) (fun _ hk => hk.2) _) (fun _ hk => hk.1)⟩
      have HB7 : Aside0 (Below 0 w (w5.setCell ⟨g, 0, none⟩ (.slice A5 ys.length c5))) := ⟨(HB5.out.mono (Nat.zero_le _)).setCell (Nat.zero_le _) _⟩
      have HK7 : Aside0 (Kept w (w5.setCell ⟨g, 0, none⟩ (.slice A5 ys.length c5)) (fun k => k = g ∨ some k = (Value.slice (some ad) segs.length c0).ownBlock)) := ⟨Kept.setCell (Kept.of_grown HG5.out HKW.out (fun k h_ => .inl (.inr h_.symm))) (.inl (.inl rfl)) _⟩
      try go_wp2
      generalize (w5.setCell ⟨g, 0, none⟩ (.slice A5 ys.length c5)) = w7 at BK7 HS7 HB7 HK7 ⊢
      have hyl : 0 < ys.length := by rw [HYS.out]; simp
      obtain ⟨gs, cap, hv, _⟩ := Kd.R_form (Kd.S_R HS7.out) hyl
      injection hv with e1 e2 e3
      subst e1
      subst e3
      obtain ⟨m, hm⟩ : ∃ m, ys.length = m + 1 := ⟨ys.length - 1, by omega⟩
      have hmx := Kd.C_max (Kd.R_reads' (Kd.S_R HS7.out)).2.2
      have hj : wrap64 ((ys.length : Int) - 1) = (m : Int) := by rw [wrap64_id (by omega) (by omega)]; omega
      have hjw : IntKind.i64.wrap ((ys.length : Int) - 1) = (m : Int) := (i64_w _).trans hj
      have p0 : (0 ≤ (m : Int)) = True := eq_true (by omega)
      have q0 : ((m : Int) < (ys.length : Int)) = True := eq_true (by omega)
      have p1 : decide (0 ≤ (m : Int)) = true := decide_eq_true (by omega)
      have q1 : decide ((m : Int) < (ys.length : Int)) = true := decide_eq_true (by omega)
      have HM := Aside0.mk hm
      clear hm hmx
      replace BK7 := Aside0.mk (blk_drew BK7.out)
      replace HS7 := Aside0.mk (Kd.S_drew HS7.out)
      replace HB7 := Aside0.mk (below_drew HB7.out)
      replace HK7 := Aside0.mk (Kept.drew HK7.out)
      refine st_ (n := 12) (fun w' => w'.cell? ⟨g, 0, none⟩ = some (.slice (some ⟨gs, 0, none⟩) ys.length c5)) [] #[false, false, false, false, false, false, false, false, false, false, false, false] ((blk_cell BK7.out 0).trans rfl) (fun hHeld => ?_)
      refine tb_ (fun HT_ HW_ => ?_)
      generalize w7.drew = w8 at BK7 HS7 HB7 HK7 hHeld ⊢
      refine pu_ 0 (some 41) HT_ ?_
      refine pu_ 1 (some 42) HT_ ?_
      refine pu_ 2 (some 43) HT_ ?_
      refine pu_ 4 (some 45) HT_ ?_
      refine pu_ 5 (some 46) HT_ ?_
      refine pu_ 6 (some 47) HT_ ?_
      refine tk_ 3 (some 44) HT_ HW_ hHeld ?_
      refine tk_ 7 (some 48) HT_ HW_ hHeld ?_
      refine pu_ 8 (some 49) HT_ ?_
      refine pu_ 9 (some 50) HT_ ?_
      refine pu_ 10 (some 51) HT_ ?_
      refine pu_ 11 (some 4) HT_ ?_
      refine done_ (done_of HT_.out (by kernel_rfl)) ?_
      try go_wp2
      go_ret
      unfold LastPost
      rw [HE.out]
      exact ⟨gs, c5, by have := HM.out; simp [hj, this], BK7.out, HS7.out, HB7.out, HK7.out⟩
    · have c2b : decide (limit ≤ ((rd_T70 segs (m0 : Int)).f1.length : Int)) = false := decide_eq_false hc
      have c2c : decide (((rd_T70 segs (m0 : Int)).f1.length : Int) ≥ limit) = false := decide_eq_false hc
      have HC := Aside0.mk hc
      clear hc
      have hys : openSeg limit next segs = segs := by unfold openSeg; rw [if_neg HN.out, HRD.out, if_neg HC.out]
      go_enter Try.func79, Try.ntmps79
      try go_wp2
      clear hx0 hx1
      obtain ⟨ys, hys2⟩ : ∃ ys, ys = segs := ⟨_, rfl⟩
      have HE : Aside0 (openSeg limit next segs = ys) := ⟨by rw [hys2]; exact hys⟩
      subst hys2
      clear hys
      have hyl : 0 < ys.length := by rw [HM0.out]; omega
      have BK7 := BK1
      have HS7 := HO1
      have HB7 := Aside0.mk (Below.refl 0 w)
      have HK7 : Aside0 (Kept w w (fun k => k = g ∨ some k = (Value.slice (some ad) ys.length c0).ownBlock)) := ⟨Kept.refl _ _⟩
      obtain ⟨gs, cap, hv, _⟩ := Kd.R_form (Kd.S_R HS7.out) hyl
      injection hv with e1 e2 e3
      injection e1 with e1
      subst e1
      subst e3
      obtain ⟨m, hm⟩ : ∃ m, ys.length = m + 1 := ⟨ys.length - 1, by omega⟩
      have hmx := Kd.C_max (Kd.R_reads' (Kd.S_R HS7.out)).2.2
      have hj : wrap64 ((ys.length : Int) - 1) = (m : Int) := by rw [wrap64_id (by omega) (by omega)]; omega
      have hjw : IntKind.i64.wrap ((ys.length : Int) - 1) = (m : Int) := (i64_w _).trans hj
      have p0 : (0 ≤ (m : Int)) = True := eq_true (by omega)
      have q0 : ((m : Int) < (ys.length : Int)) = True := eq_true (by omega)
      have p1 : decide (0 ≤ (m : Int)) = true := decide_eq_true (by omega)
      have q1 : decide ((m : Int) < (ys.length : Int)) = true := decide_eq_true (by omega)
      have HM := Aside0.mk hm
      clear hm hmx
      replace BK7 := Aside0.mk (blk_drew BK7.out)
      replace HS7 := Aside0.mk (Kd.S_drew HS7.out)
      replace HB7 := Aside0.mk (below_drew HB7.out)
      replace HK7 := Aside0.mk (Kept.drew HK7.out)
      refine st_ (n := 12) (fun w' => w'.cell? ⟨g, 0, none⟩ = some (.slice (some ⟨gs, 0, none⟩) ys.length c0)) [] #[false, false, false, false, false, false, false, false, false, false, false, false] ((blk_cell BK7.out 0).trans rfl) (fun hHeld => ?_)
      refine tb_ (fun HT_ HW_ => ?_)
      generalize w.drew = w8 at BK7 HS7 HB7 HK7 hHeld ⊢
      refine pu_ 0 (some 41) HT_ ?_
      refine pu_ 1 (some 42) HT_ ?_
      refine pu_ 2 (some 43) HT_ ?_
      refine pu_ 4 (some 45) HT_ ?_
      refine pu_ 5 (some 46) HT_ ?_
      refine pu_ 6 (some 47) HT_ ?_
      refine tk_ 3 (some 44) HT_ HW_ hHeld ?_
      refine tk_ 7 (some 48) HT_ HW_ hHeld ?_
      refine pu_ 8 (some 49) HT_ ?_
      refine pu_ 9 (some 50) HT_ ?_
      refine pu_ 10 (some 51) HT_ ?_
      refine pu_ 11 (some 4) HT_ ?_
      refine done_ (done_of HT_.out (by kernel_rfl)) ?_
      try go_wp2
      go_ret
      unfold LastPost
      rw [HE.out]
      exact ⟨gs, c0, by have := HM.out; simp [hj, this], BK7.out, HS7.out, HB7.out, HK7.out⟩
end
section
def lastData (segs : List S70) : List Int := (segs.getD (segs.length - 1) ⟨0, []⟩).f1
def putLast (segs : List S70) (d : List Int) : List S70 := segs.set (segs.length - 1) ⟨(segs.getD (segs.length - 1) ⟨0, []⟩).f0, d⟩
def wal_Flush.l0 : List (List Int) → Int → List S70 → Int → Option (List S70 × Int × List (List Int) × Int)
  | [], _, segs, next => some (segs, next, [], 0)
  | b :: bs, limit, segs, next => if segs.length < 4398046511104 then
      (frames_Seal.f 1 b).bind fun x =>
        if (lastData (openSeg limit next segs)).length + x.1.length < 140737488355328 then
          (if wrap64 (next + 1) > 1099511627776 then some ([], 0, [], 51)
           else if ((putLast (openSeg limit next segs) (lastData (openSeg limit next segs) ++ x.1)).length : Int) > 4096 then some ([], 0, [], 51)
           else wal_Flush.l0 bs limit (putLast (openSeg limit next segs) (lastData (openSeg limit next segs) ++ x.1)) (wrap64 (next + 1)))
        else none
    else none
def wal_Flush.f (k : Nat) (l0_0 : List S70) (a0_1 : Int) (l0_2 : List (List Int)) (a1 : Int) : Option (List S70 × Int × List (List Int) × Int) :=
  (wal_own.f k l0_0 a0_1 l0_2).bind fun o => if o.2.2.2 = 0 then (if a1 < 1 then some ([], 0, [], 4) else if a1 > 1048576 then some ([], 0, [], 4) else wal_Flush.l0 o.2.2.1 a1 o.1 o.2.1) else some ([], 0, [], o.2.2.2)
theorem wal_Flush.mono : ∀ a0 a1 a2 a3 k, LeO (wal_Flush.f k a0 a1 a2 a3) (wal_Flush.f (k + 1) a0 a1 a2 a3) := by
  intro a0 a1 a2 a3 k
  unfold wal_Flush.f
  exact LeO.bind (wal_own.mono _ _ _ _) (fun _ => LeO.refl _)
theorem Below.of_kept {B : Nat} {w0 w w' : World} (h : Below B w0 w) (h0 : Below 0 w w') {S : Nat → Prop} (hk : Kept w w' S) (hB : B ≤ w.heap.size) (hS : ∀ k, S k → B ≤ k) : Below B w0 w' :=
  ⟨h0.os.trans h.os, h0.tape.trans h.tape, h0.output.trans h.output, Nat.le_trans h.size hk.1, fun k hlt => (hk.2 k (Nat.lt_of_lt_of_le hlt hB) (fun hs => by have := hS k hs; omega)).trans (h.block k hlt)⟩
structure Fl (w : World) (m g4 g6 : Nat) (wv : Value) (wl : List (List Int)) (wr : World) (v0 : Value) (segs : List S70) (next : Int) : Prop where
  b4 : wr.heap[g4]? = some (.cells #[.slice none 0 0, .int .i64 0, .slice none 0 0] 61 (0, 0))
  b6 : wr.heap[g6]? = some (.cells #[v0, .int .i64 next, wv] 61 (0, 0))
  hs : Kd.S k70 70 wr w.heap.size (fun k => m ≤ k) v0 segs
  hw : Kd.S (Kd.slice 5 (Kd.int .u8)) 26 wr w.heap.size (fun k => k < m) wv wl
  hb : Below w.heap.size w wr
  hm : m ≤ wr.heap.size
theorem Fl.last {w : World} {m g4 g6 : Nat} {wv : Value} {wl : List (List Int)} {wr : World} {v0 : Value} {segs : List S70} {next : Int} (h : Fl w m g4 g6 wv wl wr v0 segs next) (h46 : g4 ≠ g6) (hg6 : w.heap.size ≤ g6)
    {limit : Int} {e : Ending} {w' : World} (hp : LastPost g6 limit v0 wv segs next (fun k => m ≤ k) w.heap.size wr e w') :
    ∃ gs cap, e = .returned (.pointer (some ⟨gs, ((openSeg limit next segs).length - 1) * 2, none⟩)) ∧ Fl w m g4 g6 wv wl w' (.slice (some ⟨gs, 0, none⟩) (openSeg limit next segs).length cap) (openSeg limit next segs) next ∧ Below 0 wr w' ∧ Kept wr w' (fun k => k = g6 ∨ some k = v0.ownBlock) := by
  obtain ⟨gs, cap, he, hg, hs, h0, hk⟩ := hp
  have hn4 : ¬ (g4 = g6 ∨ some g4 = v0.ownBlock) := fun hh => hh.elim h46 (Kd.S_ne h.hs h.b4 (by decide))
  refine ⟨gs, cap, he, ⟨(hk.2 g4 (blk_lt h.b4) hn4).trans h.b4, hg, hs, ?_, ?_, Nat.le_trans h.hm hk.1⟩, h0, hk⟩
  · refine Kd.S_mono (Kd.S_step (Kd.S_types h.hw h.b6 (by decide)) (fun k hk1 hlt => hk.2 k hlt (fun hh => hh.elim hk1.2 (fun he => ?_)))) (fun _ hk => hk.1)
    have := (Kd.S_R h.hs).1 k he.symm
    exact absurd hk1.1 (by omega)
  · exact Below.of_kept h.hb h0 hk h.hb.size (fun k hh => hh.elim (fun he => he ▸ hg6) (fun he => Kd.S_base h.hs k he.symm))
theorem Fl.below {w : World} {m g4 g6 : Nat} {wv : Value} {wl : List (List Int)} {wr w2 : World} {v0 : Value} {segs : List S70} {next : Int} (h : Fl w m g4 g6 wv wl wr v0 segs next) (hb : Below wr.heap.size wr w2) : Fl w m g4 g6 wv wl w2 v0 segs next :=
  ⟨blk_below h.b4 hb, blk_below h.b6 hb, Kd.S_below h.hs hb, Kd.S_below h.hw hb, below_step h.hb hb, Nat.le_trans h.hm hb.size⟩
theorem Fl.put {w : World} {m g4 g6 gs n cap : Nat} {wv : Value} {wl : List (List Int)} {w4 w5 w6 : World} {os os' : List S70} {next : Int} (h : Fl w m g4 g6 wv wl w4 (.slice (some ⟨gs, 0, none⟩) n cap) os next) {row : Option Nat}
    (hg : w4.grownBy w5 row) (hrow : ∀ k, row = some k → m ≤ k ∧ ∃ cells, w4.heap[k]? = some (.cells cells 5 (0, 0))) (hg2 : w5.grownBy w6 (some gs)) (hs : Kd.S k70 70 w6 w.heap.size (fun k => m ≤ k) (.slice (some ⟨gs, 0, none⟩) n cap) os')
    (hb : Below w.heap.size w w6) : Fl w m g4 g6 wv wl w6 (.slice (some ⟨gs, 0, none⟩) n cap) os' next := by
  have hne : ∀ {g : Nat} {cs : Array Value}, w4.heap[g]? = some (.cells cs 61 (0, 0)) → some g ≠ row := by
    intro g cs hc he
    obtain ⟨_, cells, hc2⟩ := hrow g he.symm
    rw [hc] at hc2
    injection hc2 with hc2
    injection hc2 with _ hc2
    exact absurd hc2 (by decide)
  have hgs : m ≤ gs := (Kd.S_R h.hs).1 gs rfl
  have hne2 : ∀ {g : Nat} {cs : Array Value}, w4.heap[g]? = some (.cells cs 61 (0, 0)) → some g ≠ some gs := by
    intro g cs hc
    have := Kd.S_ne h.hs hc (by decide)
    simpa [Value.ownBlock] using this
  refine ⟨blk_grown (blk_grown h.b4 hg (hne h.b4)) hg2 (hne2 h.b4), blk_grown (blk_grown h.b6 hg (hne h.b6)) hg2 (hne2 h.b6), hs, ?_, hb, Nat.le_trans h.hm (Nat.le_trans hg.size hg2.size)⟩
  refine Kd.S_grown (Kd.S_grown h.hw hg (fun k hk he => ?_)) hg2 (fun k hk he => ?_)
  · have := (hrow k he.symm).1
    omega
  · injection he with he
    omega
theorem Fl.step {w : World} {m g4 g6 : Nat} {wv : Value} {wl : List (List Int)} {wr : World} {v0 : Value} {segs : List S70} {next : Int} (h : Fl w m g4 g6 wv wl wr v0 segs next) (h46 : g4 ≠ g6) (hg6 : w.heap.size ≤ g6) (next' : Int) : Fl w m g4 g6 wv wl (wr.setCell ⟨g6, 1, none⟩ (.int .i64 next')) v0 segs next' :=
  ⟨blk_far h.b4 h46 _, blk_put h.b6 1 _ rfl, Kd.S_set h.hs h.b6 (by decide) _ _, Kd.S_set h.hw h.b6 (by decide) _ _, below_set h.hb hg6, by rw [setCell_size']; exact h.hm⟩
theorem Fl.row {w : World} {m g4 g6 : Nat} {wv : Value} {wl : List (List Int)} {wr w3 : World} {v0 : Value} {segs : List S70} {next : Int} (h : Fl w m g4 g6 wv wl wr v0 segs next) (hk : Kept wr w3 (fun k => k = g6 ∨ some k = v0.ownBlock))
    {oki : Nat → Prop} (hoki : ∀ k, oki k → k < m) {base : Nat} {v : Value} {b : List Int} (hR : Kd.R (Kd.int .u8) 5 wr base oki v b) : Kd.R (Kd.int .u8) 5 w3 base oki v b := by
  refine Kd.R_mono (Kd.R_step (Kd.R_types hR h.b6 (by decide)) (fun k hk1 hlt => hk.2 k hlt (fun hh => hh.elim hk1.2 (fun he => ?_)))) (fun _ hk => hk.1)
  have := (Kd.S_R h.hs).1 k he.symm
  exact absurd (hoki k hk1.1) (by omega)
theorem Kd.H_widen' {α : Type} {d : Kd α} {e : Nat} {w : World} {base m : Nat} {oki : Nat → Prop} {v : Value} {xs : List α} {i : Int} {c : List Value} (h : Kd.H d e w base (fun k => m ≤ k) v xs i oki c) : Kd.H d e w base (fun k => m ≤ k) v xs i (fun k => oki k ∨ m ≤ k ∧ w.heap.size ≤ k) c := Kd.H_widen h
set_option maxHeartbeats 8000000 in
set_option maxRecDepth 100000 in
theorem wal_Flush.calls (k : Nat) (A0_0 : Option Addr) (c0_0 : Nat) (l0_0 : List S70) (a0_1 : Int) (A0_2 : Option Addr) (c0_2 : Nat) (l0_2 : List (List Int)) (a1 : Int) (r1 : List S70) (r2 : Int) (r3 : List (List Int)) (r4 : Int) (w : World)
    (hr0_0 : Kd.C k70 w A0_0 l0_0.length l0_0) (hc0_0 : l0_0.length ≤ c0_0) (hr0_2 : Kd.C (Kd.slice 5 (Kd.int .u8)) w A0_2 l0_2.length l0_2) (hc0_2 : l0_2.length ≤ c0_2) (h : wal_Flush.f k l0_0 a0_1 l0_2 a1 = some (r1, r2, r3, r4)) :
    Calls Try.prog 48 #[.agg #[.slice A0_0 l0_0.length c0_0, .int .i64 a0_1, .slice A0_2 l0_2.length c0_2], .int .i64 a1] w fun e w' => ∃ v0_ v2_ : Value, e = .returned (.tuple #[.agg #[v0_, .int .i64 r2, v2_], .int .i64 r4]) ∧ Kd.S k70 70 w' w.heap.size (fun _ => True) v0_ r1 ∧ Kd.S (Kd.slice 5 (Kd.int .u8)) 26 w' w.heap.size (fun _ => True) v2_ r3 ∧ Below w.heap.size w w' := by
  have hu61 := Try.underlying61
  have hu70 := Try.underlying70
  have HR0_0 := Aside0.mk hr0_0
  have HC0_0 := Aside0.mk hc0_0
  have HR0_2 := Aside0.mk hr0_2
  have HC0_2 := Aside0.mk hc0_2
  clear hr0_0 hc0_0 hr0_2 hc0_2
  have HB := Aside0.mk (Below.refl w.heap.size w)
  unfold wal_Flush.f at h
  replace h := Option.bind_eq_some_iff.1 h
  obtain ⟨⟨o1, o2, o3, o4⟩, ho, h⟩ := h
  have A1 := Aside0.mk ho
  have H := Aside0.mk h
  clear ho h
  have tests : ∃ b0 b1 b2 : Bool, (o4 != 0) = b0 ∧ decide (a1 < 1) = b1 ∧ decide (a1 > 1048576) = b2 := ⟨_, _, _, rfl, rfl, rfl⟩
  obtain ⟨b0, b1, b2, hb0, hb1, hb2⟩ := tests
  go_enter Try.func48, Try.ntmps48
  try go_wp2_with (first | ((with_reducible refine gate_dst (N := 2) rfl ?_); refine bx_ 2 #[.slice A0_0 l0_0.length c0_0, .int .i64 a0_1, .slice A0_2 l0_2.length c0_2] 61 ?_; intro g2 hg w2 hbox hb; have BK2 := Aside0.mk hbox; have GE2 := bG_ HB hg; replace HB := bS_ HB hb; clear hb hbox hg; obtain ⟨hy0, hy1, hy2, hz0, hz1, hz2⟩ := cz3_ BK2) | ((with_reducible refine gate_dst (N := 4) rfl ?_); refine bx_ 4 #[.slice none 0 0, .int .i64 0, .slice none 0 0] 61 ?_; intro g4 hg w4 hbox hb; have BK4 := Aside0.mk hbox; have GE4 := bG_ HB hg; replace HB := bS_ HB hb; have NB24 := nL_ BK2 hg; have NB42 := nG_ BK2 hg; replace BK2 := bK_ BK2 hb; clear hb hbox hg; have hnb24 := NB24.out; have hnb42 := NB42.out; clear hy0 hy1 hy2 hz0 hz1 hz2; obtain ⟨hy0, hy1, hy2, hz0, hz1, hz2⟩ := cz3_ BK2; obtain ⟨hy3, hy4, hy5, hz3, hz4, hz5⟩ := cz3_ BK4) | ((with_reducible refine gate_callee (f := 66) rfl ?_); refine gL_ (some 15) Try.func66 #[.agg #[.slice A0_0 l0_0.length c0_0, .int .i64 a0_1, .slice A0_2 l0_2.length c0_2]] ?_; (with_reducible refine (wal_own.calls2 k _ _ l0_0 a0_1 _ _ l0_2 o1 o2 o3 o4 _ ?_ ?_ ?_ ?_ A1.out).mono ?_); exact cB_ HR0_0 HB; exact HC0_0.out; exact cB_ HR0_2 HB; exact HC0_2.out; rintro e w5 ⟨m, v0, v2, rfl, hs, hw, hm, hb⟩; have HM := Aside0.mk hm; clear hm; refine ⟨_, rfl, ?_⟩; have HS := Aside0.mk (Kd.S_lower hs (bs_ HB)); have HW := Aside0.mk (Kd.S_lower hw (bs_ HB)); replace BK2 := bK_ BK2 hb; replace BK4 := bK_ BK4 hb; replace HB := bS_ HB hb; clear hs hw hb; obtain ⟨Aw, cw, ew⟩ := Kd.S_slice HW.out; subst ew; obtain ⟨As, cs, es⟩ := Kd.S_slice HS.out; subst es; clear hy0 hy1 hy2 hz0 hz1 hz2 hy3 hy4 hy5 hz3 hz4 hz5) | ((with_reducible refine gate_dst (N := 6) rfl ?_); refine bx_ 6 #[.slice none 0 0, .int .i64 0, .slice none 0 0] 61 ?_; intro g6 hg w6 hbox hb; have BK6 := Aside0.mk hbox; have GE6 := bG_ HB hg; replace HM := Aside0.mk (Nat.le_trans HM.out hb.size); replace HB := bS_ HB hb; have NB46 := nL_ BK4 hg; have NB64 := nG_ BK4 hg; have NB26 := nL_ BK2 hg; have NB62 := nG_ BK2 hg; replace BK4 := bK_ BK4 hb; replace HS := sB_ HS hb; replace HW := sB_ HW hb; replace BK2 := bK_ BK2 hb; clear hb hbox hg; have hnb46 := NB46.out; have hnb64 := NB64.out; have hnb26 := NB26.out; have hnb62 := NB62.out; obtain ⟨hy3, hy4, hy5, hz3, hz4, hz5⟩ := cz3_ BK4; obtain ⟨hy6, hy7, hy8, hz6, hz7, hz8⟩ := cz3_ BK6))
  · have h := H.out
    rw [show b0 = true by assumption] at hb0
    rw [if_neg (by simpa using hb0)] at h
    obtain ⟨rfl, rfl, rfl, rfl⟩ : [] = r1 ∧ 0 = r2 ∧ [] = r3 ∧ o4 = r4 := by simpa using h
    refine bodyPost_ret (results_ct rfl _ _ g4 61 #[.slice none 0 0, .int .i64 0, .slice none 0 0] (0, 0) _ rfl (blk_put (blk_put (blk_put (blk_far (blk_far (blk_far BK4.out NB46.out _) NB46.out _) NB46.out _) 0 _ rfl) 1 _ rfl) 2 _ rfl) Try.underlying61 rfl (by kernel_rfl)) rfl ?_
    exact ⟨_, _, fin_, Kd.S_nil _ _ _ _ _, Kd.S_nil _ _ _ _ _, bl_ HB⟩
  · have h := H.out
    rw [show b0 = false by assumption] at hb0
    rw [show b1 = true by assumption] at hb1
    rw [if_pos (by simpa using hb0), if_pos (by simpa using hb1)] at h
    obtain ⟨rfl, rfl, rfl, rfl⟩ : [] = r1 ∧ 0 = r2 ∧ [] = r3 ∧ 4 = r4 := by simpa using h
    refine bodyPost_ret (results_ct rfl _ _ g4 61 #[.slice none 0 0, .int .i64 0, .slice none 0 0] (0, 0) _ rfl (blk_put (blk_put (blk_put (blk_far (blk_far (blk_far BK4.out NB46.out _) NB46.out _) NB46.out _) 0 _ rfl) 1 _ rfl) 2 _ rfl) Try.underlying61 rfl (by kernel_rfl)) rfl ?_
    exact ⟨_, _, fin_, Kd.S_nil _ _ _ _ _, Kd.S_nil _ _ _ _ _, bl_ HB⟩
  · have h := H.out
    rw [show b0 = false by assumption] at hb0
    rw [show b1 = false from Bool.eq_false_iff.2 (by assumption)] at hb1
    rw [show b2 = true by assumption] at hb2
    rw [if_pos (by simpa using hb0), if_neg (by simpa using hb1), if_pos (by simpa using hb2)] at h
    obtain ⟨rfl, rfl, rfl, rfl⟩ : [] = r1 ∧ 0 = r2 ∧ [] = r3 ∧ 4 = r4 := by simpa using h
    refine bodyPost_ret (results_ct rfl _ _ g4 61 #[.slice none 0 0, .int .i64 0, .slice none 0 0] (0, 0) _ rfl (blk_put (blk_put (blk_put (blk_far (blk_far (blk_far BK4.out NB46.out _) NB46.out _) NB46.out _) 0 _ rfl) 1 _ rfl) 2 _ rfl) Try.underlying61 rfl (by kernel_rfl)) rfl ?_
    exact ⟨_, _, fin_, Kd.S_nil _ _ _ _ _, Kd.S_nil _ _ _ _ _, bl_ HB⟩
  have h := H.out
  clear H
  rw [show b0 = false by assumption] at hb0
  rw [show b1 = false from Bool.eq_false_iff.2 (by assumption)] at hb1
  rw [show b2 = false by assumption] at hb2
  rw [if_pos (by simpa using hb0), if_neg (by simpa using hb1), if_neg (by simpa using hb2)] at h
  have H := Aside0.mk h
  clear h hb0 hb1 hb2
  have FL : Aside0 (Fl w m g4 g6 (.slice Aw o3.length cw) o3 (((w6.setCell ⟨g6, 0, none⟩ (.slice As o1.length cs)).setCell ⟨g6, 1, none⟩ (.int .i64 o2)).setCell ⟨g6, 2, none⟩ (.slice Aw o3.length cw)) (.slice As o1.length cs) o1 o2) :=
    ⟨⟨blk_far (blk_far (blk_far BK4.out NB46.out _) NB46.out _) NB46.out _, blk_put (blk_put (blk_put BK6.out 0 _ rfl) 1 _ rfl) 2 _ rfl, sS_ HS BK6, sS_ HW BK6, bl_ HB, by simp only [setCell_size']; exact HM.out⟩⟩
  try go_wp2
  generalize ((w6.setCell ⟨g6, 0, none⟩ (.slice As o1.length cs)).setCell ⟨g6, 1, none⟩ (.int .i64 o2)).setCell ⟨g6, 2, none⟩ (.slice Aw o3.length cw) = w7 at FL ⊢
  clear BK2 BK4 BK6 HS HW HB HM hy3 hy4 hy5 hy6 hy7 hy8 hz3 hz4 hz5 hz6 hz7 hz8 NB24 NB42 NB26 NB62 hnb24 hnb42 hnb26 hnb62 hnb46 hnb64 GE2
  try go_wp2
  go_loopw [34] (fun v34 wr => ∃ (i : Nat) (segs : List S70) (next : Int) (v0 : Value), v34 = .int .i64 (i : Int) ∧ Aside0 (i ≤ o3.length) ∧ Aside0 (wal_Flush.l0 (o3.drop i) a1 segs next = some (r1, r2, r3, r4)) ∧ Aside0 (Fl w m g4 g6 (.slice Aw o3.length cw) o3 wr v0 segs next)) (fun v34 _ => o3.length - (intOf v34).toNat)
  case atStart => exact ⟨0, o1, o2, _, rfl, ⟨Nat.zero_le _⟩, H, FL⟩
  case round =>
    clear H FL
    obtain ⟨i, segs, next, v0, rfl, HI, H, FLr⟩ := hrel
    by_cases hi : i < o3.length
    · have c1b : decide ((i : Int) < (o3.length : Int)) = true := decide_eq_true (by omega)
      have c1c : ((i : Int) < (o3.length : Int)) = True := eq_true (by omega)
      have c1d : (0 ≤ (i : Int)) = True := eq_true (by omega)
      have h := H.out
      clear H
      rw [List.drop_eq_getElem_cons hi] at h
      simp only [wal_Flush.l0] at h
      by_cases hl : segs.length < 4398046511104
      case neg => rw [if_neg hl] at h; cases h
      rw [if_pos hl] at h
      have LM := Aside0.mk hl
      replace h := Option.bind_eq_some_iff.1 h
      obtain ⟨x, hx, h⟩ := h
      obtain ⟨os, hos⟩ : ∃ os, os = openSeg a1 next segs := ⟨_, rfl⟩
      rw [← hos] at h
      have HOS := Aside0.mk hos
      obtain ⟨ds, hds⟩ : ∃ ds, ds = lastData os ++ x.1 := ⟨_, rfl⟩
      rw [← hds] at h
      have HDS := Aside0.mk hds
      clear hds
      by_cases hl2 : (lastData os).length + x.1.length < 140737488355328
      case neg => rw [if_neg hl2] at h; cases h
      rw [if_pos hl2] at h
      have LM2 := Aside0.mk hl2
      have HPOS : Aside0 (0 < os.length) := ⟨by rw [hos]; exact openSeg_pos _ _ _⟩
      have H := Aside0.mk h
      obtain ⟨b, hbe⟩ : ∃ b, b = o3[i] := ⟨_, rfl⟩
      rw [← hbe] at hx
      have AX := Aside0.mk hx
      have HIL := Aside0.mk hi
      clear hl hl2 h hx hos
      obtain ⟨ga, ca, hva, _⟩ := Kd.R_form (Kd.S_R FLr.out.hw) (by have := HIL.out; omega)
      injection hva with e1 e2 e3
      subst e1
      subst e3
      obtain ⟨oki, c, hcl, hM, hcc, hfr, hoki, _⟩ := Kd.S_elem FLr.out.hw [] (i : Int) (by omega) (by have := HIL.out; omega)
      rw [Int.toNat_natCast, List.getD_eq_getElem?_getD, List.getElem?_eq_getElem HIL.out, Option.getD_some, ← hbe] at hM
      obtain ⟨vb, rfl, hRb⟩ := hM
      obtain ⟨Ab, cb, rfl⟩ := Kd.R_slice hRb
      have hcb : wr.cell? ⟨ga, i, none⟩ = some (.slice Ab b.length cb) := by have := hcc 0 _ rfl; simpa [Kd.slice] using this
      have HRb := Aside0.mk hRb
      have HOK := Aside0.mk hoki
      clear hbe hRb hoki hcl hcc hfr
      clear hi
      obtain ⟨b3, b4, hb3, hb4⟩ : ∃ b3 b4 : Bool, decide (wrap64 (next + 1) > 1099511627776) = b3 ∧ decide ((os.length : Int) > 4096) = b4 := ⟨_, _, rfl, rfl⟩
      have hb3w : decide (IntKind.i64.wrap (next + 1) > 1099511627776) = b3 := by rw [show IntKind.i64.wrap (next + 1) = wrap64 (next + 1) from i64_w _]; exact hb3
      try go_wp2_with (first | ((with_reducible refine gate_callee (f := 79) rfl ?_); refine gL_ (some 39) Try.func79 #[.pointer (some ⟨g6, 0, none⟩), .int .i64 a1] ?_; refine (wal_last.calls g6 a1 v0 _ segs next (fun k => m ≤ k) w.heap.size _ FLr.out.b6 FLr.out.hs (fun k hk => Nat.le_trans FLr.out.hm hk) FLr.out.hb.size LM.out).mono ?_; rintro e w3 hp; obtain ⟨gs, cp, rfl, hfl, h0, hk⟩ := FLr.out.last NB46.out GE6.out hp; refine ⟨_, rfl, ?_⟩; rw [← HOS.out] at hfl ⊢; have FL3 := Aside0.mk hfl; have HV := Aside0.mk (FLr.out.row hk (fun k h_ => (HOK.out k h_).1) HRb.out); clear hp hfl h0 hk) | ((with_reducible refine gate_callee (f := 80) rfl ?_); refine gL_ (some 43) Try.func80 #[.agg #[.int .u8 1, .slice Ab b.length cb]] ?_; refine (frames_Seal.calls 1 oki Ab cb b x.1 x.2 _ (Kd.R_V HV.out) AX.out).mono ?_; rintro e w4 ⟨vx, rfl, hox, hb⟩; refine ⟨_, rfl, ?_⟩; have FL4 := Aside0.mk (FL3.out.below hb); have HX := Aside0.mk (Kd.R_lower hox FL3.out.hb.size); clear hox hb; obtain ⟨Ax, cx, rfl⟩ := Kd.R_slice HX.out; obtain ⟨oki2, c2, hcl2, hM2, hcc2, hfr2, hoki2, hH2⟩ := Kd.S_elem FL4.out.hs ⟨0, []⟩ ((os.length - 1 : Nat) : Int) (by omega) (by have := HPOS.out; omega); rw [Int.toNat_natCast] at hM2; obtain ⟨c0, c1, rfl, hc0, vd, rfl, hRd⟩ := hM2; obtain rfl : c0 = [_] := hc0; obtain ⟨Ad, cd, rfl⟩ := Kd.R_slice hRd; have hcd : w4.cell? ⟨gs, (os.length - 1) * 2 + 1, none⟩ = some (.slice Ad (lastData os).length cd) := (by have := hcc2 1 _ rfl; rw [Int.toNat_natCast] at this; exact this); have HRd := Aside0.mk hRd; have HH2 := Aside0.mk hH2; have HOK2 := Aside0.mk hoki2; clear hcl2 hcc2 hfr2 hoki2 hH2 hRd) | ((with_reducible refine gate_dst (N := 52) rfl ?_); refine Kd.R_append_row (Value.int .u8) 0 (h1 := fun _ => rfl) (w0 := w) w.heap.size rfl (.tmp 50) (.tmp 51) 26 5 (.int .u8 0) 1 rfl Try.underlying26 (by kernel_rfl) rfl (by decide) (.slice Ad (lastData os).length cd) (lastData os) x.1 Ax x.1.length cx (fun k => oki2 k ∨ m ≤ k ∧ w4.heap.size ≤ k) rfl rfl ?aF ?aO ?aR ?aB ?aS ?aL ?_; (case aF => exact fun k hk => .inr ⟨Nat.le_trans FL4.out.hm hk, hk⟩); (case aO => exact Kd.R_mono HRd.out (fun _ hk => .inl hk)); (case aR => exact (Kd.R_reads' HX.out).2.2); (case aB => exact FL4.out.hb); (case aS => exact FL4.out.hb.size); (case aL => have := LM2.out; omega); intro v1 w5 ho hb hg hat; rw [← HDS.out] at ho; obtain ⟨A1', c1', rfl⟩ := Kd.R_slice ho; have HO5 := Aside0.mk ho; have HB5 := Aside0.mk hb; have HG5 := Aside0.mk hg; clear ho hb hg hat) | ((with_reducible refine gate_store (t := 26) (p := 54) rfl ?_); refine Kd.H_store k70 (g := gs) (n := os.length) (cap := cp) (o' := (os.length - 1) * 2 + 1) (w0 := w) w.heap.size rfl rfl 26 (.tmp 54) (.tmp 52) rfl 70 ((os.length - 1 : Nat) : Int) 1 os (⟨(os.getD (os.length - 1) ⟨0, []⟩).f0, ds⟩) (.slice A1' ds.length c1') [.slice A1' ds.length c1'] [.int .i64 (os.getD (os.length - 1) ⟨0, []⟩).f0, .slice Ad (lastData os).length cd] (fun k => m ≤ k) (fun k => oki2 k ∨ m ≤ k ∧ w4.heap.size ≤ k) (fun k => oki2 k ∨ m ≤ k ∧ w4.heap.size ≤ k) ?sA ?sO ?sX rfl (by kernel_rfl) (fun q hq => by rw [List.mem_singleton.1 hq]; rfl) ?sH (by omega) ?sI (Nat.le_refl 2) ?sM (fun _ h_ => h_) ?sB ?_; (case sA => rfl); (case sX => rfl); (case sO => rw [Int.toNat_natCast]; rfl); (case sH => exact Kd.H_grown (Kd.H_widen' HH2.out) HG5.out (fun k hk => .inl (HRd.out.1 k hk))); (case sI => have := HPOS.out; omega); (case sM => exact k70_mkM _ _ _ _ HO5.out); (case sB => exact HB5.out); intro w6 hs6 hb6 hg6; rw [Int.toNat_natCast] at hs6; have FL6 := Aside0.mk (FL4.out.put HG5.out (fun k hk => ⟨(HOK2.out k (HRd.out.1 k hk)).1, Kd.R_typed HRd.out k hk⟩) hg6 hs6 hb6); clear hs6 hb6 hg6; obtain ⟨hy3, hy4, hy5, hz3, hz4, hz5⟩ := cz3_ ⟨FL6.out.b4⟩; obtain ⟨hy6, hy7, hy8, hz6, hz7, hz8⟩ := cz3_ ⟨FL6.out.b6⟩; have hnb46 := NB46.out; have hnb64 := NB64.out))
      · have HB6 := Aside0.mk FL6.out.hb
        have h := H.out
        rw [show b3 = true by assumption] at hb3
        rw [if_pos (of_decide_eq_true hb3)] at h
        obtain ⟨rfl, rfl, rfl, rfl⟩ : [] = r1 ∧ 0 = r2 ∧ [] = r3 ∧ 51 = r4 := by simpa using h
        refine bodyPost_ret (results_ct rfl _ _ g4 61 #[.slice none 0 0, .int .i64 0, .slice none 0 0] (0, 0) _ rfl (blk_put (blk_put (blk_put (blk_far FL6.out.b4 NB46.out _) 0 _ rfl) 1 _ rfl) 2 _ rfl) Try.underlying61 rfl (by kernel_rfl)) rfl ?_
        exact ⟨_, _, fin_, Kd.S_nil _ _ _ _ _, Kd.S_nil _ _ _ _ _, bl_ HB6⟩
      · have HB6 := Aside0.mk FL6.out.hb
        have h := H.out
        rw [show b3 = false from Bool.eq_false_iff.2 (by assumption)] at hb3
        rw [show b4 = true by assumption] at hb4
        rw [if_neg (of_decide_eq_false hb3), if_pos (by unfold putLast; rw [List.length_set]; exact of_decide_eq_true hb4)] at h
        obtain ⟨rfl, rfl, rfl, rfl⟩ : [] = r1 ∧ 0 = r2 ∧ [] = r3 ∧ 51 = r4 := by simpa using h
        refine bodyPost_ret (results_ct rfl _ _ g4 61 #[.slice none 0 0, .int .i64 0, .slice none 0 0] (0, 0) _ rfl (blk_put (blk_put (blk_put (blk_far FL6.out.b4 NB46.out _) 0 _ rfl) 1 _ rfl) 2 _ rfl) Try.underlying61 rfl (by kernel_rfl)) rfl ?_
        exact ⟨_, _, fin_, Kd.S_nil _ _ _ _ _, Kd.S_nil _ _ _ _ _, bl_ HB6⟩
      · have h := H.out
        rw [show b3 = false from Bool.eq_false_iff.2 (by assumption)] at hb3
        rw [show b4 = false by assumption] at hb4
        rw [if_neg (of_decide_eq_false hb3), if_neg (by unfold putLast; rw [List.length_set]; exact of_decide_eq_false hb4)] at h
        have hmx := Kd.C_max (Kd.R_reads' (Kd.S_R FLr.out.hw)).2.2
        have hil := HIL.out
        have hw1 : wrap64 ((i : Int) + 1) = ((i + 1 : Nat) : Int) := by rw [wrap64_id (by omega) (by omega)]; omega
        refine ⟨⟨i + 1, putLast os ds, wrap64 (next + 1), _, by rw [hw1], ⟨by omega⟩, ⟨h⟩, ⟨FL6.out.step NB46.out GE6.out _⟩⟩, ?_⟩
        rw [hw1]
        simp [intOf]
        omega
    · have c1b : decide ((i : Int) < (o3.length : Int)) = false := decide_eq_false (by omega)
      have c1c : ((i : Int) < (o3.length : Int)) = False := eq_false (by omega)
      have h := H.out
      clear H
      have HIE : i = o3.length := by have := HI.out; omega
      rw [HIE, List.drop_length] at h
      simp only [wal_Flush.l0] at h
      obtain ⟨rfl, rfl, rfl, rfl⟩ : segs = r1 ∧ next = r2 ∧ [] = r3 ∧ 0 = r4 := by simpa using h
      clear h HIE hi
      obtain ⟨Av, cv, rfl⟩ := Kd.S_slice FLr.out.hs
      obtain ⟨hy3, hy4, hy5, hz3, hz4, hz5⟩ := cz3_ ⟨FLr.out.b4⟩
      obtain ⟨hy6, hy7, hy8, hz6, hz7, hz8⟩ := cz3_ ⟨FLr.out.b6⟩
      have hnb46 := NB46.out
      have hnb64 := NB64.out
      have HB6 := Aside0.mk FLr.out.hb
      have HS6 := Aside0.mk FLr.out.hs
      have B4 := Aside0.mk FLr.out.b4
      have B6 := Aside0.mk FLr.out.b6
      try go_wp2
      refine bodyPost_ret (results_ct rfl _ _ g4 61 #[.slice Av segs.length cv, .int .i64 next, .slice none 0 0] (0, 0) _ rfl (blk_put (blk_put (blk_put (blk_far B4.out NB46.out _) 0 _ rfl) 1 _ rfl) 2 _ rfl) Try.underlying61 rfl (by kernel_rfl)) rfl ?_
      exact ⟨_, _, fin_, Kd.S_mono (sS2_ HS6 B4 B6) (fun _ _ => trivial), Kd.S_nil _ _ _ _ _, bl_ HB6⟩
end
end Go.Proofs.Ytooabchnbmnchaa.Q
