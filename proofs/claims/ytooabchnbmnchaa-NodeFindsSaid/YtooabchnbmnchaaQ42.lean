-- Laid by this session's own program (wip/tools) out of the translation; Lean checks it. Thinned, shortened and merged for this claim.
import Derived.Test.YtooabchnbmnchaaQ0
import Derived.Test.YtooabchnbmnchaaSq
import Derived.Test.YtooabchnbmnchaaQ38
import Derived.Test.YtooabchnbmnchaaQ39
namespace Go.Proofs.Ytooabchnbmnchaa.Q
open Go.RowKit Go.Proofs.YtooabchnbmnchaaW.PrintWords Go.Proofs.YtooabchnbmnchaaW.PrintLast Go.Proofs.YtooabchnbmnchaaW.PrintMore
attribute [local go_sem] max2_int min2_int max_two min_two max_three min_three max_four min_four binOp_string_leq binOp_string_geq binOp_string_gtr   -- for this text's walks alone
set_option linter.unusedVariables false
set_option linter.unusedSimpArgs false
def transeptref09_Split.j0 : Nat → Int → Bool → Bool → List ByteArray → List ByteArray → List Int → Option (Bool × List ByteArray × List ByteArray × List Int × ByteArray × Bool × List ByteArray × List ByteArray × List Int × Int)
 | 0, _, _, _, _, _, _ => none
 | k + 1, x7, x29, x272000, x272001, x272002, x272003 => if x29 = true then (some (false, ([] : List ByteArray), ([] : List ByteArray), ([] : List Int), (⟨#[]⟩ : ByteArray), false, ([] : List ByteArray), ([] : List ByteArray), ([] : List Int), 3)) else (if x272000 = true then (if 0 ≤ (wrap64 (Int.tdiv x7 2)) then (if (wrap64 (Int.tdiv x7 2)) ≤ (x272001.length : Int) then ((transeptref09_strings.f (x272001.take ((wrap64 (Int.tdiv x7 2)) : Int).toNat)).bind fun t276 => (if (wrap64 (Int.tdiv x7 2)) ≤ (x272002.length : Int) then ((transeptref09_strings.f (x272002.take ((wrap64 (Int.tdiv x7 2)) : Int).toNat)).bind fun t280 => (if (wrap64 (Int.tdiv x7 2)) < (x272001.length : Int) then ((transeptref09_strings.f (x272001.drop ((wrap64 (Int.tdiv x7 2)) : Int).toNat)).bind fun t285 => ((transeptref09_strings.f (x272002.drop ((wrap64 (Int.tdiv x7 2)) : Int).toNat)).bind fun t289 => (some (true, t276, t280, ([] : List Int), rdOf ByteArray.empty x272001 (wrap64 (Int.tdiv x7 2)), true, t285, t289, ([] : List Int), 0)))) else (none))) else (none))) else (none)) else (none)) else (if 0 ≤ (wrap64 (Int.tdiv x7 2)) then (if (wrap64 (Int.tdiv x7 2)) ≤ (x272001.length : Int) then ((transeptref09_strings.f (x272001.take ((wrap64 (Int.tdiv x7 2)) : Int).toNat)).bind fun t293 => (if 0 ≤ (wrap64 ((wrap64 (Int.tdiv x7 2)) + 1)) then (if (wrap64 ((wrap64 (Int.tdiv x7 2)) + 1)) ≤ (x272003.length : Int) then ((transeptref09_ints.f (x272003.take ((wrap64 ((wrap64 (Int.tdiv x7 2)) + 1)) : Int).toNat)).bind fun t297 => (if (wrap64 (Int.tdiv x7 2)) < (x272001.length : Int) then (if (wrap64 ((wrap64 (Int.tdiv x7 2)) + 1)) ≤ (x272001.length : Int) then ((transeptref09_strings.f (x272001.drop ((wrap64 ((wrap64 (Int.tdiv x7 2)) + 1)) : Int).toNat)).bind fun t302 => ((transeptref09_ints.f (x272003.drop ((wrap64 ((wrap64 (Int.tdiv x7 2)) + 1)) : Int).toNat)).bind fun t306 => (some (false, t293, ([] : List ByteArray), t297, rdOf ByteArray.empty x272001 (wrap64 (Int.tdiv x7 2)), false, t302, ([] : List ByteArray), t306, 0)))) else (none)) else (none))) else (none)) else (none))) else (none)) else (none)))
def transeptref09_Split.f (k : Nat) (a0_0 : Bool) (l0_1 : List ByteArray) (l0_2 : List ByteArray) (l0_3 : List Int) : Option (Bool × List ByteArray × List ByteArray × List Int × ByteArray × Bool × List ByteArray × List ByteArray × List Int × Int) := (transeptref09_Check.f k a0_0 l0_1 l0_2 l0_3).bind fun t274 => (if t274 = 0 then (if (l0_1.length : Int) < 2 then (transeptref09_Split.j0 k (l0_1.length : Int) true a0_0 l0_1 l0_2 l0_3) else (if a0_0 = true then (transeptref09_Split.j0 k (l0_1.length : Int) false a0_0 l0_1 l0_2 l0_3) else (transeptref09_Split.j0 k (l0_1.length : Int) (decide ((l0_1.length : Int) < 3)) a0_0 l0_1 l0_2 l0_3))) else (some (false, ([] : List ByteArray), ([] : List ByteArray), ([] : List Int), (⟨#[]⟩ : ByteArray), false, ([] : List ByteArray), ([] : List ByteArray), ([] : List Int), t274)))
theorem transeptref09_Split.mono_l : ∀ k, (∀ y0 y1 y2 y3 y4 y5, LeO (transeptref09_Split.j0 k y0 y1 y2 y3 y4 y5) (transeptref09_Split.j0 (k + 1) y0 y1 y2 y3 y4 y5))
 | 0 => fun _ _ _ _ _ _ r h => by simp [transeptref09_Split.j0] at h
 | k + 1 => by
  have ih0 := transeptref09_Split.mono_l k
  ·intro y0 y1 y2 y3 y4 y5
   unfold transeptref09_Split.j0
   repeat' first
   | (with_reducible exact ih0 _ _ _ _ _ _)
   | (with_reducible exact transeptref09_Check.mono _ _ _ _ _)
   | (with_reducible exact LeO.refl _)
   | (with_reducible exact LeO.none _)
   | (with_reducible refine LeO.ite ?_ ?_)
   | (with_reducible refine LeO.bind ?_ (fun _ => ?_))
   | exact ih0 _ _ _ _ _ _
   | exact transeptref09_Check.mono _ _ _ _ _
   | exact LeO.none _
   | refine LeO.ite ?_ ?_
   | refine LeO.bind ?_ (fun _ => ?_)
theorem transeptref09_Split.mono : ∀ a0 a1 a2 a3 k, LeO (transeptref09_Split.f k a0 a1 a2 a3) (transeptref09_Split.f (k + 1) a0 a1 a2 a3) := by
 intro a0 a1 a2 a3 k
 have ih0 := transeptref09_Split.mono_l k
 unfold transeptref09_Split.f
 repeat' first
   | (with_reducible exact ih0 _ _ _ _ _ _)
   | (with_reducible exact transeptref09_Check.mono _ _ _ _ _)
   | (with_reducible exact LeO.refl _)
   | (with_reducible exact LeO.none _)
   | (with_reducible refine LeO.ite ?_ ?_)
   | (with_reducible refine LeO.bind ?_ (fun _ => ?_))
   | exact ih0 _ _ _ _ _ _
   | exact transeptref09_Check.mono _ _ _ _ _
   | exact LeO.none _
   | refine LeO.ite ?_ ?_
   | refine LeO.bind ?_ (fun _ => ?_)
def transeptref09_Split.T9 : Bool × List (List Nat × List Nat) := (true, [([], []), ([0], [0]), ([], []), ([1, 2], [1, 2]), ([3], [3]), ([], []), ([5], [5]), ([], []), ([6, 7], [6, 7]), ([8, 4], [8]), ([4, 9], [4, 9]), ([], []), ([11], [11]), ([], []), ([12, 13], [12, 13]), ([14], [14]), ([], []), ([16], [16]), ([], []), ([17, 18], [17, 18]), ([19, 9], [19]), ([], []), ([21], [21]), ([], []), ([22, 23], [22, 23]), ([24, 20], [24]), ([20, 25], [20, 25]), ([10, 25, 0, 1, 2, 3, 4, 5, 6, 7, 8, 9, 10], [10]), ([15, 27, 0, 1, 2, 3, 4, 5, 6, 7, 8, 9, 10, 11, 12, 13, 14, 15, 27], [15]), ([26, 28, 0, 1, 2, 3, 4, 5, 6, 7, 8, 9, 10, 11, 12, 13, 14, 15, 16, 17, 18, 19, 20, 21, 22, 23, 24, 25, 26, 27, 28], [26]), ([29, 0, 1, 2, 3, 4, 5, 6, 7, 8, 9, 10, 11, 12, 13, 14, 15, 16, 17, 18, 19, 20, 21, 22, 23, 24, 25, 26, 27, 28, 29], [])])
def transeptref09_Split.B9 : List Nat := [0, 1, 0, 7, 15, 0, 32, 0, 224, 511, 1023, 0, 2048, 0, 14336, 30720, 0, 65536, 0, 458752, 984063, 0, 2097152, 0, 14680064, 33489919, 67044351, 67045375, 201326591, 536870911, 1073741823]
theorem transeptref09_Split.tab9 : rtab .any (opsOf Try.f31 9) = transeptref09_Split.T9 := by kernel_rfl
theorem transeptref09_Split.bits9 : waitsOk transeptref09_Split.T9.2 transeptref09_Split.B9 = true := by kernel_rfl
def transeptref09_Split.T10 : Bool × List (List Nat × List Nat) := (true, [([], []), ([0], [0]), ([], []), ([1, 2], [1, 2]), ([3], [3]), ([], []), ([5], [5]), ([], []), ([7], [7]), ([6, 8], [6, 8]), ([9, 4], [9]), ([4, 10], [4, 10]), ([], []), ([12], [12]), ([], []), ([13, 14], [13, 14]), ([15], [15]), ([], []), ([17], [17]), ([], []), ([19], [19]), ([18, 20], [18, 20]), ([21, 10], [21]), ([], []), ([23], [23]), ([], []), ([25], [25]), ([24, 26], [24, 26]), ([27, 22], [27]), ([22, 28], [22, 28]), ([11, 28, 0, 1, 2, 3, 4, 5, 6, 7, 8, 9, 10, 11], [11]), ([16, 30, 0, 1, 2, 3, 4, 5, 6, 7, 8, 9, 10, 11, 12, 13, 14, 15, 16, 30], [16]), ([29, 31, 0, 1, 2, 3, 4, 5, 6, 7, 8, 9, 10, 11, 12, 13, 14, 15, 16, 17, 18, 19, 20, 21, 22, 23, 24, 25, 26, 27, 28, 29, 30, 31], [29]), ([32, 0, 1, 2, 3, 4, 5, 6, 7, 8, 9, 10, 11, 12, 13, 14, 15, 16, 17, 18, 19, 20, 21, 22, 23, 24, 25, 26, 27, 28, 29, 30, 31, 32], [])])
def transeptref09_Split.B10 : List Nat := [0, 1, 0, 7, 15, 0, 32, 0, 128, 480, 1023, 2047, 0, 4096, 0, 28672, 61440, 0, 131072, 0, 524288, 1966080, 4065279, 0, 8388608, 0, 33554432, 125829120, 268306431, 536741887, 536743935, 1610612735, 4294967295, 8589934591]
theorem transeptref09_Split.tab10 : rtab .any (opsOf Try.f31 10) = transeptref09_Split.T10 := by kernel_rfl
theorem transeptref09_Split.bits10 : waitsOk transeptref09_Split.T10.2 transeptref09_Split.B10 = true := by kernel_rfl
set_option maxHeartbeats 8000000 in
set_option maxRecDepth 100000 in
theorem transeptref09_Split.calls (k : Nat) (a0_0 : Bool) (A0_1 : Option Addr) (c0_1 : Nat) (l0_1 : List ByteArray) (A0_2 : Option Addr) (c0_2 : Nat) (l0_2 : List ByteArray) (A0_3 : Option Addr) (c0_3 : Nat) (l0_3 : List Int) (r1 : Bool) (r2 : List ByteArray) (r3 : List ByteArray) (r4 : List Int) (r5 : ByteArray) (r6 : Bool) (r7 : List ByteArray) (r8 : List ByteArray) (r9 : List Int) (r10 : Int) (w : World) (hr0_1 : Kd.C Kd.string w A0_1 l0_1.length l0_1) (hc0_1 : l0_1.length ≤ c0_1) (hr0_2 : Kd.C Kd.string w A0_2 l0_2.length l0_2) (hc0_2 : l0_2.length ≤ c0_2) (hr0_3 : Kd.C (Kd.int .i64) w A0_3 l0_3.length l0_3) (hc0_3 : l0_3.length ≤ c0_3) (h : transeptref09_Split.f k a0_0 l0_1 l0_2 l0_3 = some (r1, r2, r3, r4, r5, r6, r7, r8, r9, r10)) :
  Calls Try.prog 31 #[.agg #[.bool a0_0, .slice A0_1 l0_1.length c0_1, .slice A0_2 l0_2.length c0_2, .slice A0_3 l0_3.length c0_3]] w fun e w' => ∃ v1_ v2_ v3_ v6_ v7_ v8_ : Value, e = .returned (.tuple #[.agg #[.bool r1, v1_, v2_, v3_], .string r5, .agg #[.bool r6, v6_, v7_, v8_], .int .i64 r10]) ∧ Kd.R Kd.string 9 w' w.heap.size (fun k_ => some k_ ≠ (v2_ : Value).ownBlock ∧ some k_ ≠ (v6_ : Value).ownBlock ∧ some k_ ≠ (v7_ : Value).ownBlock) v1_ r2 ∧ Kd.R Kd.string 9 w' w.heap.size (fun k_ => some k_ ≠ (v1_ : Value).ownBlock ∧ some k_ ≠ (v6_ : Value).ownBlock ∧ some k_ ≠ (v7_ : Value).ownBlock) v2_ r3 ∧ Kd.R (Kd.int .i64) 3 w' w.heap.size (fun k_ => some k_ ≠ (v8_ : Value).ownBlock) v3_ r4 ∧ Kd.R Kd.string 9 w' w.heap.size (fun k_ => some k_ ≠ (v1_ : Value).ownBlock ∧ some k_ ≠ (v2_ : Value).ownBlock ∧ some k_ ≠ (v7_ : Value).ownBlock) v6_ r7 ∧ Kd.R Kd.string 9 w' w.heap.size (fun k_ => some k_ ≠ (v1_ : Value).ownBlock ∧ some k_ ≠ (v2_ : Value).ownBlock ∧ some k_ ≠ (v6_ : Value).ownBlock) v7_ r8 ∧ Kd.R (Kd.int .i64) 3 w' w.heap.size (fun k_ => some k_ ≠ (v3_ : Value).ownBlock) v8_ r9 ∧ Below w.heap.size w w' := by
 have hu25 := Try.underlying25
 have HR0_1 := Aside0.mk hr0_1
 have HC0_1 := Aside0.mk hc0_1
 clear hr0_1 hc0_1
 have HR0_2 := Aside0.mk hr0_2
 have HC0_2 := Aside0.mk hc0_2
 clear hr0_2 hc0_2
 have HR0_3 := Aside0.mk hr0_3
 have HC0_3 := Aside0.mk hc0_3
 clear hr0_3 hc0_3
 have HB := Aside0.mk (Below.refl w.heap.size w)
 have H : ((transeptref09_Check.f k a0_0 l0_1 l0_2 l0_3).bind fun t274 => (if t274 = 0 then (if (l0_1.length : Int) < 2 then (transeptref09_Split.j0 k (l0_1.length : Int) true a0_0 l0_1 l0_2 l0_3) else (if a0_0 = true then (transeptref09_Split.j0 k (l0_1.length : Int) false a0_0 l0_1 l0_2 l0_3) else (transeptref09_Split.j0 k (l0_1.length : Int) (decide ((l0_1.length : Int) < 3)) a0_0 l0_1 l0_2 l0_3))) else (some (false, ([] : List ByteArray), ([] : List ByteArray), ([] : List Int), (⟨#[]⟩ : ByteArray), false, ([] : List ByteArray), ([] : List ByteArray), ([] : List Int), t274)))) = some (r1, r2, r3, r4, r5, r6, r7, r8, r9, r10) := h
 clear h
 replace H := Option.bind_eq_some_iff.mp H
 obtain ⟨t274, A20, H⟩ := H
 try dsimp only at H
 have A2 := Aside0.mk A20
 clear A20
 by_cases c3 : t274 = 0
 ·rw [if_pos c3] at H
  have c3b0 : (t274 == 0) = true := beq_iff_eq.mpr c3
  have c3b1 : (t274 != 0) = false := bne_eq_false_iff_eq.mpr c3
  clear c3
  have HC4 := Aside0.mk H
  clear H
  go_enter Try.func31, Try.ntmps31
  go_upto_region 5 with (first | ((with_reducible refine gate_dst (N := 1) rfl ?_); refine bx_ 1 #[.bool a0_0, .slice A0_1 l0_1.length c0_1, .slice A0_2 l0_2.length c0_2, .slice A0_3 l0_3.length c0_3] 25 ?_; intro gb271 hg w5 hbox hb; have BK271 := Aside0.mk (hbox); have GW271 := bG_ HB hg; have GE271 := bG_ HB hg; replace HB := bS_ HB hb; clear hb hbox hg) | ((with_reducible refine gate_dst (N := 2) rfl ?_); refine bx_ 2 #[.bool false, .slice none 0 0, .slice none 0 0, .slice none 0 0] 25 ?_; intro gb272 hg w6 hbox hb; have BK272 := Aside0.mk (hbox); have GW272 := bG_ HB hg; have GE272 := bG_ HB hg; replace HB := bS_ HB hb; have NB271_272 := nL_ BK271 hg; have NB272_271 := nG_ BK271 hg; replace BK271 := bK_ BK271 hb; clear hb hbox hg) | ((with_reducible refine gate_dst (N := 4) rfl ?_); refine bx_ 4 #[.bool false, .slice none 0 0, .slice none 0 0, .slice none 0 0] 25 ?_; intro gb273 hg w7 hbox hb; have BK273 := Aside0.mk (hbox); have GW273 := bG_ HB hg; have GE273 := bG_ HB hg; replace HB := bS_ HB hb; have NB271_273 := nL_ BK271 hg; have NB273_271 := nG_ BK271 hg; replace BK271 := bK_ BK271 hb; have NB272_273 := nL_ BK272 hg; have NB273_272 := nG_ BK272 hg; replace BK272 := bK_ BK272 hb; clear hb hbox hg; have hnb8 := NB271_272.out; have hnc8 := NB272_271.out; have hnb9 := NB271_273.out; have hnc9 := NB273_271.out; obtain ⟨hcz10_0, hcz10_1, hcz10_2, hcz10_3, hfz10_0, hfz10_1, hfz10_2, hfz10_3⟩ := cz4_ BK271) | ((with_reducible refine gate_callee (f := 62) rfl ?_); refine gL_ (some 10) Try.func62 #[.agg #[.bool a0_0, .slice A0_1 l0_1.length c0_1, .slice A0_2 l0_2.length c0_2, .slice A0_3 l0_3.length c0_3]] ?_; (with_reducible refine (transeptref09_Check.calls k a0_0 _ _ l0_1 _ _ l0_2 _ _ l0_3 t274 _ ?_ ?_ ?_ ?_ ?_ ?_ A2.out).mono ?_); exact cB_ HR0_1 HB; exact HC0_1.out; exact cB_ HR0_2 HB; exact HC0_2.out; exact cB_ HR0_3 HB; exact HC0_3.out; rintro e w11 ⟨rfl, hb⟩; refine ⟨_, rfl, ?_⟩; replace BK271 := bK_ BK271 hb; replace BK272 := bK_ BK272 hb; replace BK273 := bK_ BK273 hb; replace HB := bS_ HB hb; (try clear hb); obtain ⟨hcz12_0, hcz12_1, hcz12_2, hcz12_3, hfz12_0, hfz12_1, hfz12_2, hfz12_3⟩ := cz4_ BK271))
  (try simp only [Act.put, List.setIfInBounds_toArray, List.set_cons_zero, List.set_cons_succ])
  go_cut [29] (fun v29 wc => ∃ (kq : Nat) (x29_3 : Bool), v29 = .bool x29_3 ∧ Aside0 (transeptref09_Split.j0 kq (l0_1.length : Int) x29_3 a0_0 l0_1 l0_2 l0_3 = some (r1, r2, r3, r4, r5, r6, r7, r8, r9, r10)) ∧ Aside0 (kq ≤ k) ∧ Aside0 (wc.heap[gb271]? = some (.cells #[.bool a0_0, (.slice A0_1 l0_1.length c0_1), (.slice A0_2 l0_2.length c0_2), (.slice A0_3 l0_3.length c0_3)] 25 (0, 0))) ∧ Aside0 (wc.heap[gb272]? = some (.cells #[.bool false, (.slice none 0 0), (.slice none 0 0), (.slice none 0 0)] 25 (0, 0))) ∧ Aside0 (wc.heap[gb273]? = some (.cells #[.bool false, (.slice none 0 0), (.slice none 0 0), (.slice none 0 0)] 25 (0, 0))) ∧ Aside0 (Below w.heap.size w wc))
  case first =>
   have H := HC4.out
   clear HC4
   by_cases c13 : (l0_1.length : Int) < 2
   ·rw [if_pos c13] at H
    have c13b0 : decide ((l0_1.length : Int) < 2) = true := decide_eq_true c13
    have c13b1 : decide (l0_1.length < 2) = true := decide_eq_true (by omega)
    clear c13
    (first | rw [c13b0] | (simp only [i64_w, i32_w]; rw [c13b0]) | skip)
    have H' := Aside0.mk H
    clear H
    go_wp2
    go_meet
    case rel => exact ⟨_, (true), (by first | rfl | (simp; done) | (simp [*]; done)), H', ⟨by first | omega | exact Nat.le_refl _⟩, ⟨bA_ BK271⟩, ⟨bA_ BK272⟩, ⟨bA_ BK273⟩, ⟨bl_ HB⟩⟩
   ·rw [if_neg c13] at H
    have c13b0 : decide ((l0_1.length : Int) < 2) = false := decide_eq_false c13
    have c13b1 : decide (l0_1.length < 2) = false := decide_eq_false (by omega)
    clear c13
    (first | rw [c13b0] | (simp only [i64_w, i32_w]; rw [c13b0]) | skip)
    by_cases c14 : a0_0 = true
    ·subst c14
     rw [if_pos rfl] at H
     have H' := Aside0.mk H
     clear H
     have hnb15 := NB271_272.out
     have hnc15 := NB272_271.out
     have hnb16 := NB271_273.out
     have hnc16 := NB273_271.out
     obtain ⟨hcz17_0, hcz17_1, hcz17_2, hcz17_3, hfz17_0, hfz17_1, hfz17_2, hfz17_3⟩ := cz4_ BK271
     go_wp2
     go_meet
     case rel => exact ⟨_, (false), (by first | rfl | (simp; done) | (simp [*]; done)), H', ⟨by first | omega | exact Nat.le_refl _⟩, ⟨bA_ BK271⟩, ⟨bA_ BK272⟩, ⟨bA_ BK273⟩, ⟨bl_ HB⟩⟩
    ·replace c14 := Bool.eq_false_iff.mpr c14
     subst c14
     rw [if_neg (show ¬ (false = true) by decide)] at H
     have H' := Aside0.mk H
     clear H
     have hnb18 := NB271_272.out
     have hnc18 := NB272_271.out
     have hnb19 := NB271_273.out
     have hnc19 := NB273_271.out
     obtain ⟨hcz20_0, hcz20_1, hcz20_2, hcz20_3, hfz20_0, hfz20_1, hfz20_2, hfz20_3⟩ := cz4_ BK271
     go_wp2
     go_meet
     case rel => exact ⟨_, (decide ((l0_1.length : Int) < 3)), (by first | rfl | (simp; done) | (simp [*]; done)), H', ⟨by first | omega | exact Nat.le_refl _⟩, ⟨bA_ BK271⟩, ⟨bA_ BK272⟩, ⟨bA_ BK273⟩, ⟨bl_ HB⟩⟩
  case rest =>
   clear HC4
   try clear c1
   try clear p2
   try clear c3
   try clear c3b0
   try clear c3b1
   try clear c6
   try clear c8
   try clear c9
   try clear c13
   try clear c13b0
   try clear c13b1
   try clear c14
   try clear c15
   try clear c16
   try clear c18
   try clear c19
   try clear hcz10_0
   try clear hcz10_1
   try clear hcz10_2
   try clear hcz10_3
   try clear hcz12_0
   try clear hcz12_1
   try clear hcz12_2
   try clear hcz12_3
   try clear hcz17_0
   try clear hcz17_1
   try clear hcz17_2
   try clear hcz17_3
   try clear hcz20_0
   try clear hcz20_1
   try clear hcz20_2
   try clear hcz20_3
   try clear hfz10_0
   try clear hfz10_1
   try clear hfz10_2
   try clear hfz10_3
   try clear hfz12_0
   try clear hfz12_1
   try clear hfz12_2
   try clear hfz12_3
   try clear hfz17_0
   try clear hfz17_1
   try clear hfz17_2
   try clear hfz17_3
   try clear hfz20_0
   try clear hfz20_1
   try clear hfz20_2
   try clear hfz20_3
   obtain ⟨kq, x29_3, rfl, HA, HJ3, BK271, BK272, BK273, HB⟩ := hcut
   cases kq with
   | zero => exact absurd HA.out (by simp [transeptref09_Split.j0])
   | succ kj3 =>
    have H := HA.out
    clear HA
    simp only [transeptref09_Split.j0] at H
    by_cases c21 : x29_3 = true
    ·subst c21
     rw [if_pos rfl] at H
     simp only [Option.some.injEq, Prod.mk.injEq] at H
     obtain ⟨rfl, rfl, rfl, rfl, rfl, rfl, rfl, rfl, rfl, rfl⟩ := H
     have hnb22 := NB272_271.out
     have hnc22 := NB271_272.out
     have hnb23 := NB272_273.out
     have hnc23 := NB273_272.out
     obtain ⟨hcz24_0, hcz24_1, hcz24_2, hcz24_3, hfz24_0, hfz24_1, hfz24_2, hfz24_3⟩ := cz4_ BK272
     have hnb25 := NB273_271.out
     have hnc25 := NB271_273.out
     obtain ⟨hcz26_0, hcz26_1, hcz26_2, hcz26_3, hfz26_0, hfz26_1, hfz26_2, hfz26_3⟩ := cz4_ BK273
     go_wp2
     refine bodyPost_ret (results_list (rs := [.cell 2 25, .tmp 3, .cell 4 25, .tmp 5]) rfl (by simp) (.cell gb272 25 #[.bool false, .slice none 0 0, .slice none 0 0, .slice none 0 0] (0, 0) _ rfl (by (with_reducible repeat (first | refine blk_drewN ?_ _ | refine blk_drew ?_ | refine blk_alloc ?_ _)); refine blk_far ?_ NB272_273.out _; (with_reducible repeat (first | refine blk_drewN ?_ _ | refine blk_drew ?_ | refine blk_alloc ?_ _)); refine blk_far ?_ NB272_273.out _; (with_reducible repeat (first | refine blk_drewN ?_ _ | refine blk_drew ?_ | refine blk_alloc ?_ _)); refine blk_far ?_ NB272_273.out _; (with_reducible repeat (first | refine blk_drewN ?_ _ | refine blk_drew ?_ | refine blk_alloc ?_ _)); refine blk_far ?_ NB272_273.out _; (with_reducible repeat (first | refine blk_drewN ?_ _ | refine blk_drew ?_ | refine blk_alloc ?_ _)); refine blk_put (cs := #[.bool false, .slice none 0 0, .slice none 0 0, .slice none 0 0]) ?_ 3 _ rfl; (with_reducible repeat (first | refine blk_drewN ?_ _ | refine blk_drew ?_ | refine blk_alloc ?_ _)); refine blk_put (cs := #[.bool false, .slice none 0 0, .slice none 0 0, .slice none 0 0]) ?_ 2 _ rfl; (with_reducible repeat (first | refine blk_drewN ?_ _ | refine blk_drew ?_ | refine blk_alloc ?_ _)); refine blk_put (cs := #[.bool false, .slice none 0 0, .slice none 0 0, .slice none 0 0]) ?_ 1 _ rfl; (with_reducible repeat (first | refine blk_drewN ?_ _ | refine blk_drew ?_ | refine blk_alloc ?_ _)); refine blk_put (cs := #[.bool false, .slice none 0 0, .slice none 0 0, .slice none 0 0]) ?_ 0 _ rfl; (with_reducible repeat (first | refine blk_drewN ?_ _ | refine blk_drew ?_ | refine blk_alloc ?_ _)); exact BK272.out) Try.underlying25 rfl (by kernel_rfl) (.tmp (.cell gb273 25 #[.bool false, .slice none 0 0, .slice none 0 0, .slice none 0 0] (0, 0) _ rfl (by (with_reducible repeat (first | refine blk_drewN ?_ _ | refine blk_drew ?_ | refine blk_alloc ?_ _)); refine blk_put (cs := #[.bool false, .slice none 0 0, .slice none 0 0, .slice none 0 0]) ?_ 3 _ rfl; (with_reducible repeat (first | refine blk_drewN ?_ _ | refine blk_drew ?_ | refine blk_alloc ?_ _)); refine blk_put (cs := #[.bool false, .slice none 0 0, .slice none 0 0, .slice none 0 0]) ?_ 2 _ rfl; (with_reducible repeat (first | refine blk_drewN ?_ _ | refine blk_drew ?_ | refine blk_alloc ?_ _)); refine blk_put (cs := #[.bool false, .slice none 0 0, .slice none 0 0, .slice none 0 0]) ?_ 1 _ rfl; (with_reducible repeat (first | refine blk_drewN ?_ _ | refine blk_drew ?_ | refine blk_alloc ?_ _)); refine blk_put (cs := #[.bool false, .slice none 0 0, .slice none 0 0, .slice none 0 0]) ?_ 0 _ rfl; (with_reducible repeat (first | refine blk_drewN ?_ _ | refine blk_drew ?_ | refine blk_alloc ?_ _)); refine blk_far ?_ NB273_272.out _; (with_reducible repeat (first | refine blk_drewN ?_ _ | refine blk_drew ?_ | refine blk_alloc ?_ _)); refine blk_far ?_ NB273_272.out _; (with_reducible repeat (first | refine blk_drewN ?_ _ | refine blk_drew ?_ | refine blk_alloc ?_ _)); refine blk_far ?_ NB273_272.out _; (with_reducible repeat (first | refine blk_drewN ?_ _ | refine blk_drew ?_ | refine blk_alloc ?_ _)); refine blk_far ?_ NB273_272.out _; (with_reducible repeat (first | refine blk_drewN ?_ _ | refine blk_drew ?_ | refine blk_alloc ?_ _)); exact BK273.out) Try.underlying25 rfl (by kernel_rfl) (.tmp .nil))))) rfl ?_
     exact ⟨_, _, _, _, _, _, fin_, nil_, nil_, nil_, nil_, nil_, nil_, bl_ HB⟩
    ·replace c21 := Bool.eq_false_iff.mpr c21
     subst c21
     rw [if_neg (show ¬ (false = true) by decide)] at H
     by_cases c27 : a0_0 = true
     ·subst c27
      rw [if_pos rfl] at H
      obtain ⟨ji28, hji28⟩ : ∃ j_ : Int, (wrap64 (Int.tdiv (l0_1.length : Int) 2)) = j_ := ⟨_, rfl⟩
      replace H : (if 0 ≤ (ji28) then (if (ji28) ≤ (l0_1.length : Int) then ((transeptref09_strings.f (l0_1.take ((ji28) : Int).toNat)).bind fun t276 => (if (ji28) ≤ (l0_2.length : Int) then ((transeptref09_strings.f (l0_2.take ((ji28) : Int).toNat)).bind fun t280 => (if (ji28) < (l0_1.length : Int) then ((transeptref09_strings.f (l0_1.drop ((ji28) : Int).toNat)).bind fun t285 => ((transeptref09_strings.f (l0_2.drop ((ji28) : Int).toNat)).bind fun t289 => (some (true, t276, t280, ([] : List Int), rdOf ByteArray.empty l0_1 (ji28), true, t285, t289, ([] : List Int), 0)))) else (none))) else (none))) else (none)) else (none)) = some (r1, r2, r3, r4, r5, r6, r7, r8, r9, r10) := by first | (rw [hji28] at H; exact H) | (simp only [hji28] at H ⊢; exact H)
      have hji28w : (IntKind.i64.wrap (Int.tdiv (l0_1.length : Int) 2)) = ji28 := (i64_w _).trans hji28
      have hji28d : (wrap64 ((l0_1.length : Int) / 2)) = ji28 := by rw [← Int.tdiv_eq_ediv_of_nonneg (Int.natCast_nonneg _)]; exact hji28
      have hji28e : (IntKind.i64.wrap ((l0_1.length : Int) / 2)) = ji28 := (i64_w _).trans hji28d
      by_cases c29 : 0 ≤ (ji28)
      ·rw [if_pos c29] at H
       have c29b0 := eq_true c29
       have c29b1 : decide (0 ≤ (ji28)) = true := decide_eq_true c29
       clear c29
       by_cases c30 : (ji28) ≤ (l0_1.length : Int)
       ·rw [if_pos c30] at H
        have c30b0 := eq_true c30
        have c30b1 : decide ((ji28) ≤ (l0_1.length : Int)) = true := decide_eq_true c30
        clear c30
        replace H := Option.bind_eq_some_iff.mp H
        obtain ⟨t276, A310, H⟩ := H
        try dsimp only at H
        have A31 := Aside0.mk A310
        clear A310
        have c32b0 := eq_true (of_decide_eq_true (by first | (with_reducible assumption) | assumption) : 0 ≤ (ji28))
        by_cases c33 : (ji28) ≤ (l0_2.length : Int)
        ·rw [if_pos c33] at H
         have c33b0 := eq_true c33
         have c33b1 : decide ((ji28) ≤ (l0_2.length : Int)) = true := decide_eq_true c33
         clear c33
         replace H := Option.bind_eq_some_iff.mp H
         obtain ⟨t280, A340, H⟩ := H
         try dsimp only at H
         have A34 := Aside0.mk A340
         clear A340
         by_cases c35 : (ji28) < (l0_1.length : Int)
         ·rw [if_pos c35] at H
          have c35b0 : decide ((ji28) < (l0_1.length : Int)) = true := decide_eq_true c35
          clear c35
          have c36b0 := eq_true (of_decide_eq_true (by first | (with_reducible assumption) | assumption) : 0 ≤ (ji28))
          have c37b0 := eq_true (of_decide_eq_true (by first | (with_reducible assumption) | assumption) : (ji28) ≤ (l0_1.length : Int))
          replace H := Option.bind_eq_some_iff.mp H
          obtain ⟨t285, A380, H⟩ := H
          try dsimp only at H
          have A38 := Aside0.mk A380
          clear A380
          have c39b0 := eq_true (of_decide_eq_true (by first | (with_reducible assumption) | assumption) : 0 ≤ (ji28))
          have c40b0 := eq_true (of_decide_eq_true (by first | (with_reducible assumption) | assumption) : (ji28) ≤ (l0_2.length : Int))
          replace H := Option.bind_eq_some_iff.mp H
          obtain ⟨t289, A410, H⟩ := H
          try dsimp only at H
          have A41 := Aside0.mk A410
          clear A410
          simp only [Option.some.injEq, Prod.mk.injEq] at H
          obtain ⟨rfl, rfl, rfl, rfl, rfl, rfl, rfl, rfl, rfl, rfl⟩ := H
          have hnb42 := NB271_272.out
          have hnc42 := NB272_271.out
          have hnb43 := NB271_273.out
          have hnc43 := NB273_271.out
          obtain ⟨hcz44_0, hcz44_1, hcz44_2, hcz44_3, hfz44_0, hfz44_1, hfz44_2, hfz44_3⟩ := cz4_ BK271
          try go_wp2
          replace BK271 := Aside0.mk (blk_drew BK271.out)
          replace BK272 := Aside0.mk (blk_drew BK272.out)
          replace BK273 := Aside0.mk (blk_drew BK273.out)
          replace HB := Aside0.mk (below_drew1 HB.out)
          obtain ⟨i046, hi046, _, hsz46, _⟩ := info_parts info9
          obtain ⟨hcut46, hA46, hC46⟩ := print_take_of (P := Try.prog) Value.string (⟨#[]⟩ : ByteArray) 22 9 .i64 Try.underlying22 hi046 hsz46 A0_1 c0_1 l0_1 (ji28) (of_decide_eq_true (by first | (with_reducible assumption) | assumption)) (of_decide_eq_true (by first | (with_reducible assumption) | assumption)) HC0_1.out
          have HR275 := Aside0.mk (Kd.C_of_reads (h1 := fun _ => rfl) (hA46 _ (Kd.reads_of_C HR0_1.out)))
          have HC275 := Aside0.mk hC46
          clear hA46 hC46 hi046 hsz46
          obtain ⟨i047, hi047, _, hsz47, _⟩ := info_parts info9
          obtain ⟨hcut47, hA47, hC47⟩ := print_take_of (P := Try.prog) Value.string (⟨#[]⟩ : ByteArray) 22 9 .i64 Try.underlying22 hi047 hsz47 A0_2 c0_2 l0_2 (ji28) (of_decide_eq_true (by first | (with_reducible assumption) | assumption)) (of_decide_eq_true (by first | (with_reducible assumption) | assumption)) HC0_2.out
          have HR279 := Aside0.mk (Kd.C_of_reads (h1 := fun _ => rfl) (hA47 _ (Kd.reads_of_C HR0_2.out)))
          have HC279 := Aside0.mk hC47
          clear hA47 hC47 hi047 hsz47
          have p283 : 0 ≤ ((ji28) : Int) := of_decide_eq_true (by first | (with_reducible assumption) | assumption)
          have q283 : (ji28) < (l0_1.length : Int) := of_decide_eq_true (by first | (with_reducible assumption) | assumption)
          obtain ⟨ad283, e283, hx283_0⟩ := Kd.at_string HR0_1.out (ji28) p283 q283
          have hw283_0 := hx283_0
          cases e283
          replace hx283_0 := (HB.out.cell (World.block_lt_of_cell? w _ hx283_0)).trans hx283_0
          replace p283 := eq_true p283
          replace q283 := eq_true q283
          obtain ⟨i048, hi048, _, hsz48, _⟩ := info_parts info9
          obtain ⟨A48, hcut48, hA48, hC48⟩ := print_drop_of (P := Try.prog) Value.string (⟨#[]⟩ : ByteArray) 22 9 .i64 Try.underlying22 hi048 hsz48 (some ad283) c0_1 l0_1 (ji28) (of_decide_eq_true (by first | (with_reducible assumption) | assumption)) (of_decide_eq_true (by first | (with_reducible assumption) | assumption)) HC0_1.out
          have HR284 := Aside0.mk (Kd.C_of_reads (h1 := fun _ => rfl) (hA48 _ (Kd.reads_of_C HR0_1.out)))
          have HC284 := Aside0.mk hC48
          clear hA48 hC48 hi048 hsz48
          obtain ⟨i049, hi049, _, hsz49, _⟩ := info_parts info9
          obtain ⟨A49, hcut49, hA49, hC49⟩ := print_drop_of (P := Try.prog) Value.string (⟨#[]⟩ : ByteArray) 22 9 .i64 Try.underlying22 hi049 hsz49 A0_2 c0_2 l0_2 (ji28) (of_decide_eq_true (by first | (with_reducible assumption) | assumption)) (of_decide_eq_true (by first | (with_reducible assumption) | assumption)) HC0_2.out
          have HR288 := Aside0.mk (Kd.C_of_reads (h1 := fun _ => rfl) (hA49 _ (Kd.reads_of_C HR0_2.out)))
          have HC288 := Aside0.mk hC49
          clear hA49 hC49 hi049 hsz49
          refine start_ (n := 31) (S := fun w' => w'.cell? ⟨gb271, 0, none⟩ = some (.bool true) ∧ w'.cell? ⟨gb271, 1, none⟩ = some (.slice (some ad283) l0_1.length c0_1) ∧ w'.cell? ⟨gb271, 2, none⟩ = some (.slice A0_2 l0_2.length c0_2) ∧ w'.cell? ⟨gb271, 3, none⟩ = some (.slice A0_3 l0_3.length c0_3) ∧ w'.cell? (ad283.add ((ji28)).toNat) = some (.string (rdOf ByteArray.empty l0_1 (ji28)))) (ds := []) #[false, false, false, false, false, false, false, false, false, false, false, false, false, false, false, false, false, false, false, false, false, false, false, false, false, false, false, false, false, false, false] (by kernel_rfl) rfl rfl ⟨(blk_cell BK271.out 0).trans rfl, (blk_cell BK271.out 1).trans rfl, (blk_cell BK271.out 2).trans rfl, (blk_cell BK271.out 3).trans rfl, ((HB.out.cell (World.block_lt_of_cell? w _ hw283_0)).trans hw283_0)⟩ (fun hHeld => ?_); refine with_tabW transeptref09_Split.tab9 transeptref09_Split.bits9 (fun HT_ HW_ => ?_)
          generalize wc.drew = w45 at BK271 BK272 BK273 HB HR275 HR279 HR284 HR288 hx283_0 hHeld ⊢
          refine pu_ 0 (some 36) HT_ ?_
          refine pu_ 2 (some 38) HT_ ?_
          refine pu_ 5 (some 41) HT_ ?_
          refine pu_ 7 (some 43) HT_ ?_
          refine pu_ 11 (some 47) HT_ ?_
          refine pu_ 13 (some 49) HT_ ?_
          refine pu_ 16 (some 52) HT_ ?_
          refine pu_ 18 (some 54) HT_ ?_
          refine pu_ 21 (some 57) HT_ ?_
          refine pu_ 23 (some 59) HT_ ?_
          refine tk_ 1 (some 37) HT_ HW_ hHeld ?_
          refine pu_ 3 (some 39) HT_ ?_
          refine tk_ 6 (some 42) HT_ HW_ hHeld ?_
          refine pu_ 8 (some 44) HT_ ?_
          refine tk_ 12 (some 48) HT_ HW_ hHeld ?_
          refine pu_ 14 (some 50) HT_ ?_
          refine tk_ 15 (some 51) HT_ HW_ hHeld ?_
          refine tk_ 17 (some 53) HT_ HW_ hHeld ?_
          refine pu_ 19 (some 55) HT_ ?_
          refine tk_ 22 (some 58) HT_ HW_ hHeld ?_
          refine pu_ 24 (some 60) HT_ ?_
          refine on_ 4 (some 40) HT_ (fun K hK => ?_)
          refine goes_ Try.func63 (by kernel_rfl) rfl #[.slice (some ad283) (l0_1.take ((ji28) : Int).toNat).length c0_1] (by rfl) rfl rfl (by (try simp only [List.map_toArray, List.map_cons, List.map_nil]); first | done | (rw [show (l0_1.take ((ji28) : Int).toNat).length = (ji28).toNat from (by rw [List.length_take]; have h_ : ((ji28) : Int) ≤ (l0_1.length : Int) := of_decide_eq_true (by first | (with_reducible assumption) | assumption); omega)] <;> rfl) | (simp only [hji28]; rfl) | rfl | (simp only [List.length_drop, List.length_take]; rfl)) ?_
          with_reducible refine (transeptref09_strings.calls _ _ (l0_1.take ((ji28) : Int).toNat) t276 _ ?_ ?_ A31.out).mono ?_
          exact cB_ HR275 HB
          exact HC275.out
          rintro e w50 ⟨v277, rfl, ho0, hb⟩
          refine ⟨_, rfl, ?_⟩
          have HO278 := Aside0.mk (Kd.R_lower ho0 (bs_ HB))
          replace BK271 := bK_ BK271 hb
          replace BK272 := bK_ BK272 hb
          replace BK273 := bK_ BK273 hb
          replace HB := bS_ HB hb
          (try clear hb ho0)
          refine hK.out _ _ ⟨(blk_cell BK271.out 0).trans rfl, (blk_cell BK271.out 1).trans rfl, (blk_cell BK271.out 2).trans rfl, (blk_cell BK271.out 3).trans rfl, ((HB.out.cell (World.block_lt_of_cell? w _ hw283_0)).trans hw283_0)⟩ (fun hHeld => ?_)
          clear hK K
          refine norm_ (a' := ?_) ?_ ?_
          rotate_left
          ·show Act.put _ (some 40) _ = _
           simp only [Act.put, List.setIfInBounds_toArray, List.set_cons_zero, List.set_cons_succ, i64_w, i32_w]
           rfl
          refine on_ 9 (some 45) HT_ (fun K hK => ?_)
          refine goes_ Try.func63 (by kernel_rfl) rfl #[.slice A0_2 (l0_2.take ((ji28) : Int).toNat).length c0_2] (by rfl) rfl rfl (by (try simp only [List.map_toArray, List.map_cons, List.map_nil]); first | done | (rw [show (l0_2.take ((ji28) : Int).toNat).length = (ji28).toNat from (by rw [List.length_take]; have h_ : ((ji28) : Int) ≤ (l0_2.length : Int) := of_decide_eq_true (by first | (with_reducible assumption) | assumption); omega)] <;> rfl) | (simp only [hji28]; rfl) | rfl | (simp only [List.length_drop, List.length_take]; rfl)) ?_
          with_reducible refine (transeptref09_strings.calls _ _ (l0_2.take ((ji28) : Int).toNat) t280 _ ?_ ?_ A34.out).mono ?_
          exact cB_ HR279 HB
          exact HC279.out
          rintro e w51 ⟨v281, rfl, ho0, hb⟩
          refine ⟨_, rfl, ?_⟩
          have HO282 := Aside0.mk (Kd.R_lower (Kd.R_new' ho0 (Kd.R_lt (rA_ HO278))) (bs_ HB))
          replace HO278 := Aside0.mk (Kd.R_elder' (rA_ HO278) (Kd.R_base ho0) hb)
          replace BK271 := bK_ BK271 hb
          replace BK272 := bK_ BK272 hb
          replace BK273 := bK_ BK273 hb
          replace HB := bS_ HB hb
          (try clear hb ho0)
          obtain ⟨Ao52, co52, eo52⟩ := Kd.R_slice HO282.out
          (first | subst eo52 | (injection eo52 with f1_ f2_ f3_; have f4_ := f1_.symm; have f5_ := f3_.symm; clear f1_ f2_ f3_; subst f4_; subst f5_))
          obtain ⟨Ao53, co53, eo53⟩ := Kd.R_slice HO278.out
          (first | subst eo53 | (injection eo53 with f1_ f2_ f3_; have f4_ := f1_.symm; have f5_ := f3_.symm; clear f1_ f2_ f3_; subst f4_; subst f5_))
          refine hK.out _ _ ⟨(blk_cell BK271.out 0).trans rfl, (blk_cell BK271.out 1).trans rfl, (blk_cell BK271.out 2).trans rfl, (blk_cell BK271.out 3).trans rfl, ((HB.out.cell (World.block_lt_of_cell? w _ hw283_0)).trans hw283_0)⟩ (fun hHeld => ?_)
          clear hK K
          refine norm_ (a' := ?_) ?_ ?_
          rotate_left
          ·show Act.put _ (some 45) _ = _
           simp only [Act.put, List.setIfInBounds_toArray, List.set_cons_zero, List.set_cons_succ, i64_w, i32_w]
           rfl
          refine pu_ 10 (some 46) HT_ ?_
          refine on_ 20 (some 56) HT_ (fun K hK => ?_)
          refine goes_ Try.func63 (by kernel_rfl) rfl #[.slice A48 (l0_1.drop ((ji28) : Int).toNat).length (c0_1 - (ji28).toNat)] (by rfl) rfl rfl (by (try simp only [List.map_toArray, List.map_cons, List.map_nil]); first | done | (rw [show (l0_1.drop ((ji28) : Int).toNat).length = (l0_1.length - (ji28).toNat) from List.length_drop] <;> rfl) | (simp only [hji28]; rfl) | rfl | (simp only [List.length_drop, List.length_take]; rfl)) ?_
          with_reducible refine (transeptref09_strings.calls _ _ (l0_1.drop ((ji28) : Int).toNat) t285 _ ?_ ?_ A38.out).mono ?_
          exact cB_ HR284 HB
          exact HC284.out
          rintro e w54 ⟨v286, rfl, ho0, hb⟩
          refine ⟨_, rfl, ?_⟩
          have HO287 := Aside0.mk (Kd.R_lower (Kd.R_new' (Kd.R_new' ho0 (Kd.R_lt (rA_ HO278))) (Kd.R_lt (rA_ HO282))) (bs_ HB))
          replace HO278 := Aside0.mk (Kd.R_elder' (rA_ HO278) (Kd.R_base ho0) hb)
          replace HO282 := Aside0.mk (Kd.R_elder' (rA_ HO282) (Kd.R_base ho0) hb)
          replace BK271 := bK_ BK271 hb
          replace BK272 := bK_ BK272 hb
          replace BK273 := bK_ BK273 hb
          replace HB := bS_ HB hb
          (try clear hb ho0)
          refine hK.out _ _ ⟨(blk_cell BK271.out 0).trans rfl, (blk_cell BK271.out 1).trans rfl, (blk_cell BK271.out 2).trans rfl, (blk_cell BK271.out 3).trans rfl, ((HB.out.cell (World.block_lt_of_cell? w _ hw283_0)).trans hw283_0)⟩ (fun hHeld => ?_)
          clear hK K
          refine norm_ (a' := ?_) ?_ ?_
          rotate_left
          ·show Act.put _ (some 56) _ = _
           simp only [Act.put, List.setIfInBounds_toArray, List.set_cons_zero, List.set_cons_succ, i64_w, i32_w]
           rfl
          refine on_ 25 (some 61) HT_ (fun K hK => ?_)
          refine goes_ Try.func63 (by kernel_rfl) rfl #[.slice A49 (l0_2.drop ((ji28) : Int).toNat).length (c0_2 - (ji28).toNat)] (by rfl) rfl rfl (by (try simp only [List.map_toArray, List.map_cons, List.map_nil]); first | done | (rw [show (l0_2.drop ((ji28) : Int).toNat).length = (l0_2.length - (ji28).toNat) from List.length_drop] <;> rfl) | (simp only [hji28]; rfl) | rfl | (simp only [List.length_drop, List.length_take]; rfl)) ?_
          with_reducible refine (transeptref09_strings.calls _ _ (l0_2.drop ((ji28) : Int).toNat) t289 _ ?_ ?_ A41.out).mono ?_
          exact cB_ HR288 HB
          exact HC288.out
          rintro e w55 ⟨v290, rfl, ho0, hb⟩
          refine ⟨_, rfl, ?_⟩
          have HO291 := Aside0.mk (Kd.R_lower (Kd.R_new' (Kd.R_new' (Kd.R_new' ho0 (Kd.R_lt (rA_ HO278))) (Kd.R_lt (rA_ HO282))) (Kd.R_lt (rA_ HO287))) (bs_ HB))
          replace HO278 := Aside0.mk (Kd.R_elder' (rA_ HO278) (Kd.R_base ho0) hb)
          replace HO282 := Aside0.mk (Kd.R_elder' (rA_ HO282) (Kd.R_base ho0) hb)
          replace HO287 := Aside0.mk (Kd.R_elder' (rA_ HO287) (Kd.R_base ho0) hb)
          replace BK271 := bK_ BK271 hb
          replace BK272 := bK_ BK272 hb
          replace BK273 := bK_ BK273 hb
          replace HB := bS_ HB hb
          (try clear hb ho0)
          obtain ⟨Ao56, co56, eo56⟩ := Kd.R_slice HO291.out
          (first | subst eo56 | (injection eo56 with f1_ f2_ f3_; have f4_ := f1_.symm; have f5_ := f3_.symm; clear f1_ f2_ f3_; subst f4_; subst f5_))
          obtain ⟨Ao57, co57, eo57⟩ := Kd.R_slice HO287.out
          (first | subst eo57 | (injection eo57 with f1_ f2_ f3_; have f4_ := f1_.symm; have f5_ := f3_.symm; clear f1_ f2_ f3_; subst f4_; subst f5_))
          refine hK.out _ _ ⟨(blk_cell BK271.out 0).trans rfl, (blk_cell BK271.out 1).trans rfl, (blk_cell BK271.out 2).trans rfl, (blk_cell BK271.out 3).trans rfl, ((HB.out.cell (World.block_lt_of_cell? w _ hw283_0)).trans hw283_0)⟩ (fun hHeld => ?_)
          clear hK K
          refine norm_ (a' := ?_) ?_ ?_
          rotate_left
          ·show Act.put _ (some 61) _ = _
           simp only [Act.put, List.setIfInBounds_toArray, List.set_cons_zero, List.set_cons_succ, i64_w, i32_w]
           rfl
          refine pu_ 26 (some 62) HT_ ?_
          refine on_ 27 none HT_ (fun K hK => ?_)
          have hs58 : w55.cell? ⟨gb272, 0, none⟩ = some (.bool false) := (blk_cell BK272.out 0).trans rfl
          have hfs58 := blk_frozen BK272.out 0
          have hns58_0 := NB271_272.out
          have hns58_2 := NB273_272.out
          have hms58_0 := NB272_271.out
          have hms58_2 := NB272_273.out
          have hs59 : w55.cell? ⟨gb272, 1, none⟩ = some (.slice none 0 0) := (blk_cell BK272.out 1).trans rfl
          have hfs59 := blk_frozen BK272.out 1
          have hns59_0 := NB271_272.out
          have hns59_2 := NB273_272.out
          have hms59_0 := NB272_271.out
          have hms59_2 := NB272_273.out
          have hs60 : w55.cell? ⟨gb272, 2, none⟩ = some (.slice none 0 0) := (blk_cell BK272.out 2).trans rfl
          have hfs60 := blk_frozen BK272.out 2
          have hns60_0 := NB271_272.out
          have hns60_2 := NB273_272.out
          have hms60_0 := NB272_271.out
          have hms60_2 := NB272_273.out
          have hs61 : w55.cell? ⟨gb272, 3, none⟩ = some (.slice none 0 0) := (blk_cell BK272.out 3).trans rfl
          have hfs61 := blk_frozen BK272.out 3
          have hns61_0 := NB271_272.out
          have hns61_2 := NB273_272.out
          have hms61_0 := NB272_271.out
          have hms61_2 := NB272_273.out
          refine skip_ (w1 := ?_) (by rfl) rfl ?_ ?_
          rotate_left
          ·go_simp
           rfl
          refine hK.out _ _ ⟨((cell_far (p := ⟨gb272, _, none⟩) NB271_272.out _).trans (((cell_far (p := ⟨gb272, _, none⟩) NB271_272.out _).trans (((cell_far (p := ⟨gb272, _, none⟩) NB271_272.out _).trans (((cell_far (p := ⟨gb272, _, none⟩) NB271_272.out _).trans (hHeld.1)))))))), ((cell_far (p := ⟨gb272, _, none⟩) NB271_272.out _).trans (((cell_far (p := ⟨gb272, _, none⟩) NB271_272.out _).trans (((cell_far (p := ⟨gb272, _, none⟩) NB271_272.out _).trans (((cell_far (p := ⟨gb272, _, none⟩) NB271_272.out _).trans (hHeld.2.1)))))))), ((cell_far (p := ⟨gb272, _, none⟩) NB271_272.out _).trans (((cell_far (p := ⟨gb272, _, none⟩) NB271_272.out _).trans (((cell_far (p := ⟨gb272, _, none⟩) NB271_272.out _).trans (((cell_far (p := ⟨gb272, _, none⟩) NB271_272.out _).trans (hHeld.2.2.1)))))))), ((cell_far (p := ⟨gb272, _, none⟩) NB271_272.out _).trans (((cell_far (p := ⟨gb272, _, none⟩) NB271_272.out _).trans (((cell_far (p := ⟨gb272, _, none⟩) NB271_272.out _).trans (((cell_far (p := ⟨gb272, _, none⟩) NB271_272.out _).trans (hHeld.2.2.2.1)))))))), ((cell_far (p := ⟨gb272, _, none⟩) (by first | exact Nat.ne_of_lt (Nat.lt_of_lt_of_le (by have := World.block_lt_of_cell? _ _ hw283_0; first | rwa [add_block] at this | exact this) GW272.out) | (rw [add_block]; exact Nat.ne_of_lt (Nat.lt_of_lt_of_le (by have := World.block_lt_of_cell? _ _ hw283_0; first | rwa [add_block] at this | exact this) GW272.out)) | (show (Addr.add _ _).block ≠ _; rw [add_block]; exact Nat.ne_of_lt (Nat.lt_of_lt_of_le (by have := World.block_lt_of_cell? _ _ hw283_0; first | rwa [add_block] at this | exact this) GW272.out)) | (dsimp only; exact Nat.ne_of_lt (Nat.lt_of_lt_of_le (by have := World.block_lt_of_cell? _ _ hw283_0; first | rwa [add_block] at this | exact this) GW272.out))) _).trans (((cell_far (p := ⟨gb272, _, none⟩) (by first | exact Nat.ne_of_lt (Nat.lt_of_lt_of_le (by have := World.block_lt_of_cell? _ _ hw283_0; first | rwa [add_block] at this | exact this) GW272.out) | (rw [add_block]; exact Nat.ne_of_lt (Nat.lt_of_lt_of_le (by have := World.block_lt_of_cell? _ _ hw283_0; first | rwa [add_block] at this | exact this) GW272.out)) | (show (Addr.add _ _).block ≠ _; rw [add_block]; exact Nat.ne_of_lt (Nat.lt_of_lt_of_le (by have := World.block_lt_of_cell? _ _ hw283_0; first | rwa [add_block] at this | exact this) GW272.out)) | (dsimp only; exact Nat.ne_of_lt (Nat.lt_of_lt_of_le (by have := World.block_lt_of_cell? _ _ hw283_0; first | rwa [add_block] at this | exact this) GW272.out))) _).trans (((cell_far (p := ⟨gb272, _, none⟩) (by first | exact Nat.ne_of_lt (Nat.lt_of_lt_of_le (by have := World.block_lt_of_cell? _ _ hw283_0; first | rwa [add_block] at this | exact this) GW272.out) | (rw [add_block]; exact Nat.ne_of_lt (Nat.lt_of_lt_of_le (by have := World.block_lt_of_cell? _ _ hw283_0; first | rwa [add_block] at this | exact this) GW272.out)) | (show (Addr.add _ _).block ≠ _; rw [add_block]; exact Nat.ne_of_lt (Nat.lt_of_lt_of_le (by have := World.block_lt_of_cell? _ _ hw283_0; first | rwa [add_block] at this | exact this) GW272.out)) | (dsimp only; exact Nat.ne_of_lt (Nat.lt_of_lt_of_le (by have := World.block_lt_of_cell? _ _ hw283_0; first | rwa [add_block] at this | exact this) GW272.out))) _).trans (((cell_far (p := ⟨gb272, _, none⟩) (by first | exact Nat.ne_of_lt (Nat.lt_of_lt_of_le (by have := World.block_lt_of_cell? _ _ hw283_0; first | rwa [add_block] at this | exact this) GW272.out) | (rw [add_block]; exact Nat.ne_of_lt (Nat.lt_of_lt_of_le (by have := World.block_lt_of_cell? _ _ hw283_0; first | rwa [add_block] at this | exact this) GW272.out)) | (show (Addr.add _ _).block ≠ _; rw [add_block]; exact Nat.ne_of_lt (Nat.lt_of_lt_of_le (by have := World.block_lt_of_cell? _ _ hw283_0; first | rwa [add_block] at this | exact this) GW272.out)) | (dsimp only; exact Nat.ne_of_lt (Nat.lt_of_lt_of_le (by have := World.block_lt_of_cell? _ _ hw283_0; first | rwa [add_block] at this | exact this) GW272.out))) _).trans (hHeld.2.2.2.2))))))))⟩ (fun hHeld => ?_)
          clear hK K
          refine pu_ 28 (some 3) HT_ ?_
          refine on_ 29 none HT_ (fun K hK => ?_)
          have hs62 : w55.cell? ⟨gb273, 0, none⟩ = some (.bool false) := (blk_cell BK273.out 0).trans rfl
          have hfs62 := blk_frozen BK273.out 0
          have hns62_0 := NB271_273.out
          have hns62_1 := NB272_273.out
          have hms62_0 := NB273_271.out
          have hms62_1 := NB273_272.out
          have hs63 : w55.cell? ⟨gb273, 1, none⟩ = some (.slice none 0 0) := (blk_cell BK273.out 1).trans rfl
          have hfs63 := blk_frozen BK273.out 1
          have hns63_0 := NB271_273.out
          have hns63_1 := NB272_273.out
          have hms63_0 := NB273_271.out
          have hms63_1 := NB273_272.out
          have hs64 : w55.cell? ⟨gb273, 2, none⟩ = some (.slice none 0 0) := (blk_cell BK273.out 2).trans rfl
          have hfs64 := blk_frozen BK273.out 2
          have hns64_0 := NB271_273.out
          have hns64_1 := NB272_273.out
          have hms64_0 := NB273_271.out
          have hms64_1 := NB273_272.out
          have hs65 : w55.cell? ⟨gb273, 3, none⟩ = some (.slice none 0 0) := (blk_cell BK273.out 3).trans rfl
          have hfs65 := blk_frozen BK273.out 3
          have hns65_0 := NB271_273.out
          have hns65_1 := NB272_273.out
          have hms65_0 := NB273_271.out
          have hms65_1 := NB273_272.out
          refine skip_ (w1 := ?_) (by rfl) rfl ?_ ?_
          rotate_left
          ·go_simp
           rfl
          refine hK.out _ _ ⟨((cell_far (p := ⟨gb273, _, none⟩) NB271_273.out _).trans (((cell_far (p := ⟨gb273, _, none⟩) NB271_273.out _).trans (((cell_far (p := ⟨gb273, _, none⟩) NB271_273.out _).trans (((cell_far (p := ⟨gb273, _, none⟩) NB271_273.out _).trans (hHeld.1)))))))), ((cell_far (p := ⟨gb273, _, none⟩) NB271_273.out _).trans (((cell_far (p := ⟨gb273, _, none⟩) NB271_273.out _).trans (((cell_far (p := ⟨gb273, _, none⟩) NB271_273.out _).trans (((cell_far (p := ⟨gb273, _, none⟩) NB271_273.out _).trans (hHeld.2.1)))))))), ((cell_far (p := ⟨gb273, _, none⟩) NB271_273.out _).trans (((cell_far (p := ⟨gb273, _, none⟩) NB271_273.out _).trans (((cell_far (p := ⟨gb273, _, none⟩) NB271_273.out _).trans (((cell_far (p := ⟨gb273, _, none⟩) NB271_273.out _).trans (hHeld.2.2.1)))))))), ((cell_far (p := ⟨gb273, _, none⟩) NB271_273.out _).trans (((cell_far (p := ⟨gb273, _, none⟩) NB271_273.out _).trans (((cell_far (p := ⟨gb273, _, none⟩) NB271_273.out _).trans (((cell_far (p := ⟨gb273, _, none⟩) NB271_273.out _).trans (hHeld.2.2.2.1)))))))), ((cell_far (p := ⟨gb273, _, none⟩) (by first | exact Nat.ne_of_lt (Nat.lt_of_lt_of_le (by have := World.block_lt_of_cell? _ _ hw283_0; first | rwa [add_block] at this | exact this) GW273.out) | (rw [add_block]; exact Nat.ne_of_lt (Nat.lt_of_lt_of_le (by have := World.block_lt_of_cell? _ _ hw283_0; first | rwa [add_block] at this | exact this) GW273.out)) | (show (Addr.add _ _).block ≠ _; rw [add_block]; exact Nat.ne_of_lt (Nat.lt_of_lt_of_le (by have := World.block_lt_of_cell? _ _ hw283_0; first | rwa [add_block] at this | exact this) GW273.out)) | (dsimp only; exact Nat.ne_of_lt (Nat.lt_of_lt_of_le (by have := World.block_lt_of_cell? _ _ hw283_0; first | rwa [add_block] at this | exact this) GW273.out))) _).trans (((cell_far (p := ⟨gb273, _, none⟩) (by first | exact Nat.ne_of_lt (Nat.lt_of_lt_of_le (by have := World.block_lt_of_cell? _ _ hw283_0; first | rwa [add_block] at this | exact this) GW273.out) | (rw [add_block]; exact Nat.ne_of_lt (Nat.lt_of_lt_of_le (by have := World.block_lt_of_cell? _ _ hw283_0; first | rwa [add_block] at this | exact this) GW273.out)) | (show (Addr.add _ _).block ≠ _; rw [add_block]; exact Nat.ne_of_lt (Nat.lt_of_lt_of_le (by have := World.block_lt_of_cell? _ _ hw283_0; first | rwa [add_block] at this | exact this) GW273.out)) | (dsimp only; exact Nat.ne_of_lt (Nat.lt_of_lt_of_le (by have := World.block_lt_of_cell? _ _ hw283_0; first | rwa [add_block] at this | exact this) GW273.out))) _).trans (((cell_far (p := ⟨gb273, _, none⟩) (by first | exact Nat.ne_of_lt (Nat.lt_of_lt_of_le (by have := World.block_lt_of_cell? _ _ hw283_0; first | rwa [add_block] at this | exact this) GW273.out) | (rw [add_block]; exact Nat.ne_of_lt (Nat.lt_of_lt_of_le (by have := World.block_lt_of_cell? _ _ hw283_0; first | rwa [add_block] at this | exact this) GW273.out)) | (show (Addr.add _ _).block ≠ _; rw [add_block]; exact Nat.ne_of_lt (Nat.lt_of_lt_of_le (by have := World.block_lt_of_cell? _ _ hw283_0; first | rwa [add_block] at this | exact this) GW273.out)) | (dsimp only; exact Nat.ne_of_lt (Nat.lt_of_lt_of_le (by have := World.block_lt_of_cell? _ _ hw283_0; first | rwa [add_block] at this | exact this) GW273.out))) _).trans (((cell_far (p := ⟨gb273, _, none⟩) (by first | exact Nat.ne_of_lt (Nat.lt_of_lt_of_le (by have := World.block_lt_of_cell? _ _ hw283_0; first | rwa [add_block] at this | exact this) GW273.out) | (rw [add_block]; exact Nat.ne_of_lt (Nat.lt_of_lt_of_le (by have := World.block_lt_of_cell? _ _ hw283_0; first | rwa [add_block] at this | exact this) GW273.out)) | (show (Addr.add _ _).block ≠ _; rw [add_block]; exact Nat.ne_of_lt (Nat.lt_of_lt_of_le (by have := World.block_lt_of_cell? _ _ hw283_0; first | rwa [add_block] at this | exact this) GW273.out)) | (dsimp only; exact Nat.ne_of_lt (Nat.lt_of_lt_of_le (by have := World.block_lt_of_cell? _ _ hw283_0; first | rwa [add_block] at this | exact this) GW273.out))) _).trans (hHeld.2.2.2.2))))))))⟩ (fun hHeld => ?_)
          clear hK K
          refine pu_ 30 (some 5) HT_ ?_
          refine done_ (done_of HT_.out (by kernel_rfl)) ?_
          try go_wp2
          refine bodyPost_ret (results_list (rs := [.cell 2 25, .tmp 3, .cell 4 25, .tmp 5]) rfl (by simp) (.cell gb272 25 #[.bool true, .slice Ao53 t276.length co53, .slice Ao52 t280.length co52, .slice none 0 0] (0, 0) _ rfl (by (with_reducible repeat (first | refine blk_drewN ?_ _ | refine blk_drew ?_ | refine blk_alloc ?_ _)); refine blk_far ?_ NB272_273.out _; (with_reducible repeat (first | refine blk_drewN ?_ _ | refine blk_drew ?_ | refine blk_alloc ?_ _)); refine blk_far ?_ NB272_273.out _; (with_reducible repeat (first | refine blk_drewN ?_ _ | refine blk_drew ?_ | refine blk_alloc ?_ _)); refine blk_far ?_ NB272_273.out _; (with_reducible repeat (first | refine blk_drewN ?_ _ | refine blk_drew ?_ | refine blk_alloc ?_ _)); refine blk_far ?_ NB272_273.out _; (with_reducible repeat (first | refine blk_drewN ?_ _ | refine blk_drew ?_ | refine blk_alloc ?_ _)); refine blk_put (cs := #[.bool true, .slice Ao53 t276.length co53, .slice Ao52 t280.length co52, .slice none 0 0]) ?_ 3 _ rfl; (with_reducible repeat (first | refine blk_drewN ?_ _ | refine blk_drew ?_ | refine blk_alloc ?_ _)); refine blk_put (cs := #[.bool true, .slice Ao53 t276.length co53, .slice none 0 0, .slice none 0 0]) ?_ 2 _ rfl; (with_reducible repeat (first | refine blk_drewN ?_ _ | refine blk_drew ?_ | refine blk_alloc ?_ _)); refine blk_put (cs := #[.bool true, .slice none 0 0, .slice none 0 0, .slice none 0 0]) ?_ 1 _ rfl; (with_reducible repeat (first | refine blk_drewN ?_ _ | refine blk_drew ?_ | refine blk_alloc ?_ _)); refine blk_put (cs := #[.bool false, .slice none 0 0, .slice none 0 0, .slice none 0 0]) ?_ 0 _ rfl; (with_reducible repeat (first | refine blk_drewN ?_ _ | refine blk_drew ?_ | refine blk_alloc ?_ _)); exact BK272.out) Try.underlying25 rfl (by kernel_rfl) (.tmp (.cell gb273 25 #[.bool true, .slice Ao57 t285.length co57, .slice Ao56 t289.length co56, .slice none 0 0] (0, 0) _ rfl (by (with_reducible repeat (first | refine blk_drewN ?_ _ | refine blk_drew ?_ | refine blk_alloc ?_ _)); refine blk_put (cs := #[.bool true, .slice Ao57 t285.length co57, .slice Ao56 t289.length co56, .slice none 0 0]) ?_ 3 _ rfl; (with_reducible repeat (first | refine blk_drewN ?_ _ | refine blk_drew ?_ | refine blk_alloc ?_ _)); refine blk_put (cs := #[.bool true, .slice Ao57 t285.length co57, .slice none 0 0, .slice none 0 0]) ?_ 2 _ rfl; (with_reducible repeat (first | refine blk_drewN ?_ _ | refine blk_drew ?_ | refine blk_alloc ?_ _)); refine blk_put (cs := #[.bool true, .slice none 0 0, .slice none 0 0, .slice none 0 0]) ?_ 1 _ rfl; (with_reducible repeat (first | refine blk_drewN ?_ _ | refine blk_drew ?_ | refine blk_alloc ?_ _)); refine blk_put (cs := #[.bool false, .slice none 0 0, .slice none 0 0, .slice none 0 0]) ?_ 0 _ rfl; (with_reducible repeat (first | refine blk_drewN ?_ _ | refine blk_drew ?_ | refine blk_alloc ?_ _)); refine blk_far ?_ NB273_272.out _; (with_reducible repeat (first | refine blk_drewN ?_ _ | refine blk_drew ?_ | refine blk_alloc ?_ _)); refine blk_far ?_ NB273_272.out _; (with_reducible repeat (first | refine blk_drewN ?_ _ | refine blk_drew ?_ | refine blk_alloc ?_ _)); refine blk_far ?_ NB273_272.out _; (with_reducible repeat (first | refine blk_drewN ?_ _ | refine blk_drew ?_ | refine blk_alloc ?_ _)); refine blk_far ?_ NB273_272.out _; (with_reducible repeat (first | refine blk_drewN ?_ _ | refine blk_drew ?_ | refine blk_alloc ?_ _)); exact BK273.out) Try.underlying25 rfl (by kernel_rfl) (.tmp .nil))))) rfl ?_
          exact ⟨_, _, _, _, _, _, by first | rfl | (simp [errW_none, errW_some] <;> rfl) | (simp only [← hji28]; first | rfl | (simp [errW_none, errW_some] <;> rfl)) | (simp [*, errW_none, errW_some] <;> rfl), by (with_reducible repeat (first | apply Kd.R_alloc | apply Kd.R_drewN | apply Kd.R_drew)); exact Kd.R_mono (Kd.R_far (p := ⟨gb273, 3, none⟩) (Kd.R_far (p := ⟨gb273, 2, none⟩) (Kd.R_far (p := ⟨gb273, 1, none⟩) (Kd.R_far (p := ⟨gb273, 0, none⟩) (Kd.R_far (p := ⟨gb272, 3, none⟩) (Kd.R_far (p := ⟨gb272, 2, none⟩) (Kd.R_far (p := ⟨gb272, 1, none⟩) (Kd.R_far (p := ⟨gb272, 0, none⟩) (Kd.R_types (Kd.R_types HO278.out BK272.out (by decide)) BK273.out (by decide)) (fun _ hk => hk.1.2) (.bool true)) (fun _ hk => hk.1.2) (.slice Ao53 t276.length co53)) (fun _ hk => hk.1.2) (.slice Ao52 t280.length co52)) (fun _ hk => hk.1.2) (.slice none 0 0)) (fun _ hk => hk.2) (.bool true)) (fun _ hk => hk.2) (.slice Ao57 t285.length co57)) (fun _ hk => hk.2) (.slice Ao56 t289.length co56)) (fun _ hk => hk.2) (.slice none 0 0)) (fun _ hk => ⟨hk.1.1.1.1.2, ⟨hk.1.1.1.2, hk.1.1.2⟩⟩), by (with_reducible repeat (first | apply Kd.R_alloc | apply Kd.R_drewN | apply Kd.R_drew)); exact Kd.R_mono (Kd.R_far (p := ⟨gb273, 3, none⟩) (Kd.R_far (p := ⟨gb273, 2, none⟩) (Kd.R_far (p := ⟨gb273, 1, none⟩) (Kd.R_far (p := ⟨gb273, 0, none⟩) (Kd.R_far (p := ⟨gb272, 3, none⟩) (Kd.R_far (p := ⟨gb272, 2, none⟩) (Kd.R_far (p := ⟨gb272, 1, none⟩) (Kd.R_far (p := ⟨gb272, 0, none⟩) (Kd.R_types (Kd.R_types HO282.out BK272.out (by decide)) BK273.out (by decide)) (fun _ hk => hk.1.2) (.bool true)) (fun _ hk => hk.1.2) (.slice Ao53 t276.length co53)) (fun _ hk => hk.1.2) (.slice Ao52 t280.length co52)) (fun _ hk => hk.1.2) (.slice none 0 0)) (fun _ hk => hk.2) (.bool true)) (fun _ hk => hk.2) (.slice Ao57 t285.length co57)) (fun _ hk => hk.2) (.slice Ao56 t289.length co56)) (fun _ hk => hk.2) (.slice none 0 0)) (fun _ hk => ⟨hk.1.1.1.1.2, ⟨hk.1.1.1.2, hk.1.1.2⟩⟩), nil_, by (with_reducible repeat (first | apply Kd.R_alloc | apply Kd.R_drewN | apply Kd.R_drew)); exact Kd.R_mono (Kd.R_far (p := ⟨gb273, 3, none⟩) (Kd.R_far (p := ⟨gb273, 2, none⟩) (Kd.R_far (p := ⟨gb273, 1, none⟩) (Kd.R_far (p := ⟨gb273, 0, none⟩) (Kd.R_far (p := ⟨gb272, 3, none⟩) (Kd.R_far (p := ⟨gb272, 2, none⟩) (Kd.R_far (p := ⟨gb272, 1, none⟩) (Kd.R_far (p := ⟨gb272, 0, none⟩) (Kd.R_types (Kd.R_types HO287.out BK272.out (by decide)) BK273.out (by decide)) (fun _ hk => hk.1.2) (.bool true)) (fun _ hk => hk.1.2) (.slice Ao53 t276.length co53)) (fun _ hk => hk.1.2) (.slice Ao52 t280.length co52)) (fun _ hk => hk.1.2) (.slice none 0 0)) (fun _ hk => hk.2) (.bool true)) (fun _ hk => hk.2) (.slice Ao57 t285.length co57)) (fun _ hk => hk.2) (.slice Ao56 t289.length co56)) (fun _ hk => hk.2) (.slice none 0 0)) (fun _ hk => ⟨hk.1.1.1.1.2, ⟨hk.1.1.1.2, hk.1.1.2⟩⟩), by (with_reducible repeat (first | apply Kd.R_alloc | apply Kd.R_drewN | apply Kd.R_drew)); exact Kd.R_mono (Kd.R_far (p := ⟨gb273, 3, none⟩) (Kd.R_far (p := ⟨gb273, 2, none⟩) (Kd.R_far (p := ⟨gb273, 1, none⟩) (Kd.R_far (p := ⟨gb273, 0, none⟩) (Kd.R_far (p := ⟨gb272, 3, none⟩) (Kd.R_far (p := ⟨gb272, 2, none⟩) (Kd.R_far (p := ⟨gb272, 1, none⟩) (Kd.R_far (p := ⟨gb272, 0, none⟩) (Kd.R_types (Kd.R_types HO291.out BK272.out (by decide)) BK273.out (by decide)) (fun _ hk => hk.1.2) (.bool true)) (fun _ hk => hk.1.2) (.slice Ao53 t276.length co53)) (fun _ hk => hk.1.2) (.slice Ao52 t280.length co52)) (fun _ hk => hk.1.2) (.slice none 0 0)) (fun _ hk => hk.2) (.bool true)) (fun _ hk => hk.2) (.slice Ao57 t285.length co57)) (fun _ hk => hk.2) (.slice Ao56 t289.length co56)) (fun _ hk => hk.2) (.slice none 0 0)) (fun _ hk => ⟨hk.1.1.1.1.2, ⟨hk.1.1.1.2, hk.1.1.2⟩⟩), nil_, bl_ HB⟩
         ·rw [if_neg c35] at H
          exact absurd H (by simp)
        ·rw [if_neg c33] at H
         exact absurd H (by simp)
       ·rw [if_neg c30] at H
        exact absurd H (by simp)
      ·rw [if_neg c29] at H
       exact absurd H (by simp)
     ·replace c27 := Bool.eq_false_iff.mpr c27
      subst c27
      rw [if_neg (show ¬ (false = true) by decide)] at H
      obtain ⟨ji66, hji66⟩ : ∃ j_ : Int, (wrap64 (Int.tdiv (l0_1.length : Int) 2)) = j_ := ⟨_, rfl⟩
      replace H : (if 0 ≤ (ji66) then (if (ji66) ≤ (l0_1.length : Int) then ((transeptref09_strings.f (l0_1.take ((ji66) : Int).toNat)).bind fun t293 => (if 0 ≤ (wrap64 ((ji66) + 1)) then (if (wrap64 ((ji66) + 1)) ≤ (l0_3.length : Int) then ((transeptref09_ints.f (l0_3.take ((wrap64 ((ji66) + 1)) : Int).toNat)).bind fun t297 => (if (ji66) < (l0_1.length : Int) then (if (wrap64 ((ji66) + 1)) ≤ (l0_1.length : Int) then ((transeptref09_strings.f (l0_1.drop ((wrap64 ((ji66) + 1)) : Int).toNat)).bind fun t302 => ((transeptref09_ints.f (l0_3.drop ((wrap64 ((ji66) + 1)) : Int).toNat)).bind fun t306 => (some (false, t293, ([] : List ByteArray), t297, rdOf ByteArray.empty l0_1 (ji66), false, t302, ([] : List ByteArray), t306, 0)))) else (none)) else (none))) else (none)) else (none))) else (none)) else (none)) = some (r1, r2, r3, r4, r5, r6, r7, r8, r9, r10) := by first | (rw [hji66] at H; exact H) | (simp only [hji66] at H ⊢; exact H)
      have hji66w : (IntKind.i64.wrap (Int.tdiv (l0_1.length : Int) 2)) = ji66 := (i64_w _).trans hji66
      have hji66d : (wrap64 ((l0_1.length : Int) / 2)) = ji66 := by rw [← Int.tdiv_eq_ediv_of_nonneg (Int.natCast_nonneg _)]; exact hji66
      have hji66e : (IntKind.i64.wrap ((l0_1.length : Int) / 2)) = ji66 := (i64_w _).trans hji66d
      by_cases c67 : 0 ≤ (ji66)
      ·rw [if_pos c67] at H
       have c67b0 := eq_true c67
       have c67b1 : decide (0 ≤ (ji66)) = true := decide_eq_true c67
       clear c67
       by_cases c68 : (ji66) ≤ (l0_1.length : Int)
       ·rw [if_pos c68] at H
        have c68b0 := eq_true c68
        have c68b1 : decide ((ji66) ≤ (l0_1.length : Int)) = true := decide_eq_true c68
        clear c68
        replace H := Option.bind_eq_some_iff.mp H
        obtain ⟨t293, A690, H⟩ := H
        try dsimp only at H
        have A69 := Aside0.mk A690
        clear A690
        obtain ⟨ji70, hji70⟩ : ∃ j_ : Int, (wrap64 ((ji66) + 1)) = j_ := ⟨_, rfl⟩
        replace H : (if 0 ≤ (ji70) then (if (ji70) ≤ (l0_3.length : Int) then ((transeptref09_ints.f (l0_3.take ((ji70) : Int).toNat)).bind fun t297 => (if (ji66) < (l0_1.length : Int) then (if (ji70) ≤ (l0_1.length : Int) then ((transeptref09_strings.f (l0_1.drop ((ji70) : Int).toNat)).bind fun t302 => ((transeptref09_ints.f (l0_3.drop ((ji70) : Int).toNat)).bind fun t306 => (some (false, t293, ([] : List ByteArray), t297, rdOf ByteArray.empty l0_1 (ji66), false, t302, ([] : List ByteArray), t306, 0)))) else (none)) else (none))) else (none)) else (none)) = some (r1, r2, r3, r4, r5, r6, r7, r8, r9, r10) := by first | (rw [hji70] at H; exact H) | (simp only [hji70] at H ⊢; exact H)
        (try rw [hji70] at A69)
        have hji70w : (IntKind.i64.wrap ((ji66) + 1)) = ji70 := (i64_w _).trans hji70
        by_cases c71 : 0 ≤ (ji70)
        ·rw [if_pos c71] at H
         have c71b0 := eq_true c71
         have c71b1 : decide (0 ≤ (ji70)) = true := decide_eq_true c71
         clear c71
         by_cases c72 : (ji70) ≤ (l0_3.length : Int)
         ·rw [if_pos c72] at H
          have c72b0 := eq_true c72
          have c72b1 : decide ((ji70) ≤ (l0_3.length : Int)) = true := decide_eq_true c72
          clear c72
          replace H := Option.bind_eq_some_iff.mp H
          obtain ⟨t297, A730, H⟩ := H
          try dsimp only at H
          have A73 := Aside0.mk A730
          clear A730
          by_cases c74 : (ji66) < (l0_1.length : Int)
          ·rw [if_pos c74] at H
           have c74b0 : decide ((ji66) < (l0_1.length : Int)) = true := decide_eq_true c74
           clear c74
           have c75b0 := eq_true (of_decide_eq_true (by first | (with_reducible assumption) | assumption) : 0 ≤ (ji70))
           by_cases c76 : (ji70) ≤ (l0_1.length : Int)
           ·rw [if_pos c76] at H
            have c76b0 := eq_true c76
            have c76b1 : decide ((ji70) ≤ (l0_1.length : Int)) = true := decide_eq_true c76
            clear c76
            replace H := Option.bind_eq_some_iff.mp H
            obtain ⟨t302, A770, H⟩ := H
            try dsimp only at H
            have A77 := Aside0.mk A770
            clear A770
            have c78b0 := eq_true (of_decide_eq_true (by first | (with_reducible assumption) | assumption) : 0 ≤ (ji70))
            have c79b0 := eq_true (of_decide_eq_true (by first | (with_reducible assumption) | assumption) : (ji70) ≤ (l0_3.length : Int))
            replace H := Option.bind_eq_some_iff.mp H
            obtain ⟨t306, A800, H⟩ := H
            try dsimp only at H
            have A80 := Aside0.mk A800
            clear A800
            simp only [Option.some.injEq, Prod.mk.injEq] at H
            obtain ⟨rfl, rfl, rfl, rfl, rfl, rfl, rfl, rfl, rfl, rfl⟩ := H
            have hnb81 := NB271_272.out
            have hnc81 := NB272_271.out
            have hnb82 := NB271_273.out
            have hnc82 := NB273_271.out
            obtain ⟨hcz83_0, hcz83_1, hcz83_2, hcz83_3, hfz83_0, hfz83_1, hfz83_2, hfz83_3⟩ := cz4_ BK271
            try go_wp2
            replace BK271 := Aside0.mk (blk_drew BK271.out)
            replace BK272 := Aside0.mk (blk_drew BK272.out)
            replace BK273 := Aside0.mk (blk_drew BK273.out)
            replace HB := Aside0.mk (below_drew1 HB.out)
            obtain ⟨i085, hi085, _, hsz85, _⟩ := info_parts info9
            obtain ⟨hcut85, hA85, hC85⟩ := print_take_of (P := Try.prog) Value.string (⟨#[]⟩ : ByteArray) 22 9 .i64 Try.underlying22 hi085 hsz85 A0_1 c0_1 l0_1 (ji66) (of_decide_eq_true (by first | (with_reducible assumption) | assumption)) (of_decide_eq_true (by first | (with_reducible assumption) | assumption)) HC0_1.out
            have HR292 := Aside0.mk (Kd.C_of_reads (h1 := fun _ => rfl) (hA85 _ (Kd.reads_of_C HR0_1.out)))
            have HC292 := Aside0.mk hC85
            clear hA85 hC85 hi085 hsz85
            obtain ⟨i086, hi086, _, hsz86, _⟩ := info_parts info3
            obtain ⟨hcut86, hA86, hC86⟩ := print_take_of (P := Try.prog) (Value.int .i64) 0 23 3 .i64 Try.underlying23 hi086 hsz86 A0_3 c0_3 l0_3 (ji70) (of_decide_eq_true (by first | (with_reducible assumption) | assumption)) (of_decide_eq_true (by first | (with_reducible assumption) | assumption)) HC0_3.out
            have HR296 := Aside0.mk (Kd.C_of_reads (h1 := fun _ => rfl) (hA86 _ (Kd.reads_of_C HR0_3.out)))
            have HC296 := Aside0.mk hC86
            clear hA86 hC86 hi086 hsz86
            have p300 : 0 ≤ ((ji66) : Int) := of_decide_eq_true (by first | (with_reducible assumption) | assumption)
            have q300 : (ji66) < (l0_1.length : Int) := of_decide_eq_true (by first | (with_reducible assumption) | assumption)
            obtain ⟨ad300, e300, hx300_0⟩ := Kd.at_string HR0_1.out (ji66) p300 q300
            have hw300_0 := hx300_0
            cases e300
            replace hx300_0 := (HB.out.cell (World.block_lt_of_cell? w _ hx300_0)).trans hx300_0
            replace p300 := eq_true p300
            replace q300 := eq_true q300
            obtain ⟨i087, hi087, _, hsz87, _⟩ := info_parts info9
            obtain ⟨A87, hcut87, hA87, hC87⟩ := print_drop_of (P := Try.prog) Value.string (⟨#[]⟩ : ByteArray) 22 9 .i64 Try.underlying22 hi087 hsz87 (some ad300) c0_1 l0_1 (ji70) (of_decide_eq_true (by first | (with_reducible assumption) | assumption)) (of_decide_eq_true (by first | (with_reducible assumption) | assumption)) HC0_1.out
            have HR301 := Aside0.mk (Kd.C_of_reads (h1 := fun _ => rfl) (hA87 _ (Kd.reads_of_C HR0_1.out)))
            have HC301 := Aside0.mk hC87
            clear hA87 hC87 hi087 hsz87
            obtain ⟨i088, hi088, _, hsz88, _⟩ := info_parts info3
            obtain ⟨A88, hcut88, hA88, hC88⟩ := print_drop_of (P := Try.prog) (Value.int .i64) 0 23 3 .i64 Try.underlying23 hi088 hsz88 A0_3 c0_3 l0_3 (ji70) (of_decide_eq_true (by first | (with_reducible assumption) | assumption)) (of_decide_eq_true (by first | (with_reducible assumption) | assumption)) HC0_3.out
            have HR305 := Aside0.mk (Kd.C_of_reads (h1 := fun _ => rfl) (hA88 _ (Kd.reads_of_C HR0_3.out)))
            have HC305 := Aside0.mk hC88
            clear hA88 hC88 hi088 hsz88
            refine start_ (n := 34) (S := fun w' => w'.cell? ⟨gb271, 0, none⟩ = some (.bool false) ∧ w'.cell? ⟨gb271, 1, none⟩ = some (.slice (some ad300) l0_1.length c0_1) ∧ w'.cell? ⟨gb271, 2, none⟩ = some (.slice A0_2 l0_2.length c0_2) ∧ w'.cell? ⟨gb271, 3, none⟩ = some (.slice A0_3 l0_3.length c0_3) ∧ w'.cell? (ad300.add ((ji66)).toNat) = some (.string (rdOf ByteArray.empty l0_1 (ji66)))) (ds := []) #[false, false, false, false, false, false, false, false, false, false, false, false, false, false, false, false, false, false, false, false, false, false, false, false, false, false, false, false, false, false, false, false, false, false] (by kernel_rfl) rfl rfl ⟨(blk_cell BK271.out 0).trans rfl, (blk_cell BK271.out 1).trans rfl, (blk_cell BK271.out 2).trans rfl, (blk_cell BK271.out 3).trans rfl, ((HB.out.cell (World.block_lt_of_cell? w _ hw300_0)).trans hw300_0)⟩ (fun hHeld => ?_); refine with_tabW transeptref09_Split.tab10 transeptref09_Split.bits10 (fun HT_ HW_ => ?_)
            generalize wc.drew = w84 at BK271 BK272 BK273 HB HR292 HR296 HR301 HR305 hx300_0 hHeld ⊢
            refine pu_ 0 (some 63) HT_ ?_
            refine pu_ 2 (some 65) HT_ ?_
            refine pu_ 5 (some 68) HT_ ?_
            refine pu_ 7 (some 70) HT_ ?_
            refine pu_ 8 (some 71) HT_ ?_
            refine pu_ 12 (some 75) HT_ ?_
            refine pu_ 14 (some 77) HT_ ?_
            refine pu_ 17 (some 80) HT_ ?_
            refine pu_ 19 (some 82) HT_ ?_
            refine pu_ 20 (some 83) HT_ ?_
            refine pu_ 23 (some 86) HT_ ?_
            refine pu_ 25 (some 88) HT_ ?_
            refine pu_ 26 (some 89) HT_ ?_
            refine tk_ 1 (some 64) HT_ HW_ hHeld ?_
            refine pu_ 3 (some 66) HT_ ?_
            refine tk_ 6 (some 69) HT_ HW_ hHeld ?_
            refine pu_ 9 (some 72) HT_ ?_
            refine tk_ 13 (some 76) HT_ HW_ hHeld ?_
            refine pu_ 15 (some 78) HT_ ?_
            refine tk_ 16 (some 79) HT_ HW_ hHeld ?_
            refine tk_ 18 (some 81) HT_ HW_ hHeld ?_
            refine pu_ 21 (some 84) HT_ ?_
            refine tk_ 24 (some 87) HT_ HW_ hHeld ?_
            refine pu_ 27 (some 90) HT_ ?_
            refine on_ 4 (some 67) HT_ (fun K hK => ?_)
            refine goes_ Try.func63 (by kernel_rfl) rfl #[.slice (some ad300) (l0_1.take ((ji66) : Int).toNat).length c0_1] (by rfl) rfl rfl (by (try simp only [List.map_toArray, List.map_cons, List.map_nil]); first | done | (rw [show (l0_1.take ((ji66) : Int).toNat).length = (ji66).toNat from (by rw [List.length_take]; have h_ : ((ji66) : Int) ≤ (l0_1.length : Int) := of_decide_eq_true (by first | (with_reducible assumption) | assumption); omega)] <;> rfl) | (simp only [hji66]; rfl) | rfl | (simp only [List.length_drop, List.length_take]; rfl)) ?_
            with_reducible refine (transeptref09_strings.calls _ _ (l0_1.take ((ji66) : Int).toNat) t293 _ ?_ ?_ A69.out).mono ?_
            exact cB_ HR292 HB
            exact HC292.out
            rintro e w89 ⟨v294, rfl, ho0, hb⟩
            refine ⟨_, rfl, ?_⟩
            have HO295 := Aside0.mk (Kd.R_lower ho0 (bs_ HB))
            replace BK271 := bK_ BK271 hb
            replace BK272 := bK_ BK272 hb
            replace BK273 := bK_ BK273 hb
            replace HB := bS_ HB hb
            (try clear hb ho0)
            refine hK.out _ _ ⟨(blk_cell BK271.out 0).trans rfl, (blk_cell BK271.out 1).trans rfl, (blk_cell BK271.out 2).trans rfl, (blk_cell BK271.out 3).trans rfl, ((HB.out.cell (World.block_lt_of_cell? w _ hw300_0)).trans hw300_0)⟩ (fun hHeld => ?_)
            clear hK K
            refine norm_ (a' := ?_) ?_ ?_
            rotate_left
            ·show Act.put _ (some 67) _ = _
             simp only [Act.put, List.setIfInBounds_toArray, List.set_cons_zero, List.set_cons_succ, i64_w, i32_w]
             rfl
            refine on_ 10 (some 73) HT_ (fun K hK => ?_)
            refine goes_ Try.func64 (by kernel_rfl) rfl #[.slice A0_3 (l0_3.take ((ji70) : Int).toNat).length c0_3] (by rfl) rfl rfl (by (try simp only [List.map_toArray, List.map_cons, List.map_nil]); first | done | (rw [show (l0_3.take ((ji70) : Int).toNat).length = (ji70).toNat from (by rw [List.length_take]; have h_ : ((ji70) : Int) ≤ (l0_3.length : Int) := of_decide_eq_true (by first | (with_reducible assumption) | assumption); omega)] <;> rfl) | (simp only [hji70]; rfl) | rfl | (simp only [List.length_drop, List.length_take]; rfl)) ?_
            with_reducible refine (transeptref09_ints.calls _ _ (l0_3.take ((ji70) : Int).toNat) t297 _ ?_ ?_ A73.out).mono ?_
            exact cB_ HR296 HB
            exact HC296.out
            rintro e w90 ⟨v298, rfl, ho0, hb⟩
            refine ⟨_, rfl, ?_⟩
            replace HO295 := rB_ HO295 hb
            have HO299 := Aside0.mk (Kd.R_lower ho0 (bs_ HB))
            replace BK271 := bK_ BK271 hb
            replace BK272 := bK_ BK272 hb
            replace BK273 := bK_ BK273 hb
            replace HB := bS_ HB hb
            (try clear hb ho0)
            obtain ⟨Ao91, co91, eo91⟩ := Kd.R_slice HO299.out
            (first | subst eo91 | (injection eo91 with f1_ f2_ f3_; have f4_ := f1_.symm; have f5_ := f3_.symm; clear f1_ f2_ f3_; subst f4_; subst f5_))
            obtain ⟨Ao92, co92, eo92⟩ := Kd.R_slice HO295.out
            (first | subst eo92 | (injection eo92 with f1_ f2_ f3_; have f4_ := f1_.symm; have f5_ := f3_.symm; clear f1_ f2_ f3_; subst f4_; subst f5_))
            refine hK.out _ _ ⟨(blk_cell BK271.out 0).trans rfl, (blk_cell BK271.out 1).trans rfl, (blk_cell BK271.out 2).trans rfl, (blk_cell BK271.out 3).trans rfl, ((HB.out.cell (World.block_lt_of_cell? w _ hw300_0)).trans hw300_0)⟩ (fun hHeld => ?_)
            clear hK K
            refine norm_ (a' := ?_) ?_ ?_
            rotate_left
            ·show Act.put _ (some 73) _ = _
             simp only [Act.put, List.setIfInBounds_toArray, List.set_cons_zero, List.set_cons_succ, i64_w, i32_w]
             rfl
            refine pu_ 11 (some 74) HT_ ?_
            refine on_ 22 (some 85) HT_ (fun K hK => ?_)
            refine goes_ Try.func63 (by kernel_rfl) rfl #[.slice A87 (l0_1.drop ((ji70) : Int).toNat).length (c0_1 - (ji70).toNat)] (by rfl) rfl rfl (by (try simp only [List.map_toArray, List.map_cons, List.map_nil]); first | done | (rw [show (l0_1.drop ((ji70) : Int).toNat).length = (l0_1.length - (ji70).toNat) from List.length_drop] <;> rfl) | (simp only [hji70]; rfl) | rfl | (simp only [List.length_drop, List.length_take]; rfl)) ?_
            with_reducible refine (transeptref09_strings.calls _ _ (l0_1.drop ((ji70) : Int).toNat) t302 _ ?_ ?_ A77.out).mono ?_
            exact cB_ HR301 HB
            exact HC301.out
            rintro e w93 ⟨v303, rfl, ho0, hb⟩
            refine ⟨_, rfl, ?_⟩
            replace HO299 := rB_ HO299 hb
            have HO304 := Aside0.mk (Kd.R_lower (Kd.R_new' ho0 (Kd.R_lt (rA_ HO295))) (bs_ HB))
            replace HO295 := Aside0.mk (Kd.R_elder' (rA_ HO295) (Kd.R_base ho0) hb)
            replace BK271 := bK_ BK271 hb
            replace BK272 := bK_ BK272 hb
            replace BK273 := bK_ BK273 hb
            replace HB := bS_ HB hb
            (try clear hb ho0)
            refine hK.out _ _ ⟨(blk_cell BK271.out 0).trans rfl, (blk_cell BK271.out 1).trans rfl, (blk_cell BK271.out 2).trans rfl, (blk_cell BK271.out 3).trans rfl, ((HB.out.cell (World.block_lt_of_cell? w _ hw300_0)).trans hw300_0)⟩ (fun hHeld => ?_)
            clear hK K
            refine norm_ (a' := ?_) ?_ ?_
            rotate_left
            ·show Act.put _ (some 85) _ = _
             simp only [Act.put, List.setIfInBounds_toArray, List.set_cons_zero, List.set_cons_succ, i64_w, i32_w]
             rfl
            refine on_ 28 (some 91) HT_ (fun K hK => ?_)
            refine goes_ Try.func64 (by kernel_rfl) rfl #[.slice A88 (l0_3.drop ((ji70) : Int).toNat).length (c0_3 - (ji70).toNat)] (by rfl) rfl rfl (by (try simp only [List.map_toArray, List.map_cons, List.map_nil]); first | done | (rw [show (l0_3.drop ((ji70) : Int).toNat).length = (l0_3.length - (ji70).toNat) from List.length_drop] <;> rfl) | (simp only [hji70]; rfl) | rfl | (simp only [List.length_drop, List.length_take]; rfl)) ?_
            with_reducible refine (transeptref09_ints.calls _ _ (l0_3.drop ((ji70) : Int).toNat) t306 _ ?_ ?_ A80.out).mono ?_
            exact cB_ HR305 HB
            exact HC305.out
            rintro e w94 ⟨v307, rfl, ho0, hb⟩
            refine ⟨_, rfl, ?_⟩
            replace HO295 := rB_ HO295 hb
            replace HO304 := rB_ HO304 hb
            have HO308 := Aside0.mk (Kd.R_lower (Kd.R_new' ho0 (Kd.R_lt (rA_ HO299))) (bs_ HB))
            replace HO299 := Aside0.mk (Kd.R_elder' (rA_ HO299) (Kd.R_base ho0) hb)
            replace BK271 := bK_ BK271 hb
            replace BK272 := bK_ BK272 hb
            replace BK273 := bK_ BK273 hb
            replace HB := bS_ HB hb
            (try clear hb ho0)
            obtain ⟨Ao95, co95, eo95⟩ := Kd.R_slice HO308.out
            (first | subst eo95 | (injection eo95 with f1_ f2_ f3_; have f4_ := f1_.symm; have f5_ := f3_.symm; clear f1_ f2_ f3_; subst f4_; subst f5_))
            obtain ⟨Ao96, co96, eo96⟩ := Kd.R_slice HO304.out
            (first | subst eo96 | (injection eo96 with f1_ f2_ f3_; have f4_ := f1_.symm; have f5_ := f3_.symm; clear f1_ f2_ f3_; subst f4_; subst f5_))
            refine hK.out _ _ ⟨(blk_cell BK271.out 0).trans rfl, (blk_cell BK271.out 1).trans rfl, (blk_cell BK271.out 2).trans rfl, (blk_cell BK271.out 3).trans rfl, ((HB.out.cell (World.block_lt_of_cell? w _ hw300_0)).trans hw300_0)⟩ (fun hHeld => ?_)
            clear hK K
            refine norm_ (a' := ?_) ?_ ?_
            rotate_left
            ·show Act.put _ (some 91) _ = _
             simp only [Act.put, List.setIfInBounds_toArray, List.set_cons_zero, List.set_cons_succ, i64_w, i32_w]
             rfl
            refine pu_ 29 (some 92) HT_ ?_
            refine on_ 30 none HT_ (fun K hK => ?_)
            have hs97 : w94.cell? ⟨gb272, 0, none⟩ = some (.bool false) := (blk_cell BK272.out 0).trans rfl
            have hfs97 := blk_frozen BK272.out 0
            have hns97_0 := NB271_272.out
            have hns97_2 := NB273_272.out
            have hms97_0 := NB272_271.out
            have hms97_2 := NB272_273.out
            have hs98 : w94.cell? ⟨gb272, 1, none⟩ = some (.slice none 0 0) := (blk_cell BK272.out 1).trans rfl
            have hfs98 := blk_frozen BK272.out 1
            have hns98_0 := NB271_272.out
            have hns98_2 := NB273_272.out
            have hms98_0 := NB272_271.out
            have hms98_2 := NB272_273.out
            have hs99 : w94.cell? ⟨gb272, 2, none⟩ = some (.slice none 0 0) := (blk_cell BK272.out 2).trans rfl
            have hfs99 := blk_frozen BK272.out 2
            have hns99_0 := NB271_272.out
            have hns99_2 := NB273_272.out
            have hms99_0 := NB272_271.out
            have hms99_2 := NB272_273.out
            have hs100 : w94.cell? ⟨gb272, 3, none⟩ = some (.slice none 0 0) := (blk_cell BK272.out 3).trans rfl
            have hfs100 := blk_frozen BK272.out 3
            have hns100_0 := NB271_272.out
            have hns100_2 := NB273_272.out
            have hms100_0 := NB272_271.out
            have hms100_2 := NB272_273.out
            refine skip_ (w1 := ?_) (by rfl) rfl ?_ ?_
            rotate_left
            ·go_simp
             rfl
            refine hK.out _ _ ⟨((cell_far (p := ⟨gb272, _, none⟩) NB271_272.out _).trans (((cell_far (p := ⟨gb272, _, none⟩) NB271_272.out _).trans (((cell_far (p := ⟨gb272, _, none⟩) NB271_272.out _).trans (((cell_far (p := ⟨gb272, _, none⟩) NB271_272.out _).trans (hHeld.1)))))))), ((cell_far (p := ⟨gb272, _, none⟩) NB271_272.out _).trans (((cell_far (p := ⟨gb272, _, none⟩) NB271_272.out _).trans (((cell_far (p := ⟨gb272, _, none⟩) NB271_272.out _).trans (((cell_far (p := ⟨gb272, _, none⟩) NB271_272.out _).trans (hHeld.2.1)))))))), ((cell_far (p := ⟨gb272, _, none⟩) NB271_272.out _).trans (((cell_far (p := ⟨gb272, _, none⟩) NB271_272.out _).trans (((cell_far (p := ⟨gb272, _, none⟩) NB271_272.out _).trans (((cell_far (p := ⟨gb272, _, none⟩) NB271_272.out _).trans (hHeld.2.2.1)))))))), ((cell_far (p := ⟨gb272, _, none⟩) NB271_272.out _).trans (((cell_far (p := ⟨gb272, _, none⟩) NB271_272.out _).trans (((cell_far (p := ⟨gb272, _, none⟩) NB271_272.out _).trans (((cell_far (p := ⟨gb272, _, none⟩) NB271_272.out _).trans (hHeld.2.2.2.1)))))))), ((cell_far (p := ⟨gb272, _, none⟩) (by first | exact Nat.ne_of_lt (Nat.lt_of_lt_of_le (by have := World.block_lt_of_cell? _ _ hw300_0; first | rwa [add_block] at this | exact this) GW272.out) | (rw [add_block]; exact Nat.ne_of_lt (Nat.lt_of_lt_of_le (by have := World.block_lt_of_cell? _ _ hw300_0; first | rwa [add_block] at this | exact this) GW272.out)) | (show (Addr.add _ _).block ≠ _; rw [add_block]; exact Nat.ne_of_lt (Nat.lt_of_lt_of_le (by have := World.block_lt_of_cell? _ _ hw300_0; first | rwa [add_block] at this | exact this) GW272.out)) | (dsimp only; exact Nat.ne_of_lt (Nat.lt_of_lt_of_le (by have := World.block_lt_of_cell? _ _ hw300_0; first | rwa [add_block] at this | exact this) GW272.out))) _).trans (((cell_far (p := ⟨gb272, _, none⟩) (by first | exact Nat.ne_of_lt (Nat.lt_of_lt_of_le (by have := World.block_lt_of_cell? _ _ hw300_0; first | rwa [add_block] at this | exact this) GW272.out) | (rw [add_block]; exact Nat.ne_of_lt (Nat.lt_of_lt_of_le (by have := World.block_lt_of_cell? _ _ hw300_0; first | rwa [add_block] at this | exact this) GW272.out)) | (show (Addr.add _ _).block ≠ _; rw [add_block]; exact Nat.ne_of_lt (Nat.lt_of_lt_of_le (by have := World.block_lt_of_cell? _ _ hw300_0; first | rwa [add_block] at this | exact this) GW272.out)) | (dsimp only; exact Nat.ne_of_lt (Nat.lt_of_lt_of_le (by have := World.block_lt_of_cell? _ _ hw300_0; first | rwa [add_block] at this | exact this) GW272.out))) _).trans (((cell_far (p := ⟨gb272, _, none⟩) (by first | exact Nat.ne_of_lt (Nat.lt_of_lt_of_le (by have := World.block_lt_of_cell? _ _ hw300_0; first | rwa [add_block] at this | exact this) GW272.out) | (rw [add_block]; exact Nat.ne_of_lt (Nat.lt_of_lt_of_le (by have := World.block_lt_of_cell? _ _ hw300_0; first | rwa [add_block] at this | exact this) GW272.out)) | (show (Addr.add _ _).block ≠ _; rw [add_block]; exact Nat.ne_of_lt (Nat.lt_of_lt_of_le (by have := World.block_lt_of_cell? _ _ hw300_0; first | rwa [add_block] at this | exact this) GW272.out)) | (dsimp only; exact Nat.ne_of_lt (Nat.lt_of_lt_of_le (by have := World.block_lt_of_cell? _ _ hw300_0; first | rwa [add_block] at this | exact this) GW272.out))) _).trans (((cell_far (p := ⟨gb272, _, none⟩) (by first | exact Nat.ne_of_lt (Nat.lt_of_lt_of_le (by have := World.block_lt_of_cell? _ _ hw300_0; first | rwa [add_block] at this | exact this) GW272.out) | (rw [add_block]; exact Nat.ne_of_lt (Nat.lt_of_lt_of_le (by have := World.block_lt_of_cell? _ _ hw300_0; first | rwa [add_block] at this | exact this) GW272.out)) | (show (Addr.add _ _).block ≠ _; rw [add_block]; exact Nat.ne_of_lt (Nat.lt_of_lt_of_le (by have := World.block_lt_of_cell? _ _ hw300_0; first | rwa [add_block] at this | exact this) GW272.out)) | (dsimp only; exact Nat.ne_of_lt (Nat.lt_of_lt_of_le (by have := World.block_lt_of_cell? _ _ hw300_0; first | rwa [add_block] at this | exact this) GW272.out))) _).trans (hHeld.2.2.2.2))))))))⟩ (fun hHeld => ?_)
            clear hK K
            refine pu_ 31 (some 3) HT_ ?_
            refine on_ 32 none HT_ (fun K hK => ?_)
            have hs101 : w94.cell? ⟨gb273, 0, none⟩ = some (.bool false) := (blk_cell BK273.out 0).trans rfl
            have hfs101 := blk_frozen BK273.out 0
            have hns101_0 := NB271_273.out
            have hns101_1 := NB272_273.out
            have hms101_0 := NB273_271.out
            have hms101_1 := NB273_272.out
            have hs102 : w94.cell? ⟨gb273, 1, none⟩ = some (.slice none 0 0) := (blk_cell BK273.out 1).trans rfl
            have hfs102 := blk_frozen BK273.out 1
            have hns102_0 := NB271_273.out
            have hns102_1 := NB272_273.out
            have hms102_0 := NB273_271.out
            have hms102_1 := NB273_272.out
            have hs103 : w94.cell? ⟨gb273, 2, none⟩ = some (.slice none 0 0) := (blk_cell BK273.out 2).trans rfl
            have hfs103 := blk_frozen BK273.out 2
            have hns103_0 := NB271_273.out
            have hns103_1 := NB272_273.out
            have hms103_0 := NB273_271.out
            have hms103_1 := NB273_272.out
            have hs104 : w94.cell? ⟨gb273, 3, none⟩ = some (.slice none 0 0) := (blk_cell BK273.out 3).trans rfl
            have hfs104 := blk_frozen BK273.out 3
            have hns104_0 := NB271_273.out
            have hns104_1 := NB272_273.out
            have hms104_0 := NB273_271.out
            have hms104_1 := NB273_272.out
            refine skip_ (w1 := ?_) (by rfl) rfl ?_ ?_
            rotate_left
            ·go_simp
             rfl
            refine hK.out _ _ ⟨((cell_far (p := ⟨gb273, _, none⟩) NB271_273.out _).trans (((cell_far (p := ⟨gb273, _, none⟩) NB271_273.out _).trans (((cell_far (p := ⟨gb273, _, none⟩) NB271_273.out _).trans (((cell_far (p := ⟨gb273, _, none⟩) NB271_273.out _).trans (hHeld.1)))))))), ((cell_far (p := ⟨gb273, _, none⟩) NB271_273.out _).trans (((cell_far (p := ⟨gb273, _, none⟩) NB271_273.out _).trans (((cell_far (p := ⟨gb273, _, none⟩) NB271_273.out _).trans (((cell_far (p := ⟨gb273, _, none⟩) NB271_273.out _).trans (hHeld.2.1)))))))), ((cell_far (p := ⟨gb273, _, none⟩) NB271_273.out _).trans (((cell_far (p := ⟨gb273, _, none⟩) NB271_273.out _).trans (((cell_far (p := ⟨gb273, _, none⟩) NB271_273.out _).trans (((cell_far (p := ⟨gb273, _, none⟩) NB271_273.out _).trans (hHeld.2.2.1)))))))), ((cell_far (p := ⟨gb273, _, none⟩) NB271_273.out _).trans (((cell_far (p := ⟨gb273, _, none⟩) NB271_273.out _).trans (((cell_far (p := ⟨gb273, _, none⟩) NB271_273.out _).trans (((cell_far (p := ⟨gb273, _, none⟩) NB271_273.out _).trans (hHeld.2.2.2.1)))))))), ((cell_far (p := ⟨gb273, _, none⟩) (by first | exact Nat.ne_of_lt (Nat.lt_of_lt_of_le (by have := World.block_lt_of_cell? _ _ hw300_0; first | rwa [add_block] at this | exact this) GW273.out) | (rw [add_block]; exact Nat.ne_of_lt (Nat.lt_of_lt_of_le (by have := World.block_lt_of_cell? _ _ hw300_0; first | rwa [add_block] at this | exact this) GW273.out)) | (show (Addr.add _ _).block ≠ _; rw [add_block]; exact Nat.ne_of_lt (Nat.lt_of_lt_of_le (by have := World.block_lt_of_cell? _ _ hw300_0; first | rwa [add_block] at this | exact this) GW273.out)) | (dsimp only; exact Nat.ne_of_lt (Nat.lt_of_lt_of_le (by have := World.block_lt_of_cell? _ _ hw300_0; first | rwa [add_block] at this | exact this) GW273.out))) _).trans (((cell_far (p := ⟨gb273, _, none⟩) (by first | exact Nat.ne_of_lt (Nat.lt_of_lt_of_le (by have := World.block_lt_of_cell? _ _ hw300_0; first | rwa [add_block] at this | exact this) GW273.out) | (rw [add_block]; exact Nat.ne_of_lt (Nat.lt_of_lt_of_le (by have := World.block_lt_of_cell? _ _ hw300_0; first | rwa [add_block] at this | exact this) GW273.out)) | (show (Addr.add _ _).block ≠ _; rw [add_block]; exact Nat.ne_of_lt (Nat.lt_of_lt_of_le (by have := World.block_lt_of_cell? _ _ hw300_0; first | rwa [add_block] at this | exact this) GW273.out)) | (dsimp only; exact Nat.ne_of_lt (Nat.lt_of_lt_of_le (by have := World.block_lt_of_cell? _ _ hw300_0; first | rwa [add_block] at this | exact this) GW273.out))) _).trans (((cell_far (p := ⟨gb273, _, none⟩) (by first | exact Nat.ne_of_lt (Nat.lt_of_lt_of_le (by have := World.block_lt_of_cell? _ _ hw300_0; first | rwa [add_block] at this | exact this) GW273.out) | (rw [add_block]; exact Nat.ne_of_lt (Nat.lt_of_lt_of_le (by have := World.block_lt_of_cell? _ _ hw300_0; first | rwa [add_block] at this | exact this) GW273.out)) | (show (Addr.add _ _).block ≠ _; rw [add_block]; exact Nat.ne_of_lt (Nat.lt_of_lt_of_le (by have := World.block_lt_of_cell? _ _ hw300_0; first | rwa [add_block] at this | exact this) GW273.out)) | (dsimp only; exact Nat.ne_of_lt (Nat.lt_of_lt_of_le (by have := World.block_lt_of_cell? _ _ hw300_0; first | rwa [add_block] at this | exact this) GW273.out))) _).trans (((cell_far (p := ⟨gb273, _, none⟩) (by first | exact Nat.ne_of_lt (Nat.lt_of_lt_of_le (by have := World.block_lt_of_cell? _ _ hw300_0; first | rwa [add_block] at this | exact this) GW273.out) | (rw [add_block]; exact Nat.ne_of_lt (Nat.lt_of_lt_of_le (by have := World.block_lt_of_cell? _ _ hw300_0; first | rwa [add_block] at this | exact this) GW273.out)) | (show (Addr.add _ _).block ≠ _; rw [add_block]; exact Nat.ne_of_lt (Nat.lt_of_lt_of_le (by have := World.block_lt_of_cell? _ _ hw300_0; first | rwa [add_block] at this | exact this) GW273.out)) | (dsimp only; exact Nat.ne_of_lt (Nat.lt_of_lt_of_le (by have := World.block_lt_of_cell? _ _ hw300_0; first | rwa [add_block] at this | exact this) GW273.out))) _).trans (hHeld.2.2.2.2))))))))⟩ (fun hHeld => ?_)
            clear hK K
            refine pu_ 33 (some 5) HT_ ?_
            refine done_ (done_of HT_.out (by kernel_rfl)) ?_
            try go_wp2
            refine bodyPost_ret (results_list (rs := [.cell 2 25, .tmp 3, .cell 4 25, .tmp 5]) rfl (by simp) (.cell gb272 25 #[.bool false, .slice Ao92 t293.length co92, .slice none 0 0, .slice Ao91 t297.length co91] (0, 0) _ rfl (by (with_reducible repeat (first | refine blk_drewN ?_ _ | refine blk_drew ?_ | refine blk_alloc ?_ _)); refine blk_far ?_ NB272_273.out _; (with_reducible repeat (first | refine blk_drewN ?_ _ | refine blk_drew ?_ | refine blk_alloc ?_ _)); refine blk_far ?_ NB272_273.out _; (with_reducible repeat (first | refine blk_drewN ?_ _ | refine blk_drew ?_ | refine blk_alloc ?_ _)); refine blk_far ?_ NB272_273.out _; (with_reducible repeat (first | refine blk_drewN ?_ _ | refine blk_drew ?_ | refine blk_alloc ?_ _)); refine blk_far ?_ NB272_273.out _; (with_reducible repeat (first | refine blk_drewN ?_ _ | refine blk_drew ?_ | refine blk_alloc ?_ _)); refine blk_put (cs := #[.bool false, .slice Ao92 t293.length co92, .slice none 0 0, .slice none 0 0]) ?_ 3 _ rfl; (with_reducible repeat (first | refine blk_drewN ?_ _ | refine blk_drew ?_ | refine blk_alloc ?_ _)); refine blk_put (cs := #[.bool false, .slice Ao92 t293.length co92, .slice none 0 0, .slice none 0 0]) ?_ 2 _ rfl; (with_reducible repeat (first | refine blk_drewN ?_ _ | refine blk_drew ?_ | refine blk_alloc ?_ _)); refine blk_put (cs := #[.bool false, .slice none 0 0, .slice none 0 0, .slice none 0 0]) ?_ 1 _ rfl; (with_reducible repeat (first | refine blk_drewN ?_ _ | refine blk_drew ?_ | refine blk_alloc ?_ _)); refine blk_put (cs := #[.bool false, .slice none 0 0, .slice none 0 0, .slice none 0 0]) ?_ 0 _ rfl; (with_reducible repeat (first | refine blk_drewN ?_ _ | refine blk_drew ?_ | refine blk_alloc ?_ _)); exact BK272.out) Try.underlying25 rfl (by kernel_rfl) (.tmp (.cell gb273 25 #[.bool false, .slice Ao96 t302.length co96, .slice none 0 0, .slice Ao95 t306.length co95] (0, 0) _ rfl (by (with_reducible repeat (first | refine blk_drewN ?_ _ | refine blk_drew ?_ | refine blk_alloc ?_ _)); refine blk_put (cs := #[.bool false, .slice Ao96 t302.length co96, .slice none 0 0, .slice none 0 0]) ?_ 3 _ rfl; (with_reducible repeat (first | refine blk_drewN ?_ _ | refine blk_drew ?_ | refine blk_alloc ?_ _)); refine blk_put (cs := #[.bool false, .slice Ao96 t302.length co96, .slice none 0 0, .slice none 0 0]) ?_ 2 _ rfl; (with_reducible repeat (first | refine blk_drewN ?_ _ | refine blk_drew ?_ | refine blk_alloc ?_ _)); refine blk_put (cs := #[.bool false, .slice none 0 0, .slice none 0 0, .slice none 0 0]) ?_ 1 _ rfl; (with_reducible repeat (first | refine blk_drewN ?_ _ | refine blk_drew ?_ | refine blk_alloc ?_ _)); refine blk_put (cs := #[.bool false, .slice none 0 0, .slice none 0 0, .slice none 0 0]) ?_ 0 _ rfl; (with_reducible repeat (first | refine blk_drewN ?_ _ | refine blk_drew ?_ | refine blk_alloc ?_ _)); refine blk_far ?_ NB273_272.out _; (with_reducible repeat (first | refine blk_drewN ?_ _ | refine blk_drew ?_ | refine blk_alloc ?_ _)); refine blk_far ?_ NB273_272.out _; (with_reducible repeat (first | refine blk_drewN ?_ _ | refine blk_drew ?_ | refine blk_alloc ?_ _)); refine blk_far ?_ NB273_272.out _; (with_reducible repeat (first | refine blk_drewN ?_ _ | refine blk_drew ?_ | refine blk_alloc ?_ _)); refine blk_far ?_ NB273_272.out _; (with_reducible repeat (first | refine blk_drewN ?_ _ | refine blk_drew ?_ | refine blk_alloc ?_ _)); exact BK273.out) Try.underlying25 rfl (by kernel_rfl) (.tmp .nil))))) rfl ?_
            exact ⟨_, _, _, _, _, _, by first | rfl | (simp [errW_none, errW_some] <;> rfl) | (simp only [← hji66, ← hji70]; first | rfl | (simp [errW_none, errW_some] <;> rfl)) | (simp [*, errW_none, errW_some] <;> rfl), by (with_reducible repeat (first | apply Kd.R_alloc | apply Kd.R_drewN | apply Kd.R_drew)); exact Kd.R_mono (Kd.R_far (p := ⟨gb273, 3, none⟩) (Kd.R_far (p := ⟨gb273, 2, none⟩) (Kd.R_far (p := ⟨gb273, 1, none⟩) (Kd.R_far (p := ⟨gb273, 0, none⟩) (Kd.R_far (p := ⟨gb272, 3, none⟩) (Kd.R_far (p := ⟨gb272, 2, none⟩) (Kd.R_far (p := ⟨gb272, 1, none⟩) (Kd.R_far (p := ⟨gb272, 0, none⟩) (Kd.R_types (Kd.R_types HO295.out BK272.out (by decide)) BK273.out (by decide)) (fun _ hk => hk.1.2) (.bool false)) (fun _ hk => hk.1.2) (.slice Ao92 t293.length co92)) (fun _ hk => hk.1.2) (.slice none 0 0)) (fun _ hk => hk.1.2) (.slice Ao91 t297.length co91)) (fun _ hk => hk.2) (.bool false)) (fun _ hk => hk.2) (.slice Ao96 t302.length co96)) (fun _ hk => hk.2) (.slice none 0 0)) (fun _ hk => hk.2) (.slice Ao95 t306.length co95)) (fun _ hk => ⟨(by simp [Value.ownBlock]), ⟨hk.1.1.2, (by simp [Value.ownBlock])⟩⟩), nil_, by (with_reducible repeat (first | apply Kd.R_alloc | apply Kd.R_drewN | apply Kd.R_drew)); exact Kd.R_mono (Kd.R_far (p := ⟨gb273, 3, none⟩) (Kd.R_far (p := ⟨gb273, 2, none⟩) (Kd.R_far (p := ⟨gb273, 1, none⟩) (Kd.R_far (p := ⟨gb273, 0, none⟩) (Kd.R_far (p := ⟨gb272, 3, none⟩) (Kd.R_far (p := ⟨gb272, 2, none⟩) (Kd.R_far (p := ⟨gb272, 1, none⟩) (Kd.R_far (p := ⟨gb272, 0, none⟩) (Kd.R_types (Kd.R_types HO299.out BK272.out (by decide)) BK273.out (by decide)) (fun _ hk => hk.1.2) (.bool false)) (fun _ hk => hk.1.2) (.slice Ao92 t293.length co92)) (fun _ hk => hk.1.2) (.slice none 0 0)) (fun _ hk => hk.1.2) (.slice Ao91 t297.length co91)) (fun _ hk => hk.2) (.bool false)) (fun _ hk => hk.2) (.slice Ao96 t302.length co96)) (fun _ hk => hk.2) (.slice none 0 0)) (fun _ hk => hk.2) (.slice Ao95 t306.length co95)) (fun _ hk => hk.1.1.2), by (with_reducible repeat (first | apply Kd.R_alloc | apply Kd.R_drewN | apply Kd.R_drew)); exact Kd.R_mono (Kd.R_far (p := ⟨gb273, 3, none⟩) (Kd.R_far (p := ⟨gb273, 2, none⟩) (Kd.R_far (p := ⟨gb273, 1, none⟩) (Kd.R_far (p := ⟨gb273, 0, none⟩) (Kd.R_far (p := ⟨gb272, 3, none⟩) (Kd.R_far (p := ⟨gb272, 2, none⟩) (Kd.R_far (p := ⟨gb272, 1, none⟩) (Kd.R_far (p := ⟨gb272, 0, none⟩) (Kd.R_types (Kd.R_types HO304.out BK272.out (by decide)) BK273.out (by decide)) (fun _ hk => hk.1.2) (.bool false)) (fun _ hk => hk.1.2) (.slice Ao92 t293.length co92)) (fun _ hk => hk.1.2) (.slice none 0 0)) (fun _ hk => hk.1.2) (.slice Ao91 t297.length co91)) (fun _ hk => hk.2) (.bool false)) (fun _ hk => hk.2) (.slice Ao96 t302.length co96)) (fun _ hk => hk.2) (.slice none 0 0)) (fun _ hk => hk.2) (.slice Ao95 t306.length co95)) (fun _ hk => ⟨hk.1.1.2, ⟨(by simp [Value.ownBlock]), (by simp [Value.ownBlock])⟩⟩), nil_, by (with_reducible repeat (first | apply Kd.R_alloc | apply Kd.R_drewN | apply Kd.R_drew)); exact Kd.R_mono (Kd.R_far (p := ⟨gb273, 3, none⟩) (Kd.R_far (p := ⟨gb273, 2, none⟩) (Kd.R_far (p := ⟨gb273, 1, none⟩) (Kd.R_far (p := ⟨gb273, 0, none⟩) (Kd.R_far (p := ⟨gb272, 3, none⟩) (Kd.R_far (p := ⟨gb272, 2, none⟩) (Kd.R_far (p := ⟨gb272, 1, none⟩) (Kd.R_far (p := ⟨gb272, 0, none⟩) (Kd.R_types (Kd.R_types HO308.out BK272.out (by decide)) BK273.out (by decide)) (fun _ hk => hk.1.2) (.bool false)) (fun _ hk => hk.1.2) (.slice Ao92 t293.length co92)) (fun _ hk => hk.1.2) (.slice none 0 0)) (fun _ hk => hk.1.2) (.slice Ao91 t297.length co91)) (fun _ hk => hk.2) (.bool false)) (fun _ hk => hk.2) (.slice Ao96 t302.length co96)) (fun _ hk => hk.2) (.slice none 0 0)) (fun _ hk => hk.2) (.slice Ao95 t306.length co95)) (fun _ hk => hk.1.1.2), bl_ HB⟩
           ·rw [if_neg c76] at H
            exact absurd H (by simp)
          ·rw [if_neg c74] at H
           exact absurd H (by simp)
         ·rw [if_neg c72] at H
          exact absurd H (by simp)
        ·rw [if_neg c71] at H
         exact absurd H (by simp)
       ·rw [if_neg c68] at H
        exact absurd H (by simp)
      ·rw [if_neg c67] at H
       exact absurd H (by simp)
 ·rw [if_neg c3] at H
  have c3b0 : (t274 == 0) = false := beq_eq_false_iff_ne.mpr c3
  have c3b1 : (t274 != 0) = true := bne_iff_ne.mpr c3
  simp only [Option.some.injEq, Prod.mk.injEq] at H
  obtain ⟨rfl, rfl, rfl, rfl, rfl, rfl, rfl, rfl, rfl, rfl⟩ := H
  go_enter Try.func31, Try.ntmps31
  go_wp2_with (first | ((with_reducible refine gate_dst (N := 1) rfl ?_); refine bx_ 1 #[.bool a0_0, .slice A0_1 l0_1.length c0_1, .slice A0_2 l0_2.length c0_2, .slice A0_3 l0_3.length c0_3] 25 ?_; intro gb271 hg w105 hbox hb; have BK271 := Aside0.mk (hbox); have GW271 := bG_ HB hg; have GE271 := bG_ HB hg; replace HB := bS_ HB hb; clear hb hbox hg) | ((with_reducible refine gate_dst (N := 2) rfl ?_); refine bx_ 2 #[.bool false, .slice none 0 0, .slice none 0 0, .slice none 0 0] 25 ?_; intro gb272 hg w106 hbox hb; have BK272 := Aside0.mk (hbox); have GW272 := bG_ HB hg; have GE272 := bG_ HB hg; replace HB := bS_ HB hb; have NB271_272 := nL_ BK271 hg; have NB272_271 := nG_ BK271 hg; replace BK271 := bK_ BK271 hb; clear hb hbox hg) | ((with_reducible refine gate_dst (N := 4) rfl ?_); refine bx_ 4 #[.bool false, .slice none 0 0, .slice none 0 0, .slice none 0 0] 25 ?_; intro gb273 hg w107 hbox hb; have BK273 := Aside0.mk (hbox); have GW273 := bG_ HB hg; have GE273 := bG_ HB hg; replace HB := bS_ HB hb; have NB271_273 := nL_ BK271 hg; have NB273_271 := nG_ BK271 hg; replace BK271 := bK_ BK271 hb; have NB272_273 := nL_ BK272 hg; have NB273_272 := nG_ BK272 hg; replace BK272 := bK_ BK272 hb; clear hb hbox hg; have hnb108 := NB271_272.out; have hnc108 := NB272_271.out; have hnb109 := NB271_273.out; have hnc109 := NB273_271.out; obtain ⟨hcz110_0, hcz110_1, hcz110_2, hcz110_3, hfz110_0, hfz110_1, hfz110_2, hfz110_3⟩ := cz4_ BK271) | ((with_reducible refine gate_callee (f := 62) rfl ?_); refine gL_ (some 10) Try.func62 #[.agg #[.bool a0_0, .slice A0_1 l0_1.length c0_1, .slice A0_2 l0_2.length c0_2, .slice A0_3 l0_3.length c0_3]] ?_; (with_reducible refine (transeptref09_Check.calls k a0_0 _ _ l0_1 _ _ l0_2 _ _ l0_3 t274 _ ?_ ?_ ?_ ?_ ?_ ?_ A2.out).mono ?_); exact cB_ HR0_1 HB; exact HC0_1.out; exact cB_ HR0_2 HB; exact HC0_2.out; exact cB_ HR0_3 HB; exact HC0_3.out; rintro e w111 ⟨rfl, hb⟩; refine ⟨_, rfl, ?_⟩; replace BK271 := bK_ BK271 hb; replace BK272 := bK_ BK272 hb; replace BK273 := bK_ BK273 hb; replace HB := bS_ HB hb; (try clear hb); have hnb112 := NB272_273.out; have hnc112 := NB273_272.out; obtain ⟨hcz113_0, hcz113_1, hcz113_2, hcz113_3, hfz113_0, hfz113_1, hfz113_2, hfz113_3⟩ := cz4_ BK272; obtain ⟨hcz114_0, hcz114_1, hcz114_2, hcz114_3, hfz114_0, hfz114_1, hfz114_2, hfz114_3⟩ := cz4_ BK273))
  refine bodyPost_ret (results_list (rs := [.cell 2 25, .tmp 3, .cell 4 25, .tmp 5]) rfl (by simp) (.cell gb272 25 #[.bool false, .slice none 0 0, .slice none 0 0, .slice none 0 0] (0, 0) _ rfl (by (with_reducible repeat (first | refine blk_drewN ?_ _ | refine blk_drew ?_ | refine blk_alloc ?_ _)); refine blk_far ?_ NB272_273.out _; (with_reducible repeat (first | refine blk_drewN ?_ _ | refine blk_drew ?_ | refine blk_alloc ?_ _)); refine blk_far ?_ NB272_273.out _; (with_reducible repeat (first | refine blk_drewN ?_ _ | refine blk_drew ?_ | refine blk_alloc ?_ _)); refine blk_far ?_ NB272_273.out _; (with_reducible repeat (first | refine blk_drewN ?_ _ | refine blk_drew ?_ | refine blk_alloc ?_ _)); refine blk_far ?_ NB272_273.out _; (with_reducible repeat (first | refine blk_drewN ?_ _ | refine blk_drew ?_ | refine blk_alloc ?_ _)); refine blk_put (cs := #[.bool false, .slice none 0 0, .slice none 0 0, .slice none 0 0]) ?_ 3 _ rfl; (with_reducible repeat (first | refine blk_drewN ?_ _ | refine blk_drew ?_ | refine blk_alloc ?_ _)); refine blk_put (cs := #[.bool false, .slice none 0 0, .slice none 0 0, .slice none 0 0]) ?_ 2 _ rfl; (with_reducible repeat (first | refine blk_drewN ?_ _ | refine blk_drew ?_ | refine blk_alloc ?_ _)); refine blk_put (cs := #[.bool false, .slice none 0 0, .slice none 0 0, .slice none 0 0]) ?_ 1 _ rfl; (with_reducible repeat (first | refine blk_drewN ?_ _ | refine blk_drew ?_ | refine blk_alloc ?_ _)); refine blk_put (cs := #[.bool false, .slice none 0 0, .slice none 0 0, .slice none 0 0]) ?_ 0 _ rfl; (with_reducible repeat (first | refine blk_drewN ?_ _ | refine blk_drew ?_ | refine blk_alloc ?_ _)); exact BK272.out) Try.underlying25 rfl (by kernel_rfl) (.tmp (.cell gb273 25 #[.bool false, .slice none 0 0, .slice none 0 0, .slice none 0 0] (0, 0) _ rfl (by (with_reducible repeat (first | refine blk_drewN ?_ _ | refine blk_drew ?_ | refine blk_alloc ?_ _)); refine blk_put (cs := #[.bool false, .slice none 0 0, .slice none 0 0, .slice none 0 0]) ?_ 3 _ rfl; (with_reducible repeat (first | refine blk_drewN ?_ _ | refine blk_drew ?_ | refine blk_alloc ?_ _)); refine blk_put (cs := #[.bool false, .slice none 0 0, .slice none 0 0, .slice none 0 0]) ?_ 2 _ rfl; (with_reducible repeat (first | refine blk_drewN ?_ _ | refine blk_drew ?_ | refine blk_alloc ?_ _)); refine blk_put (cs := #[.bool false, .slice none 0 0, .slice none 0 0, .slice none 0 0]) ?_ 1 _ rfl; (with_reducible repeat (first | refine blk_drewN ?_ _ | refine blk_drew ?_ | refine blk_alloc ?_ _)); refine blk_put (cs := #[.bool false, .slice none 0 0, .slice none 0 0, .slice none 0 0]) ?_ 0 _ rfl; (with_reducible repeat (first | refine blk_drewN ?_ _ | refine blk_drew ?_ | refine blk_alloc ?_ _)); refine blk_far ?_ NB273_272.out _; (with_reducible repeat (first | refine blk_drewN ?_ _ | refine blk_drew ?_ | refine blk_alloc ?_ _)); refine blk_far ?_ NB273_272.out _; (with_reducible repeat (first | refine blk_drewN ?_ _ | refine blk_drew ?_ | refine blk_alloc ?_ _)); refine blk_far ?_ NB273_272.out _; (with_reducible repeat (first | refine blk_drewN ?_ _ | refine blk_drew ?_ | refine blk_alloc ?_ _)); refine blk_far ?_ NB273_272.out _; (with_reducible repeat (first | refine blk_drewN ?_ _ | refine blk_drew ?_ | refine blk_alloc ?_ _)); exact BK273.out) Try.underlying25 rfl (by kernel_rfl) (.tmp .nil))))) rfl ?_
  exact ⟨_, _, _, _, _, _, fin_, nil_, nil_, nil_, nil_, nil_, nil_, bl_ HB⟩
end Go.Proofs.Ytooabchnbmnchaa.Q
