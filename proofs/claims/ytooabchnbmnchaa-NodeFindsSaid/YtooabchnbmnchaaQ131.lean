-- Laid by this session's own program (wip/tools) out of the translation; Lean checks it. Thinned, shortened and merged for this claim.
import Derived.Test.YtooabchnbmnchaaQ0
import Derived.Test.YtooabchnbmnchaaSq
import Derived.Test.YtooabchnbmnchaaQ1
import Derived.Test.YtooabchnbmnchaaQ28
namespace Go.Proofs.Ytooabchnbmnchaa.Q
open Go.RowKit Go.Proofs.YtooabchnbmnchaaW.PrintWords Go.Proofs.YtooabchnbmnchaaW.PrintLast Go.Proofs.YtooabchnbmnchaaW.PrintMore
attribute [local go_sem] max2_int min2_int max_two min_two max_three min_three max_four min_four binOp_string_leq binOp_string_geq binOp_string_gtr   -- for this text's walks alone
set_option linter.unusedVariables false
set_option linter.unusedSimpArgs false
def node_Split.j0 : Nat → Int → Int → Bool → List ByteArray → List ByteArray → List Int → Option (Bool × List ByteArray × List ByteArray × List Int × ByteArray × Bool × List ByteArray × List ByteArray × List Int × Int)
 | 0, _, _, _, _, _, _ => none
 | k + 1, x7, x8, x202000, x202001, x202002, x202003 => if (x202001.length : Int) < x7 then (some (false, ([] : List ByteArray), ([] : List ByteArray), ([] : List Int), (⟨#[]⟩ : ByteArray), false, ([] : List ByteArray), ([] : List ByteArray), ([] : List Int), 3)) else (if 0 ≤ (wrap64 ((x202001.length : Int) / 2)) then (if (wrap64 ((x202001.length : Int) / 2)) ≤ (x202001.length : Int) then ((slices_Clone_string_string.f (x202001.take ((wrap64 ((x202001.length : Int) / 2)) : Int).toNat)).bind fun t206 => (if 0 ≤ (wrap64 ((wrap64 ((x202001.length : Int) / 2)) + x8)) then (if (wrap64 ((wrap64 ((x202001.length : Int) / 2)) + x8)) ≤ (x202001.length : Int) then ((slices_Clone_string_string.f (x202001.drop ((wrap64 ((wrap64 ((x202001.length : Int) / 2)) + x8)) : Int).toNat)).bind fun t211 => (if x202000 = true then (if (wrap64 ((x202001.length : Int) / 2)) ≤ (x202002.length : Int) then ((slices_Clone_string_string.f (x202002.take ((wrap64 ((x202001.length : Int) / 2)) : Int).toNat)).bind fun t216 => ((slices_Clone_string_string.f (x202002.drop ((wrap64 ((x202001.length : Int) / 2)) : Int).toNat)).bind fun t220 => (if (wrap64 ((x202001.length : Int) / 2)) < (x202001.length : Int) then (some (x202000, t206, t216, ([] : List Int), rdOf ByteArray.empty x202001 (wrap64 ((x202001.length : Int) / 2)), x202000, t211, t220, ([] : List Int), 0)) else (none)))) else (none)) else (if 0 ≤ (wrap64 ((wrap64 ((x202001.length : Int) / 2)) + 1)) then (if (wrap64 ((wrap64 ((x202001.length : Int) / 2)) + 1)) ≤ (x202003.length : Int) then ((slices_Clone_int_int.f (x202003.take ((wrap64 ((wrap64 ((x202001.length : Int) / 2)) + 1)) : Int).toNat)).bind fun t225 => ((slices_Clone_int_int.f (x202003.drop ((wrap64 ((wrap64 ((x202001.length : Int) / 2)) + 1)) : Int).toNat)).bind fun t229 => (if (wrap64 ((x202001.length : Int) / 2)) < (x202001.length : Int) then (some (x202000, t206, ([] : List ByteArray), t225, rdOf ByteArray.empty x202001 (wrap64 ((x202001.length : Int) / 2)), x202000, t211, ([] : List ByteArray), t229, 0)) else (none)))) else (none)) else (none)))) else (none)) else (none))) else (none)) else (none))
def node_Split.f (k : Nat) (a0_0 : Bool) (l0_1 : List ByteArray) (l0_2 : List ByteArray) (l0_3 : List Int) : Option (Bool × List ByteArray × List ByteArray × List Int × ByteArray × Bool × List ByteArray × List ByteArray × List Int × Int) := (node_Check.f k a0_0 l0_1 l0_2 l0_3).bind fun t204 => (if t204 = 0 then (if a0_0 = true then (node_Split.j0 k 2 0 a0_0 l0_1 l0_2 l0_3) else (node_Split.j0 k 3 1 a0_0 l0_1 l0_2 l0_3)) else (some (false, ([] : List ByteArray), ([] : List ByteArray), ([] : List Int), (⟨#[]⟩ : ByteArray), false, ([] : List ByteArray), ([] : List ByteArray), ([] : List Int), t204)))
theorem node_Split.mono_l : ∀ k, (∀ y0 y1 y2 y3 y4 y5, LeO (node_Split.j0 k y0 y1 y2 y3 y4 y5) (node_Split.j0 (k + 1) y0 y1 y2 y3 y4 y5))
 | 0 => fun _ _ _ _ _ _ r h => by simp [node_Split.j0] at h
 | k + 1 => by
  have ih0 := node_Split.mono_l k
  ·intro y0 y1 y2 y3 y4 y5
   unfold node_Split.j0
   repeat' first
   | (with_reducible exact ih0 _ _ _ _ _ _)
   | (with_reducible exact node_Check.mono _ _ _ _ _)
   | (with_reducible exact LeO.refl _)
   | (with_reducible exact LeO.none _)
   | (with_reducible refine LeO.ite ?_ ?_)
   | (with_reducible refine LeO.bind ?_ (fun _ => ?_))
   | exact ih0 _ _ _ _ _ _
   | exact node_Check.mono _ _ _ _ _
   | exact LeO.none _
   | refine LeO.ite ?_ ?_
   | refine LeO.bind ?_ (fun _ => ?_)
theorem node_Split.mono : ∀ a0 a1 a2 a3 k, LeO (node_Split.f k a0 a1 a2 a3) (node_Split.f (k + 1) a0 a1 a2 a3) := by
 intro a0 a1 a2 a3 k
 have ih0 := node_Split.mono_l k
 unfold node_Split.f
 repeat' first
   | (with_reducible exact ih0 _ _ _ _ _ _)
   | (with_reducible exact node_Check.mono _ _ _ _ _)
   | (with_reducible exact LeO.refl _)
   | (with_reducible exact LeO.none _)
   | (with_reducible refine LeO.ite ?_ ?_)
   | (with_reducible refine LeO.bind ?_ (fun _ => ?_))
   | exact ih0 _ _ _ _ _ _
   | exact node_Check.mono _ _ _ _ _
   | exact LeO.none _
   | refine LeO.ite ?_ ?_
   | refine LeO.bind ?_ (fun _ => ?_)
def node_Split.T11 : Bool × List (List Nat × List Nat) := (true, [([], []), ([0], [0]), ([], []), ([2], [2]), ([], []), ([3, 4], [3, 4]), ([5], [5]), ([1, 6], [1, 6]), ([], []), ([8, 7, 6, 0, 1, 2, 3, 4, 5, 6, 7, 8], [7, 8])])
def node_Split.B11 : List Nat := [0, 1, 0, 4, 0, 28, 60, 127, 0, 511]
theorem node_Split.tab11 : rtab .any (opsOf Try.f22 11) = node_Split.T11 := by kernel_rfl
theorem node_Split.bits11 : waitsOk node_Split.T11.2 node_Split.B11 = true := by kernel_rfl
def node_Split.T12 : Bool × List (List Nat × List Nat) := (true, [([], []), ([0], [0]), ([], []), ([2], [2]), ([], []), ([], []), ([4, 5], [4, 5]), ([3, 6], [3, 6]), ([7], [7]), ([1, 8], [1, 8]), ([], []), ([10, 9, 8, 0, 1, 2, 3, 4, 5, 6, 7, 8, 9, 10], [9, 10])])
def node_Split.B12 : List Nat := [0, 1, 0, 4, 0, 0, 48, 124, 252, 511, 0, 2047]
theorem node_Split.tab12 : rtab .any (opsOf Try.f22 12) = node_Split.T12 := by kernel_rfl
theorem node_Split.bits12 : waitsOk node_Split.T12.2 node_Split.B12 = true := by kernel_rfl
def node_Split.T14 : Bool × List (List Nat × List Nat) := (true, [([], []), ([0], [0]), ([], []), ([1, 2], [1, 2]), ([3], [3]), ([], []), ([5], [5]), ([], []), ([6, 7], [6, 7]), ([8, 4], [8]), ([0, 1, 2, 3, 4], []), ([10, 4, 9, 0, 1, 2, 3, 4], [4, 10]), ([0, 1, 2, 3, 4, 5, 6, 7, 8, 9, 10, 11], []), ([12, 9, 11, 0, 1, 2, 3, 4, 5, 6, 7, 8, 9, 10, 11], [9, 12])])
def node_Split.B14 : List Nat := [0, 1, 0, 7, 15, 0, 32, 0, 224, 511, 31, 2047, 4095, 8191]
theorem node_Split.tab14 : rtab .any (opsOf Try.f22 14) = node_Split.T14 := by kernel_rfl
theorem node_Split.bits14 : waitsOk node_Split.T14.2 node_Split.B14 = true := by kernel_rfl
def node_Split.T15 : Bool × List (List Nat × List Nat) := (true, [([], []), ([0], [0]), ([], []), ([2], [2]), ([1, 3], [1, 3]), ([4], [4]), ([], []), ([6], [6]), ([], []), ([8], [8]), ([7, 9], [7, 9]), ([10, 5], [10]), ([0, 1, 2, 3, 4, 5], []), ([12, 5, 11, 0, 1, 2, 3, 4, 5], [5, 12]), ([0, 1, 2, 3, 4, 5, 6, 7, 8, 9, 10, 11, 12, 13], []), ([14, 11, 13, 0, 1, 2, 3, 4, 5, 6, 7, 8, 9, 10, 11, 12, 13], [11, 14])])
def node_Split.B15 : List Nat := [0, 1, 0, 4, 15, 31, 0, 64, 0, 256, 960, 2047, 63, 8191, 16383, 32767]
theorem node_Split.tab15 : rtab .any (opsOf Try.f22 15) = node_Split.T15 := by kernel_rfl
theorem node_Split.bits15 : waitsOk node_Split.T15.2 node_Split.B15 = true := by kernel_rfl
def node_Split.T16 : Bool × List (List Nat × List Nat) := (true, [([], []), ([], []), ([1], [1]), ([], []), ([2, 3], [2, 3]), ([4], [4]), ([], []), ([0, 0], [0]), ([5, 7, 0, 1, 2, 3, 4, 5, 7], [5]), ([6, 8, 0, 1, 2, 3, 4, 5, 6, 7, 8], [6]), ([9, 0, 1, 2, 3, 4, 5, 6, 7, 8, 9], [])])
def node_Split.B16 : List Nat := [0, 0, 2, 0, 14, 30, 0, 1, 191, 511, 1023]
theorem node_Split.tab16 : rtab .any (opsOf Try.f22 16) = node_Split.T16 := by kernel_rfl
theorem node_Split.bits16 : waitsOk node_Split.T16.2 node_Split.B16 = true := by kernel_rfl
set_option maxHeartbeats 8000000 in
set_option maxRecDepth 100000 in
theorem node_Split.calls_T (k : Nat) (a0_0 : Bool) (A0_1 : Option Addr) (c0_1 : Nat) (l0_1 : List ByteArray) (A0_2 : Option Addr) (c0_2 : Nat) (l0_2 : List ByteArray) (A0_3 : Option Addr) (c0_3 : Nat) (l0_3 : List Int) (r1 : Bool) (r2 : List ByteArray) (r3 : List ByteArray) (r4 : List Int) (r5 : ByteArray) (r6 : Bool) (r7 : List ByteArray) (r8 : List ByteArray) (r9 : List Int) (r10 : Int) (w : World) (hr0_1 : Kd.C Kd.string w A0_1 l0_1.length l0_1) (hc0_1 : l0_1.length ≤ c0_1) (hr0_2 : Kd.C Kd.string w A0_2 l0_2.length l0_2) (hc0_2 : l0_2.length ≤ c0_2) (hr0_3 : Kd.C (Kd.int .i64) w A0_3 l0_3.length l0_3) (hc0_3 : l0_3.length ≤ c0_3) (hC_ : a0_0 = true) (h : node_Split.f k a0_0 l0_1 l0_2 l0_3 = some (r1, r2, r3, r4, r5, r6, r7, r8, r9, r10)) :
  Calls Try.prog 22 #[.agg #[.bool a0_0, .slice A0_1 l0_1.length c0_1, .slice A0_2 l0_2.length c0_2, .slice A0_3 l0_3.length c0_3]] w fun e w' => ∃ v1_ v2_ v3_ v6_ v7_ v8_ : Value, e = .returned (.tuple #[.agg #[.bool r1, v1_, v2_, v3_], .string r5, .agg #[.bool r6, v6_, v7_, v8_], .int .i64 r10]) ∧ Kd.R Kd.string 9 w' w.heap.size (fun k_ => some k_ ≠ (v2_ : Value).ownBlock ∧ some k_ ≠ (v6_ : Value).ownBlock ∧ some k_ ≠ (v7_ : Value).ownBlock) v1_ r2 ∧ Kd.R Kd.string 9 w' w.heap.size (fun k_ => some k_ ≠ (v1_ : Value).ownBlock ∧ some k_ ≠ (v6_ : Value).ownBlock ∧ some k_ ≠ (v7_ : Value).ownBlock) v2_ r3 ∧ Kd.R (Kd.int .i64) 3 w' w.heap.size (fun k_ => some k_ ≠ (v8_ : Value).ownBlock) v3_ r4 ∧ Kd.R Kd.string 9 w' w.heap.size (fun k_ => some k_ ≠ (v1_ : Value).ownBlock ∧ some k_ ≠ (v2_ : Value).ownBlock ∧ some k_ ≠ (v7_ : Value).ownBlock) v6_ r7 ∧ Kd.R Kd.string 9 w' w.heap.size (fun k_ => some k_ ≠ (v1_ : Value).ownBlock ∧ some k_ ≠ (v2_ : Value).ownBlock ∧ some k_ ≠ (v6_ : Value).ownBlock) v7_ r8 ∧ Kd.R (Kd.int .i64) 3 w' w.heap.size (fun k_ => some k_ ≠ (v3_ : Value).ownBlock) v8_ r9 ∧ Below w.heap.size w w' := by
 have HC_ := Aside0.mk hC_
 clear hC_
 have hu31 := Try.underlying31
 have HR0_1 := Aside0.mk hr0_1
 have HC0_1 := Aside0.mk hc0_1
 clear hr0_1 hc0_1
 have HR0_2 := Aside0.mk hr0_2
 have HC0_2 := Aside0.mk hc0_2
 clear hr0_2 hc0_2
 have HR0_3 := Aside0.mk hr0_3
 have HC0_3 := Aside0.mk hc0_3
 clear hr0_3 hc0_3
 have HB := Aside0.mk (Below.refl w.heap.size w)
 have H : ((node_Check.f k a0_0 l0_1 l0_2 l0_3).bind fun t204 => (if t204 = 0 then (if a0_0 = true then (node_Split.j0 k 2 0 a0_0 l0_1 l0_2 l0_3) else (node_Split.j0 k 3 1 a0_0 l0_1 l0_2 l0_3)) else (some (false, ([] : List ByteArray), ([] : List ByteArray), ([] : List Int), (⟨#[]⟩ : ByteArray), false, ([] : List ByteArray), ([] : List ByteArray), ([] : List Int), t204)))) = some (r1, r2, r3, r4, r5, r6, r7, r8, r9, r10) := h
 clear h
 replace H := Option.bind_eq_some_iff.mp H
 obtain ⟨t204, A20, H⟩ := H
 try dsimp only at H
 have A2 := Aside0.mk A20
 clear A20
 by_cases c3 : t204 = 0
 ·rw [if_pos c3] at H
  have c3b0 : (t204 == 0) = true := beq_iff_eq.mpr c3
  have c3b1 : (t204 != 0) = false := bne_eq_false_iff_eq.mpr c3
  clear c3
  have HC4 := Aside0.mk H
  clear H
  go_enter Try.func22, Try.ntmps22
  go_upto_if 22 with (first | ((with_reducible refine gate_dst (N := 1) rfl ?_); refine bx_ 1 #[.bool a0_0, .slice A0_1 l0_1.length c0_1, .slice A0_2 l0_2.length c0_2, .slice A0_3 l0_3.length c0_3] 31 ?_; intro gb201 hg w5 hbox hb; have BK201 := Aside0.mk (hbox); have GW201 := bG_ HB hg; have GE201 := bG_ HB hg; replace HB := bS_ HB hb; clear hb hbox hg) | ((with_reducible refine gate_dst (N := 2) rfl ?_); refine bx_ 2 #[.bool false, .slice none 0 0, .slice none 0 0, .slice none 0 0] 31 ?_; intro gb202 hg w6 hbox hb; have BK202 := Aside0.mk (hbox); have GW202 := bG_ HB hg; have GE202 := bG_ HB hg; replace HB := bS_ HB hb; have NB201_202 := nL_ BK201 hg; have NB202_201 := nG_ BK201 hg; replace BK201 := bK_ BK201 hb; clear hb hbox hg) | ((with_reducible refine gate_dst (N := 4) rfl ?_); refine bx_ 4 #[.bool false, .slice none 0 0, .slice none 0 0, .slice none 0 0] 31 ?_; intro gb203 hg w7 hbox hb; have BK203 := Aside0.mk (hbox); have GW203 := bG_ HB hg; have GE203 := bG_ HB hg; replace HB := bS_ HB hb; have NB201_203 := nL_ BK201 hg; have NB203_201 := nG_ BK201 hg; replace BK201 := bK_ BK201 hb; have NB202_203 := nL_ BK202 hg; have NB203_202 := nG_ BK202 hg; replace BK202 := bK_ BK202 hb; clear hb hbox hg; have hnb8 := NB201_202.out; have hnc8 := NB202_201.out; have hnb9 := NB201_203.out; have hnc9 := NB203_201.out; obtain ⟨hcz10_0, hcz10_1, hcz10_2, hcz10_3, hfz10_0, hfz10_1, hfz10_2, hfz10_3⟩ := cz4_ BK201) | ((with_reducible refine gate_callee (f := 25) rfl ?_); refine gL_ (some 14) Try.func25 #[.agg #[.bool a0_0, .slice A0_1 l0_1.length c0_1, .slice A0_2 l0_2.length c0_2, .slice A0_3 l0_3.length c0_3]] ?_; (with_reducible refine (node_Check.calls k a0_0 _ _ l0_1 _ _ l0_2 _ _ l0_3 t204 _ ?_ ?_ ?_ ?_ ?_ ?_ A2.out).mono ?_); exact cB_ HR0_1 HB; exact HC0_1.out; exact cB_ HR0_2 HB; exact HC0_2.out; exact cB_ HR0_3 HB; exact HC0_3.out; rintro e w11 ⟨rfl, hb⟩; refine ⟨_, rfl, ?_⟩; replace BK201 := bK_ BK201 hb; replace BK202 := bK_ BK202 hb; replace BK203 := bK_ BK203 hb; replace HB := bS_ HB hb; (try clear hb); obtain ⟨hcz12_0, hcz12_1, hcz12_2, hcz12_3, hfz12_0, hfz12_1, hfz12_2, hfz12_3⟩ := cz4_ BK201))
  (try simp only [Act.put, List.setIfInBounds_toArray, List.set_cons_zero, List.set_cons_succ])
  go_cut [7, 8] (fun v7 v8 wc => ∃ (kq : Nat) (x7_3 : Int) (x8_3 : Int), v7 = .int .i64 x7_3 ∧ v8 = .int .i64 x8_3 ∧ Aside0 (node_Split.j0 kq x7_3 x8_3 a0_0 l0_1 l0_2 l0_3 = some (r1, r2, r3, r4, r5, r6, r7, r8, r9, r10)) ∧ Aside0 (kq ≤ k) ∧ Aside0 (wc.heap[gb201]? = some (.cells #[.bool a0_0, (.slice A0_1 l0_1.length c0_1), (.slice A0_2 l0_2.length c0_2), (.slice A0_3 l0_3.length c0_3)] 31 (0, 0))) ∧ Aside0 (wc.heap[gb202]? = some (.cells #[.bool false, (.slice none 0 0), (.slice none 0 0), (.slice none 0 0)] 31 (0, 0))) ∧ Aside0 (wc.heap[gb203]? = some (.cells #[.bool false, (.slice none 0 0), (.slice none 0 0), (.slice none 0 0)] 31 (0, 0))) ∧ Aside0 (Below w.heap.size w wc))
  case first =>
   have H := HC4.out
   clear HC4
   by_cases c13 : a0_0 = true
   ·subst c13
    rw [if_pos rfl] at H
    have H' := Aside0.mk H
    clear H
    go_wp2
    go_meet
    case rel => exact ⟨_, (2), (0), (by first | rfl | (simp; done) | (simp [*]; done)), (by first | rfl | (simp; done) | (simp [*]; done)), H', ⟨by first | omega | exact Nat.le_refl _⟩, ⟨bA_ BK201⟩, ⟨bA_ BK202⟩, ⟨bA_ BK203⟩, ⟨bl_ HB⟩⟩
   ·replace c13 := Bool.eq_false_iff.mpr c13
    subst c13
    rw [if_neg (show ¬ (false = true) by decide)] at H
    have H' := Aside0.mk H
    clear H
    go_wp2
    go_meet
    case rel => exact ⟨_, (3), (1), (by first | rfl | (simp; done) | (simp [*]; done)), (by first | rfl | (simp; done) | (simp [*]; done)), H', ⟨by first | omega | exact Nat.le_refl _⟩, ⟨bA_ BK201⟩, ⟨bA_ BK202⟩, ⟨bA_ BK203⟩, ⟨bl_ HB⟩⟩
  case rest =>
   clear HC4
   try clear c1
   try clear c2
   try clear p2
   try clear c3
   try clear c3b0
   try clear c3b1
   try clear c8
   try clear c9
   try clear c13
   try clear hcz10_0
   try clear hcz10_1
   try clear hcz10_2
   try clear hcz10_3
   try clear hcz12_0
   try clear hcz12_1
   try clear hcz12_2
   try clear hcz12_3
   try clear hfz10_0
   try clear hfz10_1
   try clear hfz10_2
   try clear hfz10_3
   try clear hfz12_0
   try clear hfz12_1
   try clear hfz12_2
   try clear hfz12_3
   obtain ⟨kq, x7_3, x8_3, rfl, rfl, HA, HJ3, BK201, BK202, BK203, HB⟩ := hcut
   cases kq with
   | zero => exact absurd HA.out (by simp [node_Split.j0])
   | succ kj3 =>
    have H := HA.out
    clear HA
    simp only [node_Split.j0] at H
    by_cases c14 : (l0_1.length : Int) < x7_3
    ·rw [if_pos c14] at H
     have c14b0 : decide ((l0_1.length : Int) < x7_3) = true := decide_eq_true c14
     clear c14
     simp only [Option.some.injEq, Prod.mk.injEq] at H
     obtain ⟨rfl, rfl, rfl, rfl, rfl, rfl, rfl, rfl, rfl, rfl⟩ := H
     have hnb15 := NB201_202.out
     have hnc15 := NB202_201.out
     have hnb16 := NB201_203.out
     have hnc16 := NB203_201.out
     obtain ⟨hcz17_0, hcz17_1, hcz17_2, hcz17_3, hfz17_0, hfz17_1, hfz17_2, hfz17_3⟩ := cz4_ BK201
     have hnb18 := NB202_203.out
     have hnc18 := NB203_202.out
     obtain ⟨hcz19_0, hcz19_1, hcz19_2, hcz19_3, hfz19_0, hfz19_1, hfz19_2, hfz19_3⟩ := cz4_ BK202
     obtain ⟨hcz20_0, hcz20_1, hcz20_2, hcz20_3, hfz20_0, hfz20_1, hfz20_2, hfz20_3⟩ := cz4_ BK203
     go_wp2
     refine bodyPost_ret (results_list (rs := [.cell 2 31, .tmp 3, .cell 4 31, .tmp 5]) rfl (by simp) (.cell gb202 31 #[.bool false, .slice none 0 0, .slice none 0 0, .slice none 0 0] (0, 0) _ rfl (by (with_reducible repeat (first | refine blk_drewN ?_ _ | refine blk_drew ?_ | refine blk_alloc ?_ _)); refine blk_far ?_ NB202_203.out _; (with_reducible repeat (first | refine blk_drewN ?_ _ | refine blk_drew ?_ | refine blk_alloc ?_ _)); refine blk_far ?_ NB202_203.out _; (with_reducible repeat (first | refine blk_drewN ?_ _ | refine blk_drew ?_ | refine blk_alloc ?_ _)); refine blk_far ?_ NB202_203.out _; (with_reducible repeat (first | refine blk_drewN ?_ _ | refine blk_drew ?_ | refine blk_alloc ?_ _)); refine blk_far ?_ NB202_203.out _; (with_reducible repeat (first | refine blk_drewN ?_ _ | refine blk_drew ?_ | refine blk_alloc ?_ _)); refine blk_put (cs := #[.bool false, .slice none 0 0, .slice none 0 0, .slice none 0 0]) ?_ 3 _ rfl; (with_reducible repeat (first | refine blk_drewN ?_ _ | refine blk_drew ?_ | refine blk_alloc ?_ _)); refine blk_put (cs := #[.bool false, .slice none 0 0, .slice none 0 0, .slice none 0 0]) ?_ 2 _ rfl; (with_reducible repeat (first | refine blk_drewN ?_ _ | refine blk_drew ?_ | refine blk_alloc ?_ _)); refine blk_put (cs := #[.bool false, .slice none 0 0, .slice none 0 0, .slice none 0 0]) ?_ 1 _ rfl; (with_reducible repeat (first | refine blk_drewN ?_ _ | refine blk_drew ?_ | refine blk_alloc ?_ _)); refine blk_put (cs := #[.bool false, .slice none 0 0, .slice none 0 0, .slice none 0 0]) ?_ 0 _ rfl; (with_reducible repeat (first | refine blk_drewN ?_ _ | refine blk_drew ?_ | refine blk_alloc ?_ _)); exact BK202.out) Try.underlying31 rfl (by kernel_rfl) (.tmp (.cell gb203 31 #[.bool false, .slice none 0 0, .slice none 0 0, .slice none 0 0] (0, 0) _ rfl (by (with_reducible repeat (first | refine blk_drewN ?_ _ | refine blk_drew ?_ | refine blk_alloc ?_ _)); refine blk_put (cs := #[.bool false, .slice none 0 0, .slice none 0 0, .slice none 0 0]) ?_ 3 _ rfl; (with_reducible repeat (first | refine blk_drewN ?_ _ | refine blk_drew ?_ | refine blk_alloc ?_ _)); refine blk_put (cs := #[.bool false, .slice none 0 0, .slice none 0 0, .slice none 0 0]) ?_ 2 _ rfl; (with_reducible repeat (first | refine blk_drewN ?_ _ | refine blk_drew ?_ | refine blk_alloc ?_ _)); refine blk_put (cs := #[.bool false, .slice none 0 0, .slice none 0 0, .slice none 0 0]) ?_ 1 _ rfl; (with_reducible repeat (first | refine blk_drewN ?_ _ | refine blk_drew ?_ | refine blk_alloc ?_ _)); refine blk_put (cs := #[.bool false, .slice none 0 0, .slice none 0 0, .slice none 0 0]) ?_ 0 _ rfl; (with_reducible repeat (first | refine blk_drewN ?_ _ | refine blk_drew ?_ | refine blk_alloc ?_ _)); refine blk_far ?_ NB203_202.out _; (with_reducible repeat (first | refine blk_drewN ?_ _ | refine blk_drew ?_ | refine blk_alloc ?_ _)); refine blk_far ?_ NB203_202.out _; (with_reducible repeat (first | refine blk_drewN ?_ _ | refine blk_drew ?_ | refine blk_alloc ?_ _)); refine blk_far ?_ NB203_202.out _; (with_reducible repeat (first | refine blk_drewN ?_ _ | refine blk_drew ?_ | refine blk_alloc ?_ _)); refine blk_far ?_ NB203_202.out _; (with_reducible repeat (first | refine blk_drewN ?_ _ | refine blk_drew ?_ | refine blk_alloc ?_ _)); exact BK203.out) Try.underlying31 rfl (by kernel_rfl) (.tmp .nil))))) rfl ?_
     exact ⟨_, _, _, _, _, _, fin_, nil_, nil_, nil_, nil_, nil_, nil_, bl_ HB⟩
    ·rw [if_neg c14] at H
     have c14b0 : decide ((l0_1.length : Int) < x7_3) = false := decide_eq_false c14
     clear c14
     obtain ⟨ji21, hji21⟩ : ∃ j_ : Int, (wrap64 ((l0_1.length : Int) / 2)) = j_ := ⟨_, rfl⟩
     replace H : (if 0 ≤ (ji21) then (if (ji21) ≤ (l0_1.length : Int) then ((slices_Clone_string_string.f (l0_1.take ((ji21) : Int).toNat)).bind fun t206 => (if 0 ≤ (wrap64 ((ji21) + x8_3)) then (if (wrap64 ((ji21) + x8_3)) ≤ (l0_1.length : Int) then ((slices_Clone_string_string.f (l0_1.drop ((wrap64 ((ji21) + x8_3)) : Int).toNat)).bind fun t211 => (if a0_0 = true then (if (ji21) ≤ (l0_2.length : Int) then ((slices_Clone_string_string.f (l0_2.take ((ji21) : Int).toNat)).bind fun t216 => ((slices_Clone_string_string.f (l0_2.drop ((ji21) : Int).toNat)).bind fun t220 => (if (ji21) < (l0_1.length : Int) then (some (a0_0, t206, t216, ([] : List Int), rdOf ByteArray.empty l0_1 (ji21), a0_0, t211, t220, ([] : List Int), 0)) else (none)))) else (none)) else (if 0 ≤ (wrap64 ((ji21) + 1)) then (if (wrap64 ((ji21) + 1)) ≤ (l0_3.length : Int) then ((slices_Clone_int_int.f (l0_3.take ((wrap64 ((ji21) + 1)) : Int).toNat)).bind fun t225 => ((slices_Clone_int_int.f (l0_3.drop ((wrap64 ((ji21) + 1)) : Int).toNat)).bind fun t229 => (if (ji21) < (l0_1.length : Int) then (some (a0_0, t206, ([] : List ByteArray), t225, rdOf ByteArray.empty l0_1 (ji21), a0_0, t211, ([] : List ByteArray), t229, 0)) else (none)))) else (none)) else (none)))) else (none)) else (none))) else (none)) else (none)) = some (r1, r2, r3, r4, r5, r6, r7, r8, r9, r10) := by first | (rw [hji21] at H; exact H) | (simp only [hji21] at H ⊢; exact H)
     have hji21w : (IntKind.i64.wrap ((l0_1.length : Int) / 2)) = ji21 := (i64_w _).trans hji21
     by_cases c22 : 0 ≤ (ji21)
     ·rw [if_pos c22] at H
      have c22b0 := eq_true c22
      have c22b1 : decide (0 ≤ (ji21)) = true := decide_eq_true c22
      clear c22
      by_cases c23 : (ji21) ≤ (l0_1.length : Int)
      ·rw [if_pos c23] at H
       have c23b0 := eq_true c23
       have c23b1 : decide ((ji21) ≤ (l0_1.length : Int)) = true := decide_eq_true c23
       clear c23
       replace H := Option.bind_eq_some_iff.mp H
       obtain ⟨t206, A240, H⟩ := H
       try dsimp only at H
       have A24 := Aside0.mk A240
       clear A240
       obtain ⟨ji25, hji25⟩ : ∃ j_ : Int, (wrap64 ((ji21) + x8_3)) = j_ := ⟨_, rfl⟩
       replace H : (if 0 ≤ (ji25) then (if (ji25) ≤ (l0_1.length : Int) then ((slices_Clone_string_string.f (l0_1.drop ((ji25) : Int).toNat)).bind fun t211 => (if a0_0 = true then (if (ji21) ≤ (l0_2.length : Int) then ((slices_Clone_string_string.f (l0_2.take ((ji21) : Int).toNat)).bind fun t216 => ((slices_Clone_string_string.f (l0_2.drop ((ji21) : Int).toNat)).bind fun t220 => (if (ji21) < (l0_1.length : Int) then (some (a0_0, t206, t216, ([] : List Int), rdOf ByteArray.empty l0_1 (ji21), a0_0, t211, t220, ([] : List Int), 0)) else (none)))) else (none)) else (if 0 ≤ (wrap64 ((ji21) + 1)) then (if (wrap64 ((ji21) + 1)) ≤ (l0_3.length : Int) then ((slices_Clone_int_int.f (l0_3.take ((wrap64 ((ji21) + 1)) : Int).toNat)).bind fun t225 => ((slices_Clone_int_int.f (l0_3.drop ((wrap64 ((ji21) + 1)) : Int).toNat)).bind fun t229 => (if (ji21) < (l0_1.length : Int) then (some (a0_0, t206, ([] : List ByteArray), t225, rdOf ByteArray.empty l0_1 (ji21), a0_0, t211, ([] : List ByteArray), t229, 0)) else (none)))) else (none)) else (none)))) else (none)) else (none)) = some (r1, r2, r3, r4, r5, r6, r7, r8, r9, r10) := by first | (rw [hji25] at H; exact H) | (simp only [hji25] at H ⊢; exact H)
       (try rw [hji25] at A24)
       have hji25w : (IntKind.i64.wrap ((ji21) + x8_3)) = ji25 := (i64_w _).trans hji25
       by_cases c26 : 0 ≤ (ji25)
       ·rw [if_pos c26] at H
        have c26b0 := eq_true c26
        have c26b1 : decide (0 ≤ (ji25)) = true := decide_eq_true c26
        clear c26
        by_cases c27 : (ji25) ≤ (l0_1.length : Int)
        ·rw [if_pos c27] at H
         have c27b0 := eq_true c27
         have c27b1 : decide ((ji25) ≤ (l0_1.length : Int)) = true := decide_eq_true c27
         clear c27
         replace H := Option.bind_eq_some_iff.mp H
         obtain ⟨t211, A280, H⟩ := H
         try dsimp only at H
         have A28 := Aside0.mk A280
         clear A280
         by_cases c29 : a0_0 = true
         ·subst c29
          rw [if_pos rfl] at H
          have c30b0 := eq_true (of_decide_eq_true (by first | (with_reducible assumption) | assumption) : 0 ≤ (ji21))
          by_cases c31 : (ji21) ≤ (l0_2.length : Int)
          ·rw [if_pos c31] at H
           have c31b0 := eq_true c31
           have c31b1 : decide ((ji21) ≤ (l0_2.length : Int)) = true := decide_eq_true c31
           clear c31
           replace H := Option.bind_eq_some_iff.mp H
           obtain ⟨t216, A320, H⟩ := H
           try dsimp only at H
           have A32 := Aside0.mk A320
           clear A320
           have c33b0 := eq_true (of_decide_eq_true (by first | (with_reducible assumption) | assumption) : 0 ≤ (ji21))
           have c34b0 := eq_true (of_decide_eq_true (by first | (with_reducible assumption) | assumption) : (ji21) ≤ (l0_2.length : Int))
           replace H := Option.bind_eq_some_iff.mp H
           obtain ⟨t220, A350, H⟩ := H
           try dsimp only at H
           have A35 := Aside0.mk A350
           clear A350
           by_cases c36 : (ji21) < (l0_1.length : Int)
           ·rw [if_pos c36] at H
            have c36b0 : decide ((ji21) < (l0_1.length : Int)) = true := decide_eq_true c36
            clear c36
            simp only [Option.some.injEq, Prod.mk.injEq] at H
            obtain ⟨rfl, rfl, rfl, rfl, rfl, rfl, rfl, rfl, rfl, rfl⟩ := H
            have hnb37 := NB201_202.out
            have hnc37 := NB202_201.out
            have hnb38 := NB201_203.out
            have hnc38 := NB203_201.out
            obtain ⟨hcz39_0, hcz39_1, hcz39_2, hcz39_3, hfz39_0, hfz39_1, hfz39_2, hfz39_3⟩ := cz4_ BK201
            try go_wp2
            replace BK201 := Aside0.mk (blk_drew BK201.out)
            replace BK202 := Aside0.mk (blk_drew BK202.out)
            replace BK203 := Aside0.mk (blk_drew BK203.out)
            replace HB := Aside0.mk (below_drew1 HB.out)
            obtain ⟨i041, hi041, _, hsz41, _⟩ := info_parts info9
            obtain ⟨hcut41, hA41, hC41⟩ := print_take_of (P := Try.prog) Value.string (⟨#[]⟩ : ByteArray) 22 9 .i64 Try.underlying22 hi041 hsz41 A0_1 c0_1 l0_1 (ji21) (of_decide_eq_true (by first | (with_reducible assumption) | assumption)) (of_decide_eq_true (by first | (with_reducible assumption) | assumption)) HC0_1.out
            have HR205 := Aside0.mk (Kd.C_of_reads (h1 := fun _ => rfl) (hA41 _ (Kd.reads_of_C HR0_1.out)))
            have HC205 := Aside0.mk hC41
            clear hA41 hC41 hi041 hsz41
            refine start_ (n := 10) (S := fun w' => w'.cell? ⟨gb201, 0, none⟩ = some (.bool true) ∧ w'.cell? ⟨gb201, 1, none⟩ = some (.slice A0_1 l0_1.length c0_1) ∧ w'.cell? ⟨gb201, 2, none⟩ = some (.slice A0_2 l0_2.length c0_2) ∧ w'.cell? ⟨gb201, 3, none⟩ = some (.slice A0_3 l0_3.length c0_3)) (ds := []) #[false, false, false, false, false, false, false, false, false, false] (by kernel_rfl) rfl rfl ⟨(blk_cell BK201.out 0).trans rfl, (blk_cell BK201.out 1).trans rfl, (blk_cell BK201.out 2).trans rfl, (blk_cell BK201.out 3).trans rfl⟩ (fun hHeld => ?_); refine with_tabW node_Split.tab11 node_Split.bits11 (fun HT_ HW_ => ?_)
            generalize wc.drew = w40 at BK201 BK202 BK203 HB HR205 hHeld ⊢
            refine pu_ 0 (some 33) HT_ ?_
            refine pu_ 2 (some 35) HT_ ?_
            refine pu_ 4 (some 37) HT_ ?_
            refine tk_ 1 (some 34) HT_ HW_ hHeld ?_
            refine tk_ 3 (some 36) HT_ HW_ hHeld ?_
            refine pu_ 5 (some 38) HT_ ?_
            refine join_ (σ := Value × Nat) 1 #[true, true, true, true, true, true, true, true, true, false] (fun s_ => [(39, s_.1), (11, .pointer (some ⟨s_.2, 0, none⟩)), (40, .agg #[.bool true, s_.1, .slice none 0 0, .slice none 0 0])]) (fun s_ w' => (w'.cell? ⟨gb201, 0, none⟩ = some (.bool true) ∧ w'.cell? ⟨gb201, 1, none⟩ = some (.slice A0_1 l0_1.length c0_1) ∧ w'.cell? ⟨gb201, 2, none⟩ = some (.slice A0_2 l0_2.length c0_2) ∧ w'.cell? ⟨gb201, 3, none⟩ = some (.slice A0_3 l0_3.length c0_3)) ∧ (Kd.R Kd.string 9 w' w.heap.size (fun _ => True) s_.1 t206) ∧ (w'.heap[gb201]? = some (.cells #[.bool true, .slice A0_1 l0_1.length c0_1, .slice A0_2 l0_2.length c0_2, .slice A0_3 l0_3.length c0_3] 31 (0, 0))) ∧ (w'.heap[gb202]? = some (.cells #[.bool false, .slice none 0 0, .slice none 0 0, .slice none 0 0] 31 (0, 0))) ∧ (w'.heap[gb203]? = some (.cells #[.bool false, .slice none 0 0, .slice none 0 0, .slice none 0 0] 31 (0, 0))) ∧ (w'.heap[s_.2]? = some (.cells #[.bool false, .slice none 0 0, .slice none 0 0, .slice none 0 0] 31 (0, 0))) ∧ (w.heap.size ≤ s_.2) ∧ (w.heap.size ≤ s_.2) ∧ (gb201 ≠ s_.2) ∧ (s_.2 ≠ gb201) ∧ (gb202 ≠ s_.2) ∧ (s_.2 ≠ gb202) ∧ (gb203 ≠ s_.2) ∧ (s_.2 ≠ gb203) ∧ (Below w.heap.size w w')) ?_ ?_
            rotate_left
            ·intro hCont
             refine two_ (i := 6) (j := 8) (Ni := some 39) (Nj := some 11) #[true, true, true, true, true, true, true, false, false, false] #[true, true, true, true, true, true, false, false, true, false] rfl rfl rfl rfl (two_of HT_.out (by kernel_rfl)) (by decide) (by decide) (fun K hK => ?_) (fun K hK => ?_)
             ·skip
              refine goes_ Try.func54 (by kernel_rfl) rfl #[.slice A0_1 (l0_1.take ((ji21) : Int).toNat).length c0_1] (by rfl) rfl rfl (by (try simp only [List.map_toArray, List.map_cons, List.map_nil]); first | done | (rw [show (l0_1.take ((ji21) : Int).toNat).length = (ji21).toNat from (by rw [List.length_take]; have h_ : ((ji21) : Int) ≤ (l0_1.length : Int) := of_decide_eq_true (by first | (with_reducible assumption) | assumption); omega)] <;> rfl) | (simp only [hji21]; rfl) | rfl | (simp only [List.length_drop, List.length_take]; rfl)) ?_
              with_reducible refine (slices_Clone_string_string.calls _ _ (l0_1.take ((ji21) : Int).toNat) t206 _ ?_ ?_ A24.out).mono ?_
              exact cB_ HR205 HB
              exact HC205.out
              rintro e w42 ⟨v207, rfl, ho0, hb⟩
              refine ⟨_, rfl, ?_⟩
              have HO208 := Aside0.mk (Kd.R_lower ho0 (bs_ HB))
              replace BK201 := bK_ BK201 hb
              replace BK202 := bK_ BK202 hb
              replace BK203 := bK_ BK203 hb
              replace HB := bS_ HB hb
              (try clear hb ho0)
              obtain ⟨Ao43, co43, eo43⟩ := Kd.R_slice HO208.out
              (first | subst eo43 | (injection eo43 with f1_ f2_ f3_; have f4_ := f1_.symm; have f5_ := f3_.symm; clear f1_ f2_ f3_; subst f4_; subst f5_))
              refine hK.out _ _ ⟨(blk_cell BK201.out 0).trans rfl, (blk_cell BK201.out 1).trans rfl, (blk_cell BK201.out 2).trans rfl, (blk_cell BK201.out 3).trans rfl⟩ (fun hHeld => ?_)
              clear hK K
              refine norm_ (a' := ?_) ?_ ?_
              rotate_left
              ·show Act.put _ (some 39) _ = _
               simp only [Act.put, List.setIfInBounds_toArray, List.set_cons_zero, List.set_cons_succ, i64_w, i32_w]
               rfl
              refine pu_ 7 (some 40) HT_ ?_
              refine on_ 8 (some 11) HT_ (fun K hK => ?_)
              refine box_step ?hg (N := 11) ?hd (cs := #[.bool false, .slice none 0 0, .slice none 0 0, .slice none 0 0]) (t := 31) ?hr ?_; (case hd => rfl); (case hg => rfl); (case hr => first | (go_simp; done) | (go_simp; rfl))
              intro gb209 hg w44 hbox hb
              replace HO208 := rB_ HO208 hb
              have BK209 := Aside0.mk (hbox)
              have GW209 := bG_ HB hg
              have GE209 := bG_ HB hg
              replace HB := bS_ HB hb
              have NB201_209 := nL_ BK201 hg
              have NB209_201 := nG_ BK201 hg
              replace BK201 := bK_ BK201 hb
              have NB202_209 := nL_ BK202 hg
              have NB209_202 := nG_ BK202 hg
              replace BK202 := bK_ BK202 hb
              have NB203_209 := nL_ BK203 hg
              have NB209_203 := nG_ BK203 hg
              replace BK203 := bK_ BK203 hb
              clear hb hbox hg
              refine hK.out _ _ ⟨(blk_cell BK201.out 0).trans rfl, (blk_cell BK201.out 1).trans rfl, (blk_cell BK201.out 2).trans rfl, (blk_cell BK201.out 3).trans rfl⟩ (fun hHeld => ?_)
              clear hK K
              refine norm_ (a' := ?_) ?_ ?_
              rotate_left
              ·show Act.put _ (some 11) _ = _
               simp only [Act.put, List.setIfInBounds_toArray, List.set_cons_zero, List.set_cons_succ, i64_w, i32_w]
               rfl
              exact norm_ (by simp only [putAll, Act.put, List.setIfInBounds_toArray, List.set_cons_zero, List.set_cons_succ]) (hCont (.slice Ao43 t206.length co43, gb209) _ ⟨hHeld, (rA_ HO208), (bA_ BK201), (bA_ BK202), (bA_ BK203), (bA_ BK209), GW209.out, GE209.out, NB201_209.out, NB209_201.out, NB202_209.out, NB209_202.out, NB203_209.out, NB209_203.out, (bl_ HB)⟩)
             ·skip
              refine box_step ?hg (N := 11) ?hd (cs := #[.bool false, .slice none 0 0, .slice none 0 0, .slice none 0 0]) (t := 31) ?hr ?_; (case hd => rfl); (case hg => rfl); (case hr => first | (go_simp; done) | (go_simp; rfl))
              intro gb209 hg w42 hbox hb
              have BK209 := Aside0.mk (hbox)
              have GW209 := bG_ HB hg
              have GE209 := bG_ HB hg
              replace HB := bS_ HB hb
              have NB201_209 := nL_ BK201 hg
              have NB209_201 := nG_ BK201 hg
              replace BK201 := bK_ BK201 hb
              have NB202_209 := nL_ BK202 hg
              have NB209_202 := nG_ BK202 hg
              replace BK202 := bK_ BK202 hb
              have NB203_209 := nL_ BK203 hg
              have NB209_203 := nG_ BK203 hg
              replace BK203 := bK_ BK203 hb
              clear hb hbox hg
              refine hK.out _ _ ⟨(blk_cell BK201.out 0).trans rfl, (blk_cell BK201.out 1).trans rfl, (blk_cell BK201.out 2).trans rfl, (blk_cell BK201.out 3).trans rfl⟩ (fun hHeld => ?_)
              clear hK K
              refine norm_ (a' := ?_) ?_ ?_
              rotate_left
              ·show Act.put _ (some 11) _ = _
               simp only [Act.put, List.setIfInBounds_toArray, List.set_cons_zero, List.set_cons_succ, i64_w, i32_w]
               rfl
              refine on_ 6 (some 39) HT_ (fun K hK => ?_)
              refine goes_ Try.func54 (by kernel_rfl) rfl #[.slice A0_1 (l0_1.take ((ji21) : Int).toNat).length c0_1] (by rfl) rfl rfl (by (try simp only [List.map_toArray, List.map_cons, List.map_nil]); first | done | (rw [show (l0_1.take ((ji21) : Int).toNat).length = (ji21).toNat from (by rw [List.length_take]; have h_ : ((ji21) : Int) ≤ (l0_1.length : Int) := of_decide_eq_true (by first | (with_reducible assumption) | assumption); omega)] <;> rfl) | (simp only [hji21]; rfl) | rfl | (simp only [List.length_drop, List.length_take]; rfl)) ?_
              with_reducible refine (slices_Clone_string_string.calls _ _ (l0_1.take ((ji21) : Int).toNat) t206 _ ?_ ?_ A24.out).mono ?_
              exact cB_ HR205 HB
              exact HC205.out
              rintro e w43 ⟨v207, rfl, ho0, hb⟩
              refine ⟨_, rfl, ?_⟩
              have HO208 := Aside0.mk (Kd.R_lower ho0 (bs_ HB))
              replace BK201 := bK_ BK201 hb
              replace BK202 := bK_ BK202 hb
              replace BK203 := bK_ BK203 hb
              replace BK209 := bK_ BK209 hb
              replace HB := bS_ HB hb
              (try clear hb ho0)
              obtain ⟨Ao44, co44, eo44⟩ := Kd.R_slice HO208.out
              (first | subst eo44 | (injection eo44 with f1_ f2_ f3_; have f4_ := f1_.symm; have f5_ := f3_.symm; clear f1_ f2_ f3_; subst f4_; subst f5_))
              refine hK.out _ _ ⟨(blk_cell BK201.out 0).trans rfl, (blk_cell BK201.out 1).trans rfl, (blk_cell BK201.out 2).trans rfl, (blk_cell BK201.out 3).trans rfl⟩ (fun hHeld => ?_)
              clear hK K
              refine norm_ (a' := ?_) ?_ ?_
              rotate_left
              ·show Act.put _ (some 39) _ = _
               simp only [Act.put, List.setIfInBounds_toArray, List.set_cons_zero, List.set_cons_succ, i64_w, i32_w]
               rfl
              refine pu_ 7 (some 40) HT_ ?_
              exact norm_ (by simp only [putAll, Act.put, List.setIfInBounds_toArray, List.set_cons_zero, List.set_cons_succ]) (hCont (.slice Ao44 t206.length co44, gb209) _ ⟨hHeld, (rA_ HO208), (bA_ BK201), (bA_ BK202), (bA_ BK203), (bA_ BK209), GW209.out, GE209.out, NB201_209.out, NB209_201.out, NB202_209.out, NB209_202.out, NB203_209.out, NB209_203.out, (bl_ HB)⟩)
            rintro ⟨v207, gb209⟩ w45 ⟨hS_, h0_, h1_, h2_, h3_, h4_, h5_, h6_, h7_, h8_, h9_, h10_, h11_, h12_, h13_⟩
            have HO208 : Aside0 (Kd.R Kd.string 9 w45 w.heap.size (fun _ => True) v207 t206) := ⟨h0_⟩
            replace BK201 : Aside0 (w45.heap[gb201]? = some (.cells #[.bool true, .slice A0_1 l0_1.length c0_1, .slice A0_2 l0_2.length c0_2, .slice A0_3 l0_3.length c0_3] 31 (0, 0))) := ⟨h1_⟩
            replace BK202 : Aside0 (w45.heap[gb202]? = some (.cells #[.bool false, .slice none 0 0, .slice none 0 0, .slice none 0 0] 31 (0, 0))) := ⟨h2_⟩
            replace BK203 : Aside0 (w45.heap[gb203]? = some (.cells #[.bool false, .slice none 0 0, .slice none 0 0, .slice none 0 0] 31 (0, 0))) := ⟨h3_⟩
            have BK209 : Aside0 (w45.heap[gb209]? = some (.cells #[.bool false, .slice none 0 0, .slice none 0 0, .slice none 0 0] 31 (0, 0))) := ⟨h4_⟩
            have GW209 : Aside0 (w.heap.size ≤ gb209) := ⟨h5_⟩
            have GE209 : Aside0 (w.heap.size ≤ gb209) := ⟨h6_⟩
            have NB201_209 : Aside0 (gb201 ≠ gb209) := ⟨h7_⟩
            have NB209_201 : Aside0 (gb209 ≠ gb201) := ⟨h8_⟩
            have NB202_209 : Aside0 (gb202 ≠ gb209) := ⟨h9_⟩
            have NB209_202 : Aside0 (gb209 ≠ gb202) := ⟨h10_⟩
            have NB203_209 : Aside0 (gb203 ≠ gb209) := ⟨h11_⟩
            have NB209_203 : Aside0 (gb209 ≠ gb203) := ⟨h12_⟩
            replace HB : Aside0 (Below w.heap.size w w45) := ⟨h13_⟩
            clear h0_ h1_ h2_ h3_ h4_ h5_ h6_ h7_ h8_ h9_ h10_ h11_ h12_ h13_
            have hHeld : w45.cell? ⟨gb201, 0, none⟩ = some (.bool true) ∧ w45.cell? ⟨gb201, 1, none⟩ = some (.slice A0_1 l0_1.length c0_1) ∧ w45.cell? ⟨gb201, 2, none⟩ = some (.slice A0_2 l0_2.length c0_2) ∧ w45.cell? ⟨gb201, 3, none⟩ = some (.slice A0_3 l0_3.length c0_3) := hS_
            obtain ⟨Ao46, co46, eo46⟩ := Kd.R_slice HO208.out
            (first | subst eo46 | (injection eo46 with f1_ f2_ f3_; have f4_ := f1_.symm; have f5_ := f3_.symm; clear f1_ f2_ f3_; subst f4_; subst f5_))
            refine norm_ (a' := ?_) ?_ ?_
            rotate_left
            ·simp only [putAll, Act.put, List.setIfInBounds_toArray, List.set_cons_zero, List.set_cons_succ]
             rfl
            refine on_ 9 none HT_ (fun K hK => ?_)
            have hs47 : w45.cell? ⟨gb209, 0, none⟩ = some (.bool false) := (blk_cell BK209.out 0).trans rfl
            have hfs47 := blk_frozen BK209.out 0
            have hns47_0 := NB201_209.out
            have hns47_1 := NB202_209.out
            have hns47_2 := NB203_209.out
            have hms47_0 := NB209_201.out
            have hms47_1 := NB209_202.out
            have hms47_2 := NB209_203.out
            have hs48 : w45.cell? ⟨gb209, 1, none⟩ = some (.slice none 0 0) := (blk_cell BK209.out 1).trans rfl
            have hfs48 := blk_frozen BK209.out 1
            have hns48_0 := NB201_209.out
            have hns48_1 := NB202_209.out
            have hns48_2 := NB203_209.out
            have hms48_0 := NB209_201.out
            have hms48_1 := NB209_202.out
            have hms48_2 := NB209_203.out
            have hs49 : w45.cell? ⟨gb209, 2, none⟩ = some (.slice none 0 0) := (blk_cell BK209.out 2).trans rfl
            have hfs49 := blk_frozen BK209.out 2
            have hns49_0 := NB201_209.out
            have hns49_1 := NB202_209.out
            have hns49_2 := NB203_209.out
            have hms49_0 := NB209_201.out
            have hms49_1 := NB209_202.out
            have hms49_2 := NB209_203.out
            have hs50 : w45.cell? ⟨gb209, 3, none⟩ = some (.slice none 0 0) := (blk_cell BK209.out 3).trans rfl
            have hfs50 := blk_frozen BK209.out 3
            have hns50_0 := NB201_209.out
            have hns50_1 := NB202_209.out
            have hns50_2 := NB203_209.out
            have hms50_0 := NB209_201.out
            have hms50_1 := NB209_202.out
            have hms50_2 := NB209_203.out
            refine skip_ (w1 := ?_) (by rfl) rfl ?_ ?_
            rotate_left
            ·go_simp
             rfl
            refine hK.out _ _ ⟨((cell_far (p := ⟨gb209, _, none⟩) NB201_209.out _).trans (((cell_far (p := ⟨gb209, _, none⟩) NB201_209.out _).trans (((cell_far (p := ⟨gb209, _, none⟩) NB201_209.out _).trans (((cell_far (p := ⟨gb209, _, none⟩) NB201_209.out _).trans (hHeld.1)))))))), ((cell_far (p := ⟨gb209, _, none⟩) NB201_209.out _).trans (((cell_far (p := ⟨gb209, _, none⟩) NB201_209.out _).trans (((cell_far (p := ⟨gb209, _, none⟩) NB201_209.out _).trans (((cell_far (p := ⟨gb209, _, none⟩) NB201_209.out _).trans (hHeld.2.1)))))))), ((cell_far (p := ⟨gb209, _, none⟩) NB201_209.out _).trans (((cell_far (p := ⟨gb209, _, none⟩) NB201_209.out _).trans (((cell_far (p := ⟨gb209, _, none⟩) NB201_209.out _).trans (((cell_far (p := ⟨gb209, _, none⟩) NB201_209.out _).trans (hHeld.2.2.1)))))))), ((cell_far (p := ⟨gb209, _, none⟩) NB201_209.out _).trans (((cell_far (p := ⟨gb209, _, none⟩) NB201_209.out _).trans (((cell_far (p := ⟨gb209, _, none⟩) NB201_209.out _).trans (((cell_far (p := ⟨gb209, _, none⟩) NB201_209.out _).trans (hHeld.2.2.2))))))))⟩ (fun hHeld => ?_)
            clear hK K
            refine done_ (done_of HT_.out (by kernel_rfl)) ?_
            try go_wp2
            have n0_ : Aside0 (Kd.R Kd.string 9 ((((w45.setCell ⟨gb209, 0, none⟩ (.bool true)).setCell ⟨gb209, 1, none⟩ (.slice Ao46 t206.length co46)).setCell ⟨gb209, 2, none⟩ (.slice none 0 0)).setCell ⟨gb209, 3, none⟩ (.slice none 0 0)) w.heap.size (fun _ => True) (.slice Ao46 t206.length co46) t206) := ⟨by (with_reducible repeat (first | apply Kd.R_alloc | apply Kd.R_drewN | apply Kd.R_drew)); exact Kd.R_mono (Kd.R_far (p := ⟨gb209, 3, none⟩) (Kd.R_far (p := ⟨gb209, 2, none⟩) (Kd.R_far (p := ⟨gb209, 1, none⟩) (Kd.R_far (p := ⟨gb209, 0, none⟩) (Kd.R_types HO208.out BK209.out (by decide)) (fun _ hk => hk.2) (.bool true)) (fun _ hk => hk.2) (.slice Ao46 t206.length co46)) (fun _ hk => hk.2) (.slice none 0 0)) (fun _ hk => hk.2) (.slice none 0 0)) (fun _ hk => trivial)⟩
            have n1_ : Aside0 (((((w45.setCell ⟨gb209, 0, none⟩ (.bool true)).setCell ⟨gb209, 1, none⟩ (.slice Ao46 t206.length co46)).setCell ⟨gb209, 2, none⟩ (.slice none 0 0)).setCell ⟨gb209, 3, none⟩ (.slice none 0 0)).heap[gb201]? = some (.cells #[.bool true, .slice A0_1 l0_1.length c0_1, .slice A0_2 l0_2.length c0_2, .slice A0_3 l0_3.length c0_3] 31 (0, 0))) := ⟨bA_ BK201⟩
            have n2_ : Aside0 (((((w45.setCell ⟨gb209, 0, none⟩ (.bool true)).setCell ⟨gb209, 1, none⟩ (.slice Ao46 t206.length co46)).setCell ⟨gb209, 2, none⟩ (.slice none 0 0)).setCell ⟨gb209, 3, none⟩ (.slice none 0 0)).heap[gb202]? = some (.cells #[.bool false, .slice none 0 0, .slice none 0 0, .slice none 0 0] 31 (0, 0))) := ⟨bA_ BK202⟩
            have n3_ : Aside0 (((((w45.setCell ⟨gb209, 0, none⟩ (.bool true)).setCell ⟨gb209, 1, none⟩ (.slice Ao46 t206.length co46)).setCell ⟨gb209, 2, none⟩ (.slice none 0 0)).setCell ⟨gb209, 3, none⟩ (.slice none 0 0)).heap[gb203]? = some (.cells #[.bool false, .slice none 0 0, .slice none 0 0, .slice none 0 0] 31 (0, 0))) := ⟨bA_ BK203⟩
            have n4_ : Aside0 (((((w45.setCell ⟨gb209, 0, none⟩ (.bool true)).setCell ⟨gb209, 1, none⟩ (.slice Ao46 t206.length co46)).setCell ⟨gb209, 2, none⟩ (.slice none 0 0)).setCell ⟨gb209, 3, none⟩ (.slice none 0 0)).heap[gb209]? = some (.cells #[.bool true, .slice Ao46 t206.length co46, .slice none 0 0, .slice none 0 0] 31 (0, 0))) := ⟨by (with_reducible repeat (first | refine blk_drewN ?_ _ | refine blk_drew ?_ | refine blk_alloc ?_ _)); refine blk_put (cs := #[.bool true, .slice Ao46 t206.length co46, .slice none 0 0, .slice none 0 0]) ?_ 3 _ rfl; (with_reducible repeat (first | refine blk_drewN ?_ _ | refine blk_drew ?_ | refine blk_alloc ?_ _)); refine blk_put (cs := #[.bool true, .slice Ao46 t206.length co46, .slice none 0 0, .slice none 0 0]) ?_ 2 _ rfl; (with_reducible repeat (first | refine blk_drewN ?_ _ | refine blk_drew ?_ | refine blk_alloc ?_ _)); refine blk_put (cs := #[.bool true, .slice none 0 0, .slice none 0 0, .slice none 0 0]) ?_ 1 _ rfl; (with_reducible repeat (first | refine blk_drewN ?_ _ | refine blk_drew ?_ | refine blk_alloc ?_ _)); refine blk_put (cs := #[.bool false, .slice none 0 0, .slice none 0 0, .slice none 0 0]) ?_ 0 _ rfl; (with_reducible repeat (first | refine blk_drewN ?_ _ | refine blk_drew ?_ | refine blk_alloc ?_ _)); exact BK209.out⟩
            have n5_ : Aside0 (Below w.heap.size w ((((w45.setCell ⟨gb209, 0, none⟩ (.bool true)).setCell ⟨gb209, 1, none⟩ (.slice Ao46 t206.length co46)).setCell ⟨gb209, 2, none⟩ (.slice none 0 0)).setCell ⟨gb209, 3, none⟩ (.slice none 0 0))) := ⟨bl_ HB⟩
            (try clear HO208 BK201 BK202 BK203 BK209 HB)
            generalize ((((w45.setCell ⟨gb209, 0, none⟩ (.bool true)).setCell ⟨gb209, 1, none⟩ (.slice Ao46 t206.length co46)).setCell ⟨gb209, 2, none⟩ (.slice none 0 0)).setCell ⟨gb209, 3, none⟩ (.slice none 0 0)) = w51 at n0_ n1_ n2_ n3_ n4_ n5_ ⊢
            have HO208 := n0_
            have BK201 := n1_
            have BK202 := n2_
            have BK203 := n3_
            have BK209 := n4_
            have HB := n5_
            clear n0_ n1_ n2_ n3_ n4_ n5_
            replace HO208 := Aside0.mk (Kd.R_drew HO208.out)
            replace BK201 := Aside0.mk (blk_drew BK201.out)
            replace BK202 := Aside0.mk (blk_drew BK202.out)
            replace BK203 := Aside0.mk (blk_drew BK203.out)
            replace BK209 := Aside0.mk (blk_drew BK209.out)
            replace HB := Aside0.mk (below_drew1 HB.out)
            obtain ⟨i053, hi053, _, hsz53, _⟩ := info_parts info9
            obtain ⟨A53, hcut53, hA53, hC53⟩ := print_drop_of (P := Try.prog) Value.string (⟨#[]⟩ : ByteArray) 22 9 .i64 Try.underlying22 hi053 hsz53 A0_1 c0_1 l0_1 (ji25) (of_decide_eq_true (by first | (with_reducible assumption) | assumption)) (of_decide_eq_true (by first | (with_reducible assumption) | assumption)) HC0_1.out
            have HR210 := Aside0.mk (Kd.C_of_reads (h1 := fun _ => rfl) (hA53 _ (Kd.reads_of_C HR0_1.out)))
            have HC210 := Aside0.mk hC53
            clear hA53 hC53 hi053 hsz53
            refine start_ (n := 12) (S := fun w' => w'.cell? ⟨gb201, 0, none⟩ = some (.bool true) ∧ w'.cell? ⟨gb201, 1, none⟩ = some (.slice A0_1 l0_1.length c0_1) ∧ w'.cell? ⟨gb201, 2, none⟩ = some (.slice A0_2 l0_2.length c0_2) ∧ w'.cell? ⟨gb201, 3, none⟩ = some (.slice A0_3 l0_3.length c0_3)) (ds := []) #[false, false, false, false, false, false, false, false, false, false, false, false] (by kernel_rfl) rfl rfl ⟨(blk_cell BK201.out 0).trans rfl, (blk_cell BK201.out 1).trans rfl, (blk_cell BK201.out 2).trans rfl, (blk_cell BK201.out 3).trans rfl⟩ (fun hHeld => ?_); refine with_tabW node_Split.tab12 node_Split.bits12 (fun HT_ HW_ => ?_)
            generalize w51.drew = w52 at HO208 BK201 BK202 BK203 BK209 HB HR210 hHeld ⊢
            refine pu_ 0 (some 41) HT_ ?_
            refine pu_ 2 (some 43) HT_ ?_
            refine pu_ 4 (some 45) HT_ ?_
            refine pu_ 5 (some 46) HT_ ?_
            refine pu_ 6 (some 47) HT_ ?_
            refine tk_ 1 (some 42) HT_ HW_ hHeld ?_
            refine tk_ 3 (some 44) HT_ HW_ hHeld ?_
            refine pu_ 7 (some 48) HT_ ?_
            refine join_ (σ := Value × Nat) 1 #[true, true, true, true, true, true, true, true, true, true, true, false] (fun s_ => [(49, s_.1), (12, .pointer (some ⟨s_.2, 0, none⟩)), (50, .agg #[.bool true, s_.1, .slice none 0 0, .slice none 0 0])]) (fun s_ w' => (w'.cell? ⟨gb201, 0, none⟩ = some (.bool true) ∧ w'.cell? ⟨gb201, 1, none⟩ = some (.slice A0_1 l0_1.length c0_1) ∧ w'.cell? ⟨gb201, 2, none⟩ = some (.slice A0_2 l0_2.length c0_2) ∧ w'.cell? ⟨gb201, 3, none⟩ = some (.slice A0_3 l0_3.length c0_3)) ∧ (Kd.R Kd.string 9 w' w.heap.size (fun k_ => some k_ ≠ (s_.1 : Value).ownBlock) (.slice Ao46 t206.length co46) t206) ∧ (Kd.R Kd.string 9 w' w.heap.size (fun k_ => some k_ ≠ (.slice Ao46 t206.length co46 : Value).ownBlock) s_.1 t211) ∧ (w'.heap[gb201]? = some (.cells #[.bool true, .slice A0_1 l0_1.length c0_1, .slice A0_2 l0_2.length c0_2, .slice A0_3 l0_3.length c0_3] 31 (0, 0))) ∧ (w'.heap[gb202]? = some (.cells #[.bool false, .slice none 0 0, .slice none 0 0, .slice none 0 0] 31 (0, 0))) ∧ (w'.heap[gb203]? = some (.cells #[.bool false, .slice none 0 0, .slice none 0 0, .slice none 0 0] 31 (0, 0))) ∧ (w'.heap[gb209]? = some (.cells #[.bool true, .slice Ao46 t206.length co46, .slice none 0 0, .slice none 0 0] 31 (0, 0))) ∧ (w'.heap[s_.2]? = some (.cells #[.bool false, .slice none 0 0, .slice none 0 0, .slice none 0 0] 31 (0, 0))) ∧ (w.heap.size ≤ s_.2) ∧ (w.heap.size ≤ s_.2) ∧ (gb201 ≠ s_.2) ∧ (s_.2 ≠ gb201) ∧ (gb202 ≠ s_.2) ∧ (s_.2 ≠ gb202) ∧ (gb203 ≠ s_.2) ∧ (s_.2 ≠ gb203) ∧ (gb209 ≠ s_.2) ∧ (s_.2 ≠ gb209) ∧ (Below w.heap.size w w')) ?_ ?_
            rotate_left
            ·intro hCont
             refine two_ (i := 8) (j := 10) (Ni := some 49) (Nj := some 12) #[true, true, true, true, true, true, true, true, true, false, false, false] #[true, true, true, true, true, true, true, true, false, false, true, false] rfl rfl rfl rfl (two_of HT_.out (by kernel_rfl)) (by decide) (by decide) (fun K hK => ?_) (fun K hK => ?_)
             ·skip
              refine goes_ Try.func54 (by kernel_rfl) rfl #[.slice A53 (l0_1.drop ((ji25) : Int).toNat).length (c0_1 - (ji25).toNat)] (by rfl) rfl rfl (by (try simp only [List.map_toArray, List.map_cons, List.map_nil]); first | done | (rw [show (l0_1.drop ((ji25) : Int).toNat).length = (l0_1.length - (ji25).toNat) from List.length_drop] <;> rfl) | (simp only [hji25]; rfl) | rfl | (simp only [List.length_drop, List.length_take]; rfl)) ?_
              with_reducible refine (slices_Clone_string_string.calls _ _ (l0_1.drop ((ji25) : Int).toNat) t211 _ ?_ ?_ A28.out).mono ?_
              exact cB_ HR210 HB
              exact HC210.out
              rintro e w54 ⟨v212, rfl, ho0, hb⟩
              refine ⟨_, rfl, ?_⟩
              have HO213 := Aside0.mk (Kd.R_lower (Kd.R_new' ho0 (Kd.R_lt (rA_ HO208))) (bs_ HB))
              replace HO208 := Aside0.mk (Kd.R_elder' (rA_ HO208) (Kd.R_base ho0) hb)
              replace BK201 := bK_ BK201 hb
              replace BK202 := bK_ BK202 hb
              replace BK203 := bK_ BK203 hb
              replace BK209 := bK_ BK209 hb
              replace HB := bS_ HB hb
              (try clear hb ho0)
              obtain ⟨Ao55, co55, eo55⟩ := Kd.R_slice HO213.out
              (first | subst eo55 | (injection eo55 with f1_ f2_ f3_; have f4_ := f1_.symm; have f5_ := f3_.symm; clear f1_ f2_ f3_; subst f4_; subst f5_))
              refine hK.out _ _ ⟨(blk_cell BK201.out 0).trans rfl, (blk_cell BK201.out 1).trans rfl, (blk_cell BK201.out 2).trans rfl, (blk_cell BK201.out 3).trans rfl⟩ (fun hHeld => ?_)
              clear hK K
              refine norm_ (a' := ?_) ?_ ?_
              rotate_left
              ·show Act.put _ (some 49) _ = _
               simp only [Act.put, List.setIfInBounds_toArray, List.set_cons_zero, List.set_cons_succ, i64_w, i32_w]
               rfl
              refine pu_ 9 (some 50) HT_ ?_
              refine on_ 10 (some 12) HT_ (fun K hK => ?_)
              refine box_step ?hg (N := 12) ?hd (cs := #[.bool false, .slice none 0 0, .slice none 0 0, .slice none 0 0]) (t := 31) ?hr ?_; (case hd => rfl); (case hg => rfl); (case hr => first | (go_simp; done) | (go_simp; rfl))
              intro gb214 hg w56 hbox hb
              replace HO208 := rB_ HO208 hb
              replace HO213 := rB_ HO213 hb
              have BK214 := Aside0.mk (hbox)
              have GW214 := bG_ HB hg
              have GE214 := bG_ HB hg
              replace HB := bS_ HB hb
              have NB201_214 := nL_ BK201 hg
              have NB214_201 := nG_ BK201 hg
              replace BK201 := bK_ BK201 hb
              have NB202_214 := nL_ BK202 hg
              have NB214_202 := nG_ BK202 hg
              replace BK202 := bK_ BK202 hb
              have NB203_214 := nL_ BK203 hg
              have NB214_203 := nG_ BK203 hg
              replace BK203 := bK_ BK203 hb
              have NB209_214 := nL_ BK209 hg
              have NB214_209 := nG_ BK209 hg
              replace BK209 := bK_ BK209 hb
              clear hb hbox hg
              refine hK.out _ _ ⟨(blk_cell BK201.out 0).trans rfl, (blk_cell BK201.out 1).trans rfl, (blk_cell BK201.out 2).trans rfl, (blk_cell BK201.out 3).trans rfl⟩ (fun hHeld => ?_)
              clear hK K
              refine norm_ (a' := ?_) ?_ ?_
              rotate_left
              ·show Act.put _ (some 12) _ = _
               simp only [Act.put, List.setIfInBounds_toArray, List.set_cons_zero, List.set_cons_succ, i64_w, i32_w]
               rfl
              exact norm_ (by simp only [putAll, Act.put, List.setIfInBounds_toArray, List.set_cons_zero, List.set_cons_succ]) (hCont (.slice Ao55 t211.length co55, gb214) _ ⟨hHeld, (by (with_reducible repeat (first | apply Kd.R_alloc | apply Kd.R_drewN | apply Kd.R_drew)); exact Kd.R_mono HO208.out (fun _ hk => hk.2)), (by (with_reducible repeat (first | apply Kd.R_alloc | apply Kd.R_drewN | apply Kd.R_drew)); exact Kd.R_mono HO213.out (fun _ hk => hk.2)), (bA_ BK201), (bA_ BK202), (bA_ BK203), (bA_ BK209), (bA_ BK214), GW214.out, GE214.out, NB201_214.out, NB214_201.out, NB202_214.out, NB214_202.out, NB203_214.out, NB214_203.out, NB209_214.out, NB214_209.out, (bl_ HB)⟩)
             ·skip
              refine box_step ?hg (N := 12) ?hd (cs := #[.bool false, .slice none 0 0, .slice none 0 0, .slice none 0 0]) (t := 31) ?hr ?_; (case hd => rfl); (case hg => rfl); (case hr => first | (go_simp; done) | (go_simp; rfl))
              intro gb214 hg w54 hbox hb
              replace HO208 := rB_ HO208 hb
              have BK214 := Aside0.mk (hbox)
              have GW214 := bG_ HB hg
              have GE214 := bG_ HB hg
              replace HB := bS_ HB hb
              have NB201_214 := nL_ BK201 hg
              have NB214_201 := nG_ BK201 hg
              replace BK201 := bK_ BK201 hb
              have NB202_214 := nL_ BK202 hg
              have NB214_202 := nG_ BK202 hg
              replace BK202 := bK_ BK202 hb
              have NB203_214 := nL_ BK203 hg
              have NB214_203 := nG_ BK203 hg
              replace BK203 := bK_ BK203 hb
              have NB209_214 := nL_ BK209 hg
              have NB214_209 := nG_ BK209 hg
              replace BK209 := bK_ BK209 hb
              clear hb hbox hg
              refine hK.out _ _ ⟨(blk_cell BK201.out 0).trans rfl, (blk_cell BK201.out 1).trans rfl, (blk_cell BK201.out 2).trans rfl, (blk_cell BK201.out 3).trans rfl⟩ (fun hHeld => ?_)
              clear hK K
              refine norm_ (a' := ?_) ?_ ?_
              rotate_left
              ·show Act.put _ (some 12) _ = _
               simp only [Act.put, List.setIfInBounds_toArray, List.set_cons_zero, List.set_cons_succ, i64_w, i32_w]
               rfl
              refine on_ 8 (some 49) HT_ (fun K hK => ?_)
              refine goes_ Try.func54 (by kernel_rfl) rfl #[.slice A53 (l0_1.drop ((ji25) : Int).toNat).length (c0_1 - (ji25).toNat)] (by rfl) rfl rfl (by (try simp only [List.map_toArray, List.map_cons, List.map_nil]); first | done | (rw [show (l0_1.drop ((ji25) : Int).toNat).length = (l0_1.length - (ji25).toNat) from List.length_drop] <;> rfl) | (simp only [hji25]; rfl) | rfl | (simp only [List.length_drop, List.length_take]; rfl)) ?_
              with_reducible refine (slices_Clone_string_string.calls _ _ (l0_1.drop ((ji25) : Int).toNat) t211 _ ?_ ?_ A28.out).mono ?_
              exact cB_ HR210 HB
              exact HC210.out
              rintro e w55 ⟨v212, rfl, ho0, hb⟩
              refine ⟨_, rfl, ?_⟩
              have HO213 := Aside0.mk (Kd.R_lower (Kd.R_new' ho0 (Kd.R_lt (rA_ HO208))) (bs_ HB))
              replace HO208 := Aside0.mk (Kd.R_elder' (rA_ HO208) (Kd.R_base ho0) hb)
              replace BK201 := bK_ BK201 hb
              replace BK202 := bK_ BK202 hb
              replace BK203 := bK_ BK203 hb
              replace BK209 := bK_ BK209 hb
              replace BK214 := bK_ BK214 hb
              replace HB := bS_ HB hb
              (try clear hb ho0)
              obtain ⟨Ao56, co56, eo56⟩ := Kd.R_slice HO213.out
              (first | subst eo56 | (injection eo56 with f1_ f2_ f3_; have f4_ := f1_.symm; have f5_ := f3_.symm; clear f1_ f2_ f3_; subst f4_; subst f5_))
              refine hK.out _ _ ⟨(blk_cell BK201.out 0).trans rfl, (blk_cell BK201.out 1).trans rfl, (blk_cell BK201.out 2).trans rfl, (blk_cell BK201.out 3).trans rfl⟩ (fun hHeld => ?_)
              clear hK K
              refine norm_ (a' := ?_) ?_ ?_
              rotate_left
              ·show Act.put _ (some 49) _ = _
               simp only [Act.put, List.setIfInBounds_toArray, List.set_cons_zero, List.set_cons_succ, i64_w, i32_w]
               rfl
              refine pu_ 9 (some 50) HT_ ?_
              exact norm_ (by simp only [putAll, Act.put, List.setIfInBounds_toArray, List.set_cons_zero, List.set_cons_succ]) (hCont (.slice Ao56 t211.length co56, gb214) _ ⟨hHeld, (by (with_reducible repeat (first | apply Kd.R_alloc | apply Kd.R_drewN | apply Kd.R_drew)); exact Kd.R_mono HO208.out (fun _ hk => hk.2)), (by (with_reducible repeat (first | apply Kd.R_alloc | apply Kd.R_drewN | apply Kd.R_drew)); exact Kd.R_mono HO213.out (fun _ hk => hk.2)), (bA_ BK201), (bA_ BK202), (bA_ BK203), (bA_ BK209), (bA_ BK214), GW214.out, GE214.out, NB201_214.out, NB214_201.out, NB202_214.out, NB214_202.out, NB203_214.out, NB214_203.out, NB209_214.out, NB214_209.out, (bl_ HB)⟩)
            rintro ⟨v212, gb214⟩ w57 ⟨hS_, h0_, h1_, h2_, h3_, h4_, h5_, h6_, h7_, h8_, h9_, h10_, h11_, h12_, h13_, h14_, h15_, h16_, h17_⟩
            replace HO208 : Aside0 (Kd.R Kd.string 9 w57 w.heap.size (fun k_ => some k_ ≠ (v212 : Value).ownBlock) (.slice Ao46 t206.length co46) t206) := ⟨h0_⟩
            have HO213 : Aside0 (Kd.R Kd.string 9 w57 w.heap.size (fun k_ => some k_ ≠ (.slice Ao46 t206.length co46 : Value).ownBlock) v212 t211) := ⟨h1_⟩
            replace BK201 : Aside0 (w57.heap[gb201]? = some (.cells #[.bool true, .slice A0_1 l0_1.length c0_1, .slice A0_2 l0_2.length c0_2, .slice A0_3 l0_3.length c0_3] 31 (0, 0))) := ⟨h2_⟩
            replace BK202 : Aside0 (w57.heap[gb202]? = some (.cells #[.bool false, .slice none 0 0, .slice none 0 0, .slice none 0 0] 31 (0, 0))) := ⟨h3_⟩
            replace BK203 : Aside0 (w57.heap[gb203]? = some (.cells #[.bool false, .slice none 0 0, .slice none 0 0, .slice none 0 0] 31 (0, 0))) := ⟨h4_⟩
            replace BK209 : Aside0 (w57.heap[gb209]? = some (.cells #[.bool true, .slice Ao46 t206.length co46, .slice none 0 0, .slice none 0 0] 31 (0, 0))) := ⟨h5_⟩
            have BK214 : Aside0 (w57.heap[gb214]? = some (.cells #[.bool false, .slice none 0 0, .slice none 0 0, .slice none 0 0] 31 (0, 0))) := ⟨h6_⟩
            have GW214 : Aside0 (w.heap.size ≤ gb214) := ⟨h7_⟩
            have GE214 : Aside0 (w.heap.size ≤ gb214) := ⟨h8_⟩
            have NB201_214 : Aside0 (gb201 ≠ gb214) := ⟨h9_⟩
            have NB214_201 : Aside0 (gb214 ≠ gb201) := ⟨h10_⟩
            have NB202_214 : Aside0 (gb202 ≠ gb214) := ⟨h11_⟩
            have NB214_202 : Aside0 (gb214 ≠ gb202) := ⟨h12_⟩
            have NB203_214 : Aside0 (gb203 ≠ gb214) := ⟨h13_⟩
            have NB214_203 : Aside0 (gb214 ≠ gb203) := ⟨h14_⟩
            have NB209_214 : Aside0 (gb209 ≠ gb214) := ⟨h15_⟩
            have NB214_209 : Aside0 (gb214 ≠ gb209) := ⟨h16_⟩
            replace HB : Aside0 (Below w.heap.size w w57) := ⟨h17_⟩
            clear h0_ h1_ h2_ h3_ h4_ h5_ h6_ h7_ h8_ h9_ h10_ h11_ h12_ h13_ h14_ h15_ h16_ h17_
            have hHeld : w57.cell? ⟨gb201, 0, none⟩ = some (.bool true) ∧ w57.cell? ⟨gb201, 1, none⟩ = some (.slice A0_1 l0_1.length c0_1) ∧ w57.cell? ⟨gb201, 2, none⟩ = some (.slice A0_2 l0_2.length c0_2) ∧ w57.cell? ⟨gb201, 3, none⟩ = some (.slice A0_3 l0_3.length c0_3) := hS_
            obtain ⟨Ao58, co58, eo58⟩ := Kd.R_slice HO213.out
            (first | subst eo58 | (injection eo58 with f1_ f2_ f3_; have f4_ := f1_.symm; have f5_ := f3_.symm; clear f1_ f2_ f3_; subst f4_; subst f5_))
            refine norm_ (a' := ?_) ?_ ?_
            rotate_left
            ·simp only [putAll, Act.put, List.setIfInBounds_toArray, List.set_cons_zero, List.set_cons_succ]
             rfl
            refine on_ 11 none HT_ (fun K hK => ?_)
            have hs59 : w57.cell? ⟨gb214, 0, none⟩ = some (.bool false) := (blk_cell BK214.out 0).trans rfl
            have hfs59 := blk_frozen BK214.out 0
            have hns59_0 := NB201_214.out
            have hns59_1 := NB202_214.out
            have hns59_2 := NB203_214.out
            have hns59_3 := NB209_214.out
            have hms59_0 := NB214_201.out
            have hms59_1 := NB214_202.out
            have hms59_2 := NB214_203.out
            have hms59_3 := NB214_209.out
            have hs60 : w57.cell? ⟨gb214, 1, none⟩ = some (.slice none 0 0) := (blk_cell BK214.out 1).trans rfl
            have hfs60 := blk_frozen BK214.out 1
            have hns60_0 := NB201_214.out
            have hns60_1 := NB202_214.out
            have hns60_2 := NB203_214.out
            have hns60_3 := NB209_214.out
            have hms60_0 := NB214_201.out
            have hms60_1 := NB214_202.out
            have hms60_2 := NB214_203.out
            have hms60_3 := NB214_209.out
            have hs61 : w57.cell? ⟨gb214, 2, none⟩ = some (.slice none 0 0) := (blk_cell BK214.out 2).trans rfl
            have hfs61 := blk_frozen BK214.out 2
            have hns61_0 := NB201_214.out
            have hns61_1 := NB202_214.out
            have hns61_2 := NB203_214.out
            have hns61_3 := NB209_214.out
            have hms61_0 := NB214_201.out
            have hms61_1 := NB214_202.out
            have hms61_2 := NB214_203.out
            have hms61_3 := NB214_209.out
            have hs62 : w57.cell? ⟨gb214, 3, none⟩ = some (.slice none 0 0) := (blk_cell BK214.out 3).trans rfl
            have hfs62 := blk_frozen BK214.out 3
            have hns62_0 := NB201_214.out
            have hns62_1 := NB202_214.out
            have hns62_2 := NB203_214.out
            have hns62_3 := NB209_214.out
            have hms62_0 := NB214_201.out
            have hms62_1 := NB214_202.out
            have hms62_2 := NB214_203.out
            have hms62_3 := NB214_209.out
            refine skip_ (w1 := ?_) (by rfl) rfl ?_ ?_
            rotate_left
            ·go_simp
             rfl
            refine hK.out _ _ ⟨((cell_far (p := ⟨gb214, _, none⟩) NB201_214.out _).trans (((cell_far (p := ⟨gb214, _, none⟩) NB201_214.out _).trans (((cell_far (p := ⟨gb214, _, none⟩) NB201_214.out _).trans (((cell_far (p := ⟨gb214, _, none⟩) NB201_214.out _).trans (hHeld.1)))))))), ((cell_far (p := ⟨gb214, _, none⟩) NB201_214.out _).trans (((cell_far (p := ⟨gb214, _, none⟩) NB201_214.out _).trans (((cell_far (p := ⟨gb214, _, none⟩) NB201_214.out _).trans (((cell_far (p := ⟨gb214, _, none⟩) NB201_214.out _).trans (hHeld.2.1)))))))), ((cell_far (p := ⟨gb214, _, none⟩) NB201_214.out _).trans (((cell_far (p := ⟨gb214, _, none⟩) NB201_214.out _).trans (((cell_far (p := ⟨gb214, _, none⟩) NB201_214.out _).trans (((cell_far (p := ⟨gb214, _, none⟩) NB201_214.out _).trans (hHeld.2.2.1)))))))), ((cell_far (p := ⟨gb214, _, none⟩) NB201_214.out _).trans (((cell_far (p := ⟨gb214, _, none⟩) NB201_214.out _).trans (((cell_far (p := ⟨gb214, _, none⟩) NB201_214.out _).trans (((cell_far (p := ⟨gb214, _, none⟩) NB201_214.out _).trans (hHeld.2.2.2))))))))⟩ (fun hHeld => ?_)
            clear hK K
            refine done_ (done_of HT_.out (by kernel_rfl)) ?_
            have hnb63 := NB201_209.out
            have hnc63 := NB209_201.out
            have hnb64 := NB201_214.out
            have hnc64 := NB214_201.out
            obtain ⟨hcz65_0, hcz65_1, hcz65_2, hcz65_3, hfz65_0, hfz65_1, hfz65_2, hfz65_3⟩ := cz4_ BK201
            try go_wp2
            have n0_ : Aside0 (Kd.R Kd.string 9 ((((w57.setCell ⟨gb214, 0, none⟩ (.bool true)).setCell ⟨gb214, 1, none⟩ (.slice Ao58 t211.length co58)).setCell ⟨gb214, 2, none⟩ (.slice none 0 0)).setCell ⟨gb214, 3, none⟩ (.slice none 0 0)) w.heap.size (fun k_ => some k_ ≠ (.slice Ao58 t211.length co58 : Value).ownBlock) (.slice Ao46 t206.length co46) t206) := ⟨by (with_reducible repeat (first | apply Kd.R_alloc | apply Kd.R_drewN | apply Kd.R_drew)); exact Kd.R_mono (Kd.R_far (p := ⟨gb214, 3, none⟩) (Kd.R_far (p := ⟨gb214, 2, none⟩) (Kd.R_far (p := ⟨gb214, 1, none⟩) (Kd.R_far (p := ⟨gb214, 0, none⟩) (Kd.R_types HO208.out BK214.out (by decide)) (fun _ hk => hk.2) (.bool true)) (fun _ hk => hk.2) (.slice Ao58 t211.length co58)) (fun _ hk => hk.2) (.slice none 0 0)) (fun _ hk => hk.2) (.slice none 0 0)) (fun _ hk => hk.1)⟩
            have n1_ : Aside0 (Kd.R Kd.string 9 ((((w57.setCell ⟨gb214, 0, none⟩ (.bool true)).setCell ⟨gb214, 1, none⟩ (.slice Ao58 t211.length co58)).setCell ⟨gb214, 2, none⟩ (.slice none 0 0)).setCell ⟨gb214, 3, none⟩ (.slice none 0 0)) w.heap.size (fun k_ => some k_ ≠ (.slice Ao46 t206.length co46 : Value).ownBlock) (.slice Ao58 t211.length co58) t211) := ⟨by (with_reducible repeat (first | apply Kd.R_alloc | apply Kd.R_drewN | apply Kd.R_drew)); exact Kd.R_mono (Kd.R_far (p := ⟨gb214, 3, none⟩) (Kd.R_far (p := ⟨gb214, 2, none⟩) (Kd.R_far (p := ⟨gb214, 1, none⟩) (Kd.R_far (p := ⟨gb214, 0, none⟩) (Kd.R_types HO213.out BK214.out (by decide)) (fun _ hk => hk.2) (.bool true)) (fun _ hk => hk.2) (.slice Ao58 t211.length co58)) (fun _ hk => hk.2) (.slice none 0 0)) (fun _ hk => hk.2) (.slice none 0 0)) (fun _ hk => hk.1)⟩
            have n2_ : Aside0 (((((w57.setCell ⟨gb214, 0, none⟩ (.bool true)).setCell ⟨gb214, 1, none⟩ (.slice Ao58 t211.length co58)).setCell ⟨gb214, 2, none⟩ (.slice none 0 0)).setCell ⟨gb214, 3, none⟩ (.slice none 0 0)).heap[gb201]? = some (.cells #[.bool true, .slice A0_1 l0_1.length c0_1, .slice A0_2 l0_2.length c0_2, .slice A0_3 l0_3.length c0_3] 31 (0, 0))) := ⟨bA_ BK201⟩
            have n3_ : Aside0 (((((w57.setCell ⟨gb214, 0, none⟩ (.bool true)).setCell ⟨gb214, 1, none⟩ (.slice Ao58 t211.length co58)).setCell ⟨gb214, 2, none⟩ (.slice none 0 0)).setCell ⟨gb214, 3, none⟩ (.slice none 0 0)).heap[gb202]? = some (.cells #[.bool false, .slice none 0 0, .slice none 0 0, .slice none 0 0] 31 (0, 0))) := ⟨bA_ BK202⟩
            have n4_ : Aside0 (((((w57.setCell ⟨gb214, 0, none⟩ (.bool true)).setCell ⟨gb214, 1, none⟩ (.slice Ao58 t211.length co58)).setCell ⟨gb214, 2, none⟩ (.slice none 0 0)).setCell ⟨gb214, 3, none⟩ (.slice none 0 0)).heap[gb203]? = some (.cells #[.bool false, .slice none 0 0, .slice none 0 0, .slice none 0 0] 31 (0, 0))) := ⟨bA_ BK203⟩
            have n5_ : Aside0 (((((w57.setCell ⟨gb214, 0, none⟩ (.bool true)).setCell ⟨gb214, 1, none⟩ (.slice Ao58 t211.length co58)).setCell ⟨gb214, 2, none⟩ (.slice none 0 0)).setCell ⟨gb214, 3, none⟩ (.slice none 0 0)).heap[gb209]? = some (.cells #[.bool true, .slice Ao46 t206.length co46, .slice none 0 0, .slice none 0 0] 31 (0, 0))) := ⟨bA_ BK209⟩
            have n6_ : Aside0 (((((w57.setCell ⟨gb214, 0, none⟩ (.bool true)).setCell ⟨gb214, 1, none⟩ (.slice Ao58 t211.length co58)).setCell ⟨gb214, 2, none⟩ (.slice none 0 0)).setCell ⟨gb214, 3, none⟩ (.slice none 0 0)).heap[gb214]? = some (.cells #[.bool true, .slice Ao58 t211.length co58, .slice none 0 0, .slice none 0 0] 31 (0, 0))) := ⟨by (with_reducible repeat (first | refine blk_drewN ?_ _ | refine blk_drew ?_ | refine blk_alloc ?_ _)); refine blk_put (cs := #[.bool true, .slice Ao58 t211.length co58, .slice none 0 0, .slice none 0 0]) ?_ 3 _ rfl; (with_reducible repeat (first | refine blk_drewN ?_ _ | refine blk_drew ?_ | refine blk_alloc ?_ _)); refine blk_put (cs := #[.bool true, .slice Ao58 t211.length co58, .slice none 0 0, .slice none 0 0]) ?_ 2 _ rfl; (with_reducible repeat (first | refine blk_drewN ?_ _ | refine blk_drew ?_ | refine blk_alloc ?_ _)); refine blk_put (cs := #[.bool true, .slice none 0 0, .slice none 0 0, .slice none 0 0]) ?_ 1 _ rfl; (with_reducible repeat (first | refine blk_drewN ?_ _ | refine blk_drew ?_ | refine blk_alloc ?_ _)); refine blk_put (cs := #[.bool false, .slice none 0 0, .slice none 0 0, .slice none 0 0]) ?_ 0 _ rfl; (with_reducible repeat (first | refine blk_drewN ?_ _ | refine blk_drew ?_ | refine blk_alloc ?_ _)); exact BK214.out⟩
            have n7_ : Aside0 (Below w.heap.size w ((((w57.setCell ⟨gb214, 0, none⟩ (.bool true)).setCell ⟨gb214, 1, none⟩ (.slice Ao58 t211.length co58)).setCell ⟨gb214, 2, none⟩ (.slice none 0 0)).setCell ⟨gb214, 3, none⟩ (.slice none 0 0))) := ⟨bl_ HB⟩
            (try clear HO208 HO213 BK201 BK202 BK203 BK209 BK214 HB)
            generalize ((((w57.setCell ⟨gb214, 0, none⟩ (.bool true)).setCell ⟨gb214, 1, none⟩ (.slice Ao58 t211.length co58)).setCell ⟨gb214, 2, none⟩ (.slice none 0 0)).setCell ⟨gb214, 3, none⟩ (.slice none 0 0)) = w66 at n0_ n1_ n2_ n3_ n4_ n5_ n6_ n7_ ⊢
            have HO208 := n0_
            have HO213 := n1_
            have BK201 := n2_
            have BK202 := n3_
            have BK203 := n4_
            have BK209 := n5_
            have BK214 := n6_
            have HB := n7_
            clear n0_ n1_ n2_ n3_ n4_ n5_ n6_ n7_
            replace HO208 := Aside0.mk (Kd.R_drew HO208.out)
            replace HO213 := Aside0.mk (Kd.R_drew HO213.out)
            replace BK201 := Aside0.mk (blk_drew BK201.out)
            replace BK202 := Aside0.mk (blk_drew BK202.out)
            replace BK203 := Aside0.mk (blk_drew BK203.out)
            replace BK209 := Aside0.mk (blk_drew BK209.out)
            replace BK214 := Aside0.mk (blk_drew BK214.out)
            replace HB := Aside0.mk (below_drew1 HB.out)
            obtain ⟨i068, hi068, _, hsz68, _⟩ := info_parts info9
            obtain ⟨hcut68, hA68, hC68⟩ := print_take_of (P := Try.prog) Value.string (⟨#[]⟩ : ByteArray) 22 9 .i64 Try.underlying22 hi068 hsz68 A0_2 c0_2 l0_2 (ji21) (of_decide_eq_true (by first | (with_reducible assumption) | assumption)) (of_decide_eq_true (by first | (with_reducible assumption) | assumption)) HC0_2.out
            have HR215 := Aside0.mk (Kd.C_of_reads (h1 := fun _ => rfl) (hA68 _ (Kd.reads_of_C HR0_2.out)))
            have HC215 := Aside0.mk hC68
            clear hA68 hC68 hi068 hsz68
            obtain ⟨i069, hi069, _, hsz69, _⟩ := info_parts info9
            obtain ⟨A69, hcut69, hA69, hC69⟩ := print_drop_of (P := Try.prog) Value.string (⟨#[]⟩ : ByteArray) 22 9 .i64 Try.underlying22 hi069 hsz69 A0_2 c0_2 l0_2 (ji21) (of_decide_eq_true (by first | (with_reducible assumption) | assumption)) (of_decide_eq_true (by first | (with_reducible assumption) | assumption)) HC0_2.out
            have HR219 := Aside0.mk (Kd.C_of_reads (h1 := fun _ => rfl) (hA69 _ (Kd.reads_of_C HR0_2.out)))
            have HC219 := Aside0.mk hC69
            clear hA69 hC69 hi069 hsz69
            refine start_ (n := 14) (S := fun w' => w'.cell? ⟨gb201, 0, none⟩ = some (.bool true) ∧ w'.cell? ⟨gb201, 1, none⟩ = some (.slice A0_1 l0_1.length c0_1) ∧ w'.cell? ⟨gb201, 2, none⟩ = some (.slice A0_2 l0_2.length c0_2) ∧ w'.cell? ⟨gb201, 3, none⟩ = some (.slice A0_3 l0_3.length c0_3)) (ds := []) #[false, false, false, false, false, false, false, false, false, false, false, false, false, false] (by kernel_rfl) rfl rfl ⟨(blk_cell BK201.out 0).trans rfl, (blk_cell BK201.out 1).trans rfl, (blk_cell BK201.out 2).trans rfl, (blk_cell BK201.out 3).trans rfl⟩ (fun hHeld => ?_); refine with_tabW node_Split.tab14 node_Split.bits14 (fun HT_ HW_ => ?_)
            generalize w66.drew = w67 at HO208 HO213 BK201 BK202 BK203 BK209 BK214 HB HR215 HR219 hHeld ⊢
            refine pu_ 0 (some 53) HT_ ?_
            refine pu_ 2 (some 55) HT_ ?_
            refine pu_ 5 (some 58) HT_ ?_
            refine pu_ 7 (some 60) HT_ ?_
            refine tk_ 1 (some 54) HT_ HW_ hHeld ?_
            refine pu_ 3 (some 56) HT_ ?_
            refine tk_ 6 (some 59) HT_ HW_ hHeld ?_
            refine pu_ 8 (some 61) HT_ ?_
            refine on_ 4 (some 57) HT_ (fun K hK => ?_)
            refine goes_ Try.func54 (by kernel_rfl) rfl #[.slice A0_2 (l0_2.take ((ji21) : Int).toNat).length c0_2] (by rfl) rfl rfl (by (try simp only [List.map_toArray, List.map_cons, List.map_nil]); first | done | (rw [show (l0_2.take ((ji21) : Int).toNat).length = (ji21).toNat from (by rw [List.length_take]; have h_ : ((ji21) : Int) ≤ (l0_2.length : Int) := of_decide_eq_true (by first | (with_reducible assumption) | assumption); omega)] <;> rfl) | (simp only [hji21]; rfl) | rfl | (simp only [List.length_drop, List.length_take]; rfl)) ?_
            with_reducible refine (slices_Clone_string_string.calls _ _ (l0_2.take ((ji21) : Int).toNat) t216 _ ?_ ?_ A32.out).mono ?_
            exact cB_ HR215 HB
            exact HC215.out
            rintro e w70 ⟨v217, rfl, ho0, hb⟩
            refine ⟨_, rfl, ?_⟩
            have HO218 := Aside0.mk (Kd.R_lower (Kd.R_new' (Kd.R_new' ho0 (Kd.R_lt (rA_ HO208))) (Kd.R_lt (rA_ HO213))) (bs_ HB))
            replace HO208 := Aside0.mk (Kd.R_elder' (rA_ HO208) (Kd.R_base ho0) hb)
            replace HO213 := Aside0.mk (Kd.R_elder' (rA_ HO213) (Kd.R_base ho0) hb)
            replace BK201 := bK_ BK201 hb
            replace BK202 := bK_ BK202 hb
            replace BK203 := bK_ BK203 hb
            replace BK209 := bK_ BK209 hb
            replace BK214 := bK_ BK214 hb
            replace HB := bS_ HB hb
            (try clear hb ho0)
            refine hK.out _ _ ⟨(blk_cell BK201.out 0).trans rfl, (blk_cell BK201.out 1).trans rfl, (blk_cell BK201.out 2).trans rfl, (blk_cell BK201.out 3).trans rfl⟩ (fun hHeld => ?_)
            clear hK K
            refine norm_ (a' := ?_) ?_ ?_
            rotate_left
            ·show Act.put _ (some 57) _ = _
             simp only [Act.put, List.setIfInBounds_toArray, List.set_cons_zero, List.set_cons_succ, i64_w, i32_w]
             rfl
            refine pu_ 10 (some 63) HT_ ?_
            refine on_ 9 (some 62) HT_ (fun K hK => ?_)
            refine goes_ Try.func54 (by kernel_rfl) rfl #[.slice A69 (l0_2.drop ((ji21) : Int).toNat).length (c0_2 - (ji21).toNat)] (by rfl) rfl rfl (by (try simp only [List.map_toArray, List.map_cons, List.map_nil]); first | done | (rw [show (l0_2.drop ((ji21) : Int).toNat).length = (l0_2.length - (ji21).toNat) from List.length_drop] <;> rfl) | (simp only [hji21]; rfl) | rfl | (simp only [List.length_drop, List.length_take]; rfl)) ?_
            with_reducible refine (slices_Clone_string_string.calls _ _ (l0_2.drop ((ji21) : Int).toNat) t220 _ ?_ ?_ A35.out).mono ?_
            exact cB_ HR219 HB
            exact HC219.out
            rintro e w71 ⟨v221, rfl, ho0, hb⟩
            refine ⟨_, rfl, ?_⟩
            have HO222 := Aside0.mk (Kd.R_lower (Kd.R_new' (Kd.R_new' (Kd.R_new' ho0 (Kd.R_lt (rA_ HO208))) (Kd.R_lt (rA_ HO213))) (Kd.R_lt (rA_ HO218))) (bs_ HB))
            replace HO208 := Aside0.mk (Kd.R_elder' (rA_ HO208) (Kd.R_base ho0) hb)
            replace HO213 := Aside0.mk (Kd.R_elder' (rA_ HO213) (Kd.R_base ho0) hb)
            replace HO218 := Aside0.mk (Kd.R_elder' (rA_ HO218) (Kd.R_base ho0) hb)
            replace BK201 := bK_ BK201 hb
            replace BK202 := bK_ BK202 hb
            replace BK203 := bK_ BK203 hb
            replace BK209 := bK_ BK209 hb
            replace BK214 := bK_ BK214 hb
            replace HB := bS_ HB hb
            (try clear hb ho0)
            obtain ⟨Ao72, co72, eo72⟩ := Kd.R_slice HO218.out
            (first | subst eo72 | (injection eo72 with f1_ f2_ f3_; have f4_ := f1_.symm; have f5_ := f3_.symm; clear f1_ f2_ f3_; subst f4_; subst f5_))
            obtain ⟨Ao74, co74, eo74⟩ := Kd.R_slice HO222.out
            (first | subst eo74 | (injection eo74 with f1_ f2_ f3_; have f4_ := f1_.symm; have f5_ := f3_.symm; clear f1_ f2_ f3_; subst f4_; subst f5_))
            refine hK.out _ _ ⟨(blk_cell BK201.out 0).trans rfl, (blk_cell BK201.out 1).trans rfl, (blk_cell BK201.out 2).trans rfl, (blk_cell BK201.out 3).trans rfl⟩ (fun hHeld => ?_)
            clear hK K
            refine norm_ (a' := ?_) ?_ ?_
            rotate_left
            ·show Act.put _ (some 62) _ = _
             simp only [Act.put, List.setIfInBounds_toArray, List.set_cons_zero, List.set_cons_succ, i64_w, i32_w]
             rfl
            refine on_ 11 none HT_ (fun K hK => ?_)
            have hs73 : w71.cell? ⟨gb209, 2, none⟩ = some (.slice none 0 0) := (blk_cell BK209.out 2).trans rfl
            have hfs73 := blk_frozen BK209.out 2
            have hns73_0 := NB201_209.out
            have hns73_1 := NB202_209.out
            have hns73_2 := NB203_209.out
            have hns73_4 := NB214_209.out
            have hms73_0 := NB209_201.out
            have hms73_1 := NB209_202.out
            have hms73_2 := NB209_203.out
            have hms73_4 := NB209_214.out
            refine skip_ (w1 := ?_) (by rfl) rfl ?_ ?_
            rotate_left
            ·go_simp
             rfl
            refine hK.out _ _ ⟨((cell_far (p := ⟨gb209, _, none⟩) NB201_209.out _).trans (hHeld.1)), ((cell_far (p := ⟨gb209, _, none⟩) NB201_209.out _).trans (hHeld.2.1)), ((cell_far (p := ⟨gb209, _, none⟩) NB201_209.out _).trans (hHeld.2.2.1)), ((cell_far (p := ⟨gb209, _, none⟩) NB201_209.out _).trans (hHeld.2.2.2))⟩ (fun hHeld => ?_)
            clear hK K
            refine pu_ 12 (some 64) HT_ ?_
            refine on_ 13 none HT_ (fun K hK => ?_)
            have hs75 : w71.cell? ⟨gb214, 2, none⟩ = some (.slice none 0 0) := (blk_cell BK214.out 2).trans rfl
            have hfs75 := blk_frozen BK214.out 2
            have hns75_0 := NB201_214.out
            have hns75_1 := NB202_214.out
            have hns75_2 := NB203_214.out
            have hns75_3 := NB209_214.out
            have hms75_0 := NB214_201.out
            have hms75_1 := NB214_202.out
            have hms75_2 := NB214_203.out
            have hms75_3 := NB214_209.out
            refine skip_ (w1 := ?_) (by rfl) rfl ?_ ?_
            rotate_left
            ·go_simp
             rfl
            refine hK.out _ _ ⟨((cell_far (p := ⟨gb214, _, none⟩) NB201_214.out _).trans (hHeld.1)), ((cell_far (p := ⟨gb214, _, none⟩) NB201_214.out _).trans (hHeld.2.1)), ((cell_far (p := ⟨gb214, _, none⟩) NB201_214.out _).trans (hHeld.2.2.1)), ((cell_far (p := ⟨gb214, _, none⟩) NB201_214.out _).trans (hHeld.2.2.2))⟩ (fun hHeld => ?_)
            clear hK K
            refine done_ (done_of HT_.out (by kernel_rfl)) ?_
            try go_wp2
            have n0_ : Aside0 (Kd.R Kd.string 9 ((w71.setCell ⟨gb209, 2, none⟩ (.slice Ao72 t216.length co72)).setCell ⟨gb214, 2, none⟩ (.slice Ao74 t220.length co74)) w.heap.size (fun k_ => some k_ ≠ (.slice Ao58 t211.length co58 : Value).ownBlock ∧ some k_ ≠ (.slice Ao72 t216.length co72 : Value).ownBlock ∧ some k_ ≠ (.slice Ao74 t220.length co74 : Value).ownBlock) (.slice Ao46 t206.length co46) t206) := ⟨by (with_reducible repeat (first | apply Kd.R_alloc | apply Kd.R_drewN | apply Kd.R_drew)); exact Kd.R_mono (Kd.R_far (p := ⟨gb214, 2, none⟩) (Kd.R_far (p := ⟨gb209, 2, none⟩) (Kd.R_types (Kd.R_types HO208.out BK209.out (by decide)) BK214.out (by decide)) (fun _ hk => hk.1.2) (.slice Ao72 t216.length co72)) (fun _ hk => hk.2) (.slice Ao74 t220.length co74)) (fun _ hk => ⟨hk.1.1.1.1, ⟨hk.1.1.1.2, hk.1.1.2⟩⟩)⟩
            have n1_ : Aside0 (Kd.R Kd.string 9 ((w71.setCell ⟨gb209, 2, none⟩ (.slice Ao72 t216.length co72)).setCell ⟨gb214, 2, none⟩ (.slice Ao74 t220.length co74)) w.heap.size (fun k_ => some k_ ≠ (.slice Ao46 t206.length co46 : Value).ownBlock ∧ some k_ ≠ (.slice Ao72 t216.length co72 : Value).ownBlock ∧ some k_ ≠ (.slice Ao74 t220.length co74 : Value).ownBlock) (.slice Ao58 t211.length co58) t211) := ⟨by (with_reducible repeat (first | apply Kd.R_alloc | apply Kd.R_drewN | apply Kd.R_drew)); exact Kd.R_mono (Kd.R_far (p := ⟨gb214, 2, none⟩) (Kd.R_far (p := ⟨gb209, 2, none⟩) (Kd.R_types (Kd.R_types HO213.out BK209.out (by decide)) BK214.out (by decide)) (fun _ hk => hk.1.2) (.slice Ao72 t216.length co72)) (fun _ hk => hk.2) (.slice Ao74 t220.length co74)) (fun _ hk => ⟨hk.1.1.1.1, ⟨hk.1.1.1.2, hk.1.1.2⟩⟩)⟩
            have n2_ : Aside0 (Kd.R Kd.string 9 ((w71.setCell ⟨gb209, 2, none⟩ (.slice Ao72 t216.length co72)).setCell ⟨gb214, 2, none⟩ (.slice Ao74 t220.length co74)) w.heap.size (fun k_ => some k_ ≠ (.slice Ao46 t206.length co46 : Value).ownBlock ∧ some k_ ≠ (.slice Ao58 t211.length co58 : Value).ownBlock ∧ some k_ ≠ (.slice Ao74 t220.length co74 : Value).ownBlock) (.slice Ao72 t216.length co72) t216) := ⟨by (with_reducible repeat (first | apply Kd.R_alloc | apply Kd.R_drewN | apply Kd.R_drew)); exact Kd.R_mono (Kd.R_far (p := ⟨gb214, 2, none⟩) (Kd.R_far (p := ⟨gb209, 2, none⟩) (Kd.R_types (Kd.R_types HO218.out BK209.out (by decide)) BK214.out (by decide)) (fun _ hk => hk.1.2) (.slice Ao72 t216.length co72)) (fun _ hk => hk.2) (.slice Ao74 t220.length co74)) (fun _ hk => ⟨hk.1.1.1.1.2, ⟨hk.1.1.1.2, hk.1.1.2⟩⟩)⟩
            have n3_ : Aside0 (Kd.R Kd.string 9 ((w71.setCell ⟨gb209, 2, none⟩ (.slice Ao72 t216.length co72)).setCell ⟨gb214, 2, none⟩ (.slice Ao74 t220.length co74)) w.heap.size (fun k_ => some k_ ≠ (.slice Ao46 t206.length co46 : Value).ownBlock ∧ some k_ ≠ (.slice Ao58 t211.length co58 : Value).ownBlock ∧ some k_ ≠ (.slice Ao72 t216.length co72 : Value).ownBlock) (.slice Ao74 t220.length co74) t220) := ⟨by (with_reducible repeat (first | apply Kd.R_alloc | apply Kd.R_drewN | apply Kd.R_drew)); exact Kd.R_mono (Kd.R_far (p := ⟨gb214, 2, none⟩) (Kd.R_far (p := ⟨gb209, 2, none⟩) (Kd.R_types (Kd.R_types HO222.out BK209.out (by decide)) BK214.out (by decide)) (fun _ hk => hk.1.2) (.slice Ao72 t216.length co72)) (fun _ hk => hk.2) (.slice Ao74 t220.length co74)) (fun _ hk => ⟨hk.1.1.1.1.2, ⟨hk.1.1.1.2, hk.1.1.2⟩⟩)⟩
            have n4_ : Aside0 (((w71.setCell ⟨gb209, 2, none⟩ (.slice Ao72 t216.length co72)).setCell ⟨gb214, 2, none⟩ (.slice Ao74 t220.length co74)).heap[gb201]? = some (.cells #[.bool true, .slice A0_1 l0_1.length c0_1, .slice A0_2 l0_2.length c0_2, .slice A0_3 l0_3.length c0_3] 31 (0, 0))) := ⟨bA_ BK201⟩
            have n5_ : Aside0 (((w71.setCell ⟨gb209, 2, none⟩ (.slice Ao72 t216.length co72)).setCell ⟨gb214, 2, none⟩ (.slice Ao74 t220.length co74)).heap[gb202]? = some (.cells #[.bool false, .slice none 0 0, .slice none 0 0, .slice none 0 0] 31 (0, 0))) := ⟨bA_ BK202⟩
            have n6_ : Aside0 (((w71.setCell ⟨gb209, 2, none⟩ (.slice Ao72 t216.length co72)).setCell ⟨gb214, 2, none⟩ (.slice Ao74 t220.length co74)).heap[gb203]? = some (.cells #[.bool false, .slice none 0 0, .slice none 0 0, .slice none 0 0] 31 (0, 0))) := ⟨bA_ BK203⟩
            have n7_ : Aside0 (((w71.setCell ⟨gb209, 2, none⟩ (.slice Ao72 t216.length co72)).setCell ⟨gb214, 2, none⟩ (.slice Ao74 t220.length co74)).heap[gb209]? = some (.cells #[.bool true, .slice Ao46 t206.length co46, .slice Ao72 t216.length co72, .slice none 0 0] 31 (0, 0))) := ⟨by (with_reducible repeat (first | refine blk_drewN ?_ _ | refine blk_drew ?_ | refine blk_alloc ?_ _)); refine blk_far ?_ NB209_214.out _; (with_reducible repeat (first | refine blk_drewN ?_ _ | refine blk_drew ?_ | refine blk_alloc ?_ _)); refine blk_put (cs := #[.bool true, .slice Ao46 t206.length co46, .slice none 0 0, .slice none 0 0]) ?_ 2 _ rfl; (with_reducible repeat (first | refine blk_drewN ?_ _ | refine blk_drew ?_ | refine blk_alloc ?_ _)); exact BK209.out⟩
            have n8_ : Aside0 (((w71.setCell ⟨gb209, 2, none⟩ (.slice Ao72 t216.length co72)).setCell ⟨gb214, 2, none⟩ (.slice Ao74 t220.length co74)).heap[gb214]? = some (.cells #[.bool true, .slice Ao58 t211.length co58, .slice Ao74 t220.length co74, .slice none 0 0] 31 (0, 0))) := ⟨by (with_reducible repeat (first | refine blk_drewN ?_ _ | refine blk_drew ?_ | refine blk_alloc ?_ _)); refine blk_put (cs := #[.bool true, .slice Ao58 t211.length co58, .slice none 0 0, .slice none 0 0]) ?_ 2 _ rfl; (with_reducible repeat (first | refine blk_drewN ?_ _ | refine blk_drew ?_ | refine blk_alloc ?_ _)); refine blk_far ?_ NB214_209.out _; (with_reducible repeat (first | refine blk_drewN ?_ _ | refine blk_drew ?_ | refine blk_alloc ?_ _)); exact BK214.out⟩
            have n9_ : Aside0 (Below w.heap.size w ((w71.setCell ⟨gb209, 2, none⟩ (.slice Ao72 t216.length co72)).setCell ⟨gb214, 2, none⟩ (.slice Ao74 t220.length co74))) := ⟨bl_ HB⟩
            (try clear HO208 HO213 HO218 HO222 BK201 BK202 BK203 BK209 BK214 HB)
            generalize ((w71.setCell ⟨gb209, 2, none⟩ (.slice Ao72 t216.length co72)).setCell ⟨gb214, 2, none⟩ (.slice Ao74 t220.length co74)) = w76 at n0_ n1_ n2_ n3_ n4_ n5_ n6_ n7_ n8_ n9_ ⊢
            have HO208 := n0_
            have HO213 := n1_
            have HO218 := n2_
            have HO222 := n3_
            have BK201 := n4_
            have BK202 := n5_
            have BK203 := n6_
            have BK209 := n7_
            have BK214 := n8_
            have HB := n9_
            clear n0_ n1_ n2_ n3_ n4_ n5_ n6_ n7_ n8_ n9_
            replace HO208 := Aside0.mk (Kd.R_drew HO208.out)
            replace HO213 := Aside0.mk (Kd.R_drew HO213.out)
            replace HO218 := Aside0.mk (Kd.R_drew HO218.out)
            replace HO222 := Aside0.mk (Kd.R_drew HO222.out)
            replace BK201 := Aside0.mk (blk_drew BK201.out)
            replace BK202 := Aside0.mk (blk_drew BK202.out)
            replace BK203 := Aside0.mk (blk_drew BK203.out)
            replace BK209 := Aside0.mk (blk_drew BK209.out)
            replace BK214 := Aside0.mk (blk_drew BK214.out)
            replace HB := Aside0.mk (below_drew1 HB.out)
            have p223 : 0 ≤ ((ji21) : Int) := of_decide_eq_true (by first | (with_reducible assumption) | assumption)
            have q223 : (ji21) < (l0_1.length : Int) := of_decide_eq_true (by first | (with_reducible assumption) | assumption)
            obtain ⟨ad223, e223, hx223_0⟩ := Kd.at_string HR0_1.out (ji21) p223 q223
            have hw223_0 := hx223_0
            cases e223
            replace hx223_0 := (HB.out.cell (World.block_lt_of_cell? w _ hx223_0)).trans hx223_0
            replace p223 := eq_true p223
            replace q223 := eq_true q223
            refine start_ (n := 11) (S := fun w' => w'.cell? ⟨gb209, 0, none⟩ = some (.bool true) ∧ w'.cell? ⟨gb209, 1, none⟩ = some (.slice Ao46 t206.length co46) ∧ w'.cell? ⟨gb209, 2, none⟩ = some (.slice Ao72 t216.length co72) ∧ w'.cell? ⟨gb209, 3, none⟩ = some (.slice none 0 0) ∧ w'.cell? ⟨gb201, 0, none⟩ = some (.bool true) ∧ w'.cell? ⟨gb201, 1, none⟩ = some (.slice (some ad223) l0_1.length c0_1) ∧ w'.cell? ⟨gb201, 2, none⟩ = some (.slice A0_2 l0_2.length c0_2) ∧ w'.cell? ⟨gb201, 3, none⟩ = some (.slice A0_3 l0_3.length c0_3) ∧ w'.cell? ⟨gb214, 0, none⟩ = some (.bool true) ∧ w'.cell? ⟨gb214, 1, none⟩ = some (.slice Ao58 t211.length co58) ∧ w'.cell? ⟨gb214, 2, none⟩ = some (.slice Ao74 t220.length co74) ∧ w'.cell? ⟨gb214, 3, none⟩ = some (.slice none 0 0) ∧ w'.cell? (ad223.add ((ji21)).toNat) = some (.string (rdOf ByteArray.empty l0_1 (ji21)))) (ds := []) #[false, false, false, false, false, false, false, false, false, false, false] (by kernel_rfl) rfl rfl ⟨(blk_cell BK209.out 0).trans rfl, (blk_cell BK209.out 1).trans rfl, (blk_cell BK209.out 2).trans rfl, (blk_cell BK209.out 3).trans rfl, (blk_cell BK201.out 0).trans rfl, (blk_cell BK201.out 1).trans rfl, (blk_cell BK201.out 2).trans rfl, (blk_cell BK201.out 3).trans rfl, (blk_cell BK214.out 0).trans rfl, (blk_cell BK214.out 1).trans rfl, (blk_cell BK214.out 2).trans rfl, (blk_cell BK214.out 3).trans rfl, ((HB.out.cell (World.block_lt_of_cell? w _ hw223_0)).trans hw223_0)⟩ (fun hHeld => ?_); refine with_tabW node_Split.tab16 node_Split.bits16 (fun HT_ HW_ => ?_)
            generalize w76.drew = w77 at HO208 HO213 HO218 HO222 BK201 BK202 BK203 BK209 BK214 HB hx223_0 hHeld ⊢
            refine pu_ 1 (some 80) HT_ ?_
            refine pu_ 3 (some 82) HT_ ?_
            refine tk_ 0 (some 79) HT_ HW_ hHeld ?_
            refine tk_ 2 (some 81) HT_ HW_ hHeld ?_
            refine pu_ 4 (some 83) HT_ ?_
            refine tk_ 5 (some 84) HT_ HW_ hHeld ?_
            refine tk_ 6 (some 85) HT_ HW_ hHeld ?_
            refine on_ 7 none HT_ (fun K hK => ?_)
            have hs78 : w77.cell? ⟨gb202, 0, none⟩ = some (.bool false) := (blk_cell BK202.out 0).trans rfl
            have hfs78 := blk_frozen BK202.out 0
            have hns78_0 := NB201_202.out
            have hns78_2 := NB203_202.out
            have hns78_3 := NB209_202.out
            have hns78_4 := NB214_202.out
            have hms78_0 := NB202_201.out
            have hms78_2 := NB202_203.out
            have hms78_3 := NB202_209.out
            have hms78_4 := NB202_214.out
            have hs79 : w77.cell? ⟨gb202, 1, none⟩ = some (.slice none 0 0) := (blk_cell BK202.out 1).trans rfl
            have hfs79 := blk_frozen BK202.out 1
            have hns79_0 := NB201_202.out
            have hns79_2 := NB203_202.out
            have hns79_3 := NB209_202.out
            have hns79_4 := NB214_202.out
            have hms79_0 := NB202_201.out
            have hms79_2 := NB202_203.out
            have hms79_3 := NB202_209.out
            have hms79_4 := NB202_214.out
            have hs80 : w77.cell? ⟨gb202, 2, none⟩ = some (.slice none 0 0) := (blk_cell BK202.out 2).trans rfl
            have hfs80 := blk_frozen BK202.out 2
            have hns80_0 := NB201_202.out
            have hns80_2 := NB203_202.out
            have hns80_3 := NB209_202.out
            have hns80_4 := NB214_202.out
            have hms80_0 := NB202_201.out
            have hms80_2 := NB202_203.out
            have hms80_3 := NB202_209.out
            have hms80_4 := NB202_214.out
            have hs81 : w77.cell? ⟨gb202, 3, none⟩ = some (.slice none 0 0) := (blk_cell BK202.out 3).trans rfl
            have hfs81 := blk_frozen BK202.out 3
            have hns81_0 := NB201_202.out
            have hns81_2 := NB203_202.out
            have hns81_3 := NB209_202.out
            have hns81_4 := NB214_202.out
            have hms81_0 := NB202_201.out
            have hms81_2 := NB202_203.out
            have hms81_3 := NB202_209.out
            have hms81_4 := NB202_214.out
            refine skip_ (w1 := ?_) (by rfl) rfl ?_ ?_
            rotate_left
            ·go_simp
             rfl
            refine hK.out _ _ ⟨((cell_far (p := ⟨gb202, _, none⟩) NB209_202.out _).trans (((cell_far (p := ⟨gb202, _, none⟩) NB209_202.out _).trans (((cell_far (p := ⟨gb202, _, none⟩) NB209_202.out _).trans (((cell_far (p := ⟨gb202, _, none⟩) NB209_202.out _).trans (hHeld.1)))))))), ((cell_far (p := ⟨gb202, _, none⟩) NB209_202.out _).trans (((cell_far (p := ⟨gb202, _, none⟩) NB209_202.out _).trans (((cell_far (p := ⟨gb202, _, none⟩) NB209_202.out _).trans (((cell_far (p := ⟨gb202, _, none⟩) NB209_202.out _).trans (hHeld.2.1)))))))), ((cell_far (p := ⟨gb202, _, none⟩) NB209_202.out _).trans (((cell_far (p := ⟨gb202, _, none⟩) NB209_202.out _).trans (((cell_far (p := ⟨gb202, _, none⟩) NB209_202.out _).trans (((cell_far (p := ⟨gb202, _, none⟩) NB209_202.out _).trans (hHeld.2.2.1)))))))), ((cell_far (p := ⟨gb202, _, none⟩) NB209_202.out _).trans (((cell_far (p := ⟨gb202, _, none⟩) NB209_202.out _).trans (((cell_far (p := ⟨gb202, _, none⟩) NB209_202.out _).trans (((cell_far (p := ⟨gb202, _, none⟩) NB209_202.out _).trans (hHeld.2.2.2.1)))))))), ((cell_far (p := ⟨gb202, _, none⟩) NB201_202.out _).trans (((cell_far (p := ⟨gb202, _, none⟩) NB201_202.out _).trans (((cell_far (p := ⟨gb202, _, none⟩) NB201_202.out _).trans (((cell_far (p := ⟨gb202, _, none⟩) NB201_202.out _).trans (hHeld.2.2.2.2.1)))))))), ((cell_far (p := ⟨gb202, _, none⟩) NB201_202.out _).trans (((cell_far (p := ⟨gb202, _, none⟩) NB201_202.out _).trans (((cell_far (p := ⟨gb202, _, none⟩) NB201_202.out _).trans (((cell_far (p := ⟨gb202, _, none⟩) NB201_202.out _).trans (hHeld.2.2.2.2.2.1)))))))), ((cell_far (p := ⟨gb202, _, none⟩) NB201_202.out _).trans (((cell_far (p := ⟨gb202, _, none⟩) NB201_202.out _).trans (((cell_far (p := ⟨gb202, _, none⟩) NB201_202.out _).trans (((cell_far (p := ⟨gb202, _, none⟩) NB201_202.out _).trans (hHeld.2.2.2.2.2.2.1)))))))), ((cell_far (p := ⟨gb202, _, none⟩) NB201_202.out _).trans (((cell_far (p := ⟨gb202, _, none⟩) NB201_202.out _).trans (((cell_far (p := ⟨gb202, _, none⟩) NB201_202.out _).trans (((cell_far (p := ⟨gb202, _, none⟩) NB201_202.out _).trans (hHeld.2.2.2.2.2.2.2.1)))))))), ((cell_far (p := ⟨gb202, _, none⟩) NB214_202.out _).trans (((cell_far (p := ⟨gb202, _, none⟩) NB214_202.out _).trans (((cell_far (p := ⟨gb202, _, none⟩) NB214_202.out _).trans (((cell_far (p := ⟨gb202, _, none⟩) NB214_202.out _).trans (hHeld.2.2.2.2.2.2.2.2.1)))))))), ((cell_far (p := ⟨gb202, _, none⟩) NB214_202.out _).trans (((cell_far (p := ⟨gb202, _, none⟩) NB214_202.out _).trans (((cell_far (p := ⟨gb202, _, none⟩) NB214_202.out _).trans (((cell_far (p := ⟨gb202, _, none⟩) NB214_202.out _).trans (hHeld.2.2.2.2.2.2.2.2.2.1)))))))), ((cell_far (p := ⟨gb202, _, none⟩) NB214_202.out _).trans (((cell_far (p := ⟨gb202, _, none⟩) NB214_202.out _).trans (((cell_far (p := ⟨gb202, _, none⟩) NB214_202.out _).trans (((cell_far (p := ⟨gb202, _, none⟩) NB214_202.out _).trans (hHeld.2.2.2.2.2.2.2.2.2.2.1)))))))), ((cell_far (p := ⟨gb202, _, none⟩) NB214_202.out _).trans (((cell_far (p := ⟨gb202, _, none⟩) NB214_202.out _).trans (((cell_far (p := ⟨gb202, _, none⟩) NB214_202.out _).trans (((cell_far (p := ⟨gb202, _, none⟩) NB214_202.out _).trans (hHeld.2.2.2.2.2.2.2.2.2.2.2.1)))))))), ((cell_far (p := ⟨gb202, _, none⟩) (by first | exact Nat.ne_of_lt (Nat.lt_of_lt_of_le (by have := World.block_lt_of_cell? _ _ hw223_0; first | rwa [add_block] at this | exact this) GW202.out) | (rw [add_block]; exact Nat.ne_of_lt (Nat.lt_of_lt_of_le (by have := World.block_lt_of_cell? _ _ hw223_0; first | rwa [add_block] at this | exact this) GW202.out)) | (show (Addr.add _ _).block ≠ _; rw [add_block]; exact Nat.ne_of_lt (Nat.lt_of_lt_of_le (by have := World.block_lt_of_cell? _ _ hw223_0; first | rwa [add_block] at this | exact this) GW202.out)) | (dsimp only; exact Nat.ne_of_lt (Nat.lt_of_lt_of_le (by have := World.block_lt_of_cell? _ _ hw223_0; first | rwa [add_block] at this | exact this) GW202.out))) _).trans (((cell_far (p := ⟨gb202, _, none⟩) (by first | exact Nat.ne_of_lt (Nat.lt_of_lt_of_le (by have := World.block_lt_of_cell? _ _ hw223_0; first | rwa [add_block] at this | exact this) GW202.out) | (rw [add_block]; exact Nat.ne_of_lt (Nat.lt_of_lt_of_le (by have := World.block_lt_of_cell? _ _ hw223_0; first | rwa [add_block] at this | exact this) GW202.out)) | (show (Addr.add _ _).block ≠ _; rw [add_block]; exact Nat.ne_of_lt (Nat.lt_of_lt_of_le (by have := World.block_lt_of_cell? _ _ hw223_0; first | rwa [add_block] at this | exact this) GW202.out)) | (dsimp only; exact Nat.ne_of_lt (Nat.lt_of_lt_of_le (by have := World.block_lt_of_cell? _ _ hw223_0; first | rwa [add_block] at this | exact this) GW202.out))) _).trans (((cell_far (p := ⟨gb202, _, none⟩) (by first | exact Nat.ne_of_lt (Nat.lt_of_lt_of_le (by have := World.block_lt_of_cell? _ _ hw223_0; first | rwa [add_block] at this | exact this) GW202.out) | (rw [add_block]; exact Nat.ne_of_lt (Nat.lt_of_lt_of_le (by have := World.block_lt_of_cell? _ _ hw223_0; first | rwa [add_block] at this | exact this) GW202.out)) | (show (Addr.add _ _).block ≠ _; rw [add_block]; exact Nat.ne_of_lt (Nat.lt_of_lt_of_le (by have := World.block_lt_of_cell? _ _ hw223_0; first | rwa [add_block] at this | exact this) GW202.out)) | (dsimp only; exact Nat.ne_of_lt (Nat.lt_of_lt_of_le (by have := World.block_lt_of_cell? _ _ hw223_0; first | rwa [add_block] at this | exact this) GW202.out))) _).trans (((cell_far (p := ⟨gb202, _, none⟩) (by first | exact Nat.ne_of_lt (Nat.lt_of_lt_of_le (by have := World.block_lt_of_cell? _ _ hw223_0; first | rwa [add_block] at this | exact this) GW202.out) | (rw [add_block]; exact Nat.ne_of_lt (Nat.lt_of_lt_of_le (by have := World.block_lt_of_cell? _ _ hw223_0; first | rwa [add_block] at this | exact this) GW202.out)) | (show (Addr.add _ _).block ≠ _; rw [add_block]; exact Nat.ne_of_lt (Nat.lt_of_lt_of_le (by have := World.block_lt_of_cell? _ _ hw223_0; first | rwa [add_block] at this | exact this) GW202.out)) | (dsimp only; exact Nat.ne_of_lt (Nat.lt_of_lt_of_le (by have := World.block_lt_of_cell? _ _ hw223_0; first | rwa [add_block] at this | exact this) GW202.out))) _).trans (hHeld.2.2.2.2.2.2.2.2.2.2.2.2))))))))⟩ (fun hHeld => ?_)
            clear hK K
            refine pu_ 8 (some 3) HT_ ?_
            refine on_ 9 none HT_ (fun K hK => ?_)
            have hs82 : w77.cell? ⟨gb203, 0, none⟩ = some (.bool false) := (blk_cell BK203.out 0).trans rfl
            have hfs82 := blk_frozen BK203.out 0
            have hns82_0 := NB201_203.out
            have hns82_1 := NB202_203.out
            have hns82_3 := NB209_203.out
            have hns82_4 := NB214_203.out
            have hms82_0 := NB203_201.out
            have hms82_1 := NB203_202.out
            have hms82_3 := NB203_209.out
            have hms82_4 := NB203_214.out
            have hs83 : w77.cell? ⟨gb203, 1, none⟩ = some (.slice none 0 0) := (blk_cell BK203.out 1).trans rfl
            have hfs83 := blk_frozen BK203.out 1
            have hns83_0 := NB201_203.out
            have hns83_1 := NB202_203.out
            have hns83_3 := NB209_203.out
            have hns83_4 := NB214_203.out
            have hms83_0 := NB203_201.out
            have hms83_1 := NB203_202.out
            have hms83_3 := NB203_209.out
            have hms83_4 := NB203_214.out
            have hs84 : w77.cell? ⟨gb203, 2, none⟩ = some (.slice none 0 0) := (blk_cell BK203.out 2).trans rfl
            have hfs84 := blk_frozen BK203.out 2
            have hns84_0 := NB201_203.out
            have hns84_1 := NB202_203.out
            have hns84_3 := NB209_203.out
            have hns84_4 := NB214_203.out
            have hms84_0 := NB203_201.out
            have hms84_1 := NB203_202.out
            have hms84_3 := NB203_209.out
            have hms84_4 := NB203_214.out
            have hs85 : w77.cell? ⟨gb203, 3, none⟩ = some (.slice none 0 0) := (blk_cell BK203.out 3).trans rfl
            have hfs85 := blk_frozen BK203.out 3
            have hns85_0 := NB201_203.out
            have hns85_1 := NB202_203.out
            have hns85_3 := NB209_203.out
            have hns85_4 := NB214_203.out
            have hms85_0 := NB203_201.out
            have hms85_1 := NB203_202.out
            have hms85_3 := NB203_209.out
            have hms85_4 := NB203_214.out
            refine skip_ (w1 := ?_) (by rfl) rfl ?_ ?_
            rotate_left
            ·go_simp
             rfl
            refine hK.out _ _ ⟨((cell_far (p := ⟨gb203, _, none⟩) NB209_203.out _).trans (((cell_far (p := ⟨gb203, _, none⟩) NB209_203.out _).trans (((cell_far (p := ⟨gb203, _, none⟩) NB209_203.out _).trans (((cell_far (p := ⟨gb203, _, none⟩) NB209_203.out _).trans (hHeld.1)))))))), ((cell_far (p := ⟨gb203, _, none⟩) NB209_203.out _).trans (((cell_far (p := ⟨gb203, _, none⟩) NB209_203.out _).trans (((cell_far (p := ⟨gb203, _, none⟩) NB209_203.out _).trans (((cell_far (p := ⟨gb203, _, none⟩) NB209_203.out _).trans (hHeld.2.1)))))))), ((cell_far (p := ⟨gb203, _, none⟩) NB209_203.out _).trans (((cell_far (p := ⟨gb203, _, none⟩) NB209_203.out _).trans (((cell_far (p := ⟨gb203, _, none⟩) NB209_203.out _).trans (((cell_far (p := ⟨gb203, _, none⟩) NB209_203.out _).trans (hHeld.2.2.1)))))))), ((cell_far (p := ⟨gb203, _, none⟩) NB209_203.out _).trans (((cell_far (p := ⟨gb203, _, none⟩) NB209_203.out _).trans (((cell_far (p := ⟨gb203, _, none⟩) NB209_203.out _).trans (((cell_far (p := ⟨gb203, _, none⟩) NB209_203.out _).trans (hHeld.2.2.2.1)))))))), ((cell_far (p := ⟨gb203, _, none⟩) NB201_203.out _).trans (((cell_far (p := ⟨gb203, _, none⟩) NB201_203.out _).trans (((cell_far (p := ⟨gb203, _, none⟩) NB201_203.out _).trans (((cell_far (p := ⟨gb203, _, none⟩) NB201_203.out _).trans (hHeld.2.2.2.2.1)))))))), ((cell_far (p := ⟨gb203, _, none⟩) NB201_203.out _).trans (((cell_far (p := ⟨gb203, _, none⟩) NB201_203.out _).trans (((cell_far (p := ⟨gb203, _, none⟩) NB201_203.out _).trans (((cell_far (p := ⟨gb203, _, none⟩) NB201_203.out _).trans (hHeld.2.2.2.2.2.1)))))))), ((cell_far (p := ⟨gb203, _, none⟩) NB201_203.out _).trans (((cell_far (p := ⟨gb203, _, none⟩) NB201_203.out _).trans (((cell_far (p := ⟨gb203, _, none⟩) NB201_203.out _).trans (((cell_far (p := ⟨gb203, _, none⟩) NB201_203.out _).trans (hHeld.2.2.2.2.2.2.1)))))))), ((cell_far (p := ⟨gb203, _, none⟩) NB201_203.out _).trans (((cell_far (p := ⟨gb203, _, none⟩) NB201_203.out _).trans (((cell_far (p := ⟨gb203, _, none⟩) NB201_203.out _).trans (((cell_far (p := ⟨gb203, _, none⟩) NB201_203.out _).trans (hHeld.2.2.2.2.2.2.2.1)))))))), ((cell_far (p := ⟨gb203, _, none⟩) NB214_203.out _).trans (((cell_far (p := ⟨gb203, _, none⟩) NB214_203.out _).trans (((cell_far (p := ⟨gb203, _, none⟩) NB214_203.out _).trans (((cell_far (p := ⟨gb203, _, none⟩) NB214_203.out _).trans (hHeld.2.2.2.2.2.2.2.2.1)))))))), ((cell_far (p := ⟨gb203, _, none⟩) NB214_203.out _).trans (((cell_far (p := ⟨gb203, _, none⟩) NB214_203.out _).trans (((cell_far (p := ⟨gb203, _, none⟩) NB214_203.out _).trans (((cell_far (p := ⟨gb203, _, none⟩) NB214_203.out _).trans (hHeld.2.2.2.2.2.2.2.2.2.1)))))))), ((cell_far (p := ⟨gb203, _, none⟩) NB214_203.out _).trans (((cell_far (p := ⟨gb203, _, none⟩) NB214_203.out _).trans (((cell_far (p := ⟨gb203, _, none⟩) NB214_203.out _).trans (((cell_far (p := ⟨gb203, _, none⟩) NB214_203.out _).trans (hHeld.2.2.2.2.2.2.2.2.2.2.1)))))))), ((cell_far (p := ⟨gb203, _, none⟩) NB214_203.out _).trans (((cell_far (p := ⟨gb203, _, none⟩) NB214_203.out _).trans (((cell_far (p := ⟨gb203, _, none⟩) NB214_203.out _).trans (((cell_far (p := ⟨gb203, _, none⟩) NB214_203.out _).trans (hHeld.2.2.2.2.2.2.2.2.2.2.2.1)))))))), ((cell_far (p := ⟨gb203, _, none⟩) (by first | exact Nat.ne_of_lt (Nat.lt_of_lt_of_le (by have := World.block_lt_of_cell? _ _ hw223_0; first | rwa [add_block] at this | exact this) GW203.out) | (rw [add_block]; exact Nat.ne_of_lt (Nat.lt_of_lt_of_le (by have := World.block_lt_of_cell? _ _ hw223_0; first | rwa [add_block] at this | exact this) GW203.out)) | (show (Addr.add _ _).block ≠ _; rw [add_block]; exact Nat.ne_of_lt (Nat.lt_of_lt_of_le (by have := World.block_lt_of_cell? _ _ hw223_0; first | rwa [add_block] at this | exact this) GW203.out)) | (dsimp only; exact Nat.ne_of_lt (Nat.lt_of_lt_of_le (by have := World.block_lt_of_cell? _ _ hw223_0; first | rwa [add_block] at this | exact this) GW203.out))) _).trans (((cell_far (p := ⟨gb203, _, none⟩) (by first | exact Nat.ne_of_lt (Nat.lt_of_lt_of_le (by have := World.block_lt_of_cell? _ _ hw223_0; first | rwa [add_block] at this | exact this) GW203.out) | (rw [add_block]; exact Nat.ne_of_lt (Nat.lt_of_lt_of_le (by have := World.block_lt_of_cell? _ _ hw223_0; first | rwa [add_block] at this | exact this) GW203.out)) | (show (Addr.add _ _).block ≠ _; rw [add_block]; exact Nat.ne_of_lt (Nat.lt_of_lt_of_le (by have := World.block_lt_of_cell? _ _ hw223_0; first | rwa [add_block] at this | exact this) GW203.out)) | (dsimp only; exact Nat.ne_of_lt (Nat.lt_of_lt_of_le (by have := World.block_lt_of_cell? _ _ hw223_0; first | rwa [add_block] at this | exact this) GW203.out))) _).trans (((cell_far (p := ⟨gb203, _, none⟩) (by first | exact Nat.ne_of_lt (Nat.lt_of_lt_of_le (by have := World.block_lt_of_cell? _ _ hw223_0; first | rwa [add_block] at this | exact this) GW203.out) | (rw [add_block]; exact Nat.ne_of_lt (Nat.lt_of_lt_of_le (by have := World.block_lt_of_cell? _ _ hw223_0; first | rwa [add_block] at this | exact this) GW203.out)) | (show (Addr.add _ _).block ≠ _; rw [add_block]; exact Nat.ne_of_lt (Nat.lt_of_lt_of_le (by have := World.block_lt_of_cell? _ _ hw223_0; first | rwa [add_block] at this | exact this) GW203.out)) | (dsimp only; exact Nat.ne_of_lt (Nat.lt_of_lt_of_le (by have := World.block_lt_of_cell? _ _ hw223_0; first | rwa [add_block] at this | exact this) GW203.out))) _).trans (((cell_far (p := ⟨gb203, _, none⟩) (by first | exact Nat.ne_of_lt (Nat.lt_of_lt_of_le (by have := World.block_lt_of_cell? _ _ hw223_0; first | rwa [add_block] at this | exact this) GW203.out) | (rw [add_block]; exact Nat.ne_of_lt (Nat.lt_of_lt_of_le (by have := World.block_lt_of_cell? _ _ hw223_0; first | rwa [add_block] at this | exact this) GW203.out)) | (show (Addr.add _ _).block ≠ _; rw [add_block]; exact Nat.ne_of_lt (Nat.lt_of_lt_of_le (by have := World.block_lt_of_cell? _ _ hw223_0; first | rwa [add_block] at this | exact this) GW203.out)) | (dsimp only; exact Nat.ne_of_lt (Nat.lt_of_lt_of_le (by have := World.block_lt_of_cell? _ _ hw223_0; first | rwa [add_block] at this | exact this) GW203.out))) _).trans (hHeld.2.2.2.2.2.2.2.2.2.2.2.2))))))))⟩ (fun hHeld => ?_)
            clear hK K
            refine pu_ 10 (some 5) HT_ ?_
            refine done_ (done_of HT_.out (by kernel_rfl)) ?_
            try go_wp2
            refine bodyPost_ret (results_list (rs := [.cell 2 31, .tmp 3, .cell 4 31, .tmp 5]) rfl (by simp) (.cell gb202 31 #[.bool true, .slice Ao46 t206.length co46, .slice Ao72 t216.length co72, .slice none 0 0] (0, 0) _ rfl (by (with_reducible repeat (first | refine blk_drewN ?_ _ | refine blk_drew ?_ | refine blk_alloc ?_ _)); refine blk_far ?_ NB202_203.out _; (with_reducible repeat (first | refine blk_drewN ?_ _ | refine blk_drew ?_ | refine blk_alloc ?_ _)); refine blk_far ?_ NB202_203.out _; (with_reducible repeat (first | refine blk_drewN ?_ _ | refine blk_drew ?_ | refine blk_alloc ?_ _)); refine blk_far ?_ NB202_203.out _; (with_reducible repeat (first | refine blk_drewN ?_ _ | refine blk_drew ?_ | refine blk_alloc ?_ _)); refine blk_far ?_ NB202_203.out _; (with_reducible repeat (first | refine blk_drewN ?_ _ | refine blk_drew ?_ | refine blk_alloc ?_ _)); refine blk_put (cs := #[.bool true, .slice Ao46 t206.length co46, .slice Ao72 t216.length co72, .slice none 0 0]) ?_ 3 _ rfl; (with_reducible repeat (first | refine blk_drewN ?_ _ | refine blk_drew ?_ | refine blk_alloc ?_ _)); refine blk_put (cs := #[.bool true, .slice Ao46 t206.length co46, .slice none 0 0, .slice none 0 0]) ?_ 2 _ rfl; (with_reducible repeat (first | refine blk_drewN ?_ _ | refine blk_drew ?_ | refine blk_alloc ?_ _)); refine blk_put (cs := #[.bool true, .slice none 0 0, .slice none 0 0, .slice none 0 0]) ?_ 1 _ rfl; (with_reducible repeat (first | refine blk_drewN ?_ _ | refine blk_drew ?_ | refine blk_alloc ?_ _)); refine blk_put (cs := #[.bool false, .slice none 0 0, .slice none 0 0, .slice none 0 0]) ?_ 0 _ rfl; (with_reducible repeat (first | refine blk_drewN ?_ _ | refine blk_drew ?_ | refine blk_alloc ?_ _)); exact BK202.out) Try.underlying31 rfl (by kernel_rfl) (.tmp (.cell gb203 31 #[.bool true, .slice Ao58 t211.length co58, .slice Ao74 t220.length co74, .slice none 0 0] (0, 0) _ rfl (by (with_reducible repeat (first | refine blk_drewN ?_ _ | refine blk_drew ?_ | refine blk_alloc ?_ _)); refine blk_put (cs := #[.bool true, .slice Ao58 t211.length co58, .slice Ao74 t220.length co74, .slice none 0 0]) ?_ 3 _ rfl; (with_reducible repeat (first | refine blk_drewN ?_ _ | refine blk_drew ?_ | refine blk_alloc ?_ _)); refine blk_put (cs := #[.bool true, .slice Ao58 t211.length co58, .slice none 0 0, .slice none 0 0]) ?_ 2 _ rfl; (with_reducible repeat (first | refine blk_drewN ?_ _ | refine blk_drew ?_ | refine blk_alloc ?_ _)); refine blk_put (cs := #[.bool true, .slice none 0 0, .slice none 0 0, .slice none 0 0]) ?_ 1 _ rfl; (with_reducible repeat (first | refine blk_drewN ?_ _ | refine blk_drew ?_ | refine blk_alloc ?_ _)); refine blk_put (cs := #[.bool false, .slice none 0 0, .slice none 0 0, .slice none 0 0]) ?_ 0 _ rfl; (with_reducible repeat (first | refine blk_drewN ?_ _ | refine blk_drew ?_ | refine blk_alloc ?_ _)); refine blk_far ?_ NB203_202.out _; (with_reducible repeat (first | refine blk_drewN ?_ _ | refine blk_drew ?_ | refine blk_alloc ?_ _)); refine blk_far ?_ NB203_202.out _; (with_reducible repeat (first | refine blk_drewN ?_ _ | refine blk_drew ?_ | refine blk_alloc ?_ _)); refine blk_far ?_ NB203_202.out _; (with_reducible repeat (first | refine blk_drewN ?_ _ | refine blk_drew ?_ | refine blk_alloc ?_ _)); refine blk_far ?_ NB203_202.out _; (with_reducible repeat (first | refine blk_drewN ?_ _ | refine blk_drew ?_ | refine blk_alloc ?_ _)); exact BK203.out) Try.underlying31 rfl (by kernel_rfl) (.tmp .nil))))) rfl ?_
            exact ⟨_, _, _, _, _, _, by first | rfl | (simp [errW_none, errW_some] <;> rfl) | (simp only [← hji21, ← hji25]; first | rfl | (simp [errW_none, errW_some] <;> rfl)) | (simp [*, errW_none, errW_some] <;> rfl), by (with_reducible repeat (first | apply Kd.R_alloc | apply Kd.R_drewN | apply Kd.R_drew)); exact Kd.R_mono (Kd.R_far (p := ⟨gb203, 3, none⟩) (Kd.R_far (p := ⟨gb203, 2, none⟩) (Kd.R_far (p := ⟨gb203, 1, none⟩) (Kd.R_far (p := ⟨gb203, 0, none⟩) (Kd.R_far (p := ⟨gb202, 3, none⟩) (Kd.R_far (p := ⟨gb202, 2, none⟩) (Kd.R_far (p := ⟨gb202, 1, none⟩) (Kd.R_far (p := ⟨gb202, 0, none⟩) (Kd.R_types (Kd.R_types HO208.out BK202.out (by decide)) BK203.out (by decide)) (fun _ hk => hk.1.2) (.bool true)) (fun _ hk => hk.1.2) (.slice Ao46 t206.length co46)) (fun _ hk => hk.1.2) (.slice Ao72 t216.length co72)) (fun _ hk => hk.1.2) (.slice none 0 0)) (fun _ hk => hk.2) (.bool true)) (fun _ hk => hk.2) (.slice Ao58 t211.length co58)) (fun _ hk => hk.2) (.slice Ao74 t220.length co74)) (fun _ hk => hk.2) (.slice none 0 0)) (fun _ hk => ⟨hk.1.1.2.1, ⟨hk.1.1.1, hk.1.1.2.2⟩⟩), by (with_reducible repeat (first | apply Kd.R_alloc | apply Kd.R_drewN | apply Kd.R_drew)); exact Kd.R_mono (Kd.R_far (p := ⟨gb203, 3, none⟩) (Kd.R_far (p := ⟨gb203, 2, none⟩) (Kd.R_far (p := ⟨gb203, 1, none⟩) (Kd.R_far (p := ⟨gb203, 0, none⟩) (Kd.R_far (p := ⟨gb202, 3, none⟩) (Kd.R_far (p := ⟨gb202, 2, none⟩) (Kd.R_far (p := ⟨gb202, 1, none⟩) (Kd.R_far (p := ⟨gb202, 0, none⟩) (Kd.R_types (Kd.R_types HO218.out BK202.out (by decide)) BK203.out (by decide)) (fun _ hk => hk.1.2) (.bool true)) (fun _ hk => hk.1.2) (.slice Ao46 t206.length co46)) (fun _ hk => hk.1.2) (.slice Ao72 t216.length co72)) (fun _ hk => hk.1.2) (.slice none 0 0)) (fun _ hk => hk.2) (.bool true)) (fun _ hk => hk.2) (.slice Ao58 t211.length co58)) (fun _ hk => hk.2) (.slice Ao74 t220.length co74)) (fun _ hk => hk.2) (.slice none 0 0)) (fun _ hk => ⟨hk.1.1.1, ⟨hk.1.1.2.1, hk.1.1.2.2⟩⟩), nil_, by (with_reducible repeat (first | apply Kd.R_alloc | apply Kd.R_drewN | apply Kd.R_drew)); exact Kd.R_mono (Kd.R_far (p := ⟨gb203, 3, none⟩) (Kd.R_far (p := ⟨gb203, 2, none⟩) (Kd.R_far (p := ⟨gb203, 1, none⟩) (Kd.R_far (p := ⟨gb203, 0, none⟩) (Kd.R_far (p := ⟨gb202, 3, none⟩) (Kd.R_far (p := ⟨gb202, 2, none⟩) (Kd.R_far (p := ⟨gb202, 1, none⟩) (Kd.R_far (p := ⟨gb202, 0, none⟩) (Kd.R_types (Kd.R_types HO213.out BK202.out (by decide)) BK203.out (by decide)) (fun _ hk => hk.1.2) (.bool true)) (fun _ hk => hk.1.2) (.slice Ao46 t206.length co46)) (fun _ hk => hk.1.2) (.slice Ao72 t216.length co72)) (fun _ hk => hk.1.2) (.slice none 0 0)) (fun _ hk => hk.2) (.bool true)) (fun _ hk => hk.2) (.slice Ao58 t211.length co58)) (fun _ hk => hk.2) (.slice Ao74 t220.length co74)) (fun _ hk => hk.2) (.slice none 0 0)) (fun _ hk => ⟨hk.1.1.1, ⟨hk.1.1.2.1, hk.1.1.2.2⟩⟩), by (with_reducible repeat (first | apply Kd.R_alloc | apply Kd.R_drewN | apply Kd.R_drew)); exact Kd.R_mono (Kd.R_far (p := ⟨gb203, 3, none⟩) (Kd.R_far (p := ⟨gb203, 2, none⟩) (Kd.R_far (p := ⟨gb203, 1, none⟩) (Kd.R_far (p := ⟨gb203, 0, none⟩) (Kd.R_far (p := ⟨gb202, 3, none⟩) (Kd.R_far (p := ⟨gb202, 2, none⟩) (Kd.R_far (p := ⟨gb202, 1, none⟩) (Kd.R_far (p := ⟨gb202, 0, none⟩) (Kd.R_types (Kd.R_types HO222.out BK202.out (by decide)) BK203.out (by decide)) (fun _ hk => hk.1.2) (.bool true)) (fun _ hk => hk.1.2) (.slice Ao46 t206.length co46)) (fun _ hk => hk.1.2) (.slice Ao72 t216.length co72)) (fun _ hk => hk.1.2) (.slice none 0 0)) (fun _ hk => hk.2) (.bool true)) (fun _ hk => hk.2) (.slice Ao58 t211.length co58)) (fun _ hk => hk.2) (.slice Ao74 t220.length co74)) (fun _ hk => hk.2) (.slice none 0 0)) (fun _ hk => ⟨hk.1.1.1, ⟨hk.1.1.2.2, hk.1.1.2.1⟩⟩), nil_, bl_ HB⟩
           ·rw [if_neg c36] at H
            exact absurd H (by simp)
          ·rw [if_neg c31] at H
           exact absurd H (by simp)
         ·exact absurd HC_.out c29
        ·rw [if_neg c27] at H
         exact absurd H (by simp)
       ·rw [if_neg c26] at H
        exact absurd H (by simp)
      ·rw [if_neg c23] at H
       exact absurd H (by simp)
     ·rw [if_neg c22] at H
      exact absurd H (by simp)
 ·rw [if_neg c3] at H
  have c3b0 : (t204 == 0) = false := beq_eq_false_iff_ne.mpr c3
  have c3b1 : (t204 != 0) = true := bne_iff_ne.mpr c3
  simp only [Option.some.injEq, Prod.mk.injEq] at H
  obtain ⟨rfl, rfl, rfl, rfl, rfl, rfl, rfl, rfl, rfl, rfl⟩ := H
  go_enter Try.func22, Try.ntmps22
  go_wp2_with (first | ((with_reducible refine gate_dst (N := 1) rfl ?_); refine bx_ 1 #[.bool a0_0, .slice A0_1 l0_1.length c0_1, .slice A0_2 l0_2.length c0_2, .slice A0_3 l0_3.length c0_3] 31 ?_; intro gb201 hg w143 hbox hb; have BK201 := Aside0.mk (hbox); have GW201 := bG_ HB hg; have GE201 := bG_ HB hg; replace HB := bS_ HB hb; clear hb hbox hg) | ((with_reducible refine gate_dst (N := 2) rfl ?_); refine bx_ 2 #[.bool false, .slice none 0 0, .slice none 0 0, .slice none 0 0] 31 ?_; intro gb202 hg w144 hbox hb; have BK202 := Aside0.mk (hbox); have GW202 := bG_ HB hg; have GE202 := bG_ HB hg; replace HB := bS_ HB hb; have NB201_202 := nL_ BK201 hg; have NB202_201 := nG_ BK201 hg; replace BK201 := bK_ BK201 hb; clear hb hbox hg) | ((with_reducible refine gate_dst (N := 4) rfl ?_); refine bx_ 4 #[.bool false, .slice none 0 0, .slice none 0 0, .slice none 0 0] 31 ?_; intro gb203 hg w145 hbox hb; have BK203 := Aside0.mk (hbox); have GW203 := bG_ HB hg; have GE203 := bG_ HB hg; replace HB := bS_ HB hb; have NB201_203 := nL_ BK201 hg; have NB203_201 := nG_ BK201 hg; replace BK201 := bK_ BK201 hb; have NB202_203 := nL_ BK202 hg; have NB203_202 := nG_ BK202 hg; replace BK202 := bK_ BK202 hb; clear hb hbox hg; have hnb146 := NB201_202.out; have hnc146 := NB202_201.out; have hnb147 := NB201_203.out; have hnc147 := NB203_201.out; obtain ⟨hcz148_0, hcz148_1, hcz148_2, hcz148_3, hfz148_0, hfz148_1, hfz148_2, hfz148_3⟩ := cz4_ BK201) | ((with_reducible refine gate_callee (f := 25) rfl ?_); refine gL_ (some 14) Try.func25 #[.agg #[.bool a0_0, .slice A0_1 l0_1.length c0_1, .slice A0_2 l0_2.length c0_2, .slice A0_3 l0_3.length c0_3]] ?_; (with_reducible refine (node_Check.calls k a0_0 _ _ l0_1 _ _ l0_2 _ _ l0_3 t204 _ ?_ ?_ ?_ ?_ ?_ ?_ A2.out).mono ?_); exact cB_ HR0_1 HB; exact HC0_1.out; exact cB_ HR0_2 HB; exact HC0_2.out; exact cB_ HR0_3 HB; exact HC0_3.out; rintro e w149 ⟨rfl, hb⟩; refine ⟨_, rfl, ?_⟩; replace BK201 := bK_ BK201 hb; replace BK202 := bK_ BK202 hb; replace BK203 := bK_ BK203 hb; replace HB := bS_ HB hb; (try clear hb); have hnb150 := NB202_203.out; have hnc150 := NB203_202.out; obtain ⟨hcz151_0, hcz151_1, hcz151_2, hcz151_3, hfz151_0, hfz151_1, hfz151_2, hfz151_3⟩ := cz4_ BK202; obtain ⟨hcz152_0, hcz152_1, hcz152_2, hcz152_3, hfz152_0, hfz152_1, hfz152_2, hfz152_3⟩ := cz4_ BK203))
  refine bodyPost_ret (results_list (rs := [.cell 2 31, .tmp 3, .cell 4 31, .tmp 5]) rfl (by simp) (.cell gb202 31 #[.bool false, .slice none 0 0, .slice none 0 0, .slice none 0 0] (0, 0) _ rfl (by (with_reducible repeat (first | refine blk_drewN ?_ _ | refine blk_drew ?_ | refine blk_alloc ?_ _)); refine blk_far ?_ NB202_203.out _; (with_reducible repeat (first | refine blk_drewN ?_ _ | refine blk_drew ?_ | refine blk_alloc ?_ _)); refine blk_far ?_ NB202_203.out _; (with_reducible repeat (first | refine blk_drewN ?_ _ | refine blk_drew ?_ | refine blk_alloc ?_ _)); refine blk_far ?_ NB202_203.out _; (with_reducible repeat (first | refine blk_drewN ?_ _ | refine blk_drew ?_ | refine blk_alloc ?_ _)); refine blk_far ?_ NB202_203.out _; (with_reducible repeat (first | refine blk_drewN ?_ _ | refine blk_drew ?_ | refine blk_alloc ?_ _)); refine blk_put (cs := #[.bool false, .slice none 0 0, .slice none 0 0, .slice none 0 0]) ?_ 3 _ rfl; (with_reducible repeat (first | refine blk_drewN ?_ _ | refine blk_drew ?_ | refine blk_alloc ?_ _)); refine blk_put (cs := #[.bool false, .slice none 0 0, .slice none 0 0, .slice none 0 0]) ?_ 2 _ rfl; (with_reducible repeat (first | refine blk_drewN ?_ _ | refine blk_drew ?_ | refine blk_alloc ?_ _)); refine blk_put (cs := #[.bool false, .slice none 0 0, .slice none 0 0, .slice none 0 0]) ?_ 1 _ rfl; (with_reducible repeat (first | refine blk_drewN ?_ _ | refine blk_drew ?_ | refine blk_alloc ?_ _)); refine blk_put (cs := #[.bool false, .slice none 0 0, .slice none 0 0, .slice none 0 0]) ?_ 0 _ rfl; (with_reducible repeat (first | refine blk_drewN ?_ _ | refine blk_drew ?_ | refine blk_alloc ?_ _)); exact BK202.out) Try.underlying31 rfl (by kernel_rfl) (.tmp (.cell gb203 31 #[.bool false, .slice none 0 0, .slice none 0 0, .slice none 0 0] (0, 0) _ rfl (by (with_reducible repeat (first | refine blk_drewN ?_ _ | refine blk_drew ?_ | refine blk_alloc ?_ _)); refine blk_put (cs := #[.bool false, .slice none 0 0, .slice none 0 0, .slice none 0 0]) ?_ 3 _ rfl; (with_reducible repeat (first | refine blk_drewN ?_ _ | refine blk_drew ?_ | refine blk_alloc ?_ _)); refine blk_put (cs := #[.bool false, .slice none 0 0, .slice none 0 0, .slice none 0 0]) ?_ 2 _ rfl; (with_reducible repeat (first | refine blk_drewN ?_ _ | refine blk_drew ?_ | refine blk_alloc ?_ _)); refine blk_put (cs := #[.bool false, .slice none 0 0, .slice none 0 0, .slice none 0 0]) ?_ 1 _ rfl; (with_reducible repeat (first | refine blk_drewN ?_ _ | refine blk_drew ?_ | refine blk_alloc ?_ _)); refine blk_put (cs := #[.bool false, .slice none 0 0, .slice none 0 0, .slice none 0 0]) ?_ 0 _ rfl; (with_reducible repeat (first | refine blk_drewN ?_ _ | refine blk_drew ?_ | refine blk_alloc ?_ _)); refine blk_far ?_ NB203_202.out _; (with_reducible repeat (first | refine blk_drewN ?_ _ | refine blk_drew ?_ | refine blk_alloc ?_ _)); refine blk_far ?_ NB203_202.out _; (with_reducible repeat (first | refine blk_drewN ?_ _ | refine blk_drew ?_ | refine blk_alloc ?_ _)); refine blk_far ?_ NB203_202.out _; (with_reducible repeat (first | refine blk_drewN ?_ _ | refine blk_drew ?_ | refine blk_alloc ?_ _)); refine blk_far ?_ NB203_202.out _; (with_reducible repeat (first | refine blk_drewN ?_ _ | refine blk_drew ?_ | refine blk_alloc ?_ _)); exact BK203.out) Try.underlying31 rfl (by kernel_rfl) (.tmp .nil))))) rfl ?_
  exact ⟨_, _, _, _, _, _, fin_, nil_, nil_, nil_, nil_, nil_, nil_, bl_ HB⟩
end Go.Proofs.Ytooabchnbmnchaa.Q
