-- Laid by this session's own program (wip/tools) out of the translation; Lean checks it. Thinned, shortened and merged for this claim.
import Derived.Test.YtooabchnbmnchaaQ0
import Derived.Test.YtooabchnbmnchaaSq
import Derived.Test.YtooabchnbmnchaaQ9
import Derived.Test.YtooabchnbmnchaaQ1
namespace Go.Proofs.Ytooabchnbmnchaa.Q
open Go.RowKit Go.Proofs.YtooabchnbmnchaaW.PrintWords Go.Proofs.YtooabchnbmnchaaW.PrintLast Go.Proofs.YtooabchnbmnchaaW.PrintMore
attribute [local go_sem] max2_int min2_int max_two min_two max_three min_three max_four min_four binOp_string_leq binOp_string_geq binOp_string_gtr   -- for this text's walks alone
set_option linter.unusedVariables false
set_option linter.unusedSimpArgs false
mutual
def wal_Check.j0 : Nat → Bool → List (S70) → Int → List (List Int) → Option (Int)
 | 0, _, _, _, _ => none
 | k + 1, x3, x127000, x127001, x127002 => if x3 = true then ((slices_ContainsFunc_byte_byte.f x127002 78).bind fun t128 => (wal_Check.j1 k (!t128) x127000 x127001 x127002)) else (wal_Check.j1 k false x127000 x127001 x127002)
def wal_Check.j1 : Nat → Bool → List (S70) → Int → List (List Int) → Option (Int)
 | 0, _, _, _, _ => none
 | k + 1, x3, x127000, x127001, x127002 => wal_Check.l0 k x3 x127001 x127000 (x127000.length : Int) 0 x127000 x127001 x127002
def wal_Check.l0 : Nat → Bool → Int → List (S70) → Int → Int → List (S70) → Int → List (List Int) → Option (Int)
 | 0, _, _, _, _, _, _, _, _ => none
 | k + 1, x3, x4, x34, x35, x36, x127000, x127001, x127002 => if x36 < x35 then (if 0 ≤ x36 then (if x36 < (x34.length : Int) then (if x3 = true then (if x36 = 0 then ((wal_records.f k ((rd_T70 x34 x36).f1)).bind fun bt131 => ((wal_index.f ((rd_T70 x34 x36).f0)).bind fun t135 => (if t135 = true then (wal_Check.l0 k (bt131.2 == (((rd_T70 x34 x36).f1).length : Int)) (wrap64 (((rd_T70 x34 x36).f0) + (bt131.1.length : Int))) x34 x35 (wrap64 (x36 + 1)) x127000 x127001 x127002) else (wal_Check.l0 k false (wrap64 (((rd_T70 x34 x36).f0) + (bt131.1.length : Int))) x34 x35 (wrap64 (x36 + 1)) x127000 x127001 x127002)))) else ((wal_records.f k ((rd_T70 x34 x36).f1)).bind fun bt136 => ((wal_index.f ((rd_T70 x34 x36).f0)).bind fun t140 => (if t140 = true then (if ((rd_T70 x34 x36).f0) = x4 then (wal_Check.l0 k (bt136.2 == (((rd_T70 x34 x36).f1).length : Int)) (wrap64 (x4 + (bt136.1.length : Int))) x34 x35 (wrap64 (x36 + 1)) x127000 x127001 x127002) else (wal_Check.l0 k false (wrap64 (x4 + (bt136.1.length : Int))) x34 x35 (wrap64 (x36 + 1)) x127000 x127001 x127002)) else (wal_Check.l0 k false (wrap64 (x4 + (bt136.1.length : Int))) x34 x35 (wrap64 (x36 + 1)) x127000 x127001 x127002))))) else (some 9)) else (none)) else (none)) else (if x3 = true then (if x4 = x127001 then (some 0) else (some 9)) else (some 9))
end
def wal_Check.f (k : Nat) (l0_0 : List (S70)) (a0_1 : Int) (l0_2 : List (List Int)) : Option (Int) := if (l0_0.length : Int) ≤ 4096 then ((wal_index.f a0_1).bind fun t127 => (if t127 = true then (wal_Check.j0 k (decide ((l0_2.length : Int) ≤ 4096)) l0_0 a0_1 l0_2) else (wal_Check.j0 k false l0_0 a0_1 l0_2))) else (wal_Check.j0 k false l0_0 a0_1 l0_2)
theorem wal_Check.mono_l : ∀ k, (∀ y0 y1 y2 y3, LeO (wal_Check.j0 k y0 y1 y2 y3) (wal_Check.j0 (k + 1) y0 y1 y2 y3)) ∧ (∀ y0 y1 y2 y3, LeO (wal_Check.j1 k y0 y1 y2 y3) (wal_Check.j1 (k + 1) y0 y1 y2 y3)) ∧ (∀ y0 y1 y2 y3 y4 y5 y6 y7, LeO (wal_Check.l0 k y0 y1 y2 y3 y4 y5 y6 y7) (wal_Check.l0 (k + 1) y0 y1 y2 y3 y4 y5 y6 y7))
 | 0 => ⟨fun _ _ _ _ r h => by simp [wal_Check.j0] at h, fun _ _ _ _ r h => by simp [wal_Check.j1] at h, fun _ _ _ _ _ _ _ _ r h => by simp [wal_Check.l0] at h⟩
 | k + 1 => by
  obtain ⟨ih0, ih1, ih2⟩ := wal_Check.mono_l k
  refine ⟨?_, ?_, ?_⟩
  ·intro y0 y1 y2 y3
   unfold wal_Check.j0
   repeat' first
   | (with_reducible exact ih0 _ _ _ _)
   | (with_reducible exact ih1 _ _ _ _)
   | (with_reducible exact ih2 _ _ _ _ _ _ _ _)
   | (with_reducible exact wal_records.mono _ _)
   | (with_reducible exact LeO.refl _)
   | (with_reducible exact LeO.none _)
   | (with_reducible refine LeO.ite ?_ ?_)
   | (with_reducible refine LeO.bind ?_ (fun _ => ?_))
   | exact ih0 _ _ _ _
   | exact ih1 _ _ _ _
   | exact ih2 _ _ _ _ _ _ _ _
   | exact wal_records.mono _ _
   | exact LeO.none _
   | refine LeO.ite ?_ ?_
   | refine LeO.bind ?_ (fun _ => ?_)
  ·intro y0 y1 y2 y3
   unfold wal_Check.j1
   repeat' first
   | (with_reducible exact ih0 _ _ _ _)
   | (with_reducible exact ih1 _ _ _ _)
   | (with_reducible exact ih2 _ _ _ _ _ _ _ _)
   | (with_reducible exact wal_records.mono _ _)
   | (with_reducible exact LeO.refl _)
   | (with_reducible exact LeO.none _)
   | (with_reducible refine LeO.ite ?_ ?_)
   | (with_reducible refine LeO.bind ?_ (fun _ => ?_))
   | exact ih0 _ _ _ _
   | exact ih1 _ _ _ _
   | exact ih2 _ _ _ _ _ _ _ _
   | exact wal_records.mono _ _
   | exact LeO.none _
   | refine LeO.ite ?_ ?_
   | refine LeO.bind ?_ (fun _ => ?_)
  ·intro y0 y1 y2 y3 y4 y5 y6 y7
   unfold wal_Check.l0
   repeat' first
   | (with_reducible exact ih0 _ _ _ _)
   | (with_reducible exact ih1 _ _ _ _)
   | (with_reducible exact ih2 _ _ _ _ _ _ _ _)
   | (with_reducible exact wal_records.mono _ _)
   | (with_reducible exact LeO.refl _)
   | (with_reducible exact LeO.none _)
   | (with_reducible refine LeO.ite ?_ ?_)
   | (with_reducible refine LeO.bind ?_ (fun _ => ?_))
   | exact ih0 _ _ _ _
   | exact ih1 _ _ _ _
   | exact ih2 _ _ _ _ _ _ _ _
   | exact wal_records.mono _ _
   | exact LeO.none _
   | refine LeO.ite ?_ ?_
   | refine LeO.bind ?_ (fun _ => ?_)
theorem wal_Check.mono : ∀ a0 a1 a2 k, LeO (wal_Check.f k a0 a1 a2) (wal_Check.f (k + 1) a0 a1 a2) := by
 intro a0 a1 a2 k
 obtain ⟨ih0, ih1, ih2⟩ := wal_Check.mono_l k
 unfold wal_Check.f
 repeat' first
   | (with_reducible exact ih0 _ _ _ _)
   | (with_reducible exact ih1 _ _ _ _)
   | (with_reducible exact ih2 _ _ _ _ _ _ _ _)
   | (with_reducible exact wal_records.mono _ _)
   | (with_reducible exact LeO.refl _)
   | (with_reducible exact LeO.none _)
   | (with_reducible refine LeO.ite ?_ ?_)
   | (with_reducible refine LeO.bind ?_ (fun _ => ?_))
   | exact ih0 _ _ _ _
   | exact ih1 _ _ _ _
   | exact ih2 _ _ _ _ _ _ _ _
   | exact wal_records.mono _ _
   | exact LeO.none _
   | refine LeO.ite ?_ ?_
   | refine LeO.bind ?_ (fun _ => ?_)
set_option maxHeartbeats 8000000 in
set_option maxRecDepth 100000 in
theorem wal_Check.calls (k : Nat) (A0_0 : Option Addr) (c0_0 : Nat) (l0_0 : List (S70)) (a0_1 : Int) (A0_2 : Option Addr) (c0_2 : Nat) (l0_2 : List (List Int)) (r : Int) (w : World) (hr0_0 : Kd.C k70 w A0_0 l0_0.length l0_0) (hc0_0 : l0_0.length ≤ c0_0) (hr0_2 : Kd.C (Kd.slice 5 (Kd.int .u8)) w A0_2 l0_2.length l0_2) (hc0_2 : l0_2.length ≤ c0_2) (h : wal_Check.f k l0_0 a0_1 l0_2 = some r) :
  Calls Try.prog 47 #[.agg #[.slice A0_0 l0_0.length c0_0, .int .i64 a0_1, .slice A0_2 l0_2.length c0_2]] w fun e w' => e = .returned (.int .i64 r) ∧ Below w.heap.size w w' := by
 have hu61 := Try.underlying61
 have hu70 := Try.underlying70
 have HR0_0 := Aside0.mk hr0_0
 have HC0_0 := Aside0.mk hc0_0
 clear hr0_0 hc0_0
 have HR0_2 := Aside0.mk hr0_2
 have HC0_2 := Aside0.mk hc0_2
 clear hr0_2 hc0_2
 have HB := Aside0.mk (Below.refl w.heap.size w)
 have H : (if (l0_0.length : Int) ≤ 4096 then ((wal_index.f a0_1).bind fun t127 => (if t127 = true then (wal_Check.j0 k (decide ((l0_2.length : Int) ≤ 4096)) l0_0 a0_1 l0_2) else (wal_Check.j0 k false l0_0 a0_1 l0_2))) else (wal_Check.j0 k false l0_0 a0_1 l0_2)) = some r := h
 clear h
 have HC2 := Aside0.mk H
 clear H
 go_enter Try.func47, Try.ntmps47
 go_upto_region 1 with (first | ((with_reducible refine gate_dst (N := 1) rfl ?_); (try (refine gate_guard (by rfl) ?_; dsimp only)); refine bx_ 1 #[.slice A0_0 l0_0.length c0_0, .int .i64 a0_1, .slice A0_2 l0_2.length c0_2] 61 ?_; intro gb126 hg w3 hbox hb; have BK126 := Aside0.mk (hbox); have GW126 := bG_ HB hg; have GE126 := bG_ HB hg; replace HB := bS_ HB hb; clear hb hbox hg))
 (try simp only [Act.put, List.setIfInBounds_toArray, List.set_cons_zero, List.set_cons_succ])
 go_cut [3] (fun v3 wc => ∃ (kq : Nat) (x3_1 : Bool), v3 = .bool x3_1 ∧ Aside0 (wal_Check.j0 kq x3_1 l0_0 a0_1 l0_2 = some r) ∧ Aside0 (kq ≤ k) ∧ Aside0 (wc.heap[gb126]? = some (.cells #[(.slice A0_0 l0_0.length c0_0), .int .i64 a0_1, (.slice A0_2 l0_2.length c0_2)] 61 (0, 0))) ∧ Aside0 (Below w.heap.size w wc))
 case first =>
  have H := HC2.out
  clear HC2
  by_cases c4 : (l0_0.length : Int) ≤ 4096
  ·rw [if_pos c4] at H
   have c4b0 : decide ((l0_0.length : Int) ≤ 4096) = true := decide_eq_true c4
   have c4b1 : decide (l0_0.length ≤ 4096) = true := decide_eq_true (by omega)
   clear c4
   (first | rw [c4b0] | (simp only [i64_w, i32_w]; rw [c4b0]) | skip)
   replace H := Option.bind_eq_some_iff.mp H
   obtain ⟨t127, A50, H⟩ := H
   try dsimp only at H
   have A5 := Aside0.mk A50
   clear A50
   by_cases c6 : t127 = true
   ·subst c6
    rw [if_pos rfl] at H
    have H' := Aside0.mk H
    clear H
    obtain ⟨hcz7_0, hcz7_1, hcz7_2, hfz7_0, hfz7_1, hfz7_2⟩ := cz3_ BK126
    go_wp2_with (first | (go_at_call 74; (with_reducible refine (wal_index.calls a0_1 true _ A5.out).mono ?_); rintro e w' ⟨rfl, ⟨nd, rfl⟩⟩))
    go_meet
    case rel => exact ⟨_, (decide ((l0_2.length : Int) ≤ 4096)), (by first | rfl | (simp; done) | (simp [*]; done)), H', ⟨by first | omega | exact Nat.le_refl _⟩, ⟨bA_ BK126⟩, ⟨bl_ HB⟩⟩
   ·replace c6 := Bool.eq_false_iff.mpr c6
    subst c6
    rw [if_neg (show ¬ (false = true) by decide)] at H
    have H' := Aside0.mk H
    clear H
    obtain ⟨hcz8_0, hcz8_1, hcz8_2, hfz8_0, hfz8_1, hfz8_2⟩ := cz3_ BK126
    go_wp2_with (first | (go_at_call 74; (with_reducible refine (wal_index.calls a0_1 false _ A5.out).mono ?_); rintro e w' ⟨rfl, ⟨nd, rfl⟩⟩))
    go_meet
    case rel => exact ⟨_, (false), (by first | rfl | (simp; done) | (simp [*]; done)), H', ⟨by first | omega | exact Nat.le_refl _⟩, ⟨bA_ BK126⟩, ⟨bl_ HB⟩⟩
  ·rw [if_neg c4] at H
   have c4b0 : decide ((l0_0.length : Int) ≤ 4096) = false := decide_eq_false c4
   have c4b1 : decide (l0_0.length ≤ 4096) = false := decide_eq_false (by omega)
   clear c4
   (first | rw [c4b0] | (simp only [i64_w, i32_w]; rw [c4b0]) | skip)
   have H' := Aside0.mk H
   clear H
   obtain ⟨hcz9_0, hcz9_1, hcz9_2, hfz9_0, hfz9_1, hfz9_2⟩ := cz3_ BK126
   go_wp2
   go_meet
   case rel => exact ⟨_, (false), (by first | rfl | (simp; done) | (simp [*]; done)), H', ⟨by first | omega | exact Nat.le_refl _⟩, ⟨bA_ BK126⟩, ⟨bl_ HB⟩⟩
 case rest =>
  clear HC2
  try clear p2
  try clear c4
  try clear c4b0
  try clear c4b1
  try clear c6
  try clear hcz7_0
  try clear hcz7_1
  try clear hcz7_2
  try clear hcz8_0
  try clear hcz8_1
  try clear hcz8_2
  try clear hcz9_0
  try clear hcz9_1
  try clear hcz9_2
  try clear hfz7_0
  try clear hfz7_1
  try clear hfz7_2
  try clear hfz8_0
  try clear hfz8_1
  try clear hfz8_2
  try clear hfz9_0
  try clear hfz9_1
  try clear hfz9_2
  obtain ⟨kq, x3_1, rfl, HA, HJ1, BK126, HB⟩ := hcut
  cases kq with
  | zero => exact absurd HA.out (by simp [wal_Check.j0])
  | succ kj1 =>
   have H := HA.out
   clear HA
   simp only [wal_Check.j0] at H
   have HC10 := Aside0.mk H
   clear H
   go_upto_region 2 with (fail)
   go_cut [3] (fun v3 wc => ∃ (kq : Nat) (x3_9 : Bool), v3 = .bool x3_9 ∧ Aside0 (wal_Check.j1 kq x3_9 l0_0 a0_1 l0_2 = some r) ∧ Aside0 (kq ≤ kj1) ∧ Aside0 (wc.heap[gb126]? = some (.cells #[(.slice A0_0 l0_0.length c0_0), .int .i64 a0_1, (.slice A0_2 l0_2.length c0_2)] 61 (0, 0))) ∧ Aside0 (Below w.heap.size w wc))
   case first =>
    have H := HC10.out
    clear HC10
    by_cases c11 : x3_1 = true
    ·subst c11
     rw [if_pos rfl] at H
     replace H := Option.bind_eq_some_iff.mp H
     obtain ⟨t128, A120, H⟩ := H
     replace H : (wal_Check.j1 kj1 (!t128) l0_0 a0_1 l0_2) = some r := H
     have A12 := Aside0.mk A120
     clear A120
     have H' := Aside0.mk H
     clear H
     obtain ⟨hcz13_0, hcz13_1, hcz13_2, hfz13_0, hfz13_1, hfz13_2⟩ := cz3_ BK126
     go_wp2_with (first | (go_at_call 67; (with_reducible refine (slices_ContainsFunc_byte_byte.calls _ _ l0_2 78 t128 _ ?_ ?_ A12.out).mono ?_); exact cB_ HR0_2 HB; exact HC0_2.out; rintro e w14 ⟨rfl, hb⟩; replace BK126 := bK_ BK126 hb; replace HB := bS_ HB hb; (try clear hb)))
     go_meet
     case rel => exact ⟨_, (!t128), (by first | rfl | (simp; done) | (simp [*]; done)), H', ⟨by have := HJ1.out; first | omega | exact Nat.le_refl _⟩, ⟨bA_ BK126⟩, ⟨bl_ HB⟩⟩
    ·replace c11 := Bool.eq_false_iff.mpr c11
     subst c11
     rw [if_neg (show ¬ (false = true) by decide)] at H
     have H' := Aside0.mk H
     clear H
     go_wp2
     go_meet
     case rel => exact ⟨_, (false), (by first | rfl | (simp; done) | (simp [*]; done)), H', ⟨by have := HJ1.out; first | omega | exact Nat.le_refl _⟩, ⟨bA_ BK126⟩, ⟨bl_ HB⟩⟩
   case rest =>
    clear HC10
    try clear c1
    try clear p2
    try clear c4
    try clear c4b0
    try clear c4b1
    try clear c6
    try clear c11
    try clear hcz13_0
    try clear hcz13_1
    try clear hcz13_2
    try clear hcz7_0
    try clear hcz7_1
    try clear hcz7_2
    try clear hcz8_0
    try clear hcz8_1
    try clear hcz8_2
    try clear hcz9_0
    try clear hcz9_1
    try clear hcz9_2
    try clear hfz13_0
    try clear hfz13_1
    try clear hfz13_2
    try clear hfz7_0
    try clear hfz7_1
    try clear hfz7_2
    try clear hfz8_0
    try clear hfz8_1
    try clear hfz8_2
    try clear hfz9_0
    try clear hfz9_1
    try clear hfz9_2
    try clear p2
    obtain ⟨kq, x3_9, rfl, HA, HJ9, BK126, HB⟩ := hcut
    cases kq with
    | zero => exact absurd HA.out (by simp [wal_Check.j1])
    | succ kj9 =>
     have H := HA.out
     clear HA
     simp only [wal_Check.j1] at H
     have H' := Aside0.mk H
     clear H
     obtain ⟨hcz15_0, hcz15_1, hcz15_2, hfz15_0, hfz15_1, hfz15_2⟩ := cz3_ BK126
     go_wp2
     go_loopg [3, 4, 36] kj9 (fun kq v3 v4 v36 w' => ∃ (x3_3 : Bool) (x4_3 : Int) (x36_3 : Int), v3 = .bool x3_3 ∧ v4 = .int .i64 x4_3 ∧ v36 = .int .i64 x36_3 ∧ Aside0 (wal_Check.l0 kq x3_3 x4_3 l0_0 (l0_0.length : Int) x36_3 l0_0 a0_1 l0_2 = some r) ∧ Aside0 (kq ≤ kj9) ∧ Aside0 (w'.heap[gb126]? = some (.cells #[(.slice A0_0 l0_0.length c0_0), .int .i64 a0_1, (.slice A0_2 l0_2.length c0_2)] 61 (0, 0))) ∧ Aside0 (Below w.heap.size w w'))
     case atStart => exact ⟨(x3_9), (a0_1), (0), (by first | rfl | (simp; done) | (simp [*]; done)), (by first | rfl | (simp; done) | (simp [*]; done)), (by first | rfl | (simp; done) | (simp [*]; done)), H', ⟨Nat.le_refl _⟩, ⟨bA_ BK126⟩, ⟨bl_ HB⟩⟩
     case round =>
      clear H'
      try clear c1
      try clear p2
      try clear c4
      try clear c4b0
      try clear c4b1
      try clear c6
      try clear c11
      try clear hcz13_0
      try clear hcz13_1
      try clear hcz13_2
      try clear hcz15_0
      try clear hcz15_1
      try clear hcz15_2
      try clear hcz7_0
      try clear hcz7_1
      try clear hcz7_2
      try clear hcz8_0
      try clear hcz8_1
      try clear hcz8_2
      try clear hcz9_0
      try clear hcz9_1
      try clear hcz9_2
      try clear hfz13_0
      try clear hfz13_1
      try clear hfz13_2
      try clear hfz15_0
      try clear hfz15_1
      try clear hfz15_2
      try clear hfz7_0
      try clear hfz7_1
      try clear hfz7_2
      try clear hfz8_0
      try clear hfz8_1
      try clear hfz8_2
      try clear hfz9_0
      try clear hfz9_1
      try clear hfz9_2
      try clear p2
      obtain ⟨x3_3, x4_3, x36_3, rfl, rfl, rfl, HA, HK3, BK126, HB⟩ := hrel
      cases gk with
      | zero => exact absurd HA.out (by simp [wal_Check.l0])
      | succ k3 =>
       have H := HA.out
       clear HA
       simp only [wal_Check.l0] at H
       by_cases c16 : x36_3 < (l0_0.length : Int)
       ·rw [if_pos c16] at H
        have c16b0 : decide (x36_3 < (l0_0.length : Int)) = true := decide_eq_true c16
        clear c16
        by_cases c17 : 0 ≤ x36_3
        ·rw [if_pos c17] at H
         have c17b0 : decide (0 ≤ x36_3) = true := decide_eq_true c17
         clear c17
         by_cases c18 : x36_3 < (l0_0.length : Int)
         ·rw [if_pos c18] at H
          have c18b0 : decide (x36_3 < (l0_0.length : Int)) = true := decide_eq_true c18
          clear c18
          by_cases c19 : x3_3 = true
          ·subst c19
           rw [if_pos rfl] at H
           by_cases c20 : x36_3 = 0
           ·rw [if_pos c20] at H
            have c20b0 : (x36_3 == 0) = true := beq_iff_eq.mpr c20
            have c20b1 : (x36_3 != 0) = false := bne_eq_false_iff_eq.mpr c20
            clear c20
            replace H := Option.bind_eq_some_iff.mp H
            obtain ⟨⟨t131, t134⟩, A210, H⟩ := H
            try dsimp only at H
            have A21 := Aside0.mk A210
            clear A210
            replace H := Option.bind_eq_some_iff.mp H
            obtain ⟨t135, A220, H⟩ := H
            try dsimp only at H
            have A22 := Aside0.mk A220
            clear A220
            by_cases c23 : t135 = true
            ·subst c23
             rw [if_pos rfl] at H
             have H' := Aside0.mk H
             clear H
             have p129 : 0 ≤ (x36_3 : Int) := of_decide_eq_true (by first | (with_reducible assumption) | assumption)
             have q129 : x36_3 < (l0_0.length : Int) := of_decide_eq_true (by first | (with_reducible assumption) | assumption)
             obtain ⟨ad129, A129_1, c129_1, e129, hx129_0, hx129_1, hl129_1, hi129_1⟩ := at_T70 HR0_0.out x36_3 p129 q129
             cases e129
             replace hx129_0 := (HB.out.cell (World.block_lt_of_cell? w _ hx129_0)).trans hx129_0
             replace hx129_1 := (HB.out.cell (World.block_lt_of_cell? w _ hx129_1)).trans hx129_1
             have HR129_1 := Aside0.mk hi129_1
             have HC129_1 := Aside0.mk hl129_1
             clear hi129_1 hl129_1
             replace p129 := eq_true p129
             replace q129 := eq_true q129
             go_wp2_with (first | ((with_reducible refine gate_dst (N := 6) rfl ?_); (try (refine gate_guard (by rfl) ?_; dsimp only)); refine bx_ 6 #[.int .i64 0, .slice none 0 0] 70 ?_; intro gb130 hg w24 hbox hb; have BK130 := Aside0.mk (hbox); have GW130 := bG_ HB hg; have GE130 := bG_ HB hg; replace HB := bS_ HB hb; have NB126_130 := nL_ BK126 hg; have NB130_126 := nG_ BK126 hg; replace BK126 := bK_ BK126 hb; clear hb hbox hg; have hnb25 := NB130_126.out; have hnc25 := NB126_130.out; obtain ⟨hcz26_0, hcz26_1, hfz26_0, hfz26_1⟩ := cz2_ BK130) | ((with_reducible refine gate_callee (f := 73) rfl ?_); refine gL_ (some 50) Try.func73 #[.slice A129_1 ((rd_T70 l0_0 x36_3).f1).length c129_1] ?_; (with_reducible refine (wal_records.calls k3 _ _ ((rd_T70 l0_0 x36_3).f1) t131 t134 _ ?_ ?_ A21.out).mono ?_); exact Kd.C_below HR129_1.out (bl_ HB); exact HC129_1.out; rintro e w27 ⟨v132, rfl, ho0, hb⟩; refine ⟨_, rfl, ?_⟩; have HO133 := Aside0.mk (Kd.N_lower (Kd.N_mono (ok' := fun k_ => k_ ≠ gb126 ∧ k_ ≠ gb130) ho0 (fun k_ hk_ => ⟨(Kd.freshB (bA_ BK126) k_ hk_), (Kd.freshB (g := gb130) (o := .cells #[.int .i64 ((rd_T70 l0_0 x36_3).f0), .slice A129_1 ((rd_T70 l0_0 x36_3).f1).length c129_1] 70 (0, 0)) (by (with_reducible repeat (first | refine blk_drewN ?_ _ | refine blk_drew ?_ | refine blk_alloc ?_ _)); refine blk_put (cs := #[.int .i64 ((rd_T70 l0_0 x36_3).f0), .slice none 0 0]) ?_ 1 _ rfl; (with_reducible repeat (first | refine blk_drewN ?_ _ | refine blk_drew ?_ | refine blk_alloc ?_ _)); refine blk_put (cs := #[.int .i64 0, .slice none 0 0]) ?_ 0 _ rfl; (with_reducible repeat (first | refine blk_drewN ?_ _ | refine blk_drew ?_ | refine blk_alloc ?_ _)); exact BK130.out) k_ hk_)⟩)) (bs_ HB)); replace BK126 := bK_ BK126 hb; replace BK130 := Aside0.mk (blk_below (g := gb130) (o := .cells #[.int .i64 ((rd_T70 l0_0 x36_3).f0), .slice A129_1 ((rd_T70 l0_0 x36_3).f1).length c129_1] 70 (0, 0)) (by (with_reducible repeat (first | refine blk_drewN ?_ _ | refine blk_drew ?_ | refine blk_alloc ?_ _)); refine blk_put (cs := #[.int .i64 ((rd_T70 l0_0 x36_3).f0), .slice none 0 0]) ?_ 1 _ rfl; (with_reducible repeat (first | refine blk_drewN ?_ _ | refine blk_drew ?_ | refine blk_alloc ?_ _)); refine blk_put (cs := #[.int .i64 0, .slice none 0 0]) ?_ 0 _ rfl; (with_reducible repeat (first | refine blk_drewN ?_ _ | refine blk_drew ?_ | refine blk_alloc ?_ _)); exact BK130.out) hb); replace HB := bS_ HB hb; (try clear hb ho0); obtain ⟨hcz28_0, hcz28_1, hfz28_0, hfz28_1⟩ := cz2_ BK130) | ((with_reducible refine gate_callee (f := 74) rfl ?_); refine gL_ (some 55) Try.func74 #[.int .i64 ((rd_T70 l0_0 x36_3).f0)] ?_; (with_reducible refine (wal_index.calls ((rd_T70 l0_0 x36_3).f0) true _ A22.out).mono ?_); rintro e w' ⟨rfl, ⟨nd, rfl⟩⟩; refine ⟨_, rfl, ?_⟩; obtain ⟨Ao29, co29, eo29⟩ := Kd.N_slice HO133.out; subst eo29))
             go_roundg k3
             case measure => have := HJ1.out; have := HJ9.out; have := HK3.out; omega
             case rel => exact ⟨((t134 == (((rd_T70 l0_0 x36_3).f1).length : Int))), (wrap64 (((rd_T70 l0_0 x36_3).f0) + (t131.length : Int))), (wrap64 (x36_3 + 1)), (by first | rfl | (simp; done) | (simp [*]; done)), (by first | rfl | (simp; done) | (simp [*]; done)), (by first | rfl | (simp; done) | (simp [*]; done)), H', ⟨by have := HJ1.out; have := HJ9.out; have := HK3.out; omega⟩, ⟨bA_ BK126⟩, ⟨bl_ HB⟩⟩
            ·replace c23 := Bool.eq_false_iff.mpr c23
             subst c23
             rw [if_neg (show ¬ (false = true) by decide)] at H
             have H' := Aside0.mk H
             clear H
             have p129 : 0 ≤ (x36_3 : Int) := of_decide_eq_true (by first | (with_reducible assumption) | assumption)
             have q129 : x36_3 < (l0_0.length : Int) := of_decide_eq_true (by first | (with_reducible assumption) | assumption)
             obtain ⟨ad129, A129_1, c129_1, e129, hx129_0, hx129_1, hl129_1, hi129_1⟩ := at_T70 HR0_0.out x36_3 p129 q129
             cases e129
             replace hx129_0 := (HB.out.cell (World.block_lt_of_cell? w _ hx129_0)).trans hx129_0
             replace hx129_1 := (HB.out.cell (World.block_lt_of_cell? w _ hx129_1)).trans hx129_1
             have HR129_1 := Aside0.mk hi129_1
             have HC129_1 := Aside0.mk hl129_1
             clear hi129_1 hl129_1
             replace p129 := eq_true p129
             replace q129 := eq_true q129
             go_wp2_with (first | ((with_reducible refine gate_dst (N := 6) rfl ?_); (try (refine gate_guard (by rfl) ?_; dsimp only)); refine bx_ 6 #[.int .i64 0, .slice none 0 0] 70 ?_; intro gb130 hg w30 hbox hb; have BK130 := Aside0.mk (hbox); have GW130 := bG_ HB hg; have GE130 := bG_ HB hg; replace HB := bS_ HB hb; have NB126_130 := nL_ BK126 hg; have NB130_126 := nG_ BK126 hg; replace BK126 := bK_ BK126 hb; clear hb hbox hg; have hnb31 := NB130_126.out; have hnc31 := NB126_130.out; obtain ⟨hcz32_0, hcz32_1, hfz32_0, hfz32_1⟩ := cz2_ BK130) | ((with_reducible refine gate_callee (f := 73) rfl ?_); refine gL_ (some 50) Try.func73 #[.slice A129_1 ((rd_T70 l0_0 x36_3).f1).length c129_1] ?_; (with_reducible refine (wal_records.calls k3 _ _ ((rd_T70 l0_0 x36_3).f1) t131 t134 _ ?_ ?_ A21.out).mono ?_); exact Kd.C_below HR129_1.out (bl_ HB); exact HC129_1.out; rintro e w33 ⟨v132, rfl, ho0, hb⟩; refine ⟨_, rfl, ?_⟩; have HO133 := Aside0.mk (Kd.N_lower (Kd.N_mono (ok' := fun k_ => k_ ≠ gb126 ∧ k_ ≠ gb130) ho0 (fun k_ hk_ => ⟨(Kd.freshB (bA_ BK126) k_ hk_), (Kd.freshB (g := gb130) (o := .cells #[.int .i64 ((rd_T70 l0_0 x36_3).f0), .slice A129_1 ((rd_T70 l0_0 x36_3).f1).length c129_1] 70 (0, 0)) (by (with_reducible repeat (first | refine blk_drewN ?_ _ | refine blk_drew ?_ | refine blk_alloc ?_ _)); refine blk_put (cs := #[.int .i64 ((rd_T70 l0_0 x36_3).f0), .slice none 0 0]) ?_ 1 _ rfl; (with_reducible repeat (first | refine blk_drewN ?_ _ | refine blk_drew ?_ | refine blk_alloc ?_ _)); refine blk_put (cs := #[.int .i64 0, .slice none 0 0]) ?_ 0 _ rfl; (with_reducible repeat (first | refine blk_drewN ?_ _ | refine blk_drew ?_ | refine blk_alloc ?_ _)); exact BK130.out) k_ hk_)⟩)) (bs_ HB)); replace BK126 := bK_ BK126 hb; replace BK130 := Aside0.mk (blk_below (g := gb130) (o := .cells #[.int .i64 ((rd_T70 l0_0 x36_3).f0), .slice A129_1 ((rd_T70 l0_0 x36_3).f1).length c129_1] 70 (0, 0)) (by (with_reducible repeat (first | refine blk_drewN ?_ _ | refine blk_drew ?_ | refine blk_alloc ?_ _)); refine blk_put (cs := #[.int .i64 ((rd_T70 l0_0 x36_3).f0), .slice none 0 0]) ?_ 1 _ rfl; (with_reducible repeat (first | refine blk_drewN ?_ _ | refine blk_drew ?_ | refine blk_alloc ?_ _)); refine blk_put (cs := #[.int .i64 0, .slice none 0 0]) ?_ 0 _ rfl; (with_reducible repeat (first | refine blk_drewN ?_ _ | refine blk_drew ?_ | refine blk_alloc ?_ _)); exact BK130.out) hb); replace HB := bS_ HB hb; (try clear hb ho0); obtain ⟨hcz34_0, hcz34_1, hfz34_0, hfz34_1⟩ := cz2_ BK130) | ((with_reducible refine gate_callee (f := 74) rfl ?_); refine gL_ (some 55) Try.func74 #[.int .i64 ((rd_T70 l0_0 x36_3).f0)] ?_; (with_reducible refine (wal_index.calls ((rd_T70 l0_0 x36_3).f0) false _ A22.out).mono ?_); rintro e w' ⟨rfl, ⟨nd, rfl⟩⟩; refine ⟨_, rfl, ?_⟩; obtain ⟨Ao35, co35, eo35⟩ := Kd.N_slice HO133.out; subst eo35))
             go_roundg k3
             case measure => have := HJ1.out; have := HJ9.out; have := HK3.out; omega
             case rel => exact ⟨(false), (wrap64 (((rd_T70 l0_0 x36_3).f0) + (t131.length : Int))), (wrap64 (x36_3 + 1)), (by first | rfl | (simp; done) | (simp [*]; done)), (by first | rfl | (simp; done) | (simp [*]; done)), (by first | rfl | (simp; done) | (simp [*]; done)), H', ⟨by have := HJ1.out; have := HJ9.out; have := HK3.out; omega⟩, ⟨bA_ BK126⟩, ⟨bl_ HB⟩⟩
           ·rw [if_neg c20] at H
            have c20b0 : (x36_3 == 0) = false := beq_eq_false_iff_ne.mpr c20
            have c20b1 : (x36_3 != 0) = true := bne_iff_ne.mpr c20
            replace H := Option.bind_eq_some_iff.mp H
            obtain ⟨⟨t136, t139⟩, A360, H⟩ := H
            try dsimp only at H
            have A36 := Aside0.mk A360
            clear A360
            replace H := Option.bind_eq_some_iff.mp H
            obtain ⟨t140, A370, H⟩ := H
            try dsimp only at H
            have A37 := Aside0.mk A370
            clear A370
            by_cases c38 : t140 = true
            ·subst c38
             rw [if_pos rfl] at H
             by_cases c39 : ((rd_T70 l0_0 x36_3).f0) = x4_3
             ·rw [if_pos c39] at H
              have c39b0 : (((rd_T70 l0_0 x36_3).f0) == x4_3) = true := beq_iff_eq.mpr c39
              have c39b1 : (((rd_T70 l0_0 x36_3).f0) != x4_3) = false := bne_eq_false_iff_eq.mpr c39
              clear c39
              have H' := Aside0.mk H
              clear H
              have p129 : 0 ≤ (x36_3 : Int) := of_decide_eq_true (by first | (with_reducible assumption) | assumption)
              have q129 : x36_3 < (l0_0.length : Int) := of_decide_eq_true (by first | (with_reducible assumption) | assumption)
              obtain ⟨ad129, A129_1, c129_1, e129, hx129_0, hx129_1, hl129_1, hi129_1⟩ := at_T70 HR0_0.out x36_3 p129 q129
              cases e129
              replace hx129_0 := (HB.out.cell (World.block_lt_of_cell? w _ hx129_0)).trans hx129_0
              replace hx129_1 := (HB.out.cell (World.block_lt_of_cell? w _ hx129_1)).trans hx129_1
              have HR129_1 := Aside0.mk hi129_1
              have HC129_1 := Aside0.mk hl129_1
              clear hi129_1 hl129_1
              replace p129 := eq_true p129
              replace q129 := eq_true q129
              go_wp2_with (first | ((with_reducible refine gate_dst (N := 6) rfl ?_); (try (refine gate_guard (by rfl) ?_; dsimp only)); refine bx_ 6 #[.int .i64 0, .slice none 0 0] 70 ?_; intro gb130 hg w40 hbox hb; have BK130 := Aside0.mk (hbox); have GW130 := bG_ HB hg; have GE130 := bG_ HB hg; replace HB := bS_ HB hb; have NB126_130 := nL_ BK126 hg; have NB130_126 := nG_ BK126 hg; replace BK126 := bK_ BK126 hb; clear hb hbox hg; have hnb41 := NB130_126.out; have hnc41 := NB126_130.out; obtain ⟨hcz42_0, hcz42_1, hfz42_0, hfz42_1⟩ := cz2_ BK130) | ((with_reducible refine gate_callee (f := 73) rfl ?_); refine gL_ (some 50) Try.func73 #[.slice A129_1 ((rd_T70 l0_0 x36_3).f1).length c129_1] ?_; (with_reducible refine (wal_records.calls k3 _ _ ((rd_T70 l0_0 x36_3).f1) t136 t139 _ ?_ ?_ A36.out).mono ?_); exact Kd.C_below HR129_1.out (bl_ HB); exact HC129_1.out; rintro e w43 ⟨v137, rfl, ho0, hb⟩; refine ⟨_, rfl, ?_⟩; have HO138 := Aside0.mk (Kd.N_lower (Kd.N_mono (ok' := fun k_ => k_ ≠ gb126 ∧ k_ ≠ gb130) ho0 (fun k_ hk_ => ⟨(Kd.freshB (bA_ BK126) k_ hk_), (Kd.freshB (g := gb130) (o := .cells #[.int .i64 ((rd_T70 l0_0 x36_3).f0), .slice A129_1 ((rd_T70 l0_0 x36_3).f1).length c129_1] 70 (0, 0)) (by (with_reducible repeat (first | refine blk_drewN ?_ _ | refine blk_drew ?_ | refine blk_alloc ?_ _)); refine blk_put (cs := #[.int .i64 ((rd_T70 l0_0 x36_3).f0), .slice none 0 0]) ?_ 1 _ rfl; (with_reducible repeat (first | refine blk_drewN ?_ _ | refine blk_drew ?_ | refine blk_alloc ?_ _)); refine blk_put (cs := #[.int .i64 0, .slice none 0 0]) ?_ 0 _ rfl; (with_reducible repeat (first | refine blk_drewN ?_ _ | refine blk_drew ?_ | refine blk_alloc ?_ _)); exact BK130.out) k_ hk_)⟩)) (bs_ HB)); replace BK126 := bK_ BK126 hb; replace BK130 := Aside0.mk (blk_below (g := gb130) (o := .cells #[.int .i64 ((rd_T70 l0_0 x36_3).f0), .slice A129_1 ((rd_T70 l0_0 x36_3).f1).length c129_1] 70 (0, 0)) (by (with_reducible repeat (first | refine blk_drewN ?_ _ | refine blk_drew ?_ | refine blk_alloc ?_ _)); refine blk_put (cs := #[.int .i64 ((rd_T70 l0_0 x36_3).f0), .slice none 0 0]) ?_ 1 _ rfl; (with_reducible repeat (first | refine blk_drewN ?_ _ | refine blk_drew ?_ | refine blk_alloc ?_ _)); refine blk_put (cs := #[.int .i64 0, .slice none 0 0]) ?_ 0 _ rfl; (with_reducible repeat (first | refine blk_drewN ?_ _ | refine blk_drew ?_ | refine blk_alloc ?_ _)); exact BK130.out) hb); replace HB := bS_ HB hb; (try clear hb ho0); obtain ⟨hcz44_0, hcz44_1, hfz44_0, hfz44_1⟩ := cz2_ BK130) | ((with_reducible refine gate_callee (f := 74) rfl ?_); refine gL_ (some 55) Try.func74 #[.int .i64 ((rd_T70 l0_0 x36_3).f0)] ?_; (with_reducible refine (wal_index.calls ((rd_T70 l0_0 x36_3).f0) true _ A37.out).mono ?_); rintro e w' ⟨rfl, ⟨nd, rfl⟩⟩; refine ⟨_, rfl, ?_⟩; obtain ⟨Ao45, co45, eo45⟩ := Kd.N_slice HO138.out; subst eo45))
              go_roundg k3
              case measure => have := HJ1.out; have := HJ9.out; have := HK3.out; omega
              case rel => exact ⟨((t139 == (((rd_T70 l0_0 x36_3).f1).length : Int))), (wrap64 (x4_3 + (t136.length : Int))), (wrap64 (x36_3 + 1)), (by first | rfl | (simp; done) | (simp [*]; done)), (by first | rfl | (simp; done) | (simp [*]; done)), (by first | rfl | (simp; done) | (simp [*]; done)), H', ⟨by have := HJ1.out; have := HJ9.out; have := HK3.out; omega⟩, ⟨bA_ BK126⟩, ⟨bl_ HB⟩⟩
             ·rw [if_neg c39] at H
              have c39b0 : (((rd_T70 l0_0 x36_3).f0) == x4_3) = false := beq_eq_false_iff_ne.mpr c39
              have c39b1 : (((rd_T70 l0_0 x36_3).f0) != x4_3) = true := bne_iff_ne.mpr c39
              have H' := Aside0.mk H
              clear H
              have p129 : 0 ≤ (x36_3 : Int) := of_decide_eq_true (by first | (with_reducible assumption) | assumption)
              have q129 : x36_3 < (l0_0.length : Int) := of_decide_eq_true (by first | (with_reducible assumption) | assumption)
              obtain ⟨ad129, A129_1, c129_1, e129, hx129_0, hx129_1, hl129_1, hi129_1⟩ := at_T70 HR0_0.out x36_3 p129 q129
              cases e129
              replace hx129_0 := (HB.out.cell (World.block_lt_of_cell? w _ hx129_0)).trans hx129_0
              replace hx129_1 := (HB.out.cell (World.block_lt_of_cell? w _ hx129_1)).trans hx129_1
              have HR129_1 := Aside0.mk hi129_1
              have HC129_1 := Aside0.mk hl129_1
              clear hi129_1 hl129_1
              replace p129 := eq_true p129
              replace q129 := eq_true q129
              go_wp2_with (first | ((with_reducible refine gate_dst (N := 6) rfl ?_); (try (refine gate_guard (by rfl) ?_; dsimp only)); refine bx_ 6 #[.int .i64 0, .slice none 0 0] 70 ?_; intro gb130 hg w46 hbox hb; have BK130 := Aside0.mk (hbox); have GW130 := bG_ HB hg; have GE130 := bG_ HB hg; replace HB := bS_ HB hb; have NB126_130 := nL_ BK126 hg; have NB130_126 := nG_ BK126 hg; replace BK126 := bK_ BK126 hb; clear hb hbox hg; have hnb47 := NB130_126.out; have hnc47 := NB126_130.out; obtain ⟨hcz48_0, hcz48_1, hfz48_0, hfz48_1⟩ := cz2_ BK130) | ((with_reducible refine gate_callee (f := 73) rfl ?_); refine gL_ (some 50) Try.func73 #[.slice A129_1 ((rd_T70 l0_0 x36_3).f1).length c129_1] ?_; (with_reducible refine (wal_records.calls k3 _ _ ((rd_T70 l0_0 x36_3).f1) t136 t139 _ ?_ ?_ A36.out).mono ?_); exact Kd.C_below HR129_1.out (bl_ HB); exact HC129_1.out; rintro e w49 ⟨v137, rfl, ho0, hb⟩; refine ⟨_, rfl, ?_⟩; have HO138 := Aside0.mk (Kd.N_lower (Kd.N_mono (ok' := fun k_ => k_ ≠ gb126 ∧ k_ ≠ gb130) ho0 (fun k_ hk_ => ⟨(Kd.freshB (bA_ BK126) k_ hk_), (Kd.freshB (g := gb130) (o := .cells #[.int .i64 ((rd_T70 l0_0 x36_3).f0), .slice A129_1 ((rd_T70 l0_0 x36_3).f1).length c129_1] 70 (0, 0)) (by (with_reducible repeat (first | refine blk_drewN ?_ _ | refine blk_drew ?_ | refine blk_alloc ?_ _)); refine blk_put (cs := #[.int .i64 ((rd_T70 l0_0 x36_3).f0), .slice none 0 0]) ?_ 1 _ rfl; (with_reducible repeat (first | refine blk_drewN ?_ _ | refine blk_drew ?_ | refine blk_alloc ?_ _)); refine blk_put (cs := #[.int .i64 0, .slice none 0 0]) ?_ 0 _ rfl; (with_reducible repeat (first | refine blk_drewN ?_ _ | refine blk_drew ?_ | refine blk_alloc ?_ _)); exact BK130.out) k_ hk_)⟩)) (bs_ HB)); replace BK126 := bK_ BK126 hb; replace BK130 := Aside0.mk (blk_below (g := gb130) (o := .cells #[.int .i64 ((rd_T70 l0_0 x36_3).f0), .slice A129_1 ((rd_T70 l0_0 x36_3).f1).length c129_1] 70 (0, 0)) (by (with_reducible repeat (first | refine blk_drewN ?_ _ | refine blk_drew ?_ | refine blk_alloc ?_ _)); refine blk_put (cs := #[.int .i64 ((rd_T70 l0_0 x36_3).f0), .slice none 0 0]) ?_ 1 _ rfl; (with_reducible repeat (first | refine blk_drewN ?_ _ | refine blk_drew ?_ | refine blk_alloc ?_ _)); refine blk_put (cs := #[.int .i64 0, .slice none 0 0]) ?_ 0 _ rfl; (with_reducible repeat (first | refine blk_drewN ?_ _ | refine blk_drew ?_ | refine blk_alloc ?_ _)); exact BK130.out) hb); replace HB := bS_ HB hb; (try clear hb ho0); obtain ⟨hcz50_0, hcz50_1, hfz50_0, hfz50_1⟩ := cz2_ BK130) | ((with_reducible refine gate_callee (f := 74) rfl ?_); refine gL_ (some 55) Try.func74 #[.int .i64 ((rd_T70 l0_0 x36_3).f0)] ?_; (with_reducible refine (wal_index.calls ((rd_T70 l0_0 x36_3).f0) true _ A37.out).mono ?_); rintro e w' ⟨rfl, ⟨nd, rfl⟩⟩; refine ⟨_, rfl, ?_⟩; obtain ⟨Ao51, co51, eo51⟩ := Kd.N_slice HO138.out; subst eo51))
              go_roundg k3
              case measure => have := HJ1.out; have := HJ9.out; have := HK3.out; omega
              case rel => exact ⟨(false), (wrap64 (x4_3 + (t136.length : Int))), (wrap64 (x36_3 + 1)), (by first | rfl | (simp; done) | (simp [*]; done)), (by first | rfl | (simp; done) | (simp [*]; done)), (by first | rfl | (simp; done) | (simp [*]; done)), H', ⟨by have := HJ1.out; have := HJ9.out; have := HK3.out; omega⟩, ⟨bA_ BK126⟩, ⟨bl_ HB⟩⟩
            ·replace c38 := Bool.eq_false_iff.mpr c38
             subst c38
             rw [if_neg (show ¬ (false = true) by decide)] at H
             have H' := Aside0.mk H
             clear H
             have p129 : 0 ≤ (x36_3 : Int) := of_decide_eq_true (by first | (with_reducible assumption) | assumption)
             have q129 : x36_3 < (l0_0.length : Int) := of_decide_eq_true (by first | (with_reducible assumption) | assumption)
             obtain ⟨ad129, A129_1, c129_1, e129, hx129_0, hx129_1, hl129_1, hi129_1⟩ := at_T70 HR0_0.out x36_3 p129 q129
             cases e129
             replace hx129_0 := (HB.out.cell (World.block_lt_of_cell? w _ hx129_0)).trans hx129_0
             replace hx129_1 := (HB.out.cell (World.block_lt_of_cell? w _ hx129_1)).trans hx129_1
             have HR129_1 := Aside0.mk hi129_1
             have HC129_1 := Aside0.mk hl129_1
             clear hi129_1 hl129_1
             replace p129 := eq_true p129
             replace q129 := eq_true q129
             go_wp2_with (first | ((with_reducible refine gate_dst (N := 6) rfl ?_); (try (refine gate_guard (by rfl) ?_; dsimp only)); refine bx_ 6 #[.int .i64 0, .slice none 0 0] 70 ?_; intro gb130 hg w52 hbox hb; have BK130 := Aside0.mk (hbox); have GW130 := bG_ HB hg; have GE130 := bG_ HB hg; replace HB := bS_ HB hb; have NB126_130 := nL_ BK126 hg; have NB130_126 := nG_ BK126 hg; replace BK126 := bK_ BK126 hb; clear hb hbox hg; have hnb53 := NB130_126.out; have hnc53 := NB126_130.out; obtain ⟨hcz54_0, hcz54_1, hfz54_0, hfz54_1⟩ := cz2_ BK130) | ((with_reducible refine gate_callee (f := 73) rfl ?_); refine gL_ (some 50) Try.func73 #[.slice A129_1 ((rd_T70 l0_0 x36_3).f1).length c129_1] ?_; (with_reducible refine (wal_records.calls k3 _ _ ((rd_T70 l0_0 x36_3).f1) t136 t139 _ ?_ ?_ A36.out).mono ?_); exact Kd.C_below HR129_1.out (bl_ HB); exact HC129_1.out; rintro e w55 ⟨v137, rfl, ho0, hb⟩; refine ⟨_, rfl, ?_⟩; have HO138 := Aside0.mk (Kd.N_lower (Kd.N_mono (ok' := fun k_ => k_ ≠ gb126 ∧ k_ ≠ gb130) ho0 (fun k_ hk_ => ⟨(Kd.freshB (bA_ BK126) k_ hk_), (Kd.freshB (g := gb130) (o := .cells #[.int .i64 ((rd_T70 l0_0 x36_3).f0), .slice A129_1 ((rd_T70 l0_0 x36_3).f1).length c129_1] 70 (0, 0)) (by (with_reducible repeat (first | refine blk_drewN ?_ _ | refine blk_drew ?_ | refine blk_alloc ?_ _)); refine blk_put (cs := #[.int .i64 ((rd_T70 l0_0 x36_3).f0), .slice none 0 0]) ?_ 1 _ rfl; (with_reducible repeat (first | refine blk_drewN ?_ _ | refine blk_drew ?_ | refine blk_alloc ?_ _)); refine blk_put (cs := #[.int .i64 0, .slice none 0 0]) ?_ 0 _ rfl; (with_reducible repeat (first | refine blk_drewN ?_ _ | refine blk_drew ?_ | refine blk_alloc ?_ _)); exact BK130.out) k_ hk_)⟩)) (bs_ HB)); replace BK126 := bK_ BK126 hb; replace BK130 := Aside0.mk (blk_below (g := gb130) (o := .cells #[.int .i64 ((rd_T70 l0_0 x36_3).f0), .slice A129_1 ((rd_T70 l0_0 x36_3).f1).length c129_1] 70 (0, 0)) (by (with_reducible repeat (first | refine blk_drewN ?_ _ | refine blk_drew ?_ | refine blk_alloc ?_ _)); refine blk_put (cs := #[.int .i64 ((rd_T70 l0_0 x36_3).f0), .slice none 0 0]) ?_ 1 _ rfl; (with_reducible repeat (first | refine blk_drewN ?_ _ | refine blk_drew ?_ | refine blk_alloc ?_ _)); refine blk_put (cs := #[.int .i64 0, .slice none 0 0]) ?_ 0 _ rfl; (with_reducible repeat (first | refine blk_drewN ?_ _ | refine blk_drew ?_ | refine blk_alloc ?_ _)); exact BK130.out) hb); replace HB := bS_ HB hb; (try clear hb ho0); obtain ⟨hcz56_0, hcz56_1, hfz56_0, hfz56_1⟩ := cz2_ BK130) | ((with_reducible refine gate_callee (f := 74) rfl ?_); refine gL_ (some 55) Try.func74 #[.int .i64 ((rd_T70 l0_0 x36_3).f0)] ?_; (with_reducible refine (wal_index.calls ((rd_T70 l0_0 x36_3).f0) false _ A37.out).mono ?_); rintro e w' ⟨rfl, ⟨nd, rfl⟩⟩; refine ⟨_, rfl, ?_⟩; obtain ⟨Ao57, co57, eo57⟩ := Kd.N_slice HO138.out; subst eo57))
             go_roundg k3
             case measure => have := HJ1.out; have := HJ9.out; have := HK3.out; omega
             case rel => exact ⟨(false), (wrap64 (x4_3 + (t136.length : Int))), (wrap64 (x36_3 + 1)), (by first | rfl | (simp; done) | (simp [*]; done)), (by first | rfl | (simp; done) | (simp [*]; done)), (by first | rfl | (simp; done) | (simp [*]; done)), H', ⟨by have := HJ1.out; have := HJ9.out; have := HK3.out; omega⟩, ⟨bA_ BK126⟩, ⟨bl_ HB⟩⟩
          ·replace c19 := Bool.eq_false_iff.mpr c19
           subst c19
           rw [if_neg (show ¬ (false = true) by decide)] at H
           obtain rfl := Option.some.inj H
           have p129 : 0 ≤ (x36_3 : Int) := of_decide_eq_true (by first | (with_reducible assumption) | assumption)
           have q129 : x36_3 < (l0_0.length : Int) := of_decide_eq_true (by first | (with_reducible assumption) | assumption)
           obtain ⟨ad129, A129_1, c129_1, e129, hx129_0, hx129_1, hl129_1, hi129_1⟩ := at_T70 HR0_0.out x36_3 p129 q129
           cases e129
           replace hx129_0 := (HB.out.cell (World.block_lt_of_cell? w _ hx129_0)).trans hx129_0
           replace hx129_1 := (HB.out.cell (World.block_lt_of_cell? w _ hx129_1)).trans hx129_1
           have HR129_1 := Aside0.mk hi129_1
           have HC129_1 := Aside0.mk hl129_1
           clear hi129_1 hl129_1
           replace p129 := eq_true p129
           replace q129 := eq_true q129
           go_wp2_with (first | ((with_reducible refine gate_dst (N := 6) rfl ?_); (try (refine gate_guard (by rfl) ?_; dsimp only)); refine bx_ 6 #[.int .i64 0, .slice none 0 0] 70 ?_; intro gb130 hg w58 hbox hb; have BK130 := Aside0.mk (hbox); have GW130 := bG_ HB hg; have GE130 := bG_ HB hg; replace HB := bS_ HB hb; have NB126_130 := nL_ BK126 hg; have NB130_126 := nG_ BK126 hg; replace BK126 := bK_ BK126 hb; clear hb hbox hg; have hnb59 := NB130_126.out; have hnc59 := NB126_130.out; obtain ⟨hcz60_0, hcz60_1, hfz60_0, hfz60_1⟩ := cz2_ BK130))
           go_ret
           exact ⟨fin_, bl_ HB⟩
         ·rw [if_neg c18] at H
          exact absurd H (by simp)
        ·rw [if_neg c17] at H
         exact absurd H (by simp)
       ·rw [if_neg c16] at H
        have c16b0 : decide (x36_3 < (l0_0.length : Int)) = false := decide_eq_false c16
        clear c16
        by_cases c61 : x3_3 = true
        ·subst c61
         rw [if_pos rfl] at H
         by_cases c62 : x4_3 = a0_1
         ·rw [if_pos c62] at H
          have c62b0 : (x4_3 == a0_1) = true := beq_iff_eq.mpr c62
          have c62b1 : (x4_3 != a0_1) = false := bne_eq_false_iff_eq.mpr c62
          clear c62
          obtain rfl := Option.some.inj H
          obtain ⟨hcz63_0, hcz63_1, hcz63_2, hfz63_0, hfz63_1, hfz63_2⟩ := cz3_ BK126
          go_wp2
          go_ret
          exact ⟨fin_, bl_ HB⟩
         ·rw [if_neg c62] at H
          have c62b0 : (x4_3 == a0_1) = false := beq_eq_false_iff_ne.mpr c62
          have c62b1 : (x4_3 != a0_1) = true := bne_iff_ne.mpr c62
          obtain rfl := Option.some.inj H
          obtain ⟨hcz64_0, hcz64_1, hcz64_2, hfz64_0, hfz64_1, hfz64_2⟩ := cz3_ BK126
          go_wp2
          go_ret
          exact ⟨fin_, bl_ HB⟩
        ·replace c61 := Bool.eq_false_iff.mpr c61
         subst c61
         rw [if_neg (show ¬ (false = true) by decide)] at H
         obtain rfl := Option.some.inj H
         go_wp2
         go_ret
         exact ⟨fin_, bl_ HB⟩
end Go.Proofs.Ytooabchnbmnchaa.Q
namespace Go.Proofs.Ytooabchnbmnchaa.Q
open Go.RowKit Go.Proofs.YtooabchnbmnchaaW.PrintWords Go.Proofs.YtooabchnbmnchaaW.PrintLast Go.Proofs.YtooabchnbmnchaaW.PrintMore
attribute [local go_sem] max2_int min2_int max_two min_two max_three min_three max_four min_four binOp_string_leq binOp_string_geq binOp_string_gtr   -- for this text's walks alone
set_option linter.unusedVariables false
set_option linter.unusedSimpArgs false
def wal_cloneAll.l0 : Nat → List (List Int) → List (List Int) → Int → Int → Option ((List (List Int)))
 | 0, _, _, _, _ => none
 | k + 1, x3, x6, x7, x8 => if x8 < x7 then (if 0 ≤ x8 then (if x8 < (x6.length : Int) then ((bytes_Clone.f (rd_L1 x6 x8)).bind fun t142 => (if x3.length < 5864062014805 then (wal_cloneAll.l0 k (x3 ++ [t142]) x6 x7 (wrap64 (x8 + 1))) else (none))) else (none)) else (none)) else (some x3)
def wal_cloneAll.f (k : Nat) (l0 : List (List Int)) : Option ((List (List Int))) := wal_cloneAll.l0 k ([] : List (List Int)) l0 (l0.length : Int) 0
theorem wal_cloneAll.mono_l : ∀ k, (∀ y0 y1 y2 y3, LeO (wal_cloneAll.l0 k y0 y1 y2 y3) (wal_cloneAll.l0 (k + 1) y0 y1 y2 y3))
 | 0 => fun _ _ _ _ r h => by simp [wal_cloneAll.l0] at h
 | k + 1 => by
  have ih0 := wal_cloneAll.mono_l k
  ·intro y0 y1 y2 y3
   unfold wal_cloneAll.l0
   repeat' first
   | (with_reducible exact ih0 _ _ _ _)
   | (with_reducible exact LeO.refl _)
   | (with_reducible exact LeO.none _)
   | (with_reducible refine LeO.ite ?_ ?_)
   | (with_reducible refine LeO.bind ?_ (fun _ => ?_))
   | exact ih0 _ _ _ _
   | exact LeO.none _
   | refine LeO.ite ?_ ?_
   | refine LeO.bind ?_ (fun _ => ?_)
theorem wal_cloneAll.mono : ∀ a0 k, LeO (wal_cloneAll.f k a0) (wal_cloneAll.f (k + 1) a0) := by
 intro a0 k
 have ih0 := wal_cloneAll.mono_l k
 unfold wal_cloneAll.f
 repeat' first
   | (with_reducible exact ih0 _ _ _ _)
   | (with_reducible exact LeO.refl _)
   | (with_reducible exact LeO.none _)
   | (with_reducible refine LeO.ite ?_ ?_)
   | (with_reducible refine LeO.bind ?_ (fun _ => ?_))
   | exact ih0 _ _ _ _
   | exact LeO.none _
   | refine LeO.ite ?_ ?_
   | refine LeO.bind ?_ (fun _ => ?_)
set_option maxHeartbeats 8000000 in
set_option maxRecDepth 100000 in
theorem wal_cloneAll.calls (k : Nat) (A0 : Option Addr) (c0 : Nat) (l0 : List (List Int)) (r : List (List Int)) (w : World) (hr0 : Kd.C (Kd.slice 5 (Kd.int .u8)) w A0 l0.length l0) (hc0 : l0.length ≤ c0) (h : wal_cloneAll.f k l0 = some r) :
  Calls Try.prog 69 #[.slice A0 l0.length c0] w fun e w' => ∃ v0_ : Value, e = .returned (v0_) ∧ Kd.S (Kd.slice 5 (Kd.int .u8)) 26 w' w.heap.size (fun _ => True) v0_ r ∧ Below w.heap.size w w' := by
 have HR0 := Aside0.mk hr0
 have HC0 := Aside0.mk hc0
 clear hr0 hc0
 have HB := Aside0.mk (Below.refl w.heap.size w)
 have H : (wal_cloneAll.l0 k ([] : List (List Int)) l0 (l0.length : Int) 0) = some r := h
 clear h
 have H' := Aside0.mk H
 clear H
 go_enter Try.func69, Try.ntmps69
 go_wp2
 go_loopg [3, 8] k (fun kq v3 v8 w' => ∃ (x3_1 : List (List Int)) (x8_1 : Int), v8 = .int .i64 x8_1 ∧ Aside0 (wal_cloneAll.l0 kq x3_1 l0 (l0.length : Int) x8_1 = some r) ∧ Aside0 (kq ≤ k) ∧ Aside0 (Kd.S (Kd.slice 5 (Kd.int .u8)) 26 w' w.heap.size (fun _ => True) v3 x3_1) ∧ Aside0 (Below w.heap.size w w'))
 case atStart => exact ⟨(([] : List (List Int))), (0), (by first | rfl | (simp; done) | (simp [*]; done)), H', ⟨Nat.le_refl _⟩, ⟨nil_⟩, ⟨bl_ HB⟩⟩
 case round =>
  clear H'
  obtain ⟨x3_1, x8_1, rfl, HA, HK1, HO_3, HB⟩ := hrel
  cases gk with
  | zero => exact absurd HA.out (by simp [wal_cloneAll.l0])
  | succ k1 =>
   have H := HA.out
   clear HA
   simp only [wal_cloneAll.l0] at H
   by_cases c2 : x8_1 < (l0.length : Int)
   ·rw [if_pos c2] at H
    have c2b0 : decide (x8_1 < (l0.length : Int)) = true := decide_eq_true c2
    clear c2
    by_cases c3 : 0 ≤ x8_1
    ·rw [if_pos c3] at H
     have c3b0 : decide (0 ≤ x8_1) = true := decide_eq_true c3
     clear c3
     by_cases c4 : x8_1 < (l0.length : Int)
     ·rw [if_pos c4] at H
      have c4b0 : decide (x8_1 < (l0.length : Int)) = true := decide_eq_true c4
      clear c4
      replace H := Option.bind_eq_some_iff.mp H
      obtain ⟨t142, A50, H⟩ := H
      try dsimp only at H
      have A5 := Aside0.mk A50
      clear A50
      by_cases c6 : x3_1.length < 5864062014805
      ·rw [if_pos c6] at H
       have LMc6 := Aside0.mk c6
       clear c6
       obtain ⟨y145, hy145⟩ : ∃ y_ : List (List Int), y_ = (x3_1 ++ [t142]) := ⟨_, rfl⟩
       replace H : (wal_cloneAll.l0 k1 y145 l0 (l0.length : Int) (wrap64 (x8_1 + 1))) = some r := by first | (rw [hy145]; with_reducible exact H) | (have H2_ := (Option.bind_some _ _).symm.trans H; rw [hy145]; with_reducible exact H2_) | (have H2_ := (Option.bind_some _ _).symm.trans H; with_reducible exact H2_) | with_reducible exact H | (rw [hy145]; exact H) | exact H
       have Ny145 := Aside0.mk hy145
       clear hy145
       have H' := Aside0.mk H
       clear H
       have p141 : 0 ≤ (x8_1 : Int) := of_decide_eq_true (by first | (with_reducible assumption) | assumption)
       have q141 : x8_1 < (l0.length : Int) := of_decide_eq_true (by first | (with_reducible assumption) | assumption)
       obtain ⟨ad141, A141_0, c141_0, e141, hx141_0, hl141_0, hi141_0⟩ := at_L1 HR0.out x8_1 p141 q141
       cases e141
       replace hx141_0 := (HB.out.cell (World.block_lt_of_cell? w _ hx141_0)).trans hx141_0
       have HR141_0 := Aside0.mk hi141_0
       have HC141_0 := Aside0.mk hl141_0
       clear hi141_0 hl141_0
       replace p141 := eq_true p141
       replace q141 := eq_true q141
       go_wp2_with (first | ((with_reducible refine gate_callee (f := 75) rfl ?_); refine gL_ (some 14) Try.func75 #[.slice A141_0 (rd_L1 l0 x8_1).length c141_0] ?_; (with_reducible refine (bytes_Clone.calls _ _ (rd_L1 l0 x8_1) t142 _ ?_ ?_ A5.out).mono ?_); exact cB_ HR141_0 HB; exact HC141_0.out; rintro e w7 ⟨v143, rfl, ho0, hb⟩; refine ⟨_, rfl, ?_⟩; replace HO_3 := Aside0.mk (Kd.S_elder' (sA_ HO_3) (Kd.R_base ho0) hb); have HO144 := Aside0.mk (Kd.R_lower ho0 (bs_ HB)); replace HB := bS_ HB hb; (try clear hb ho0); obtain ⟨Ao9, co9, eo9⟩ := Kd.R_slice HO144.out; subst eo9) | ((with_reducible refine gate_builtin (b := .append) (xs := #[.tmp 12, .tmp 15]) rfl ?_); at_builtin; refine Kd.S_append (Kd.slice 5 (Kd.int .u8)) (w0 := w) w.heap.size rfl (.tmp 12) (.tmp 15) 56 26 (.slice none 0 0) 24 rfl Try.underlying56 info26 rfl (by decide) (by omega) u3 x3_1 t142 [.slice Ao9 t142.length co9] (fun _ => True) (fun k_ => some k_ = (.slice Ao9 t142.length co9 : Value).ownBlock) rfl rfl ?aP (fun k_ hk_ => ((Kd.R_mono (ok' := fun k_ => ((fun _ => True)) k_ ∧ some k_ ≠ (u3 : Value).ownBlock) (Kd.R_apart' (HO144.out) (Kd.S_typed HO_3.out) (by decide)) (fun k_ hk => ⟨trivial, hk.2⟩))).1 k_ hk_.symm) ?aF ?aO ?aB ?aS ?aL ?_; (case aP => exact Kd.M_row (Kd.R_mono (Kd.R_tight rfl (Kd.R_mono (ok' := fun k_ => ((fun _ => True)) k_ ∧ some k_ ≠ (u3 : Value).ownBlock) (Kd.R_apart' (HO144.out) (Kd.S_typed HO_3.out) (by decide)) (fun k_ hk => ⟨trivial, hk.2⟩))) (fun _ h_ => h_))); (case aB => exact (bl_ HB)); (case aF => exact (fun _ _ => trivial)); (case aO => exact (by (with_reducible repeat (first | apply Kd.S_alloc | apply Kd.S_drewN | apply Kd.S_drew)); exact Kd.S_mono HO_3.out (fun k_ hk => ⟨trivial, fun e_ => hk.2 e_⟩))); (case aS => exact (bs_ HB)); (case aL => have := LMc6.out; omega); intro v146 w8 ho hb hg hat; rw [← Ny145.out] at ho; replace HB := Aside0.mk (hb); have HO147 := Aside0.mk (ho); clear HO_3 HO144; clear ho hb hg hat))
       go_roundg k1
       case measure => have := HK1.out; omega
       case rel => exact ⟨(y145), (wrap64 (x8_1 + 1)), (by first | rfl | (simp; done) | (simp [*]; done)), H', ⟨by have := HK1.out; omega⟩, ⟨sA_ HO147⟩, ⟨bl_ HB⟩⟩
      ·rw [if_neg c6] at H
       exact absurd H (by simp)
     ·rw [if_neg c4] at H
      exact absurd H (by simp)
    ·rw [if_neg c3] at H
     exact absurd H (by simp)
   ·rw [if_neg c2] at H
    have c2b0 : decide (x8_1 < (l0.length : Int)) = false := decide_eq_false c2
    clear c2
    obtain rfl := Option.some.inj H
    go_wp2
    go_ret
    exact ⟨_, fin_, sA_ HO_3, bl_ HB⟩
end Go.Proofs.Ytooabchnbmnchaa.Q
