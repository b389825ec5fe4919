-- Laid by this session's own program (wip/tools) out of the translation; Lean checks it. Thinned, shortened and merged for this claim.
import Derived.Test.YtooabchnbmnchaaQ0
import Derived.Test.YtooabchnbmnchaaSq
import Derived.Test.YtooabchnbmnchaaQ17
import Derived.Test.YtooabchnbmnchaaQ26
namespace Go.Proofs.Ytooabchnbmnchaa.Q
open Go.RowKit Go.Proofs.YtooabchnbmnchaaW.PrintWords Go.Proofs.YtooabchnbmnchaaW.PrintLast Go.Proofs.YtooabchnbmnchaaW.PrintMore
attribute [local go_sem] max2_int min2_int max_two min_two max_three min_three max_four min_four binOp_string_leq binOp_string_geq binOp_string_gtr   -- for this text's walks alone
set_option linter.unusedVariables false
set_option linter.unusedSimpArgs false
mutual
def transeptlaw08_laid.l0 : Nat → List (List (List Int)) → Int → List (List Int) → Int → List (S70) → Int → List (List Int) → Option ((List (S70)) × Int × (List (List Int)) × (List (List Int)) × Bool)
 | 0, _, _, _, _, _, _, _ => none
 | k + 1, x0, x1, x8, x9, x352000, x352001, x352002 => if x9 < (x0.length : Int) then (transeptlaw08_laid.j1 k x0 x1 x8 x9 (decide (x9 < 30)) x352000 x352001 x352002) else (transeptlaw08_laid.j1 k x0 x1 x8 x9 false x352000 x352001 x352002)
def transeptlaw08_laid.j1 : Nat → List (List (List Int)) → Int → List (List Int) → Int → Bool → List (S70) → Int → List (List Int) → Option ((List (S70)) × Int × (List (List Int)) × (List (List Int)) × Bool)
 | 0, _, _, _, _, _, _, _, _ => none
 | k + 1, x0, x1, x8, x9, x21, x352000, x352001, x352002 => if x21 = true then (if 0 ≤ x9 then (if x9 < (x0.length : Int) then (if (wrap64 ((x8.length : Int) + ((rd_L3 x0 x9).length : Int))) > 4000 then (some (x352000, x352001, x352002, x8, true)) else ((wal_Append.f k x352000 x352001 x352002 (rd_L3 x0 x9)).bind fun bt354 => ((transeptlaw08_num.f bt354.2.2.2).bind fun t363 => (if t363 = 0 then ((wal_Flush.f k bt354.1 bt354.2.1 bt354.2.2.1 x1).bind fun bt364 => ((transeptlaw08_num.f bt364.2.2.2).bind fun t373 => (if t373 = 0 then (if x8.length + (rd_L3 x0 x9).length < 5864062014805 then (transeptlaw08_laid.l0 k x0 x1 (x8 ++ (rd_L3 x0 x9)) (wrap64 (x9 + 1)) bt364.1 bt364.2.1 bt364.2.2.1) else (none)) else (some (x352000, x352001, x352002, x8, false))))) else (transeptlaw08_laid.l0 k x0 x1 x8 (wrap64 (x9 + 1)) x352000 x352001 x352002))))) else (none)) else (none)) else (some (x352000, x352001, x352002, x8, true))
end
def transeptlaw08_laid.f (k : Nat) (l0 : List (List (List Int))) (a1 : Int) : Option ((List (S70)) × Int × (List (List Int)) × (List (List Int)) × Bool) := transeptlaw08_laid.l0 k l0 a1 ([] : List (List Int)) 0 ([] : List (S70)) 0 ([] : List (List Int))
theorem transeptlaw08_laid.mono_l : ∀ k, (∀ y0 y1 y2 y3 y4 y5 y6, LeO (transeptlaw08_laid.l0 k y0 y1 y2 y3 y4 y5 y6) (transeptlaw08_laid.l0 (k + 1) y0 y1 y2 y3 y4 y5 y6)) ∧ (∀ y0 y1 y2 y3 y4 y5 y6 y7, LeO (transeptlaw08_laid.j1 k y0 y1 y2 y3 y4 y5 y6 y7) (transeptlaw08_laid.j1 (k + 1) y0 y1 y2 y3 y4 y5 y6 y7))
 | 0 => ⟨fun _ _ _ _ _ _ _ r h => by simp [transeptlaw08_laid.l0] at h, fun _ _ _ _ _ _ _ _ r h => by simp [transeptlaw08_laid.j1] at h⟩
 | k + 1 => by
  obtain ⟨ih0, ih1⟩ := transeptlaw08_laid.mono_l k
  refine ⟨?_, ?_⟩
  ·intro y0 y1 y2 y3 y4 y5 y6
   unfold transeptlaw08_laid.l0
   repeat' first
   | (with_reducible exact ih0 _ _ _ _ _ _ _)
   | (with_reducible exact ih1 _ _ _ _ _ _ _ _)
   | (with_reducible exact wal_Append.mono _ _ _ _ _)
   | (with_reducible exact wal_Flush.mono _ _ _ _ _)
   | (with_reducible exact LeO.refl _)
   | (with_reducible exact LeO.none _)
   | (with_reducible refine LeO.ite ?_ ?_)
   | (with_reducible refine LeO.bind ?_ (fun _ => ?_))
   | exact ih0 _ _ _ _ _ _ _
   | exact ih1 _ _ _ _ _ _ _ _
   | exact wal_Append.mono _ _ _ _ _
   | exact wal_Flush.mono _ _ _ _ _
   | exact LeO.none _
   | refine LeO.ite ?_ ?_
   | refine LeO.bind ?_ (fun _ => ?_)
  ·intro y0 y1 y2 y3 y4 y5 y6 y7
   unfold transeptlaw08_laid.j1
   repeat' first
   | (with_reducible exact ih0 _ _ _ _ _ _ _)
   | (with_reducible exact ih1 _ _ _ _ _ _ _ _)
   | (with_reducible exact wal_Append.mono _ _ _ _ _)
   | (with_reducible exact wal_Flush.mono _ _ _ _ _)
   | (with_reducible exact LeO.refl _)
   | (with_reducible exact LeO.none _)
   | (with_reducible refine LeO.ite ?_ ?_)
   | (with_reducible refine LeO.bind ?_ (fun _ => ?_))
   | exact ih0 _ _ _ _ _ _ _
   | exact ih1 _ _ _ _ _ _ _ _
   | exact wal_Append.mono _ _ _ _ _
   | exact wal_Flush.mono _ _ _ _ _
   | exact LeO.none _
   | refine LeO.ite ?_ ?_
   | refine LeO.bind ?_ (fun _ => ?_)
theorem transeptlaw08_laid.mono : ∀ a0 a1 k, LeO (transeptlaw08_laid.f k a0 a1) (transeptlaw08_laid.f (k + 1) a0 a1) := by
 intro a0 a1 k
 obtain ⟨ih0, ih1⟩ := transeptlaw08_laid.mono_l k
 unfold transeptlaw08_laid.f
 repeat' first
   | (with_reducible exact ih0 _ _ _ _ _ _ _)
   | (with_reducible exact ih1 _ _ _ _ _ _ _ _)
   | (with_reducible exact wal_Append.mono _ _ _ _ _)
   | (with_reducible exact wal_Flush.mono _ _ _ _ _)
   | (with_reducible exact LeO.refl _)
   | (with_reducible exact LeO.none _)
   | (with_reducible refine LeO.ite ?_ ?_)
   | (with_reducible refine LeO.bind ?_ (fun _ => ?_))
   | exact ih0 _ _ _ _ _ _ _
   | exact ih1 _ _ _ _ _ _ _ _
   | exact wal_Append.mono _ _ _ _ _
   | exact wal_Flush.mono _ _ _ _ _
   | exact LeO.none _
   | refine LeO.ite ?_ ?_
   | refine LeO.bind ?_ (fun _ => ?_)
def transeptlaw08_laid.T7 : Bool × List (List Nat × List Nat) := (true, [([], []), ([], []), ([], []), ([1, 2], [1, 2]), ([3], [3]), ([0, 4], [0, 4]), ([5], [5]), ([6], [6]), ([6], [6]), ([], []), ([9, 7, 5, 0, 1, 2, 3, 4, 5, 6, 7, 9], [7, 9]), ([8, 10, 0, 1, 2, 3, 4, 5, 6, 7, 8, 9, 10], [8])])
def transeptlaw08_laid.B7 : List Nat := [0, 0, 0, 6, 14, 31, 63, 127, 127, 0, 767, 2047]
theorem transeptlaw08_laid.tab7 : rtab .any (opsOf Try.f40 7) = transeptlaw08_laid.T7 := by kernel_rfl
theorem transeptlaw08_laid.bits7 : waitsOk transeptlaw08_laid.T7.2 transeptlaw08_laid.B7 = true := by kernel_rfl
set_option maxHeartbeats 8000000 in
set_option maxRecDepth 100000 in
theorem transeptlaw08_laid.calls (k : Nat) (P0_ : Nat → Prop) (A0 : Option Addr) (c0 : Nat) (l0 : List (List (List Int))) (a1 : Int) (r1 : List (S70)) (r2 : Int) (r3 : List (List Int)) (r4 : List (List Int)) (r5 : Bool) (w : World) (hs0 : Kd.V (Kd.slice 26 (Kd.slice 5 (Kd.int .u8))) 56 w w.heap.size (fun k_ => P0_ k_) (.slice A0 l0.length c0) l0) (h : transeptlaw08_laid.f k l0 a1 = some (r1, r2, r3, r4, r5)) :
  Calls Try.prog 40 #[.slice A0 l0.length c0, .int .i64 a1] w fun e w' => ∃ v0_ v2_ v3_ : Value, e = .returned (.tuple #[.agg #[v0_, .int .i64 r2, v2_], v3_, .bool r5]) ∧ Kd.N k70 70 w' w.heap.size (fun k_ => (P0_ k_ ∨ w.heap.size ≤ k_) ∧ some k_ ≠ (v2_ : Value).ownBlock ∧ some k_ ≠ (v3_ : Value).ownBlock) v0_ r1 ∧ Kd.N (Kd.slice 5 (Kd.int .u8)) 26 w' w.heap.size (fun k_ => (P0_ k_ ∨ w.heap.size ≤ k_) ∧ some k_ ≠ (v0_ : Value).ownBlock ∧ some k_ ≠ (v3_ : Value).ownBlock) v2_ r3 ∧ Kd.N (Kd.slice 5 (Kd.int .u8)) 26 w' w.heap.size (fun k_ => (P0_ k_ ∨ w.heap.size ≤ k_) ∧ some k_ ≠ (v0_ : Value).ownBlock ∧ some k_ ≠ (v2_ : Value).ownBlock) v3_ r4 ∧ Below w.heap.size w w' := by
 have hu61 := Try.underlying61
 have HO0 := Aside0.mk (show Kd.V (Kd.slice 26 (Kd.slice 5 (Kd.int .u8))) 56 w w.heap.size (fun k_ => (P0_ k_ ∨ w.heap.size ≤ k_)) (.slice A0 l0.length c0) l0 from Kd.V_mono hs0 (fun k_ hk => .inl hk))
 have HB := Aside0.mk (Below.refl w.heap.size w)
 have H : (transeptlaw08_laid.l0 k l0 a1 ([] : List (List Int)) 0 ([] : List (S70)) 0 ([] : List (List Int))) = some (r1, r2, r3, r4, r5) := h
 clear h
 have H' := Aside0.mk H
 clear H
 go_enter Try.func40, Try.ntmps40
 go_wp2_with (first | ((with_reducible refine gate_dst (N := 4) rfl ?_); refine bx_ 4 #[.slice none 0 0, .int .i64 0, .slice none 0 0] 61 ?_; intro gb350 hg w3 hbox hb; replace HO0 := Aside0.mk (Kd.V_below (Kd.V_elderB (vA_ HO0) gb350 (Nat.le_of_eq hg.symm)) hb); have BK350 := Aside0.mk (hbox); have GW350 := bG_ HB hg; have GE350 := bG_ HB hg; replace HB := bS_ HB hb; clear hb hbox hg) | ((with_reducible refine gate_dst (N := 7) rfl ?_); refine bx_ 7 #[.slice none 0 0, .int .i64 0, .slice none 0 0] 61 ?_; intro gb351 hg w4 hbox hb; replace HO0 := Aside0.mk (Kd.V_below (Kd.V_elderB (vA_ HO0) gb351 (Nat.le_of_eq hg.symm)) hb); have BK351 := Aside0.mk (hbox); have GW351 := bG_ HB hg; have GE351 := bG_ HB hg; replace HB := bS_ HB hb; have NB350_351 := nL_ BK350 hg; have NB351_350 := nG_ BK350 hg; replace BK350 := bK_ BK350 hb; clear hb hbox hg))
 go_loopg [8, 9] k (fun kq v8 v9 w' => ∃ (x8_1 : List (List Int)) (x9_1 : Int) (x351001_1 : Int) (x352000_1 : List (S70)) (x352001_1 : Int) (x352002_1 : List (List Int)) (u352000 : Value) (u352002 : Value), v9 = .int .i64 x9_1 ∧ Aside0 (transeptlaw08_laid.l0 kq l0 a1 x8_1 x9_1 x352000_1 x352001_1 x352002_1 = some (r1, r2, r3, r4, r5)) ∧ Aside0 (kq ≤ k) ∧ Aside0 (Kd.V (Kd.slice 26 (Kd.slice 5 (Kd.int .u8))) 56 w' w.heap.size (fun k_ => (P0_ k_ ∨ w.heap.size ≤ k_) ∧ some k_ ≠ (v8 : Value).ownBlock ∧ some k_ ≠ (u352000 : Value).ownBlock ∧ some k_ ≠ (u352002 : Value).ownBlock ∧ k_ ≠ gb350 ∧ k_ ≠ gb351) (.slice A0 l0.length c0) l0) ∧ Aside0 (Kd.N (Kd.slice 5 (Kd.int .u8)) 26 w' w.heap.size (fun k_ => (P0_ k_ ∨ w.heap.size ≤ k_) ∧ some k_ ≠ (u352000 : Value).ownBlock ∧ some k_ ≠ (u352002 : Value).ownBlock ∧ k_ ≠ gb350 ∧ k_ ≠ gb351) v8 x8_1) ∧ Aside0 (Kd.N k70 70 w' w.heap.size (fun k_ => (P0_ k_ ∨ w.heap.size ≤ k_) ∧ some k_ ≠ (v8 : Value).ownBlock ∧ some k_ ≠ (u352002 : Value).ownBlock ∧ k_ ≠ gb350 ∧ k_ ≠ gb351) u352000 x352000_1) ∧ Aside0 (Kd.N (Kd.slice 5 (Kd.int .u8)) 26 w' w.heap.size (fun k_ => (P0_ k_ ∨ w.heap.size ≤ k_) ∧ some k_ ≠ (v8 : Value).ownBlock ∧ some k_ ≠ (u352000 : Value).ownBlock ∧ k_ ≠ gb350 ∧ k_ ≠ gb351) u352002 x352002_1) ∧ Aside0 (w'.heap[gb350]? = some (.cells #[(.slice none 0 0), .int .i64 x351001_1, (.slice none 0 0)] 61 (0, 0))) ∧ Aside0 (w'.heap[gb351]? = some (.cells #[u352000, .int .i64 x352001_1, u352002] 61 (0, 0))) ∧ Aside0 (Below w.heap.size w w'))
 case atStart => exact ⟨(([] : List (List Int))), (0), (0), (([] : List (S70))), (0), (([] : List (List Int))), (.slice none 0 0), (.slice none 0 0), (by first | rfl | (simp; done) | (simp [*]; done)), H', ⟨Nat.le_refl _⟩, ⟨by (with_reducible repeat (first | apply Kd.V_alloc | apply Kd.V_drewN | apply Kd.V_drew)); exact Kd.V_mono HO0.out (fun _ hk => ⟨hk.1.1, ⟨(by simp [Value.ownBlock]), ⟨(by simp [Value.ownBlock]), ⟨(by simp [Value.ownBlock]), ⟨hk.1.2, hk.2⟩⟩⟩⟩⟩)⟩, ⟨nil_⟩, ⟨nil_⟩, ⟨nil_⟩, ⟨bA_ BK350⟩, ⟨bA_ BK351⟩, ⟨bl_ HB⟩⟩
 case round =>
  clear H'
  try clear p2
  try clear c4
  obtain ⟨x8_1, x9_1, x351001_1, x352000_1, x352001_1, x352002_1, u352000, u352002, rfl, HA, HK1, HO_0, HO_8, HO_352000, HO_352002, BK350, BK351, HB⟩ := hrel
  cases gk with
  | zero => exact absurd HA.out (by simp [transeptlaw08_laid.l0])
  | succ k1 =>
   have H := HA.out
   clear HA
   simp only [transeptlaw08_laid.l0] at H
   have HC5 := Aside0.mk H
   clear H
   go_upto_region 4 with (fail)
   go_cut [21] (fun v21 wc => ∃ (kq : Nat) (x21_4 : Bool), v21 = .bool x21_4 ∧ Aside0 (transeptlaw08_laid.j1 kq l0 a1 x8_1 x9_1 x21_4 x352000_1 x352001_1 x352002_1 = some (r1, r2, r3, r4, r5)) ∧ Aside0 (kq ≤ k1) ∧ Aside0 (Kd.V (Kd.slice 26 (Kd.slice 5 (Kd.int .u8))) 56 wc w.heap.size (fun k_ => (P0_ k_ ∨ w.heap.size ≤ k_) ∧ some k_ ≠ (u8 : Value).ownBlock ∧ some k_ ≠ (u352000 : Value).ownBlock ∧ some k_ ≠ (u352002 : Value).ownBlock ∧ k_ ≠ gb350 ∧ k_ ≠ gb351) (.slice A0 l0.length c0) l0) ∧ Aside0 (Kd.N (Kd.slice 5 (Kd.int .u8)) 26 wc w.heap.size (fun k_ => (P0_ k_ ∨ w.heap.size ≤ k_) ∧ some k_ ≠ (u352000 : Value).ownBlock ∧ some k_ ≠ (u352002 : Value).ownBlock ∧ k_ ≠ gb350 ∧ k_ ≠ gb351) u8 x8_1) ∧ Aside0 (Kd.N k70 70 wc w.heap.size (fun k_ => (P0_ k_ ∨ w.heap.size ≤ k_) ∧ some k_ ≠ (u8 : Value).ownBlock ∧ some k_ ≠ (u352002 : Value).ownBlock ∧ k_ ≠ gb350 ∧ k_ ≠ gb351) u352000 x352000_1) ∧ Aside0 (Kd.N (Kd.slice 5 (Kd.int .u8)) 26 wc w.heap.size (fun k_ => (P0_ k_ ∨ w.heap.size ≤ k_) ∧ some k_ ≠ (u8 : Value).ownBlock ∧ some k_ ≠ (u352000 : Value).ownBlock ∧ k_ ≠ gb350 ∧ k_ ≠ gb351) u352002 x352002_1) ∧ Aside0 (wc.heap[gb350]? = some (.cells #[(.slice none 0 0), .int .i64 x351001_1, (.slice none 0 0)] 61 (0, 0))) ∧ Aside0 (wc.heap[gb351]? = some (.cells #[u352000, .int .i64 x352001_1, u352002] 61 (0, 0))) ∧ Aside0 (Below w.heap.size w wc))
   case first =>
    have H := HC5.out
    clear HC5
    by_cases c6 : x9_1 < (l0.length : Int)
    ·rw [if_pos c6] at H
     have c6b0 : decide (x9_1 < (l0.length : Int)) = true := decide_eq_true c6
     clear c6
     (first | rw [c6b0] | (simp only [i64_w, i32_w]; rw [c6b0]) | skip)
     have H' := Aside0.mk H
     clear H
     go_wp2
     go_meet
     case rel => exact ⟨_, (decide (x9_1 < 30)), (by first | rfl | (simp; done) | (simp [*]; done)), H', ⟨by have := HK1.out; first | omega | exact Nat.le_refl _⟩, ⟨vA_ HO_0⟩, ⟨nA_ HO_8⟩, ⟨nA_ HO_352000⟩, ⟨nA_ HO_352002⟩, ⟨bA_ BK350⟩, ⟨bA_ BK351⟩, ⟨bl_ HB⟩⟩
    ·rw [if_neg c6] at H
     have c6b0 : decide (x9_1 < (l0.length : Int)) = false := decide_eq_false c6
     clear c6
     (first | rw [c6b0] | (simp only [i64_w, i32_w]; rw [c6b0]) | skip)
     have H' := Aside0.mk H
     clear H
     go_wp2
     go_meet
     case rel => exact ⟨_, (false), (by first | rfl | (simp; done) | (simp [*]; done)), H', ⟨by have := HK1.out; first | omega | exact Nat.le_refl _⟩, ⟨vA_ HO_0⟩, ⟨nA_ HO_8⟩, ⟨nA_ HO_352000⟩, ⟨nA_ HO_352002⟩, ⟨bA_ BK350⟩, ⟨bA_ BK351⟩, ⟨bl_ HB⟩⟩
   case rest =>
    clear HC5
    try clear p2
    try clear c4
    try clear c6
    try clear c6b0
    try clear p2
    obtain ⟨kq, x21_4, rfl, HA, HJ4, HO_0, HO_8, HO_352000, HO_352002, BK350, BK351, HB⟩ := hcut
    cases kq with
    | zero => exact absurd HA.out (by simp [transeptlaw08_laid.j1])
    | succ kj4 =>
     have H := HA.out
     clear HA
     simp only [transeptlaw08_laid.j1] at H
     by_cases c7 : x21_4 = true
     ·subst c7
      rw [if_pos rfl] at H
      by_cases c8 : 0 ≤ x9_1
      ·rw [if_pos c8] at H
       have c8b0 : decide (0 ≤ x9_1) = true := decide_eq_true c8
       clear c8
       by_cases c9 : x9_1 < (l0.length : Int)
       ·rw [if_pos c9] at H
        have c9b0 : decide (x9_1 < (l0.length : Int)) = true := decide_eq_true c9
        clear c9
        by_cases c10 : (wrap64 ((x8_1.length : Int) + ((rd_L3 l0 x9_1).length : Int))) > 4000
        ·rw [if_pos c10] at H
         have c10b0 : decide (4000 < (wrap64 ((x8_1.length : Int) + ((rd_L3 l0 x9_1).length : Int)))) = true := decide_eq_true c10
         clear c10
         simp only [Option.some.injEq, Prod.mk.injEq] at H
         obtain ⟨rfl, rfl, rfl, rfl, rfl⟩ := H
         obtain ⟨Ao11, co11, eo11⟩ := Kd.N_slice HO_8.out
         subst eo11
         have p352 : 0 ≤ (x9_1 : Int) := of_decide_eq_true (by first | (with_reducible assumption) | assumption)
         have q352 : x9_1 < (l0.length : Int) := of_decide_eq_true (by first | (with_reducible assumption) | assumption)
         obtain ⟨ad352, A352_0, c352_0, e352, hx352_0, hl352_0, hi352_0⟩ := at_L3 (Kd.V_reads' HO_0.out).2.2 x9_1 p352 q352
         cases e352
         obtain ⟨ce352, hce352, hMe352, hcc352⟩ := Kd.V_get HO_0.out [] x9_1 p352 (by first | exact q352 | exact of_decide_eq_true (by first | (with_reducible assumption) | assumption) | (have e_ := (Kd.V_reads' HO_0.out).1; omega))
         obtain ⟨ua352_0, uc352_0, rfl, ul352_0, ge352_0⟩ := Kd.FK_slice_open hMe352
         have hv352_0 := hcc352 0 _ rfl
         rw [Nat.add_zero, show ((Kd.slice 26 (Kd.slice 5 (Kd.int .u8)))).sz = 1 from rfl, Nat.mul_one] at hv352_0
         replace hv352_0 := Option.some.inj (hv352_0.symm.trans hx352_0)
         injection hv352_0 with hva_ hvn_ hvc_
         rw [hva_] at ge352_0
         rw [hvc_] at ul352_0
         have HL352_0 := Aside0.mk (show Kd.V (Kd.slice 5 (Kd.int .u8)) 26 _ w.heap.size _ _ (rd_L3 l0 x9_1) from Kd.V_mk ul352_0 ge352_0)
         clear hva_ hvn_ hvc_ ge352_0 ul352_0
         clear hcc352 hce352
         have HR352_0 := Aside0.mk hi352_0
         have HC352_0 := Aside0.mk hl352_0
         clear hi352_0 hl352_0
         replace p352 := eq_true p352
         replace q352 := eq_true q352
         have hnb12 := NB351_350.out
         have hnc12 := NB350_351.out
         obtain ⟨hcz13_0, hcz13_1, hcz13_2, hfz13_0, hfz13_1, hfz13_2⟩ := cz3_ BK351
         obtain ⟨Ao14, co14, eo14⟩ := Kd.N_slice HO_352000.out
         subst eo14
         obtain ⟨hcz15_0, hcz15_1, hcz15_2, hfz15_0, hfz15_1, hfz15_2⟩ := cz3_ BK350
         obtain ⟨Ao16, co16, eo16⟩ := Kd.N_slice HO_352002.out
         subst eo16
         go_wp2
         refine bodyPost_ret (results_ctt rfl _ _ gb350 61 #[.slice Ao14 x352000_1.length co14, .int .i64 x352001_1, .slice Ao16 x352002_1.length co16] (0, 0) _ rfl (by (with_reducible repeat (first | refine blk_drewN ?_ _ | refine blk_drew ?_ | refine blk_alloc ?_ _)); refine blk_put (cs := #[.slice Ao14 x352000_1.length co14, .int .i64 x352001_1, .slice none 0 0]) ?_ 2 _ rfl; (with_reducible repeat (first | refine blk_drewN ?_ _ | refine blk_drew ?_ | refine blk_alloc ?_ _)); refine blk_put (cs := #[.slice Ao14 x352000_1.length co14, .int .i64 x351001_1, .slice none 0 0]) ?_ 1 _ rfl; (with_reducible repeat (first | refine blk_drewN ?_ _ | refine blk_drew ?_ | refine blk_alloc ?_ _)); refine blk_put (cs := #[.slice none 0 0, .int .i64 x351001_1, .slice none 0 0]) ?_ 0 _ rfl; (with_reducible repeat (first | refine blk_drewN ?_ _ | refine blk_drew ?_ | refine blk_alloc ?_ _)); exact BK350.out) Try.underlying61 rfl (by kernel_rfl)) rfl ?_
         exact ⟨_, _, _, fin_, Kd.N_mono (nD_ HO_352000 (fun k_ hk => hk.2.2.2.1)) (fun _ hk => ⟨hk.1.1, ⟨hk.1.2.2.1, hk.1.2.1⟩⟩), Kd.N_mono (nD_ HO_352002 (fun k_ hk => hk.2.2.2.1)) (fun _ hk => ⟨hk.1.1, ⟨hk.1.2.2.1, hk.1.2.1⟩⟩), Kd.N_mono (nD_ HO_8 (fun k_ hk => hk.2.2.2.1)) (fun _ hk => ⟨hk.1.1, ⟨hk.1.2.1, hk.1.2.2.1⟩⟩), bl_ HB⟩
        ·rw [if_neg c10] at H
         have c10b0 : decide (4000 < (wrap64 ((x8_1.length : Int) + ((rd_L3 l0 x9_1).length : Int)))) = false := decide_eq_false c10
         clear c10
         replace H := Option.bind_eq_some_iff.mp H
         obtain ⟨⟨t354, t357, t358, t361⟩, A170, H⟩ := H
         try dsimp only at H
         have A17 := Aside0.mk A170
         clear A170
         replace H := Option.bind_eq_some_iff.mp H
         obtain ⟨t363, A180, H⟩ := H
         try dsimp only at H
         have A18 := Aside0.mk A180
         clear A180
         by_cases c19 : t363 = 0
         ·rw [if_pos c19] at H
          have c19b0 : (t363 == 0) = true := beq_iff_eq.mpr c19
          have c19b1 : (t363 != 0) = false := bne_eq_false_iff_eq.mpr c19
          clear c19
          replace H := Option.bind_eq_some_iff.mp H
          obtain ⟨⟨t364, t367, t368, t371⟩, A200, H⟩ := H
          try dsimp only at H
          have A20 := Aside0.mk A200
          clear A200
          replace H := Option.bind_eq_some_iff.mp H
          obtain ⟨t373, A210, H⟩ := H
          try dsimp only at H
          have A21 := Aside0.mk A210
          clear A210
          by_cases c22 : t373 = 0
          ·rw [if_pos c22] at H
           have c22b0 : (t373 == 0) = true := beq_iff_eq.mpr c22
           have c22b1 : (t373 != 0) = false := bne_eq_false_iff_eq.mpr c22
           clear c22
           by_cases c23 : x8_1.length + (rd_L3 l0 x9_1).length < 5864062014805
           ·rw [if_pos c23] at H
            have LMc23 := Aside0.mk c23
            clear c23
            obtain ⟨y375, hy375⟩ : ∃ y_ : List (List Int), y_ = (x8_1 ++ (rd_L3 l0 x9_1)) := ⟨_, rfl⟩
            replace H : (transeptlaw08_laid.l0 kj4 l0 a1 y375 (wrap64 (x9_1 + 1)) t364 t367 t368) = some (r1, r2, r3, r4, r5) := by first | (rw [hy375]; with_reducible exact H) | (have H2_ := (Option.bind_some _ _).symm.trans H; rw [hy375]; with_reducible exact H2_) | (have H2_ := (Option.bind_some _ _).symm.trans H; with_reducible exact H2_) | with_reducible exact H | (rw [hy375]; exact H) | exact H
            have Ny375 := Aside0.mk hy375
            clear hy375
            have H' := Aside0.mk H
            clear H
            obtain ⟨Ao24, co24, eo24⟩ := Kd.N_slice HO_8.out
            subst eo24
            have p352 : 0 ≤ (x9_1 : Int) := of_decide_eq_true (by first | (with_reducible assumption) | assumption)
            have q352 : x9_1 < (l0.length : Int) := of_decide_eq_true (by first | (with_reducible assumption) | assumption)
            obtain ⟨ad352, A352_0, c352_0, e352, hx352_0, hl352_0, hi352_0⟩ := at_L3 (Kd.V_reads' HO_0.out).2.2 x9_1 p352 q352
            cases e352
            obtain ⟨ce352, hce352, hMe352, hcc352⟩ := Kd.V_get HO_0.out [] x9_1 p352 (by first | exact q352 | exact of_decide_eq_true (by first | (with_reducible assumption) | assumption) | (have e_ := (Kd.V_reads' HO_0.out).1; omega))
            obtain ⟨ua352_0, uc352_0, rfl, ul352_0, ge352_0⟩ := Kd.FK_slice_open hMe352
            have hv352_0 := hcc352 0 _ rfl
            rw [Nat.add_zero, show ((Kd.slice 26 (Kd.slice 5 (Kd.int .u8)))).sz = 1 from rfl, Nat.mul_one] at hv352_0
            replace hv352_0 := Option.some.inj (hv352_0.symm.trans hx352_0)
            injection hv352_0 with hva_ hvn_ hvc_
            rw [hva_] at ge352_0
            rw [hvc_] at ul352_0
            have HL352_0 := Aside0.mk (show Kd.V (Kd.slice 5 (Kd.int .u8)) 26 _ w.heap.size _ _ (rd_L3 l0 x9_1) from Kd.V_mk ul352_0 ge352_0)
            clear hva_ hvn_ hvc_ ge352_0 ul352_0
            clear hcc352 hce352
            have HR352_0 := Aside0.mk hi352_0
            have HC352_0 := Aside0.mk hl352_0
            clear hi352_0 hl352_0
            replace p352 := eq_true p352
            replace q352 := eq_true q352
            obtain ⟨Ao25, co25, eo25⟩ := Kd.N_slice HO_352000.out
            subst eo25
            obtain ⟨Ao26, co26, eo26⟩ := Kd.N_slice HO_352002.out
            subst eo26
            try go_wp2
            replace HO_0 := Aside0.mk (Kd.V_drew HO_0.out)
            replace HO_8 := Aside0.mk (Kd.N_drew HO_8.out)
            replace HO_352000 := Aside0.mk (Kd.N_drew HO_352000.out)
            replace HO_352002 := Aside0.mk (Kd.N_drew HO_352002.out)
            replace HL352_0 := Aside0.mk (Kd.V_drew HL352_0.out)
            replace BK350 := Aside0.mk (blk_drew BK350.out)
            replace BK351 := Aside0.mk (blk_drew BK351.out)
            replace HR352_0 := Aside0.mk (Kd.C_drew HR352_0.out)
            replace HB := Aside0.mk (below_drew1 HB.out)
            have p353 : 0 ≤ (x9_1 : Int) := of_decide_eq_true (by first | (with_reducible assumption) | assumption)
            have q353 : x9_1 < (l0.length : Int) := of_decide_eq_true (by first | (with_reducible assumption) | assumption)
            obtain ⟨ad353, A353_0, c353_0, e353, hx353_0, hl353_0, hi353_0⟩ := at_L3 (Kd.V_reads' HO_0.out).2.2 x9_1 p353 q353
            obtain rfl : ad352 = ad353 := (by injection e353)
            obtain ⟨ce353, hce353, hMe353, hcc353⟩ := Kd.V_get HO_0.out [] x9_1 p353 (by first | exact q353 | exact of_decide_eq_true (by first | (with_reducible assumption) | assumption) | (have e_ := (Kd.V_reads' HO_0.out).1; omega))
            obtain ⟨ua353_0, uc353_0, rfl, ul353_0, ge353_0⟩ := Kd.FK_slice_open hMe353
            have hv353_0 := hcc353 0 _ rfl
            rw [Nat.add_zero, show ((Kd.slice 26 (Kd.slice 5 (Kd.int .u8)))).sz = 1 from rfl, Nat.mul_one] at hv353_0
            replace hv353_0 := Option.some.inj (hv353_0.symm.trans hx353_0)
            injection hv353_0 with hva_ hvn_ hvc_
            rw [hva_] at ge353_0
            rw [hvc_] at ul353_0
            have HL353_0 := Aside0.mk (show Kd.V (Kd.slice 5 (Kd.int .u8)) 26 _ w.heap.size _ _ (rd_L3 l0 x9_1) from Kd.V_mk ul353_0 ge353_0)
            clear hva_ hvn_ hvc_ ge353_0 ul353_0
            clear hcc353 hce353
            have HR353_0 := Aside0.mk hi353_0
            have HC353_0 := Aside0.mk hl353_0
            clear hi353_0 hl353_0
            replace p353 := eq_true p353
            replace q353 := eq_true q353
            refine start_ (n := 12) (S := fun w' => w'.cell? ⟨gb351, 0, none⟩ = some (.slice Ao25 x352000_1.length co25) ∧ w'.cell? ⟨gb351, 1, none⟩ = some (.int .i64 x352001_1) ∧ w'.cell? ⟨gb351, 2, none⟩ = some (.slice Ao26 x352002_1.length co26) ∧ w'.cell? (ad352.add (x9_1).toNat) = some (.slice A353_0 (rd_L3 l0 x9_1).length c353_0)) (ds := []) #[false, false, false, false, false, false, false, false, false, false, false, false] (by kernel_rfl) rfl rfl ⟨(blk_cell BK351.out 0).trans rfl, (blk_cell BK351.out 1).trans rfl, (blk_cell BK351.out 2).trans rfl, hx353_0⟩ (fun hHeld => ?_); refine with_tabW transeptlaw08_laid.tab7 transeptlaw08_laid.bits7 (fun HT_ HW_ => ?_)
            generalize wc.drew = w27 at HO_0 HO_8 HO_352000 HO_352002 HL352_0 BK350 BK351 HR352_0 HB HL353_0 HR353_0 hx353_0 hHeld ⊢
            refine pu_ 1 (some 35) HT_ ?_
            refine pu_ 2 (some 36) HT_ ?_
            refine pu_ 3 (some 37) HT_ ?_
            refine tk_ 0 (some 34) HT_ HW_ hHeld ?_
            refine tk_ 4 (some 38) HT_ HW_ hHeld ?_
            refine join_ (σ := Value × Value × Nat) 2 #[true, true, true, true, true, true, true, true, true, true, false, false] (fun s_ => [(39, .tuple #[.agg #[s_.1, .int .i64 t357, s_.2.1], .int .i64 t361]), (10, .pointer (some ⟨s_.2.2, 0, none⟩)), (33, .tuple #[.agg #[s_.1, .int .i64 t357, s_.2.1], .int .i64 t361]), (40, .agg #[s_.1, .int .i64 t357, s_.2.1]), (41, .int .i64 t361)]) (fun s_ w' => (w'.cell? ⟨gb351, 0, none⟩ = some (.slice Ao25 x352000_1.length co25) ∧ w'.cell? ⟨gb351, 1, none⟩ = some (.int .i64 x352001_1) ∧ w'.cell? ⟨gb351, 2, none⟩ = some (.slice Ao26 x352002_1.length co26) ∧ w'.cell? (ad352.add (x9_1).toNat) = some (.slice A353_0 (rd_L3 l0 x9_1).length c353_0)) ∧ (Kd.V (Kd.slice 5 (Kd.int .u8)) 26 w' w.heap.size (fun k_ => (P0_ k_ ∨ w.heap.size ≤ k_) ∧ some k_ ≠ (s_.1 : Value).ownBlock ∧ some k_ ≠ (s_.2.1 : Value).ownBlock ∧ some k_ ≠ (.slice Ao25 x352000_1.length co25 : Value).ownBlock ∧ some k_ ≠ (.slice Ao26 x352002_1.length co26 : Value).ownBlock ∧ some k_ ≠ (.slice Ao24 x8_1.length co24 : Value).ownBlock ∧ k_ ≠ gb350 ∧ k_ ≠ gb351 ∧ k_ ≠ s_.2.2) (.slice A352_0 (rd_L3 l0 x9_1).length c352_0) (rd_L3 l0 x9_1)) ∧ (Kd.V (Kd.slice 5 (Kd.int .u8)) 26 w' w.heap.size (fun k_ => (P0_ k_ ∨ w.heap.size ≤ k_) ∧ some k_ ≠ (s_.1 : Value).ownBlock ∧ some k_ ≠ (s_.2.1 : Value).ownBlock ∧ some k_ ≠ (.slice Ao25 x352000_1.length co25 : Value).ownBlock ∧ some k_ ≠ (.slice Ao26 x352002_1.length co26 : Value).ownBlock ∧ some k_ ≠ (.slice Ao24 x8_1.length co24 : Value).ownBlock ∧ k_ ≠ gb350 ∧ k_ ≠ gb351 ∧ k_ ≠ s_.2.2) (.slice A353_0 (rd_L3 l0 x9_1).length c353_0) (rd_L3 l0 x9_1)) ∧ (Kd.N k70 70 w' w.heap.size (fun k_ => (P0_ k_ ∨ w.heap.size ≤ k_) ∧ some k_ ≠ (s_.2.1 : Value).ownBlock ∧ some k_ ≠ (.slice Ao25 x352000_1.length co25 : Value).ownBlock ∧ some k_ ≠ (.slice Ao26 x352002_1.length co26 : Value).ownBlock ∧ some k_ ≠ (.slice Ao24 x8_1.length co24 : Value).ownBlock ∧ k_ ≠ gb350 ∧ k_ ≠ gb351 ∧ k_ ≠ s_.2.2) s_.1 t354) ∧ (Kd.N (Kd.slice 5 (Kd.int .u8)) 26 w' w.heap.size (fun k_ => (P0_ k_ ∨ w.heap.size ≤ k_) ∧ some k_ ≠ (s_.1 : Value).ownBlock ∧ some k_ ≠ (.slice Ao25 x352000_1.length co25 : Value).ownBlock ∧ some k_ ≠ (.slice Ao26 x352002_1.length co26 : Value).ownBlock ∧ some k_ ≠ (.slice Ao24 x8_1.length co24 : Value).ownBlock ∧ k_ ≠ gb350 ∧ k_ ≠ gb351 ∧ k_ ≠ s_.2.2) s_.2.1 t358) ∧ (Kd.V (Kd.slice 26 (Kd.slice 5 (Kd.int .u8))) 56 w' w.heap.size (fun k_ => (P0_ k_ ∨ w.heap.size ≤ k_) ∧ some k_ ≠ (s_.1 : Value).ownBlock ∧ some k_ ≠ (s_.2.1 : Value).ownBlock ∧ some k_ ≠ (.slice Ao25 x352000_1.length co25 : Value).ownBlock ∧ some k_ ≠ (.slice Ao26 x352002_1.length co26 : Value).ownBlock ∧ some k_ ≠ (.slice Ao24 x8_1.length co24 : Value).ownBlock ∧ k_ ≠ gb350 ∧ k_ ≠ gb351 ∧ k_ ≠ s_.2.2) (.slice (some ad352) l0.length c0) l0) ∧ (Kd.N k70 70 w' w.heap.size (fun k_ => (P0_ k_ ∨ w.heap.size ≤ k_) ∧ some k_ ≠ (s_.1 : Value).ownBlock ∧ some k_ ≠ (s_.2.1 : Value).ownBlock ∧ some k_ ≠ (.slice Ao26 x352002_1.length co26 : Value).ownBlock ∧ some k_ ≠ (.slice Ao24 x8_1.length co24 : Value).ownBlock ∧ k_ ≠ gb350 ∧ k_ ≠ gb351 ∧ k_ ≠ s_.2.2) (.slice Ao25 x352000_1.length co25) x352000_1) ∧ (Kd.N (Kd.slice 5 (Kd.int .u8)) 26 w' w.heap.size (fun k_ => (P0_ k_ ∨ w.heap.size ≤ k_) ∧ some k_ ≠ (s_.1 : Value).ownBlock ∧ some k_ ≠ (s_.2.1 : Value).ownBlock ∧ some k_ ≠ (.slice Ao25 x352000_1.length co25 : Value).ownBlock ∧ some k_ ≠ (.slice Ao24 x8_1.length co24 : Value).ownBlock ∧ k_ ≠ gb350 ∧ k_ ≠ gb351 ∧ k_ ≠ s_.2.2) (.slice Ao26 x352002_1.length co26) x352002_1) ∧ (Kd.N (Kd.slice 5 (Kd.int .u8)) 26 w' w.heap.size (fun k_ => (P0_ k_ ∨ w.heap.size ≤ k_) ∧ some k_ ≠ (s_.1 : Value).ownBlock ∧ some k_ ≠ (s_.2.1 : Value).ownBlock ∧ some k_ ≠ (.slice Ao25 x352000_1.length co25 : Value).ownBlock ∧ some k_ ≠ (.slice Ao26 x352002_1.length co26 : Value).ownBlock ∧ k_ ≠ gb350 ∧ k_ ≠ gb351 ∧ k_ ≠ s_.2.2) (.slice Ao24 x8_1.length co24) x8_1) ∧ (w'.heap[gb350]? = some (.cells #[.slice none 0 0, .int .i64 x351001_1, .slice none 0 0] 61 (0, 0))) ∧ (w'.heap[gb351]? = some (.cells #[.slice Ao25 x352000_1.length co25, .int .i64 x352001_1, .slice Ao26 x352002_1.length co26] 61 (0, 0))) ∧ (w'.heap[s_.2.2]? = some (.cells #[.slice none 0 0, .int .i64 0, .slice none 0 0] 61 (0, 0))) ∧ (w.heap.size ≤ s_.2.2) ∧ (w.heap.size ≤ s_.2.2) ∧ (gb350 ≠ s_.2.2) ∧ (s_.2.2 ≠ gb350) ∧ (gb351 ≠ s_.2.2) ∧ (s_.2.2 ≠ gb351) ∧ (Below w.heap.size w w')) ?_ ?_
            rotate_left
            ·intro hCont
             refine two_ (i := 5) (j := 9) (Ni := some 39) (Nj := some 10) #[true, true, true, true, true, true, false, false, false, false, false, false] #[true, true, true, true, true, false, false, false, false, true, false, false] rfl rfl rfl rfl (two_of HT_.out (by kernel_rfl)) (by decide) (by decide) (fun K hK => ?_) (fun K hK => ?_)
             ·skip
              refine goes_ Try.func35 (by kernel_rfl) rfl #[.agg #[.slice Ao25 x352000_1.length co25, .int .i64 x352001_1, .slice Ao26 x352002_1.length co26], .slice A353_0 (rd_L3 l0 x9_1).length c353_0] (by rfl) rfl rfl (by (try simp only [List.map_toArray, List.map_cons, List.map_nil]); first | done | rfl | (simp only [List.length_drop, List.length_take]; rfl)) ?_
              with_reducible refine (wal_Append.calls kj4 _ _ x352000_1 x352001_1 _ _ x352002_1 _ _ (rd_L3 l0 x9_1) t354 t357 t358 t361 _ ?side1 ?side2 ?side3 ?side4 ?side5 ?side6 A17.out).mono ?_
              (case side1 => exact cO_ (Kd.N_reads' HO_352000.out).2.2)
              (case side2 => exact (Kd.N_reads' HO_352000.out).2.1)
              (case side3 => exact cO_ (Kd.N_reads' HO_352002.out).2.2)
              (case side4 => exact (Kd.N_reads' HO_352002.out).2.1)
              (case side5 => repeat (first | exact (by repeat (first | (with_reducible exact HR353_0.out) | (with_reducible refine Kd.C_alloc ?_ _) | (with_reducible refine Kd.C_drewN ?_ _) | (with_reducible refine Kd.C_drew ?_) | exact HR353_0.out)) | (with_reducible refine Kd.C_alloc ?_ _) | (with_reducible refine Kd.C_drewN ?_ _) | (with_reducible refine Kd.C_drew ?_)))
              (case side6 => exact HC353_0.out)
              rintro e w28 ⟨v355, v359, rfl, ho0, ho1, hb⟩
              have HS3_ := (hb.cell (World.block_lt_of_cell? _ _ (hHeld.2.2.2))).trans (hHeld.2.2.2)
              refine ⟨_, rfl, ?_⟩
              replace HO_0 := Aside0.mk (Kd.V_mono (Kd.V_told (Kd.V_told (Kd.V_old (vA_ HO_0) hb) (Kd.N_base ho0)) (Kd.N_base ho1)) (fun _ h_ => h_.1))
              replace HL352_0 := Aside0.mk (Kd.V_mono (Kd.V_told (Kd.V_told (Kd.V_old (vA_ HL352_0) hb) (Kd.N_base ho0)) (Kd.N_base ho1)) (fun _ h_ => h_.1))
              replace HL353_0 := Aside0.mk (Kd.V_mono (Kd.V_told (Kd.V_told (Kd.V_old (vA_ HL353_0) hb) (Kd.N_base ho0)) (Kd.N_base ho1)) (fun _ h_ => h_.1))
              have HO356 := Aside0.mk (Kd.N_lower (Kd.N_mono (ok' := fun k_ => (P0_ k_ ∨ w.heap.size ≤ k_) ∧ some k_ ≠ (v359 : Value).ownBlock ∧ some k_ ≠ (.slice Ao24 x8_1.length co24 : Value).ownBlock ∧ some k_ ≠ (.slice Ao25 x352000_1.length co25 : Value).ownBlock ∧ some k_ ≠ (.slice Ao26 x352002_1.length co26 : Value).ownBlock ∧ k_ ≠ gb350 ∧ k_ ≠ gb351) ho0 (fun k_ hk_ => ⟨(.inr (Nat.le_trans (bs_ HB) hk_.1)), hk_.2, (Kd.fresh' (Kd.N_lt (nA_ HO_8)) k_ hk_.1), (Kd.fresh' (Kd.N_lt (nA_ HO_352000)) k_ hk_.1), (Kd.fresh' (Kd.N_lt (nA_ HO_352002)) k_ hk_.1), (Kd.freshB (bA_ BK350) k_ hk_.1), (Kd.freshB (bA_ BK351) k_ hk_.1)⟩)) (bs_ HB))
              have HO360 := Aside0.mk (Kd.N_lower (Kd.N_mono (ok' := fun k_ => (P0_ k_ ∨ w.heap.size ≤ k_) ∧ some k_ ≠ (v355 : Value).ownBlock ∧ some k_ ≠ (.slice Ao24 x8_1.length co24 : Value).ownBlock ∧ some k_ ≠ (.slice Ao25 x352000_1.length co25 : Value).ownBlock ∧ some k_ ≠ (.slice Ao26 x352002_1.length co26 : Value).ownBlock ∧ k_ ≠ gb350 ∧ k_ ≠ gb351) ho1 (fun k_ hk_ => ⟨(.inr (Nat.le_trans (bs_ HB) hk_.1)), hk_.2, (Kd.fresh' (Kd.N_lt (nA_ HO_8)) k_ hk_.1), (Kd.fresh' (Kd.N_lt (nA_ HO_352000)) k_ hk_.1), (Kd.fresh' (Kd.N_lt (nA_ HO_352002)) k_ hk_.1), (Kd.freshB (bA_ BK350) k_ hk_.1), (Kd.freshB (bA_ BK351) k_ hk_.1)⟩)) (bs_ HB))
              replace HO_8 := Aside0.mk (Kd.N_mono (Kd.N_told (Kd.N_told (Kd.N_old (nA_ HO_8) hb) (Kd.N_base ho0)) (Kd.N_base ho1)) (fun _ h_ => h_.1))
              replace HO_352000 := Aside0.mk (Kd.N_mono (Kd.N_told (Kd.N_told (Kd.N_old (nA_ HO_352000) hb) (Kd.N_base ho0)) (Kd.N_base ho1)) (fun _ h_ => h_.1))
              replace HO_352002 := Aside0.mk (Kd.N_mono (Kd.N_told (Kd.N_told (Kd.N_old (nA_ HO_352002) hb) (Kd.N_base ho0)) (Kd.N_base ho1)) (fun _ h_ => h_.1))
              replace BK350 := bK_ BK350 hb
              replace BK351 := bK_ BK351 hb
              replace HR352_0 := Aside0.mk (Kd.C_below (by repeat (first | (with_reducible exact HR352_0.out) | (with_reducible refine Kd.C_alloc ?_ _) | (with_reducible refine Kd.C_drewN ?_ _) | (with_reducible refine Kd.C_drew ?_) | exact HR352_0.out)) hb)
              replace HR353_0 := Aside0.mk (Kd.C_below (by repeat (first | (with_reducible exact HR353_0.out) | (with_reducible refine Kd.C_alloc ?_ _) | (with_reducible refine Kd.C_drewN ?_ _) | (with_reducible refine Kd.C_drew ?_) | exact HR353_0.out)) hb)
              replace HB := bS_ HB hb
              (try clear hb ho0 ho1)
              refine hK.out _ _ ⟨(blk_cell BK351.out 0).trans rfl, (blk_cell BK351.out 1).trans rfl, (blk_cell BK351.out 2).trans rfl, HS3_⟩ (fun hHeld => ?_)
              clear hK K
              refine norm_ (a' := ?_) ?_ ?_
              rotate_left
              ·show Act.put _ (some 39) _ = _
               simp only [Act.put, List.setIfInBounds_toArray, List.set_cons_zero, List.set_cons_succ, i64_w, i32_w]
               rfl
              refine pu_ 6 (some 33) HT_ ?_
              refine pu_ 7 (some 40) HT_ ?_
              refine pu_ 8 (some 41) HT_ ?_
              refine on_ 9 (some 10) HT_ (fun K hK => ?_)
              refine box_step ?hg (N := 10) ?hd (cs := #[.slice none 0 0, .int .i64 0, .slice none 0 0]) (t := 61) ?hr ?_; (case hd => rfl); (case hg => rfl); (case hr => first | (go_simp; done) | (go_simp; rfl))
              intro gb362 hg w29 hbox hb
              have HS3_ := (hb.cell (World.block_lt_of_cell? _ _ (hHeld.2.2.2))).trans (hHeld.2.2.2)
              replace HO_0 := Aside0.mk (Kd.V_below (Kd.V_elderB (vA_ HO_0) gb362 (Nat.le_of_eq hg.symm)) hb)
              replace HO_8 := Aside0.mk (Kd.N_below (Kd.N_elderB (nA_ HO_8) gb362 (Nat.le_of_eq hg.symm)) hb)
              replace HO_352000 := Aside0.mk (Kd.N_below (Kd.N_elderB (nA_ HO_352000) gb362 (Nat.le_of_eq hg.symm)) hb)
              replace HO_352002 := Aside0.mk (Kd.N_below (Kd.N_elderB (nA_ HO_352002) gb362 (Nat.le_of_eq hg.symm)) hb)
              replace HL352_0 := Aside0.mk (Kd.V_below (Kd.V_elderB (vA_ HL352_0) gb362 (Nat.le_of_eq hg.symm)) hb)
              replace HL353_0 := Aside0.mk (Kd.V_below (Kd.V_elderB (vA_ HL353_0) gb362 (Nat.le_of_eq hg.symm)) hb)
              replace HO356 := Aside0.mk (Kd.N_below (Kd.N_elderB (nA_ HO356) gb362 (Nat.le_of_eq hg.symm)) hb)
              replace HO360 := Aside0.mk (Kd.N_below (Kd.N_elderB (nA_ HO360) gb362 (Nat.le_of_eq hg.symm)) hb)
              replace HR352_0 := Aside0.mk (Kd.C_below (by repeat (first | (with_reducible exact HR352_0.out) | (with_reducible refine Kd.C_alloc ?_ _) | (with_reducible refine Kd.C_drewN ?_ _) | (with_reducible refine Kd.C_drew ?_) | exact HR352_0.out)) hb)
              replace HR353_0 := Aside0.mk (Kd.C_below (by repeat (first | (with_reducible exact HR353_0.out) | (with_reducible refine Kd.C_alloc ?_ _) | (with_reducible refine Kd.C_drewN ?_ _) | (with_reducible refine Kd.C_drew ?_) | exact HR353_0.out)) hb)
              have BK362 := Aside0.mk (hbox)
              have GW362 := bG_ HB hg
              have GE362 := bG_ HB hg
              replace HB := bS_ HB hb
              have NB350_362 := nL_ BK350 hg
              have NB362_350 := nG_ BK350 hg
              replace BK350 := bK_ BK350 hb
              have NB351_362 := nL_ BK351 hg
              have NB362_351 := nG_ BK351 hg
              replace BK351 := bK_ BK351 hb
              clear hb hbox hg
              refine hK.out _ _ ⟨(blk_cell BK351.out 0).trans rfl, (blk_cell BK351.out 1).trans rfl, (blk_cell BK351.out 2).trans rfl, HS3_⟩ (fun hHeld => ?_)
              clear hK K
              refine norm_ (a' := ?_) ?_ ?_
              rotate_left
              ·show Act.put _ (some 10) _ = _
               simp only [Act.put, List.setIfInBounds_toArray, List.set_cons_zero, List.set_cons_succ, i64_w, i32_w]
               rfl
              exact norm_ (by simp only [putAll, Act.put, List.setIfInBounds_toArray, List.set_cons_zero, List.set_cons_succ]) (hCont (v355, v359, gb362) _ ⟨hHeld, (by (with_reducible repeat (first | apply Kd.V_alloc | apply Kd.V_drewN | apply Kd.V_drew)); exact Kd.V_mono HL352_0.out (fun _ hk => ⟨hk.1.1.1.1, ⟨hk.1.1.2, ⟨hk.1.2, ⟨hk.1.1.1.2.2.1, ⟨hk.1.1.1.2.2.2.1, ⟨hk.1.1.1.2.1, ⟨hk.1.1.1.2.2.2.2.1, ⟨hk.1.1.1.2.2.2.2.2, hk.2⟩⟩⟩⟩⟩⟩⟩⟩)), (by (with_reducible repeat (first | apply Kd.V_alloc | apply Kd.V_drewN | apply Kd.V_drew)); exact Kd.V_mono HL353_0.out (fun _ hk => ⟨hk.1.1.1.1, ⟨hk.1.1.2, ⟨hk.1.2, ⟨hk.1.1.1.2.2.1, ⟨hk.1.1.1.2.2.2.1, ⟨hk.1.1.1.2.1, ⟨hk.1.1.1.2.2.2.2.1, ⟨hk.1.1.1.2.2.2.2.2, hk.2⟩⟩⟩⟩⟩⟩⟩⟩)), (by (with_reducible repeat (first | apply Kd.N_alloc | apply Kd.N_drewN | apply Kd.N_drew)); exact Kd.N_mono HO356.out (fun _ hk => ⟨hk.1.1, ⟨hk.1.2.1, ⟨hk.1.2.2.2.1, ⟨hk.1.2.2.2.2.1, ⟨hk.1.2.2.1, ⟨hk.1.2.2.2.2.2.1, ⟨hk.1.2.2.2.2.2.2, hk.2⟩⟩⟩⟩⟩⟩⟩)), (by (with_reducible repeat (first | apply Kd.N_alloc | apply Kd.N_drewN | apply Kd.N_drew)); exact Kd.N_mono HO360.out (fun _ hk => ⟨hk.1.1, ⟨hk.1.2.1, ⟨hk.1.2.2.2.1, ⟨hk.1.2.2.2.2.1, ⟨hk.1.2.2.1, ⟨hk.1.2.2.2.2.2.1, ⟨hk.1.2.2.2.2.2.2, hk.2⟩⟩⟩⟩⟩⟩⟩)), (by (with_reducible repeat (first | apply Kd.V_alloc | apply Kd.V_drewN | apply Kd.V_drew)); exact Kd.V_mono HO_0.out (fun _ hk => ⟨hk.1.1.1.1, ⟨hk.1.1.2, ⟨hk.1.2, ⟨hk.1.1.1.2.2.1, ⟨hk.1.1.1.2.2.2.1, ⟨hk.1.1.1.2.1, ⟨hk.1.1.1.2.2.2.2.1, ⟨hk.1.1.1.2.2.2.2.2, hk.2⟩⟩⟩⟩⟩⟩⟩⟩)), (by (with_reducible repeat (first | apply Kd.N_alloc | apply Kd.N_drewN | apply Kd.N_drew)); exact Kd.N_mono HO_352000.out (fun _ hk => ⟨hk.1.1.1.1, ⟨hk.1.1.2, ⟨hk.1.2, ⟨hk.1.1.1.2.2.1, ⟨hk.1.1.1.2.1, ⟨hk.1.1.1.2.2.2.1, ⟨hk.1.1.1.2.2.2.2, hk.2⟩⟩⟩⟩⟩⟩⟩)), (by (with_reducible repeat (first | apply Kd.N_alloc | apply Kd.N_drewN | apply Kd.N_drew)); exact Kd.N_mono HO_352002.out (fun _ hk => ⟨hk.1.1.1.1, ⟨hk.1.1.2, ⟨hk.1.2, ⟨hk.1.1.1.2.2.1, ⟨hk.1.1.1.2.1, ⟨hk.1.1.1.2.2.2.1, ⟨hk.1.1.1.2.2.2.2, hk.2⟩⟩⟩⟩⟩⟩⟩)), (by (with_reducible repeat (first | apply Kd.N_alloc | apply Kd.N_drewN | apply Kd.N_drew)); exact Kd.N_mono HO_8.out (fun _ hk => ⟨hk.1.1.1.1, ⟨hk.1.1.2, ⟨hk.1.2, ⟨hk.1.1.1.2.1, ⟨hk.1.1.1.2.2.1, ⟨hk.1.1.1.2.2.2.1, ⟨hk.1.1.1.2.2.2.2, hk.2⟩⟩⟩⟩⟩⟩⟩)), (bA_ BK350), (bA_ BK351), (bA_ BK362), GW362.out, GE362.out, NB350_362.out, NB362_350.out, NB351_362.out, NB362_351.out, (bl_ HB)⟩)
             ·skip
              refine box_step ?hg (N := 10) ?hd (cs := #[.slice none 0 0, .int .i64 0, .slice none 0 0]) (t := 61) ?hr ?_; (case hd => rfl); (case hg => rfl); (case hr => first | (go_simp; done) | (go_simp; rfl))
              intro gb362 hg w28 hbox hb
              have HS3_ := (hb.cell (World.block_lt_of_cell? _ _ (hHeld.2.2.2))).trans (hHeld.2.2.2)
              replace HO_0 := Aside0.mk (Kd.V_below (Kd.V_elderB (vA_ HO_0) gb362 (Nat.le_of_eq hg.symm)) hb)
              replace HO_8 := Aside0.mk (Kd.N_below (Kd.N_elderB (nA_ HO_8) gb362 (Nat.le_of_eq hg.symm)) hb)
              replace HO_352000 := Aside0.mk (Kd.N_below (Kd.N_elderB (nA_ HO_352000) gb362 (Nat.le_of_eq hg.symm)) hb)
              replace HO_352002 := Aside0.mk (Kd.N_below (Kd.N_elderB (nA_ HO_352002) gb362 (Nat.le_of_eq hg.symm)) hb)
              replace HL352_0 := Aside0.mk (Kd.V_below (Kd.V_elderB (vA_ HL352_0) gb362 (Nat.le_of_eq hg.symm)) hb)
              replace HL353_0 := Aside0.mk (Kd.V_below (Kd.V_elderB (vA_ HL353_0) gb362 (Nat.le_of_eq hg.symm)) hb)
              replace HR352_0 := Aside0.mk (Kd.C_below (by repeat (first | (with_reducible exact HR352_0.out) | (with_reducible refine Kd.C_alloc ?_ _) | (with_reducible refine Kd.C_drewN ?_ _) | (with_reducible refine Kd.C_drew ?_) | exact HR352_0.out)) hb)
              replace HR353_0 := Aside0.mk (Kd.C_below (by repeat (first | (with_reducible exact HR353_0.out) | (with_reducible refine Kd.C_alloc ?_ _) | (with_reducible refine Kd.C_drewN ?_ _) | (with_reducible refine Kd.C_drew ?_) | exact HR353_0.out)) hb)
              have BK362 := Aside0.mk (hbox)
              have GW362 := bG_ HB hg
              have GE362 := bG_ HB hg
              replace HB := bS_ HB hb
              have NB350_362 := nL_ BK350 hg
              have NB362_350 := nG_ BK350 hg
              replace BK350 := bK_ BK350 hb
              have NB351_362 := nL_ BK351 hg
              have NB362_351 := nG_ BK351 hg
              replace BK351 := bK_ BK351 hb
              clear hb hbox hg
              refine hK.out _ _ ⟨(blk_cell BK351.out 0).trans rfl, (blk_cell BK351.out 1).trans rfl, (blk_cell BK351.out 2).trans rfl, HS3_⟩ (fun hHeld => ?_)
              clear hK K
              refine norm_ (a' := ?_) ?_ ?_
              rotate_left
              ·show Act.put _ (some 10) _ = _
               simp only [Act.put, List.setIfInBounds_toArray, List.set_cons_zero, List.set_cons_succ, i64_w, i32_w]
               rfl
              refine on_ 5 (some 39) HT_ (fun K hK => ?_)
              refine goes_ Try.func35 (by kernel_rfl) rfl #[.agg #[.slice Ao25 x352000_1.length co25, .int .i64 x352001_1, .slice Ao26 x352002_1.length co26], .slice A353_0 (rd_L3 l0 x9_1).length c353_0] (by rfl) rfl rfl (by (try simp only [List.map_toArray, List.map_cons, List.map_nil]); first | done | rfl | (simp only [List.length_drop, List.length_take]; rfl)) ?_
              with_reducible refine (wal_Append.calls kj4 _ _ x352000_1 x352001_1 _ _ x352002_1 _ _ (rd_L3 l0 x9_1) t354 t357 t358 t361 _ ?side1 ?side2 ?side3 ?side4 ?side5 ?side6 A17.out).mono ?_
              (case side1 => exact cO_ (Kd.N_reads' HO_352000.out).2.2)
              (case side2 => exact (Kd.N_reads' HO_352000.out).2.1)
              (case side3 => exact cO_ (Kd.N_reads' HO_352002.out).2.2)
              (case side4 => exact (Kd.N_reads' HO_352002.out).2.1)
              (case side5 => repeat (first | exact (by repeat (first | (with_reducible exact HR353_0.out) | (with_reducible refine Kd.C_alloc ?_ _) | (with_reducible refine Kd.C_drewN ?_ _) | (with_reducible refine Kd.C_drew ?_) | exact HR353_0.out)) | (with_reducible refine Kd.C_alloc ?_ _) | (with_reducible refine Kd.C_drewN ?_ _) | (with_reducible refine Kd.C_drew ?_)))
              (case side6 => exact HC353_0.out)
              rintro e w29 ⟨v355, v359, rfl, ho0, ho1, hb⟩
              have HS3_ := (hb.cell (World.block_lt_of_cell? _ _ (hHeld.2.2.2))).trans (hHeld.2.2.2)
              refine ⟨_, rfl, ?_⟩
              replace HO_0 := Aside0.mk (Kd.V_mono (Kd.V_told (Kd.V_told (Kd.V_old (vA_ HO_0) hb) (Kd.N_base ho0)) (Kd.N_base ho1)) (fun _ h_ => h_.1))
              replace HL352_0 := Aside0.mk (Kd.V_mono (Kd.V_told (Kd.V_told (Kd.V_old (vA_ HL352_0) hb) (Kd.N_base ho0)) (Kd.N_base ho1)) (fun _ h_ => h_.1))
              replace HL353_0 := Aside0.mk (Kd.V_mono (Kd.V_told (Kd.V_told (Kd.V_old (vA_ HL353_0) hb) (Kd.N_base ho0)) (Kd.N_base ho1)) (fun _ h_ => h_.1))
              have HO356 := Aside0.mk (Kd.N_lower (Kd.N_mono (ok' := fun k_ => (P0_ k_ ∨ w.heap.size ≤ k_) ∧ some k_ ≠ (v359 : Value).ownBlock ∧ some k_ ≠ (.slice Ao24 x8_1.length co24 : Value).ownBlock ∧ some k_ ≠ (.slice Ao25 x352000_1.length co25 : Value).ownBlock ∧ some k_ ≠ (.slice Ao26 x352002_1.length co26 : Value).ownBlock ∧ k_ ≠ gb350 ∧ k_ ≠ gb351 ∧ k_ ≠ gb362) ho0 (fun k_ hk_ => ⟨(.inr (Nat.le_trans (bs_ HB) hk_.1)), hk_.2, (Kd.fresh' (Kd.N_lt (nA_ HO_8)) k_ hk_.1), (Kd.fresh' (Kd.N_lt (nA_ HO_352000)) k_ hk_.1), (Kd.fresh' (Kd.N_lt (nA_ HO_352002)) k_ hk_.1), (Kd.freshB (bA_ BK350) k_ hk_.1), (Kd.freshB (bA_ BK351) k_ hk_.1), (Kd.freshB (bA_ BK362) k_ hk_.1)⟩)) (bs_ HB))
              have HO360 := Aside0.mk (Kd.N_lower (Kd.N_mono (ok' := fun k_ => (P0_ k_ ∨ w.heap.size ≤ k_) ∧ some k_ ≠ (v355 : Value).ownBlock ∧ some k_ ≠ (.slice Ao24 x8_1.length co24 : Value).ownBlock ∧ some k_ ≠ (.slice Ao25 x352000_1.length co25 : Value).ownBlock ∧ some k_ ≠ (.slice Ao26 x352002_1.length co26 : Value).ownBlock ∧ k_ ≠ gb350 ∧ k_ ≠ gb351 ∧ k_ ≠ gb362) ho1 (fun k_ hk_ => ⟨(.inr (Nat.le_trans (bs_ HB) hk_.1)), hk_.2, (Kd.fresh' (Kd.N_lt (nA_ HO_8)) k_ hk_.1), (Kd.fresh' (Kd.N_lt (nA_ HO_352000)) k_ hk_.1), (Kd.fresh' (Kd.N_lt (nA_ HO_352002)) k_ hk_.1), (Kd.freshB (bA_ BK350) k_ hk_.1), (Kd.freshB (bA_ BK351) k_ hk_.1), (Kd.freshB (bA_ BK362) k_ hk_.1)⟩)) (bs_ HB))
              replace HO_8 := Aside0.mk (Kd.N_mono (Kd.N_told (Kd.N_told (Kd.N_old (nA_ HO_8) hb) (Kd.N_base ho0)) (Kd.N_base ho1)) (fun _ h_ => h_.1))
              replace HO_352000 := Aside0.mk (Kd.N_mono (Kd.N_told (Kd.N_told (Kd.N_old (nA_ HO_352000) hb) (Kd.N_base ho0)) (Kd.N_base ho1)) (fun _ h_ => h_.1))
              replace HO_352002 := Aside0.mk (Kd.N_mono (Kd.N_told (Kd.N_told (Kd.N_old (nA_ HO_352002) hb) (Kd.N_base ho0)) (Kd.N_base ho1)) (fun _ h_ => h_.1))
              replace BK350 := bK_ BK350 hb
              replace BK351 := bK_ BK351 hb
              replace HR352_0 := Aside0.mk (Kd.C_below (by repeat (first | (with_reducible exact HR352_0.out) | (with_reducible refine Kd.C_alloc ?_ _) | (with_reducible refine Kd.C_drewN ?_ _) | (with_reducible refine Kd.C_drew ?_) | exact HR352_0.out)) hb)
              replace HR353_0 := Aside0.mk (Kd.C_below (by repeat (first | (with_reducible exact HR353_0.out) | (with_reducible refine Kd.C_alloc ?_ _) | (with_reducible refine Kd.C_drewN ?_ _) | (with_reducible refine Kd.C_drew ?_) | exact HR353_0.out)) hb)
              replace BK362 := bK_ BK362 hb
              replace HB := bS_ HB hb
              (try clear hb ho0 ho1)
              refine hK.out _ _ ⟨(blk_cell BK351.out 0).trans rfl, (blk_cell BK351.out 1).trans rfl, (blk_cell BK351.out 2).trans rfl, HS3_⟩ (fun hHeld => ?_)
              clear hK K
              refine norm_ (a' := ?_) ?_ ?_
              rotate_left
              ·show Act.put _ (some 39) _ = _
               simp only [Act.put, List.setIfInBounds_toArray, List.set_cons_zero, List.set_cons_succ, i64_w, i32_w]
               rfl
              refine pu_ 6 (some 33) HT_ ?_
              refine pu_ 7 (some 40) HT_ ?_
              refine pu_ 8 (some 41) HT_ ?_
              exact norm_ (by simp only [putAll, Act.put, List.setIfInBounds_toArray, List.set_cons_zero, List.set_cons_succ]) (hCont (v355, v359, gb362) _ ⟨hHeld, (by (with_reducible repeat (first | apply Kd.V_alloc | apply Kd.V_drewN | apply Kd.V_drew)); exact Kd.V_mono HL352_0.out (fun _ hk => ⟨hk.1.1.1.1, ⟨hk.1.2, ⟨hk.2, ⟨hk.1.1.1.2.2.1, ⟨hk.1.1.1.2.2.2.1, ⟨hk.1.1.1.2.1, ⟨hk.1.1.1.2.2.2.2.1, ⟨hk.1.1.1.2.2.2.2.2, hk.1.1.2⟩⟩⟩⟩⟩⟩⟩⟩)), (by (with_reducible repeat (first | apply Kd.V_alloc | apply Kd.V_drewN | apply Kd.V_drew)); exact Kd.V_mono HL353_0.out (fun _ hk => ⟨hk.1.1.1.1, ⟨hk.1.2, ⟨hk.2, ⟨hk.1.1.1.2.2.1, ⟨hk.1.1.1.2.2.2.1, ⟨hk.1.1.1.2.1, ⟨hk.1.1.1.2.2.2.2.1, ⟨hk.1.1.1.2.2.2.2.2, hk.1.1.2⟩⟩⟩⟩⟩⟩⟩⟩)), (by (with_reducible repeat (first | apply Kd.N_alloc | apply Kd.N_drewN | apply Kd.N_drew)); exact Kd.N_mono HO356.out (fun _ hk => ⟨hk.1, ⟨hk.2.1, ⟨hk.2.2.2.1, ⟨hk.2.2.2.2.1, ⟨hk.2.2.1, ⟨hk.2.2.2.2.2.1, ⟨hk.2.2.2.2.2.2.1, hk.2.2.2.2.2.2.2⟩⟩⟩⟩⟩⟩⟩)), (by (with_reducible repeat (first | apply Kd.N_alloc | apply Kd.N_drewN | apply Kd.N_drew)); exact Kd.N_mono HO360.out (fun _ hk => ⟨hk.1, ⟨hk.2.1, ⟨hk.2.2.2.1, ⟨hk.2.2.2.2.1, ⟨hk.2.2.1, ⟨hk.2.2.2.2.2.1, ⟨hk.2.2.2.2.2.2.1, hk.2.2.2.2.2.2.2⟩⟩⟩⟩⟩⟩⟩)), (by (with_reducible repeat (first | apply Kd.V_alloc | apply Kd.V_drewN | apply Kd.V_drew)); exact Kd.V_mono HO_0.out (fun _ hk => ⟨hk.1.1.1.1, ⟨hk.1.2, ⟨hk.2, ⟨hk.1.1.1.2.2.1, ⟨hk.1.1.1.2.2.2.1, ⟨hk.1.1.1.2.1, ⟨hk.1.1.1.2.2.2.2.1, ⟨hk.1.1.1.2.2.2.2.2, hk.1.1.2⟩⟩⟩⟩⟩⟩⟩⟩)), (by (with_reducible repeat (first | apply Kd.N_alloc | apply Kd.N_drewN | apply Kd.N_drew)); exact Kd.N_mono HO_352000.out (fun _ hk => ⟨hk.1.1.1.1, ⟨hk.1.2, ⟨hk.2, ⟨hk.1.1.1.2.2.1, ⟨hk.1.1.1.2.1, ⟨hk.1.1.1.2.2.2.1, ⟨hk.1.1.1.2.2.2.2, hk.1.1.2⟩⟩⟩⟩⟩⟩⟩)), (by (with_reducible repeat (first | apply Kd.N_alloc | apply Kd.N_drewN | apply Kd.N_drew)); exact Kd.N_mono HO_352002.out (fun _ hk => ⟨hk.1.1.1.1, ⟨hk.1.2, ⟨hk.2, ⟨hk.1.1.1.2.2.1, ⟨hk.1.1.1.2.1, ⟨hk.1.1.1.2.2.2.1, ⟨hk.1.1.1.2.2.2.2, hk.1.1.2⟩⟩⟩⟩⟩⟩⟩)), (by (with_reducible repeat (first | apply Kd.N_alloc | apply Kd.N_drewN | apply Kd.N_drew)); exact Kd.N_mono HO_8.out (fun _ hk => ⟨hk.1.1.1.1, ⟨hk.1.2, ⟨hk.2, ⟨hk.1.1.1.2.1, ⟨hk.1.1.1.2.2.1, ⟨hk.1.1.1.2.2.2.1, ⟨hk.1.1.1.2.2.2.2, hk.1.1.2⟩⟩⟩⟩⟩⟩⟩)), (bA_ BK350), (bA_ BK351), (bA_ BK362), GW362.out, GE362.out, NB350_362.out, NB362_350.out, NB351_362.out, NB362_351.out, (bl_ HB)⟩)
            rintro ⟨v355, v359, gb362⟩ w30 ⟨hS_, h0_, h1_, h2_, h3_, h4_, h5_, h6_, h7_, h8_, h9_, h10_, h11_, h12_, h13_, h14_, h15_, h16_, h17_⟩
            replace HL352_0 : Aside0 (Kd.V (Kd.slice 5 (Kd.int .u8)) 26 w30 w.heap.size (fun k_ => (P0_ k_ ∨ w.heap.size ≤ k_) ∧ some k_ ≠ (v355 : Value).ownBlock ∧ some k_ ≠ (v359 : Value).ownBlock ∧ some k_ ≠ (.slice Ao25 x352000_1.length co25 : Value).ownBlock ∧ some k_ ≠ (.slice Ao26 x352002_1.length co26 : Value).ownBlock ∧ some k_ ≠ (.slice Ao24 x8_1.length co24 : Value).ownBlock ∧ k_ ≠ gb350 ∧ k_ ≠ gb351 ∧ k_ ≠ gb362) (.slice A352_0 (rd_L3 l0 x9_1).length c352_0) (rd_L3 l0 x9_1)) := ⟨h0_⟩
            have HL353_0 : Aside0 (Kd.V (Kd.slice 5 (Kd.int .u8)) 26 w30 w.heap.size (fun k_ => (P0_ k_ ∨ w.heap.size ≤ k_) ∧ some k_ ≠ (v355 : Value).ownBlock ∧ some k_ ≠ (v359 : Value).ownBlock ∧ some k_ ≠ (.slice Ao25 x352000_1.length co25 : Value).ownBlock ∧ some k_ ≠ (.slice Ao26 x352002_1.length co26 : Value).ownBlock ∧ some k_ ≠ (.slice Ao24 x8_1.length co24 : Value).ownBlock ∧ k_ ≠ gb350 ∧ k_ ≠ gb351 ∧ k_ ≠ gb362) (.slice A353_0 (rd_L3 l0 x9_1).length c353_0) (rd_L3 l0 x9_1)) := ⟨h1_⟩
            have HO356 : Aside0 (Kd.N k70 70 w30 w.heap.size (fun k_ => (P0_ k_ ∨ w.heap.size ≤ k_) ∧ some k_ ≠ (v359 : Value).ownBlock ∧ some k_ ≠ (.slice Ao25 x352000_1.length co25 : Value).ownBlock ∧ some k_ ≠ (.slice Ao26 x352002_1.length co26 : Value).ownBlock ∧ some k_ ≠ (.slice Ao24 x8_1.length co24 : Value).ownBlock ∧ k_ ≠ gb350 ∧ k_ ≠ gb351 ∧ k_ ≠ gb362) v355 t354) := ⟨h2_⟩
            have HO360 : Aside0 (Kd.N (Kd.slice 5 (Kd.int .u8)) 26 w30 w.heap.size (fun k_ => (P0_ k_ ∨ w.heap.size ≤ k_) ∧ some k_ ≠ (v355 : Value).ownBlock ∧ some k_ ≠ (.slice Ao25 x352000_1.length co25 : Value).ownBlock ∧ some k_ ≠ (.slice Ao26 x352002_1.length co26 : Value).ownBlock ∧ some k_ ≠ (.slice Ao24 x8_1.length co24 : Value).ownBlock ∧ k_ ≠ gb350 ∧ k_ ≠ gb351 ∧ k_ ≠ gb362) v359 t358) := ⟨h3_⟩
            replace HO_0 : Aside0 (Kd.V (Kd.slice 26 (Kd.slice 5 (Kd.int .u8))) 56 w30 w.heap.size (fun k_ => (P0_ k_ ∨ w.heap.size ≤ k_) ∧ some k_ ≠ (v355 : Value).ownBlock ∧ some k_ ≠ (v359 : Value).ownBlock ∧ some k_ ≠ (.slice Ao25 x352000_1.length co25 : Value).ownBlock ∧ some k_ ≠ (.slice Ao26 x352002_1.length co26 : Value).ownBlock ∧ some k_ ≠ (.slice Ao24 x8_1.length co24 : Value).ownBlock ∧ k_ ≠ gb350 ∧ k_ ≠ gb351 ∧ k_ ≠ gb362) (.slice (some ad352) l0.length c0) l0) := ⟨h4_⟩
            replace HO_352000 : Aside0 (Kd.N k70 70 w30 w.heap.size (fun k_ => (P0_ k_ ∨ w.heap.size ≤ k_) ∧ some k_ ≠ (v355 : Value).ownBlock ∧ some k_ ≠ (v359 : Value).ownBlock ∧ some k_ ≠ (.slice Ao26 x352002_1.length co26 : Value).ownBlock ∧ some k_ ≠ (.slice Ao24 x8_1.length co24 : Value).ownBlock ∧ k_ ≠ gb350 ∧ k_ ≠ gb351 ∧ k_ ≠ gb362) (.slice Ao25 x352000_1.length co25) x352000_1) := ⟨h5_⟩
            replace HO_352002 : Aside0 (Kd.N (Kd.slice 5 (Kd.int .u8)) 26 w30 w.heap.size (fun k_ => (P0_ k_ ∨ w.heap.size ≤ k_) ∧ some k_ ≠ (v355 : Value).ownBlock ∧ some k_ ≠ (v359 : Value).ownBlock ∧ some k_ ≠ (.slice Ao25 x352000_1.length co25 : Value).ownBlock ∧ some k_ ≠ (.slice Ao24 x8_1.length co24 : Value).ownBlock ∧ k_ ≠ gb350 ∧ k_ ≠ gb351 ∧ k_ ≠ gb362) (.slice Ao26 x352002_1.length co26) x352002_1) := ⟨h6_⟩
            replace HO_8 : Aside0 (Kd.N (Kd.slice 5 (Kd.int .u8)) 26 w30 w.heap.size (fun k_ => (P0_ k_ ∨ w.heap.size ≤ k_) ∧ some k_ ≠ (v355 : Value).ownBlock ∧ some k_ ≠ (v359 : Value).ownBlock ∧ some k_ ≠ (.slice Ao25 x352000_1.length co25 : Value).ownBlock ∧ some k_ ≠ (.slice Ao26 x352002_1.length co26 : Value).ownBlock ∧ k_ ≠ gb350 ∧ k_ ≠ gb351 ∧ k_ ≠ gb362) (.slice Ao24 x8_1.length co24) x8_1) := ⟨h7_⟩
            replace BK350 : Aside0 (w30.heap[gb350]? = some (.cells #[.slice none 0 0, .int .i64 x351001_1, .slice none 0 0] 61 (0, 0))) := ⟨h8_⟩
            replace BK351 : Aside0 (w30.heap[gb351]? = some (.cells #[.slice Ao25 x352000_1.length co25, .int .i64 x352001_1, .slice Ao26 x352002_1.length co26] 61 (0, 0))) := ⟨h9_⟩
            have BK362 : Aside0 (w30.heap[gb362]? = some (.cells #[.slice none 0 0, .int .i64 0, .slice none 0 0] 61 (0, 0))) := ⟨h10_⟩
            have GW362 : Aside0 (w.heap.size ≤ gb362) := ⟨h11_⟩
            have GE362 : Aside0 (w.heap.size ≤ gb362) := ⟨h12_⟩
            have NB350_362 : Aside0 (gb350 ≠ gb362) := ⟨h13_⟩
            have NB362_350 : Aside0 (gb362 ≠ gb350) := ⟨h14_⟩
            have NB351_362 : Aside0 (gb351 ≠ gb362) := ⟨h15_⟩
            have NB362_351 : Aside0 (gb362 ≠ gb351) := ⟨h16_⟩
            replace HB : Aside0 (Below w.heap.size w w30) := ⟨h17_⟩
            clear HR352_0 h0_ h1_ h2_ h3_ h4_ h5_ h6_ h7_ h8_ h9_ h10_ h11_ h12_ h13_ h14_ h15_ h16_ h17_
            have hHeld : w30.cell? ⟨gb351, 0, none⟩ = some (.slice Ao25 x352000_1.length co25) ∧ w30.cell? ⟨gb351, 1, none⟩ = some (.int .i64 x352001_1) ∧ w30.cell? ⟨gb351, 2, none⟩ = some (.slice Ao26 x352002_1.length co26) ∧ w30.cell? (ad352.add (x9_1).toNat) = some (.slice A353_0 (rd_L3 l0 x9_1).length c353_0) := hS_
            obtain ⟨Ao31, co31, eo31⟩ := Kd.N_slice HO356.out
            (first | subst eo31 | (injection eo31 with f1_ f2_ f3_; have f4_ := f1_.symm; have f5_ := f3_.symm; clear f1_ f2_ f3_; subst f4_; subst f5_))
            obtain ⟨Ao34, co34, eo34⟩ := Kd.N_slice HO360.out
            (first | subst eo34 | (injection eo34 with f1_ f2_ f3_; have f4_ := f1_.symm; have f5_ := f3_.symm; clear f1_ f2_ f3_; subst f4_; subst f5_))
            refine norm_ (a' := ?_) ?_ ?_
            rotate_left
            ·simp only [putAll, Act.put, List.setIfInBounds_toArray, List.set_cons_zero, List.set_cons_succ]
             rfl
            refine on_ 10 none HT_ (fun K hK => ?_)
            have hs32 : w30.cell? ⟨gb362, 0, none⟩ = some (.slice none 0 0) := (blk_cell BK362.out 0).trans rfl
            have hfs32 := blk_frozen BK362.out 0
            have hns32_0 := NB350_362.out
            have hns32_1 := NB351_362.out
            have hms32_0 := NB362_350.out
            have hms32_1 := NB362_351.out
            have hs33 : w30.cell? ⟨gb362, 1, none⟩ = some (.int .i64 0) := (blk_cell BK362.out 1).trans rfl
            have hfs33 := blk_frozen BK362.out 1
            have hns33_0 := NB350_362.out
            have hns33_1 := NB351_362.out
            have hms33_0 := NB362_350.out
            have hms33_1 := NB362_351.out
            have hs35 : w30.cell? ⟨gb362, 2, none⟩ = some (.slice none 0 0) := (blk_cell BK362.out 2).trans rfl
            have hfs35 := blk_frozen BK362.out 2
            have hns35_0 := NB350_362.out
            have hns35_1 := NB351_362.out
            have hms35_0 := NB362_350.out
            have hms35_1 := NB362_351.out
            refine skip_ (w1 := ?_) (by rfl) rfl ?_ ?_
            rotate_left
            ·go_simp
             rfl
            refine hK.out _ _ ⟨((cell_far (p := ⟨gb362, _, none⟩) NB351_362.out _).trans (((cell_far (p := ⟨gb362, _, none⟩) NB351_362.out _).trans (((cell_far (p := ⟨gb362, _, none⟩) NB351_362.out _).trans (hHeld.1)))))), ((cell_far (p := ⟨gb362, _, none⟩) NB351_362.out _).trans (((cell_far (p := ⟨gb362, _, none⟩) NB351_362.out _).trans (((cell_far (p := ⟨gb362, _, none⟩) NB351_362.out _).trans (hHeld.2.1)))))), ((cell_far (p := ⟨gb362, _, none⟩) NB351_362.out _).trans (((cell_far (p := ⟨gb362, _, none⟩) NB351_362.out _).trans (((cell_far (p := ⟨gb362, _, none⟩) NB351_362.out _).trans (hHeld.2.2.1)))))), ((cell_far (p := ⟨gb362, _, none⟩) (by first | exact vw_ (fun _ hk => hk.2.2.2.2.2.2.2.2) HO_0 (by decide) (by first | exact p353 | exact of_eq_true p353) (by first | exact q353 | exact of_eq_true q353) | (rw [add_block]; exact vw_ (fun _ hk => hk.2.2.2.2.2.2.2.2) HO_0 (by decide) (by first | exact p353 | exact of_eq_true p353) (by first | exact q353 | exact of_eq_true q353)) | (show (Addr.add _ _).block ≠ _; rw [add_block]; exact vw_ (fun _ hk => hk.2.2.2.2.2.2.2.2) HO_0 (by decide) (by first | exact p353 | exact of_eq_true p353) (by first | exact q353 | exact of_eq_true q353)) | (dsimp only; exact vw_ (fun _ hk => hk.2.2.2.2.2.2.2.2) HO_0 (by decide) (by first | exact p353 | exact of_eq_true p353) (by first | exact q353 | exact of_eq_true q353))) _).trans (((cell_far (p := ⟨gb362, _, none⟩) (by first | exact vw_ (fun _ hk => hk.2.2.2.2.2.2.2.2) HO_0 (by decide) (by first | exact p353 | exact of_eq_true p353) (by first | exact q353 | exact of_eq_true q353) | (rw [add_block]; exact vw_ (fun _ hk => hk.2.2.2.2.2.2.2.2) HO_0 (by decide) (by first | exact p353 | exact of_eq_true p353) (by first | exact q353 | exact of_eq_true q353)) | (show (Addr.add _ _).block ≠ _; rw [add_block]; exact vw_ (fun _ hk => hk.2.2.2.2.2.2.2.2) HO_0 (by decide) (by first | exact p353 | exact of_eq_true p353) (by first | exact q353 | exact of_eq_true q353)) | (dsimp only; exact vw_ (fun _ hk => hk.2.2.2.2.2.2.2.2) HO_0 (by decide) (by first | exact p353 | exact of_eq_true p353) (by first | exact q353 | exact of_eq_true q353))) _).trans (((cell_far (p := ⟨gb362, _, none⟩) (by first | exact vw_ (fun _ hk => hk.2.2.2.2.2.2.2.2) HO_0 (by decide) (by first | exact p353 | exact of_eq_true p353) (by first | exact q353 | exact of_eq_true q353) | (rw [add_block]; exact vw_ (fun _ hk => hk.2.2.2.2.2.2.2.2) HO_0 (by decide) (by first | exact p353 | exact of_eq_true p353) (by first | exact q353 | exact of_eq_true q353)) | (show (Addr.add _ _).block ≠ _; rw [add_block]; exact vw_ (fun _ hk => hk.2.2.2.2.2.2.2.2) HO_0 (by decide) (by first | exact p353 | exact of_eq_true p353) (by first | exact q353 | exact of_eq_true q353)) | (dsimp only; exact vw_ (fun _ hk => hk.2.2.2.2.2.2.2.2) HO_0 (by decide) (by first | exact p353 | exact of_eq_true p353) (by first | exact q353 | exact of_eq_true q353))) _).trans (hHeld.2.2.2))))))⟩ (fun hHeld => ?_)
            clear hK K
            refine pu_ 11 (some 11) HT_ ?_
            refine done_ (done_of HT_.out (by kernel_rfl)) ?_
            try go_wp2_with (first | ((with_reducible refine gate_callee (f := 36) rfl ?_); refine gL_ (some 43) Try.func36 #[.int .i64 t361] ?_; (with_reducible refine (transeptlaw08_num.calls t361 t363 _ A18.out).mono ?_); rintro e w' ⟨rfl, ⟨nd, rfl⟩⟩; refine ⟨_, rfl, ?_⟩; have hnb36 := NB362_350.out; have hnc36 := NB350_362.out; have hnb37 := NB362_351.out; have hnc37 := NB351_362.out; obtain ⟨hcz38_0, hcz38_1, hcz38_2, hfz38_0, hfz38_1, hfz38_2⟩ := cz3_ BK362) | ((with_reducible refine gate_callee (f := 48) rfl ?_); refine gL_ (some 48) Try.func48 #[.agg #[.slice Ao31 t354.length co31, .int .i64 t357, .slice Ao34 t358.length co34], .int .i64 a1] ?_; (with_reducible refine (wal_Flush.calls kj4 _ _ t354 t357 _ _ t358 a1 t364 t367 t368 t371 _ ?side1 ?side2 ?side3 ?side4 A20.out).mono ?_); (case side1 => refine (Kd.N_reads' (e := 70) (base := w.heap.size) (ok := fun k_ => ((P0_ k_ ∨ w.heap.size ≤ k_) ∧ (some k_ ≠ (.slice Ao34 t358.length co34 : Value).ownBlock ∧ (some k_ ≠ (.slice Ao25 x352000_1.length co25 : Value).ownBlock ∧ (some k_ ≠ (.slice Ao26 x352002_1.length co26 : Value).ownBlock ∧ (some k_ ≠ (.slice Ao24 x8_1.length co24 : Value).ownBlock ∧ (k_ ≠ gb350 ∧ (k_ ≠ gb351 ∧ k_ ≠ gb362)))))))) (n := t354.length) (c := co31) ?_).2.2; exact (nC_ HO356 (fun k_ hk => hk.2.2.2.2.2.2.2))); (case side2 => exact (Kd.N_reads' HO356.out).2.1); (case side3 => refine (Kd.N_reads' (e := 26) (base := w.heap.size) (ok := fun k_ => ((P0_ k_ ∨ w.heap.size ≤ k_) ∧ (some k_ ≠ (.slice Ao31 t354.length co31 : Value).ownBlock ∧ (some k_ ≠ (.slice Ao25 x352000_1.length co25 : Value).ownBlock ∧ (some k_ ≠ (.slice Ao26 x352002_1.length co26 : Value).ownBlock ∧ (some k_ ≠ (.slice Ao24 x8_1.length co24 : Value).ownBlock ∧ (k_ ≠ gb350 ∧ (k_ ≠ gb351 ∧ k_ ≠ gb362)))))))) (n := t358.length) (c := co34) ?_).2.2; exact (nC_ HO360 (fun k_ hk => hk.2.2.2.2.2.2.2))); (case side4 => exact (Kd.N_reads' HO360.out).2.1); rintro e w39 ⟨v365, v369, rfl, ho0, ho1, hb⟩; refine ⟨_, rfl, ?_⟩; replace HO_0 := Aside0.mk (Kd.V_mono (Kd.V_told (Kd.V_told (Kd.V_old (vC_ HO_0 (fun k_ hk => hk.2.2.2.2.2.2.2.2)) hb) (Kd.S_base ho0)) (Kd.S_base ho1)) (fun _ h_ => h_.1)); replace HL352_0 := Aside0.mk (Kd.V_mono (Kd.V_told (Kd.V_told (Kd.V_old (vC_ HL352_0 (fun k_ hk => hk.2.2.2.2.2.2.2.2)) hb) (Kd.S_base ho0)) (Kd.S_base ho1)) (fun _ h_ => h_.1)); replace HL353_0 := Aside0.mk (Kd.V_mono (Kd.V_told (Kd.V_told (Kd.V_old (vC_ HL353_0 (fun k_ hk => hk.2.2.2.2.2.2.2.2)) hb) (Kd.S_base ho0)) (Kd.S_base ho1)) (fun _ h_ => h_.1)); have HO366 := Aside0.mk (Kd.N_lower (Kd.N_mono (ok' := fun k_ => (P0_ k_ ∨ w.heap.size ≤ k_) ∧ some k_ ≠ (v369 : Value).ownBlock ∧ some k_ ≠ (.slice Ao24 x8_1.length co24 : Value).ownBlock ∧ some k_ ≠ (.slice Ao25 x352000_1.length co25 : Value).ownBlock ∧ some k_ ≠ (.slice Ao26 x352002_1.length co26 : Value).ownBlock ∧ some k_ ≠ (.slice Ao31 t354.length co31 : Value).ownBlock ∧ some k_ ≠ (.slice Ao34 t358.length co34 : Value).ownBlock ∧ k_ ≠ gb350 ∧ k_ ≠ gb351 ∧ k_ ≠ gb362) (Kd.S_N (Kd.S_bound (Kd.S_apart' ho0 (Kd.S_typed ho1) (by decide)))) (fun k_ hk_ => ⟨(.inr (Nat.le_trans (bs_ HB) hk_.2.1)), hk_.1.2, (Kd.fresh' (Kd.N_lt (nC_ HO_8 (fun k_ hk => hk.2.2.2.2.2.2.2))) k_ hk_.2.1), (Kd.fresh' (Kd.N_lt (nC_ HO_352000 (fun k_ hk => hk.2.2.2.2.2.2.2))) k_ hk_.2.1), (Kd.fresh' (Kd.N_lt (nC_ HO_352002 (fun k_ hk => hk.2.2.2.2.2.2.2))) k_ hk_.2.1), (Kd.fresh' (Kd.N_lt (nC_ HO356 (fun k_ hk => hk.2.2.2.2.2.2.2))) k_ hk_.2.1), (Kd.fresh' (Kd.N_lt (nC_ HO360 (fun k_ hk => hk.2.2.2.2.2.2.2))) k_ hk_.2.1), (Kd.freshB (bA_ BK350) k_ hk_.2.1), (Kd.freshB (bA_ BK351) k_ hk_.2.1), (Kd.freshB (g := gb362) (o := .cells #[.slice Ao31 t354.length co31, .int .i64 t357, .slice Ao34 t358.length co34] 61 (0, 0)) (by (with_reducible repeat (first | refine blk_drewN ?_ _ | refine blk_drew ?_ | refine blk_alloc ?_ _)); refine blk_put (cs := #[.slice Ao31 t354.length co31, .int .i64 t357, .slice none 0 0]) ?_ 2 _ rfl; (with_reducible repeat (first | refine blk_drewN ?_ _ | refine blk_drew ?_ | refine blk_alloc ?_ _)); refine blk_put (cs := #[.slice Ao31 t354.length co31, .int .i64 0, .slice none 0 0]) ?_ 1 _ rfl; (with_reducible repeat (first | refine blk_drewN ?_ _ | refine blk_drew ?_ | refine blk_alloc ?_ _)); refine blk_put (cs := #[.slice none 0 0, .int .i64 0, .slice none 0 0]) ?_ 0 _ rfl; (with_reducible repeat (first | refine blk_drewN ?_ _ | refine blk_drew ?_ | refine blk_alloc ?_ _)); exact BK362.out) k_ hk_.2.1)⟩)) (bs_ HB)); have HO370 := Aside0.mk (Kd.N_lower (Kd.N_mono (ok' := fun k_ => (P0_ k_ ∨ w.heap.size ≤ k_) ∧ some k_ ≠ (v365 : Value).ownBlock ∧ some k_ ≠ (.slice Ao24 x8_1.length co24 : Value).ownBlock ∧ some k_ ≠ (.slice Ao25 x352000_1.length co25 : Value).ownBlock ∧ some k_ ≠ (.slice Ao26 x352002_1.length co26 : Value).ownBlock ∧ some k_ ≠ (.slice Ao31 t354.length co31 : Value).ownBlock ∧ some k_ ≠ (.slice Ao34 t358.length co34 : Value).ownBlock ∧ k_ ≠ gb350 ∧ k_ ≠ gb351 ∧ k_ ≠ gb362) (Kd.S_N (Kd.S_bound (Kd.S_apart' ho1 (Kd.S_typed ho0) (by decide)))) (fun k_ hk_ => ⟨(.inr (Nat.le_trans (bs_ HB) hk_.2.1)), hk_.1.2, (Kd.fresh' (Kd.N_lt (nC_ HO_8 (fun k_ hk => hk.2.2.2.2.2.2.2))) k_ hk_.2.1), (Kd.fresh' (Kd.N_lt (nC_ HO_352000 (fun k_ hk => hk.2.2.2.2.2.2.2))) k_ hk_.2.1), (Kd.fresh' (Kd.N_lt (nC_ HO_352002 (fun k_ hk => hk.2.2.2.2.2.2.2))) k_ hk_.2.1), (Kd.fresh' (Kd.N_lt (nC_ HO356 (fun k_ hk => hk.2.2.2.2.2.2.2))) k_ hk_.2.1), (Kd.fresh' (Kd.N_lt (nC_ HO360 (fun k_ hk => hk.2.2.2.2.2.2.2))) k_ hk_.2.1), (Kd.freshB (bA_ BK350) k_ hk_.2.1), (Kd.freshB (bA_ BK351) k_ hk_.2.1), (Kd.freshB (g := gb362) (o := .cells #[.slice Ao31 t354.length co31, .int .i64 t357, .slice Ao34 t358.length co34] 61 (0, 0)) (by (with_reducible repeat (first | refine blk_drewN ?_ _ | refine blk_drew ?_ | refine blk_alloc ?_ _)); refine blk_put (cs := #[.slice Ao31 t354.length co31, .int .i64 t357, .slice none 0 0]) ?_ 2 _ rfl; (with_reducible repeat (first | refine blk_drewN ?_ _ | refine blk_drew ?_ | refine blk_alloc ?_ _)); refine blk_put (cs := #[.slice Ao31 t354.length co31, .int .i64 0, .slice none 0 0]) ?_ 1 _ rfl; (with_reducible repeat (first | refine blk_drewN ?_ _ | refine blk_drew ?_ | refine blk_alloc ?_ _)); refine blk_put (cs := #[.slice none 0 0, .int .i64 0, .slice none 0 0]) ?_ 0 _ rfl; (with_reducible repeat (first | refine blk_drewN ?_ _ | refine blk_drew ?_ | refine blk_alloc ?_ _)); exact BK362.out) k_ hk_.2.1)⟩)) (bs_ HB)); replace HO_8 := Aside0.mk (Kd.N_mono (Kd.N_told (Kd.N_told (Kd.N_old (nC_ HO_8 (fun k_ hk => hk.2.2.2.2.2.2.2)) hb) (Kd.S_base ho0)) (Kd.S_base ho1)) (fun _ h_ => h_.1)); replace HO_352000 := Aside0.mk (Kd.N_mono (Kd.N_told (Kd.N_told (Kd.N_old (nC_ HO_352000 (fun k_ hk => hk.2.2.2.2.2.2.2)) hb) (Kd.S_base ho0)) (Kd.S_base ho1)) (fun _ h_ => h_.1)); replace HO_352002 := Aside0.mk (Kd.N_mono (Kd.N_told (Kd.N_told (Kd.N_old (nC_ HO_352002 (fun k_ hk => hk.2.2.2.2.2.2.2)) hb) (Kd.S_base ho0)) (Kd.S_base ho1)) (fun _ h_ => h_.1)); replace HO356 := Aside0.mk (Kd.N_mono (Kd.N_told (Kd.N_told (Kd.N_old (nC_ HO356 (fun k_ hk => hk.2.2.2.2.2.2.2)) hb) (Kd.S_base ho0)) (Kd.S_base ho1)) (fun _ h_ => h_.1)); replace HO360 := Aside0.mk (Kd.N_mono (Kd.N_told (Kd.N_told (Kd.N_old (nC_ HO360 (fun k_ hk => hk.2.2.2.2.2.2.2)) hb) (Kd.S_base ho0)) (Kd.S_base ho1)) (fun _ h_ => h_.1)); replace BK350 := bK_ BK350 hb; replace BK351 := bK_ BK351 hb; replace BK362 := Aside0.mk (blk_below (g := gb362) (o := .cells #[.slice Ao31 t354.length co31, .int .i64 t357, .slice Ao34 t358.length co34] 61 (0, 0)) (by (with_reducible repeat (first | refine blk_drewN ?_ _ | refine blk_drew ?_ | refine blk_alloc ?_ _)); refine blk_put (cs := #[.slice Ao31 t354.length co31, .int .i64 t357, .slice none 0 0]) ?_ 2 _ rfl; (with_reducible repeat (first | refine blk_drewN ?_ _ | refine blk_drew ?_ | refine blk_alloc ?_ _)); refine blk_put (cs := #[.slice Ao31 t354.length co31, .int .i64 0, .slice none 0 0]) ?_ 1 _ rfl; (with_reducible repeat (first | refine blk_drewN ?_ _ | refine blk_drew ?_ | refine blk_alloc ?_ _)); refine blk_put (cs := #[.slice none 0 0, .int .i64 0, .slice none 0 0]) ?_ 0 _ rfl; (with_reducible repeat (first | refine blk_drewN ?_ _ | refine blk_drew ?_ | refine blk_alloc ?_ _)); exact BK362.out) hb); replace HB := bS_ HB hb; (try clear hb ho0 ho1)) | ((with_reducible refine gate_dst (N := 12) rfl ?_); refine bx_ 12 #[.slice none 0 0, .int .i64 0, .slice none 0 0] 61 ?_; intro gb372 hg w40 hbox hb; replace HO_0 := Aside0.mk (Kd.V_below (Kd.V_elderB (vA_ HO_0) gb372 (Nat.le_of_eq hg.symm)) hb); replace HO_8 := Aside0.mk (Kd.N_below (Kd.N_elderB (nA_ HO_8) gb372 (Nat.le_of_eq hg.symm)) hb); replace HO_352000 := Aside0.mk (Kd.N_below (Kd.N_elderB (nA_ HO_352000) gb372 (Nat.le_of_eq hg.symm)) hb); replace HO_352002 := Aside0.mk (Kd.N_below (Kd.N_elderB (nA_ HO_352002) gb372 (Nat.le_of_eq hg.symm)) hb); replace HL352_0 := Aside0.mk (Kd.V_below (Kd.V_elderB (vA_ HL352_0) gb372 (Nat.le_of_eq hg.symm)) hb); replace HL353_0 := Aside0.mk (Kd.V_below (Kd.V_elderB (vA_ HL353_0) gb372 (Nat.le_of_eq hg.symm)) hb); replace HO356 := Aside0.mk (Kd.N_below (Kd.N_elderB (nA_ HO356) gb372 (Nat.le_of_eq hg.symm)) hb); replace HO360 := Aside0.mk (Kd.N_below (Kd.N_elderB (nA_ HO360) gb372 (Nat.le_of_eq hg.symm)) hb); replace HO366 := Aside0.mk (Kd.N_below (Kd.N_elderB (nA_ HO366) gb372 (Nat.le_of_eq hg.symm)) hb); replace HO370 := Aside0.mk (Kd.N_below (Kd.N_elderB (nA_ HO370) gb372 (Nat.le_of_eq hg.symm)) hb); have BK372 := Aside0.mk (hbox); have GW372 := bG_ HB hg; have GE372 := bG_ HB hg; replace HB := bS_ HB hb; have NB350_372 := nL_ BK350 hg; have NB372_350 := nG_ BK350 hg; replace BK350 := bK_ BK350 hb; have NB351_372 := nL_ BK351 hg; have NB372_351 := nG_ BK351 hg; replace BK351 := bK_ BK351 hb; have NB362_372 := nL_ BK362 hg; have NB372_362 := nG_ BK362 hg; replace BK362 := bK_ BK362 hb; clear hb hbox hg; obtain ⟨Ao41, co41, eo41⟩ := Kd.N_slice HO366.out; subst eo41; have hnb42 := NB372_350.out; have hnc42 := NB350_372.out; have hnb43 := NB372_351.out; have hnc43 := NB351_372.out; have hnb44 := NB372_362.out; have hnc44 := NB362_372.out; obtain ⟨hcz45_0, hcz45_1, hcz45_2, hfz45_0, hfz45_1, hfz45_2⟩ := cz3_ BK372; obtain ⟨Ao46, co46, eo46⟩ := Kd.N_slice HO370.out; subst eo46) | ((with_reducible refine gate_store (t := 61) (p := 12) rfl ?_); refine store_event (t := 61) (p := 12) (v := ?vo_w47) (w1 := (((w40.setCell ⟨gb372, 0, none⟩ (.slice Ao41 t364.length co41)).setCell ⟨gb372, 1, none⟩ (.int .i64 t367)).setCell ⟨gb372, 2, none⟩ (.slice Ao46 t368.length co46))) ?hg ?ho ?hn ?hr ?_; (case ho => rfl); (case hg => rfl); (case hn => rfl); (case hr => first | (go_simp; done) | (go_simp; rfl)); intro w47 hw; replace HO_0 : Aside0 (Kd.V (Kd.slice 26 (Kd.slice 5 (Kd.int .u8))) 56 w47 w.heap.size (fun k_ => (P0_ k_ ∨ w.heap.size ≤ k_) ∧ some k_ ≠ (.slice Ao24 x8_1.length co24 : Value).ownBlock ∧ some k_ ≠ (.slice Ao25 x352000_1.length co25 : Value).ownBlock ∧ some k_ ≠ (.slice Ao26 x352002_1.length co26 : Value).ownBlock ∧ some k_ ≠ (.slice Ao31 t354.length co31 : Value).ownBlock ∧ some k_ ≠ (.slice Ao34 t358.length co34 : Value).ownBlock ∧ some k_ ≠ (.slice Ao41 t364.length co41 : Value).ownBlock ∧ some k_ ≠ (.slice Ao46 t368.length co46 : Value).ownBlock ∧ k_ ≠ gb350 ∧ k_ ≠ gb351 ∧ k_ ≠ gb362 ∧ k_ ≠ gb372) (.slice (some ad352) l0.length c0) l0) := ⟨(by rw [hw]; exact (Kd.V_mono (vD_ HO_0 (fun k_ hk => hk.2)) (fun _ hk => ⟨hk.1.1.1.1.1, ⟨hk.1.1.1.1.2.2.2.2.2.1, ⟨hk.1.1.1.1.2.2.2.1, ⟨hk.1.1.1.1.2.2.2.2.1, ⟨hk.1.1.1.1.2.1, ⟨hk.1.1.1.1.2.2.1, ⟨hk.1.1.1.2, ⟨hk.1.1.2, ⟨hk.1.1.1.1.2.2.2.2.2.2.1, ⟨hk.1.1.1.1.2.2.2.2.2.2.2.1, ⟨hk.1.1.1.1.2.2.2.2.2.2.2.2, hk.1.2⟩⟩⟩⟩⟩⟩⟩⟩⟩⟩⟩)))⟩; replace HO_8 : Aside0 (Kd.N (Kd.slice 5 (Kd.int .u8)) 26 w47 w.heap.size (fun k_ => (P0_ k_ ∨ w.heap.size ≤ k_) ∧ some k_ ≠ (.slice Ao25 x352000_1.length co25 : Value).ownBlock ∧ some k_ ≠ (.slice Ao26 x352002_1.length co26 : Value).ownBlock ∧ some k_ ≠ (.slice Ao31 t354.length co31 : Value).ownBlock ∧ some k_ ≠ (.slice Ao34 t358.length co34 : Value).ownBlock ∧ some k_ ≠ (.slice Ao41 t364.length co41 : Value).ownBlock ∧ some k_ ≠ (.slice Ao46 t368.length co46 : Value).ownBlock ∧ k_ ≠ gb350 ∧ k_ ≠ gb351 ∧ k_ ≠ gb362 ∧ k_ ≠ gb372) (.slice Ao24 x8_1.length co24) x8_1) := ⟨(by rw [hw]; exact (Kd.N_mono (nD_ HO_8 (fun k_ hk => hk.2)) (fun _ hk => ⟨hk.1.1.1.1.1, ⟨hk.1.1.1.1.2.2.2.1, ⟨hk.1.1.1.1.2.2.2.2.1, ⟨hk.1.1.1.1.2.1, ⟨hk.1.1.1.1.2.2.1, ⟨hk.1.1.1.2, ⟨hk.1.1.2, ⟨hk.1.1.1.1.2.2.2.2.2.1, ⟨hk.1.1.1.1.2.2.2.2.2.2.1, ⟨hk.1.1.1.1.2.2.2.2.2.2.2, hk.1.2⟩⟩⟩⟩⟩⟩⟩⟩⟩⟩)))⟩; replace HO_352000 : Aside0 (Kd.N k70 70 w47 w.heap.size (fun k_ => (P0_ k_ ∨ w.heap.size ≤ k_) ∧ some k_ ≠ (.slice Ao24 x8_1.length co24 : Value).ownBlock ∧ some k_ ≠ (.slice Ao26 x352002_1.length co26 : Value).ownBlock ∧ some k_ ≠ (.slice Ao31 t354.length co31 : Value).ownBlock ∧ some k_ ≠ (.slice Ao34 t358.length co34 : Value).ownBlock ∧ some k_ ≠ (.slice Ao41 t364.length co41 : Value).ownBlock ∧ some k_ ≠ (.slice Ao46 t368.length co46 : Value).ownBlock ∧ k_ ≠ gb350 ∧ k_ ≠ gb351 ∧ k_ ≠ gb362 ∧ k_ ≠ gb372) (.slice Ao25 x352000_1.length co25) x352000_1) := ⟨(by rw [hw]; exact (Kd.N_mono (nD_ HO_352000 (fun k_ hk => hk.2)) (fun _ hk => ⟨hk.1.1.1.1.1, ⟨hk.1.1.1.1.2.2.2.2.1, ⟨hk.1.1.1.1.2.2.2.1, ⟨hk.1.1.1.1.2.1, ⟨hk.1.1.1.1.2.2.1, ⟨hk.1.1.1.2, ⟨hk.1.1.2, ⟨hk.1.1.1.1.2.2.2.2.2.1, ⟨hk.1.1.1.1.2.2.2.2.2.2.1, ⟨hk.1.1.1.1.2.2.2.2.2.2.2, hk.1.2⟩⟩⟩⟩⟩⟩⟩⟩⟩⟩)))⟩; replace HO_352002 : Aside0 (Kd.N (Kd.slice 5 (Kd.int .u8)) 26 w47 w.heap.size (fun k_ => (P0_ k_ ∨ w.heap.size ≤ k_) ∧ some k_ ≠ (.slice Ao24 x8_1.length co24 : Value).ownBlock ∧ some k_ ≠ (.slice Ao25 x352000_1.length co25 : Value).ownBlock ∧ some k_ ≠ (.slice Ao31 t354.length co31 : Value).ownBlock ∧ some k_ ≠ (.slice Ao34 t358.length co34 : Value).ownBlock ∧ some k_ ≠ (.slice Ao41 t364.length co41 : Value).ownBlock ∧ some k_ ≠ (.slice Ao46 t368.length co46 : Value).ownBlock ∧ k_ ≠ gb350 ∧ k_ ≠ gb351 ∧ k_ ≠ gb362 ∧ k_ ≠ gb372) (.slice Ao26 x352002_1.length co26) x352002_1) := ⟨(by rw [hw]; exact (Kd.N_mono (nD_ HO_352002 (fun k_ hk => hk.2)) (fun _ hk => ⟨hk.1.1.1.1.1, ⟨hk.1.1.1.1.2.2.2.2.1, ⟨hk.1.1.1.1.2.2.2.1, ⟨hk.1.1.1.1.2.1, ⟨hk.1.1.1.1.2.2.1, ⟨hk.1.1.1.2, ⟨hk.1.1.2, ⟨hk.1.1.1.1.2.2.2.2.2.1, ⟨hk.1.1.1.1.2.2.2.2.2.2.1, ⟨hk.1.1.1.1.2.2.2.2.2.2.2, hk.1.2⟩⟩⟩⟩⟩⟩⟩⟩⟩⟩)))⟩; replace HL352_0 : Aside0 (Kd.V (Kd.slice 5 (Kd.int .u8)) 26 w47 w.heap.size (fun k_ => (P0_ k_ ∨ w.heap.size ≤ k_) ∧ some k_ ≠ (.slice Ao24 x8_1.length co24 : Value).ownBlock ∧ some k_ ≠ (.slice Ao25 x352000_1.length co25 : Value).ownBlock ∧ some k_ ≠ (.slice Ao26 x352002_1.length co26 : Value).ownBlock ∧ some k_ ≠ (.slice Ao31 t354.length co31 : Value).ownBlock ∧ some k_ ≠ (.slice Ao34 t358.length co34 : Value).ownBlock ∧ some k_ ≠ (.slice Ao41 t364.length co41 : Value).ownBlock ∧ some k_ ≠ (.slice Ao46 t368.length co46 : Value).ownBlock ∧ k_ ≠ gb350 ∧ k_ ≠ gb351 ∧ k_ ≠ gb362 ∧ k_ ≠ gb372) (.slice A352_0 (rd_L3 l0 x9_1).length c352_0) (rd_L3 l0 x9_1)) := ⟨(by rw [hw]; exact (Kd.V_mono (vD_ HL352_0 (fun k_ hk => hk.2)) (fun _ hk => ⟨hk.1.1.1.1.1, ⟨hk.1.1.1.1.2.2.2.2.2.1, ⟨hk.1.1.1.1.2.2.2.1, ⟨hk.1.1.1.1.2.2.2.2.1, ⟨hk.1.1.1.1.2.1, ⟨hk.1.1.1.1.2.2.1, ⟨hk.1.1.1.2, ⟨hk.1.1.2, ⟨hk.1.1.1.1.2.2.2.2.2.2.1, ⟨hk.1.1.1.1.2.2.2.2.2.2.2.1, ⟨hk.1.1.1.1.2.2.2.2.2.2.2.2, hk.1.2⟩⟩⟩⟩⟩⟩⟩⟩⟩⟩⟩)))⟩; replace HL353_0 : Aside0 (Kd.V (Kd.slice 5 (Kd.int .u8)) 26 w47 w.heap.size (fun k_ => (P0_ k_ ∨ w.heap.size ≤ k_) ∧ some k_ ≠ (.slice Ao24 x8_1.length co24 : Value).ownBlock ∧ some k_ ≠ (.slice Ao25 x352000_1.length co25 : Value).ownBlock ∧ some k_ ≠ (.slice Ao26 x352002_1.length co26 : Value).ownBlock ∧ some k_ ≠ (.slice Ao31 t354.length co31 : Value).ownBlock ∧ some k_ ≠ (.slice Ao34 t358.length co34 : Value).ownBlock ∧ some k_ ≠ (.slice Ao41 t364.length co41 : Value).ownBlock ∧ some k_ ≠ (.slice Ao46 t368.length co46 : Value).ownBlock ∧ k_ ≠ gb350 ∧ k_ ≠ gb351 ∧ k_ ≠ gb362 ∧ k_ ≠ gb372) (.slice A353_0 (rd_L3 l0 x9_1).length c353_0) (rd_L3 l0 x9_1)) := ⟨(by rw [hw]; exact (Kd.V_mono (vD_ HL353_0 (fun k_ hk => hk.2)) (fun _ hk => ⟨hk.1.1.1.1.1, ⟨hk.1.1.1.1.2.2.2.2.2.1, ⟨hk.1.1.1.1.2.2.2.1, ⟨hk.1.1.1.1.2.2.2.2.1, ⟨hk.1.1.1.1.2.1, ⟨hk.1.1.1.1.2.2.1, ⟨hk.1.1.1.2, ⟨hk.1.1.2, ⟨hk.1.1.1.1.2.2.2.2.2.2.1, ⟨hk.1.1.1.1.2.2.2.2.2.2.2.1, ⟨hk.1.1.1.1.2.2.2.2.2.2.2.2, hk.1.2⟩⟩⟩⟩⟩⟩⟩⟩⟩⟩⟩)))⟩; replace HO356 : Aside0 (Kd.N k70 70 w47 w.heap.size (fun k_ => (P0_ k_ ∨ w.heap.size ≤ k_) ∧ some k_ ≠ (.slice Ao24 x8_1.length co24 : Value).ownBlock ∧ some k_ ≠ (.slice Ao25 x352000_1.length co25 : Value).ownBlock ∧ some k_ ≠ (.slice Ao26 x352002_1.length co26 : Value).ownBlock ∧ some k_ ≠ (.slice Ao34 t358.length co34 : Value).ownBlock ∧ some k_ ≠ (.slice Ao41 t364.length co41 : Value).ownBlock ∧ some k_ ≠ (.slice Ao46 t368.length co46 : Value).ownBlock ∧ k_ ≠ gb350 ∧ k_ ≠ gb351 ∧ k_ ≠ gb362 ∧ k_ ≠ gb372) (.slice Ao31 t354.length co31) t354) := ⟨(by rw [hw]; exact (Kd.N_mono (nD_ HO356 (fun k_ hk => hk.2)) (fun _ hk => ⟨hk.1.1.1.1.1, ⟨hk.1.1.1.1.2.2.2.2.1, ⟨hk.1.1.1.1.2.2.1, ⟨hk.1.1.1.1.2.2.2.1, ⟨hk.1.1.1.1.2.1, ⟨hk.1.1.1.2, ⟨hk.1.1.2, ⟨hk.1.1.1.1.2.2.2.2.2.1, ⟨hk.1.1.1.1.2.2.2.2.2.2.1, ⟨hk.1.1.1.1.2.2.2.2.2.2.2, hk.1.2⟩⟩⟩⟩⟩⟩⟩⟩⟩⟩)))⟩; replace HO360 : Aside0 (Kd.N (Kd.slice 5 (Kd.int .u8)) 26 w47 w.heap.size (fun k_ => (P0_ k_ ∨ w.heap.size ≤ k_) ∧ some k_ ≠ (.slice Ao24 x8_1.length co24 : Value).ownBlock ∧ some k_ ≠ (.slice Ao25 x352000_1.length co25 : Value).ownBlock ∧ some k_ ≠ (.slice Ao26 x352002_1.length co26 : Value).ownBlock ∧ some k_ ≠ (.slice Ao31 t354.length co31 : Value).ownBlock ∧ some k_ ≠ (.slice Ao41 t364.length co41 : Value).ownBlock ∧ some k_ ≠ (.slice Ao46 t368.length co46 : Value).ownBlock ∧ k_ ≠ gb350 ∧ k_ ≠ gb351 ∧ k_ ≠ gb362 ∧ k_ ≠ gb372) (.slice Ao34 t358.length co34) t358) := ⟨(by rw [hw]; exact (Kd.N_mono (nD_ HO360 (fun k_ hk => hk.2)) (fun _ hk => ⟨hk.1.1.1.1.1, ⟨hk.1.1.1.1.2.2.2.2.1, ⟨hk.1.1.1.1.2.2.1, ⟨hk.1.1.1.1.2.2.2.1, ⟨hk.1.1.1.1.2.1, ⟨hk.1.1.1.2, ⟨hk.1.1.2, ⟨hk.1.1.1.1.2.2.2.2.2.1, ⟨hk.1.1.1.1.2.2.2.2.2.2.1, ⟨hk.1.1.1.1.2.2.2.2.2.2.2, hk.1.2⟩⟩⟩⟩⟩⟩⟩⟩⟩⟩)))⟩; replace HO366 : Aside0 (Kd.N k70 70 w47 w.heap.size (fun k_ => (P0_ k_ ∨ w.heap.size ≤ k_) ∧ some k_ ≠ (.slice Ao24 x8_1.length co24 : Value).ownBlock ∧ some k_ ≠ (.slice Ao25 x352000_1.length co25 : Value).ownBlock ∧ some k_ ≠ (.slice Ao26 x352002_1.length co26 : Value).ownBlock ∧ some k_ ≠ (.slice Ao31 t354.length co31 : Value).ownBlock ∧ some k_ ≠ (.slice Ao34 t358.length co34 : Value).ownBlock ∧ some k_ ≠ (.slice Ao46 t368.length co46 : Value).ownBlock ∧ k_ ≠ gb350 ∧ k_ ≠ gb351 ∧ k_ ≠ gb362 ∧ k_ ≠ gb372) (.slice Ao41 t364.length co41) t364) := ⟨(by rw [hw]; exact (Kd.N_mono (nD_ HO366 (fun k_ hk => hk.2)) (fun _ hk => ⟨hk.1.1.1, ⟨hk.1.1.2.2.1, ⟨hk.1.1.2.2.2.1, ⟨hk.1.1.2.2.2.2.1, ⟨hk.1.1.2.2.2.2.2.1, ⟨hk.1.1.2.2.2.2.2.2.1, ⟨hk.1.1.2.1, ⟨hk.1.1.2.2.2.2.2.2.2.1, ⟨hk.1.1.2.2.2.2.2.2.2.2.1, ⟨hk.1.1.2.2.2.2.2.2.2.2.2, hk.1.2⟩⟩⟩⟩⟩⟩⟩⟩⟩⟩)))⟩; replace HO370 : Aside0 (Kd.N (Kd.slice 5 (Kd.int .u8)) 26 w47 w.heap.size (fun k_ => (P0_ k_ ∨ w.heap.size ≤ k_) ∧ some k_ ≠ (.slice Ao24 x8_1.length co24 : Value).ownBlock ∧ some k_ ≠ (.slice Ao25 x352000_1.length co25 : Value).ownBlock ∧ some k_ ≠ (.slice Ao26 x352002_1.length co26 : Value).ownBlock ∧ some k_ ≠ (.slice Ao31 t354.length co31 : Value).ownBlock ∧ some k_ ≠ (.slice Ao34 t358.length co34 : Value).ownBlock ∧ some k_ ≠ (.slice Ao41 t364.length co41 : Value).ownBlock ∧ k_ ≠ gb350 ∧ k_ ≠ gb351 ∧ k_ ≠ gb362 ∧ k_ ≠ gb372) (.slice Ao46 t368.length co46) t368) := ⟨(by rw [hw]; exact (Kd.N_mono (nD_ HO370 (fun k_ hk => hk.2)) (fun _ hk => ⟨hk.1.1.1, ⟨hk.1.1.2.2.1, ⟨hk.1.1.2.2.2.1, ⟨hk.1.1.2.2.2.2.1, ⟨hk.1.1.2.2.2.2.2.1, ⟨hk.1.1.2.2.2.2.2.2.1, ⟨hk.1.1.2.1, ⟨hk.1.1.2.2.2.2.2.2.2.1, ⟨hk.1.1.2.2.2.2.2.2.2.2.1, ⟨hk.1.1.2.2.2.2.2.2.2.2.2, hk.1.2⟩⟩⟩⟩⟩⟩⟩⟩⟩⟩)))⟩; replace BK350 : Aside0 (w47.heap[gb350]? = some (.cells #[.slice none 0 0, .int .i64 x351001_1, .slice none 0 0] 61 (0, 0))) := ⟨(by rw [hw]; exact (bA_ BK350))⟩; replace BK351 : Aside0 (w47.heap[gb351]? = some (.cells #[.slice Ao25 x352000_1.length co25, .int .i64 x352001_1, .slice Ao26 x352002_1.length co26] 61 (0, 0))) := ⟨(by rw [hw]; exact (bA_ BK351))⟩; replace BK362 : Aside0 (w47.heap[gb362]? = some (.cells #[.slice Ao31 t354.length co31, .int .i64 t357, .slice Ao34 t358.length co34] 61 (0, 0))) := ⟨(by rw [hw]; exact (bA_ BK362))⟩; replace BK372 : Aside0 (w47.heap[gb372]? = some (.cells #[.slice Ao41 t364.length co41, .int .i64 t367, .slice Ao46 t368.length co46] 61 (0, 0))) := ⟨(by rw [hw]; exact (by (with_reducible repeat (first | refine blk_drewN ?_ _ | refine blk_drew ?_ | refine blk_alloc ?_ _)); refine blk_put (cs := #[.slice Ao41 t364.length co41, .int .i64 t367, .slice none 0 0]) ?_ 2 _ rfl; (with_reducible repeat (first | refine blk_drewN ?_ _ | refine blk_drew ?_ | refine blk_alloc ?_ _)); refine blk_put (cs := #[.slice Ao41 t364.length co41, .int .i64 0, .slice none 0 0]) ?_ 1 _ rfl; (with_reducible repeat (first | refine blk_drewN ?_ _ | refine blk_drew ?_ | refine blk_alloc ?_ _)); refine blk_put (cs := #[.slice none 0 0, .int .i64 0, .slice none 0 0]) ?_ 0 _ rfl; (with_reducible repeat (first | refine blk_drewN ?_ _ | refine blk_drew ?_ | refine blk_alloc ?_ _)); exact BK372.out))⟩; replace HB : Aside0 (Below w.heap.size w w47) := ⟨(by rw [hw]; exact (bl_ HB))⟩; clear hw) | ((with_reducible refine gate_callee (f := 36) rfl ?_); refine gL_ (some 52) Try.func36 #[.int .i64 t371] ?_; (with_reducible refine (transeptlaw08_num.calls t371 t373 _ A21.out).mono ?_); rintro e w' ⟨rfl, ⟨nd, rfl⟩⟩; refine ⟨_, rfl, ?_⟩; (try (rw [drewN_self w47]; generalize hq_ : World.drewN w47 _ = w47; replace HL352_0 := Aside0.mk (Kd.V_at hq_ HL352_0.out); replace HL353_0 := Aside0.mk (Kd.V_at hq_ HL353_0.out); replace HO356 := Aside0.mk (Kd.N_at hq_ HO356.out); replace HO360 := Aside0.mk (Kd.N_at hq_ HO360.out); replace HO366 := Aside0.mk (Kd.N_at hq_ HO366.out); replace HO370 := Aside0.mk (Kd.N_at hq_ HO370.out); replace HO_0 := Aside0.mk (Kd.V_at hq_ HO_0.out); replace HO_352000 := Aside0.mk (Kd.N_at hq_ HO_352000.out); replace HO_352002 := Aside0.mk (Kd.N_at hq_ HO_352002.out); replace HO_8 := Aside0.mk (Kd.N_at hq_ HO_8.out); replace BK350 : Aside0 (w47.heap[gb350]? = some (.cells #[.slice none 0 0, .int .i64 x351001_1, .slice none 0 0] 61 (0, 0))) := ⟨by rw [← hq_]; exact (bA_ BK350)⟩; replace BK351 : Aside0 (w47.heap[gb351]? = some (.cells #[.slice Ao25 x352000_1.length co25, .int .i64 x352001_1, .slice Ao26 x352002_1.length co26] 61 (0, 0))) := ⟨by rw [← hq_]; exact (bA_ BK351)⟩; replace BK362 : Aside0 (w47.heap[gb362]? = some (.cells #[.slice Ao31 t354.length co31, .int .i64 t357, .slice Ao34 t358.length co34] 61 (0, 0))) := ⟨by rw [← hq_]; exact (bA_ BK362)⟩; replace BK372 : Aside0 (w47.heap[gb372]? = some (.cells #[.slice Ao41 t364.length co41, .int .i64 t367, .slice Ao46 t368.length co46] 61 (0, 0))) := ⟨by rw [← hq_]; exact (bA_ BK372)⟩; replace HB : Aside0 (Below w.heap.size w w47) := ⟨by rw [← hq_]; exact (bl_ HB)⟩; clear hq_)); (try (rw [drewN_self w47]; generalize hq_ : World.drewN w47 _ = w47; replace HL352_0 := Aside0.mk (Kd.V_at hq_ HL352_0.out); replace HL353_0 := Aside0.mk (Kd.V_at hq_ HL353_0.out); replace HO356 := Aside0.mk (Kd.N_at hq_ HO356.out); replace HO360 := Aside0.mk (Kd.N_at hq_ HO360.out); replace HO366 := Aside0.mk (Kd.N_at hq_ HO366.out); replace HO370 := Aside0.mk (Kd.N_at hq_ HO370.out); replace HO_0 := Aside0.mk (Kd.V_at hq_ HO_0.out); replace HO_352000 := Aside0.mk (Kd.N_at hq_ HO_352000.out); replace HO_352002 := Aside0.mk (Kd.N_at hq_ HO_352002.out); replace HO_8 := Aside0.mk (Kd.N_at hq_ HO_8.out); replace BK350 : Aside0 (w47.heap[gb350]? = some (.cells #[.slice none 0 0, .int .i64 x351001_1, .slice none 0 0] 61 (0, 0))) := ⟨by rw [← hq_]; exact (bA_ BK350)⟩; replace BK351 : Aside0 (w47.heap[gb351]? = some (.cells #[.slice Ao25 x352000_1.length co25, .int .i64 x352001_1, .slice Ao26 x352002_1.length co26] 61 (0, 0))) := ⟨by rw [← hq_]; exact (bA_ BK351)⟩; replace BK362 : Aside0 (w47.heap[gb362]? = some (.cells #[.slice Ao31 t354.length co31, .int .i64 t357, .slice Ao34 t358.length co34] 61 (0, 0))) := ⟨by rw [← hq_]; exact (bA_ BK362)⟩; replace BK372 : Aside0 (w47.heap[gb372]? = some (.cells #[.slice Ao41 t364.length co41, .int .i64 t367, .slice Ao46 t368.length co46] 61 (0, 0))) := ⟨by rw [← hq_]; exact (bA_ BK372)⟩; replace HB : Aside0 (Below w.heap.size w w47) := ⟨by rw [← hq_]; exact (bl_ HB)⟩; clear hq_)); obtain ⟨hcz48_0, hcz48_1, hcz48_2, hfz48_0, hfz48_1, hfz48_2⟩ := cz3_ BK372; have hnb49 := NB351_350.out; have hnc49 := NB350_351.out; obtain ⟨hcz50_0, hcz50_1, hcz50_2, hfz50_0, hfz50_1, hfz50_2⟩ := cz3_ BK351) | ((with_reducible refine gate_store (t := 61) (p := 7) rfl ?_); refine store_event (t := 61) (p := 7) (v := ?vo_w51) (w1 := ((((w47.drewN nd).setCell ⟨gb351, 0, none⟩ (.slice Ao41 t364.length co41)).setCell ⟨gb351, 1, none⟩ (.int .i64 t367)).setCell ⟨gb351, 2, none⟩ (.slice Ao46 t368.length co46))) ?hg ?ho ?hn ?hr ?_; (case ho => rfl); (case hg => rfl); (case hn => rfl); (case hr => first | (go_simp; done) | (go_simp; rfl)); intro w51 hw; replace HO_0 : Aside0 (Kd.V (Kd.slice 26 (Kd.slice 5 (Kd.int .u8))) 56 w51 w.heap.size (fun k_ => (P0_ k_ ∨ w.heap.size ≤ k_) ∧ some k_ ≠ (.slice Ao24 x8_1.length co24 : Value).ownBlock ∧ some k_ ≠ (.slice Ao25 x352000_1.length co25 : Value).ownBlock ∧ some k_ ≠ (.slice Ao26 x352002_1.length co26 : Value).ownBlock ∧ some k_ ≠ (.slice Ao31 t354.length co31 : Value).ownBlock ∧ some k_ ≠ (.slice Ao34 t358.length co34 : Value).ownBlock ∧ some k_ ≠ (.slice Ao41 t364.length co41 : Value).ownBlock ∧ some k_ ≠ (.slice Ao46 t368.length co46 : Value).ownBlock ∧ k_ ≠ gb350 ∧ k_ ≠ gb351 ∧ k_ ≠ gb362 ∧ k_ ≠ gb372) (.slice (some ad352) l0.length c0) l0) := ⟨(by rw [hw]; exact (Kd.V_mono (vD_ HO_0 (fun k_ hk => hk.2.2.2.2.2.2.2.2.2.1)) (fun _ hk => ⟨hk.1.1, ⟨hk.1.2.1, ⟨hk.1.2.2.1, ⟨hk.1.2.2.2.1, ⟨hk.1.2.2.2.2.1, ⟨hk.1.2.2.2.2.2.1, ⟨hk.1.2.2.2.2.2.2.1, ⟨hk.1.2.2.2.2.2.2.2.1, ⟨hk.1.2.2.2.2.2.2.2.2.1, ⟨hk.1.2.2.2.2.2.2.2.2.2.1, ⟨hk.1.2.2.2.2.2.2.2.2.2.2.1, hk.1.2.2.2.2.2.2.2.2.2.2.2⟩⟩⟩⟩⟩⟩⟩⟩⟩⟩⟩)))⟩; replace HO_8 : Aside0 (Kd.N (Kd.slice 5 (Kd.int .u8)) 26 w51 w.heap.size (fun k_ => (P0_ k_ ∨ w.heap.size ≤ k_) ∧ some k_ ≠ (.slice Ao25 x352000_1.length co25 : Value).ownBlock ∧ some k_ ≠ (.slice Ao26 x352002_1.length co26 : Value).ownBlock ∧ some k_ ≠ (.slice Ao31 t354.length co31 : Value).ownBlock ∧ some k_ ≠ (.slice Ao34 t358.length co34 : Value).ownBlock ∧ some k_ ≠ (.slice Ao41 t364.length co41 : Value).ownBlock ∧ some k_ ≠ (.slice Ao46 t368.length co46 : Value).ownBlock ∧ k_ ≠ gb350 ∧ k_ ≠ gb351 ∧ k_ ≠ gb362 ∧ k_ ≠ gb372) (.slice Ao24 x8_1.length co24) x8_1) := ⟨(by rw [hw]; exact (Kd.N_mono (nD_ HO_8 (fun k_ hk => hk.2.2.2.2.2.2.2.2.1)) (fun _ hk => ⟨hk.1.1, ⟨hk.1.2.1, ⟨hk.1.2.2.1, ⟨hk.1.2.2.2.1, ⟨hk.1.2.2.2.2.1, ⟨hk.1.2.2.2.2.2.1, ⟨hk.1.2.2.2.2.2.2.1, ⟨hk.1.2.2.2.2.2.2.2.1, ⟨hk.1.2.2.2.2.2.2.2.2.1, ⟨hk.1.2.2.2.2.2.2.2.2.2.1, hk.1.2.2.2.2.2.2.2.2.2.2⟩⟩⟩⟩⟩⟩⟩⟩⟩⟩)))⟩; replace HO_352000 : Aside0 (Kd.N k70 70 w51 w.heap.size (fun k_ => (P0_ k_ ∨ w.heap.size ≤ k_) ∧ some k_ ≠ (.slice Ao24 x8_1.length co24 : Value).ownBlock ∧ some k_ ≠ (.slice Ao26 x352002_1.length co26 : Value).ownBlock ∧ some k_ ≠ (.slice Ao31 t354.length co31 : Value).ownBlock ∧ some k_ ≠ (.slice Ao34 t358.length co34 : Value).ownBlock ∧ some k_ ≠ (.slice Ao41 t364.length co41 : Value).ownBlock ∧ some k_ ≠ (.slice Ao46 t368.length co46 : Value).ownBlock ∧ k_ ≠ gb350 ∧ k_ ≠ gb351 ∧ k_ ≠ gb362 ∧ k_ ≠ gb372) (.slice Ao25 x352000_1.length co25) x352000_1) := ⟨(by rw [hw]; exact (Kd.N_mono (nD_ HO_352000 (fun k_ hk => hk.2.2.2.2.2.2.2.2.1)) (fun _ hk => ⟨hk.1.1, ⟨hk.1.2.1, ⟨hk.1.2.2.1, ⟨hk.1.2.2.2.1, ⟨hk.1.2.2.2.2.1, ⟨hk.1.2.2.2.2.2.1, ⟨hk.1.2.2.2.2.2.2.1, ⟨hk.1.2.2.2.2.2.2.2.1, ⟨hk.1.2.2.2.2.2.2.2.2.1, ⟨hk.1.2.2.2.2.2.2.2.2.2.1, hk.1.2.2.2.2.2.2.2.2.2.2⟩⟩⟩⟩⟩⟩⟩⟩⟩⟩)))⟩; replace HO_352002 : Aside0 (Kd.N (Kd.slice 5 (Kd.int .u8)) 26 w51 w.heap.size (fun k_ => (P0_ k_ ∨ w.heap.size ≤ k_) ∧ some k_ ≠ (.slice Ao24 x8_1.length co24 : Value).ownBlock ∧ some k_ ≠ (.slice Ao25 x352000_1.length co25 : Value).ownBlock ∧ some k_ ≠ (.slice Ao31 t354.length co31 : Value).ownBlock ∧ some k_ ≠ (.slice Ao34 t358.length co34 : Value).ownBlock ∧ some k_ ≠ (.slice Ao41 t364.length co41 : Value).ownBlock ∧ some k_ ≠ (.slice Ao46 t368.length co46 : Value).ownBlock ∧ k_ ≠ gb350 ∧ k_ ≠ gb351 ∧ k_ ≠ gb362 ∧ k_ ≠ gb372) (.slice Ao26 x352002_1.length co26) x352002_1) := ⟨(by rw [hw]; exact (Kd.N_mono (nD_ HO_352002 (fun k_ hk => hk.2.2.2.2.2.2.2.2.1)) (fun _ hk => ⟨hk.1.1, ⟨hk.1.2.1, ⟨hk.1.2.2.1, ⟨hk.1.2.2.2.1, ⟨hk.1.2.2.2.2.1, ⟨hk.1.2.2.2.2.2.1, ⟨hk.1.2.2.2.2.2.2.1, ⟨hk.1.2.2.2.2.2.2.2.1, ⟨hk.1.2.2.2.2.2.2.2.2.1, ⟨hk.1.2.2.2.2.2.2.2.2.2.1, hk.1.2.2.2.2.2.2.2.2.2.2⟩⟩⟩⟩⟩⟩⟩⟩⟩⟩)))⟩; replace HL352_0 : Aside0 (Kd.V (Kd.slice 5 (Kd.int .u8)) 26 w51 w.heap.size (fun k_ => (P0_ k_ ∨ w.heap.size ≤ k_) ∧ some k_ ≠ (.slice Ao24 x8_1.length co24 : Value).ownBlock ∧ some k_ ≠ (.slice Ao25 x352000_1.length co25 : Value).ownBlock ∧ some k_ ≠ (.slice Ao26 x352002_1.length co26 : Value).ownBlock ∧ some k_ ≠ (.slice Ao31 t354.length co31 : Value).ownBlock ∧ some k_ ≠ (.slice Ao34 t358.length co34 : Value).ownBlock ∧ some k_ ≠ (.slice Ao41 t364.length co41 : Value).ownBlock ∧ some k_ ≠ (.slice Ao46 t368.length co46 : Value).ownBlock ∧ k_ ≠ gb350 ∧ k_ ≠ gb351 ∧ k_ ≠ gb362 ∧ k_ ≠ gb372) (.slice A352_0 (rd_L3 l0 x9_1).length c352_0) (rd_L3 l0 x9_1)) := ⟨(by rw [hw]; exact (Kd.V_mono (vD_ HL352_0 (fun k_ hk => hk.2.2.2.2.2.2.2.2.2.1)) (fun _ hk => ⟨hk.1.1, ⟨hk.1.2.1, ⟨hk.1.2.2.1, ⟨hk.1.2.2.2.1, ⟨hk.1.2.2.2.2.1, ⟨hk.1.2.2.2.2.2.1, ⟨hk.1.2.2.2.2.2.2.1, ⟨hk.1.2.2.2.2.2.2.2.1, ⟨hk.1.2.2.2.2.2.2.2.2.1, ⟨hk.1.2.2.2.2.2.2.2.2.2.1, ⟨hk.1.2.2.2.2.2.2.2.2.2.2.1, hk.1.2.2.2.2.2.2.2.2.2.2.2⟩⟩⟩⟩⟩⟩⟩⟩⟩⟩⟩)))⟩; replace HL353_0 : Aside0 (Kd.V (Kd.slice 5 (Kd.int .u8)) 26 w51 w.heap.size (fun k_ => (P0_ k_ ∨ w.heap.size ≤ k_) ∧ some k_ ≠ (.slice Ao24 x8_1.length co24 : Value).ownBlock ∧ some k_ ≠ (.slice Ao25 x352000_1.length co25 : Value).ownBlock ∧ some k_ ≠ (.slice Ao26 x352002_1.length co26 : Value).ownBlock ∧ some k_ ≠ (.slice Ao31 t354.length co31 : Value).ownBlock ∧ some k_ ≠ (.slice Ao34 t358.length co34 : Value).ownBlock ∧ some k_ ≠ (.slice Ao41 t364.length co41 : Value).ownBlock ∧ some k_ ≠ (.slice Ao46 t368.length co46 : Value).ownBlock ∧ k_ ≠ gb350 ∧ k_ ≠ gb351 ∧ k_ ≠ gb362 ∧ k_ ≠ gb372) (.slice A353_0 (rd_L3 l0 x9_1).length c353_0) (rd_L3 l0 x9_1)) := ⟨(by rw [hw]; exact (Kd.V_mono (vD_ HL353_0 (fun k_ hk => hk.2.2.2.2.2.2.2.2.2.1)) (fun _ hk => ⟨hk.1.1, ⟨hk.1.2.1, ⟨hk.1.2.2.1, ⟨hk.1.2.2.2.1, ⟨hk.1.2.2.2.2.1, ⟨hk.1.2.2.2.2.2.1, ⟨hk.1.2.2.2.2.2.2.1, ⟨hk.1.2.2.2.2.2.2.2.1, ⟨hk.1.2.2.2.2.2.2.2.2.1, ⟨hk.1.2.2.2.2.2.2.2.2.2.1, ⟨hk.1.2.2.2.2.2.2.2.2.2.2.1, hk.1.2.2.2.2.2.2.2.2.2.2.2⟩⟩⟩⟩⟩⟩⟩⟩⟩⟩⟩)))⟩; replace HO356 : Aside0 (Kd.N k70 70 w51 w.heap.size (fun k_ => (P0_ k_ ∨ w.heap.size ≤ k_) ∧ some k_ ≠ (.slice Ao24 x8_1.length co24 : Value).ownBlock ∧ some k_ ≠ (.slice Ao25 x352000_1.length co25 : Value).ownBlock ∧ some k_ ≠ (.slice Ao26 x352002_1.length co26 : Value).ownBlock ∧ some k_ ≠ (.slice Ao34 t358.length co34 : Value).ownBlock ∧ some k_ ≠ (.slice Ao41 t364.length co41 : Value).ownBlock ∧ some k_ ≠ (.slice Ao46 t368.length co46 : Value).ownBlock ∧ k_ ≠ gb350 ∧ k_ ≠ gb351 ∧ k_ ≠ gb362 ∧ k_ ≠ gb372) (.slice Ao31 t354.length co31) t354) := ⟨(by rw [hw]; exact (Kd.N_mono (nD_ HO356 (fun k_ hk => hk.2.2.2.2.2.2.2.2.1)) (fun _ hk => ⟨hk.1.1, ⟨hk.1.2.1, ⟨hk.1.2.2.1, ⟨hk.1.2.2.2.1, ⟨hk.1.2.2.2.2.1, ⟨hk.1.2.2.2.2.2.1, ⟨hk.1.2.2.2.2.2.2.1, ⟨hk.1.2.2.2.2.2.2.2.1, ⟨hk.1.2.2.2.2.2.2.2.2.1, ⟨hk.1.2.2.2.2.2.2.2.2.2.1, hk.1.2.2.2.2.2.2.2.2.2.2⟩⟩⟩⟩⟩⟩⟩⟩⟩⟩)))⟩; replace HO360 : Aside0 (Kd.N (Kd.slice 5 (Kd.int .u8)) 26 w51 w.heap.size (fun k_ => (P0_ k_ ∨ w.heap.size ≤ k_) ∧ some k_ ≠ (.slice Ao24 x8_1.length co24 : Value).ownBlock ∧ some k_ ≠ (.slice Ao25 x352000_1.length co25 : Value).ownBlock ∧ some k_ ≠ (.slice Ao26 x352002_1.length co26 : Value).ownBlock ∧ some k_ ≠ (.slice Ao31 t354.length co31 : Value).ownBlock ∧ some k_ ≠ (.slice Ao41 t364.length co41 : Value).ownBlock ∧ some k_ ≠ (.slice Ao46 t368.length co46 : Value).ownBlock ∧ k_ ≠ gb350 ∧ k_ ≠ gb351 ∧ k_ ≠ gb362 ∧ k_ ≠ gb372) (.slice Ao34 t358.length co34) t358) := ⟨(by rw [hw]; exact (Kd.N_mono (nD_ HO360 (fun k_ hk => hk.2.2.2.2.2.2.2.2.1)) (fun _ hk => ⟨hk.1.1, ⟨hk.1.2.1, ⟨hk.1.2.2.1, ⟨hk.1.2.2.2.1, ⟨hk.1.2.2.2.2.1, ⟨hk.1.2.2.2.2.2.1, ⟨hk.1.2.2.2.2.2.2.1, ⟨hk.1.2.2.2.2.2.2.2.1, ⟨hk.1.2.2.2.2.2.2.2.2.1, ⟨hk.1.2.2.2.2.2.2.2.2.2.1, hk.1.2.2.2.2.2.2.2.2.2.2⟩⟩⟩⟩⟩⟩⟩⟩⟩⟩)))⟩; replace HO366 : Aside0 (Kd.N k70 70 w51 w.heap.size (fun k_ => (P0_ k_ ∨ w.heap.size ≤ k_) ∧ some k_ ≠ (.slice Ao24 x8_1.length co24 : Value).ownBlock ∧ some k_ ≠ (.slice Ao25 x352000_1.length co25 : Value).ownBlock ∧ some k_ ≠ (.slice Ao26 x352002_1.length co26 : Value).ownBlock ∧ some k_ ≠ (.slice Ao31 t354.length co31 : Value).ownBlock ∧ some k_ ≠ (.slice Ao34 t358.length co34 : Value).ownBlock ∧ some k_ ≠ (.slice Ao46 t368.length co46 : Value).ownBlock ∧ k_ ≠ gb350 ∧ k_ ≠ gb351 ∧ k_ ≠ gb362 ∧ k_ ≠ gb372) (.slice Ao41 t364.length co41) t364) := ⟨(by rw [hw]; exact (Kd.N_mono (nD_ HO366 (fun k_ hk => hk.2.2.2.2.2.2.2.2.1)) (fun _ hk => ⟨hk.1.1, ⟨hk.1.2.1, ⟨hk.1.2.2.1, ⟨hk.1.2.2.2.1, ⟨hk.1.2.2.2.2.1, ⟨hk.1.2.2.2.2.2.1, ⟨hk.1.2.2.2.2.2.2.1, ⟨hk.1.2.2.2.2.2.2.2.1, ⟨hk.1.2.2.2.2.2.2.2.2.1, ⟨hk.1.2.2.2.2.2.2.2.2.2.1, hk.1.2.2.2.2.2.2.2.2.2.2⟩⟩⟩⟩⟩⟩⟩⟩⟩⟩)))⟩; replace HO370 : Aside0 (Kd.N (Kd.slice 5 (Kd.int .u8)) 26 w51 w.heap.size (fun k_ => (P0_ k_ ∨ w.heap.size ≤ k_) ∧ some k_ ≠ (.slice Ao24 x8_1.length co24 : Value).ownBlock ∧ some k_ ≠ (.slice Ao25 x352000_1.length co25 : Value).ownBlock ∧ some k_ ≠ (.slice Ao26 x352002_1.length co26 : Value).ownBlock ∧ some k_ ≠ (.slice Ao31 t354.length co31 : Value).ownBlock ∧ some k_ ≠ (.slice Ao34 t358.length co34 : Value).ownBlock ∧ some k_ ≠ (.slice Ao41 t364.length co41 : Value).ownBlock ∧ k_ ≠ gb350 ∧ k_ ≠ gb351 ∧ k_ ≠ gb362 ∧ k_ ≠ gb372) (.slice Ao46 t368.length co46) t368) := ⟨(by rw [hw]; exact (Kd.N_mono (nD_ HO370 (fun k_ hk => hk.2.2.2.2.2.2.2.2.1)) (fun _ hk => ⟨hk.1.1, ⟨hk.1.2.1, ⟨hk.1.2.2.1, ⟨hk.1.2.2.2.1, ⟨hk.1.2.2.2.2.1, ⟨hk.1.2.2.2.2.2.1, ⟨hk.1.2.2.2.2.2.2.1, ⟨hk.1.2.2.2.2.2.2.2.1, ⟨hk.1.2.2.2.2.2.2.2.2.1, ⟨hk.1.2.2.2.2.2.2.2.2.2.1, hk.1.2.2.2.2.2.2.2.2.2.2⟩⟩⟩⟩⟩⟩⟩⟩⟩⟩)))⟩; replace BK350 : Aside0 (w51.heap[gb350]? = some (.cells #[.slice none 0 0, .int .i64 x351001_1, .slice none 0 0] 61 (0, 0))) := ⟨(by rw [hw]; exact (bA_ BK350))⟩; replace BK351 : Aside0 (w51.heap[gb351]? = some (.cells #[.slice Ao41 t364.length co41, .int .i64 t367, .slice Ao46 t368.length co46] 61 (0, 0))) := ⟨(by rw [hw]; exact (by (with_reducible repeat (first | refine blk_drewN ?_ _ | refine blk_drew ?_ | refine blk_alloc ?_ _)); refine blk_put (cs := #[.slice Ao41 t364.length co41, .int .i64 t367, .slice Ao26 x352002_1.length co26]) ?_ 2 _ rfl; (with_reducible repeat (first | refine blk_drewN ?_ _ | refine blk_drew ?_ | refine blk_alloc ?_ _)); refine blk_put (cs := #[.slice Ao41 t364.length co41, .int .i64 x352001_1, .slice Ao26 x352002_1.length co26]) ?_ 1 _ rfl; (with_reducible repeat (first | refine blk_drewN ?_ _ | refine blk_drew ?_ | refine blk_alloc ?_ _)); refine blk_put (cs := #[.slice Ao25 x352000_1.length co25, .int .i64 x352001_1, .slice Ao26 x352002_1.length co26]) ?_ 0 _ rfl; (with_reducible repeat (first | refine blk_drewN ?_ _ | refine blk_drew ?_ | refine blk_alloc ?_ _)); exact BK351.out))⟩; replace BK362 : Aside0 (w51.heap[gb362]? = some (.cells #[.slice Ao31 t354.length co31, .int .i64 t357, .slice Ao34 t358.length co34] 61 (0, 0))) := ⟨(by rw [hw]; exact (bA_ BK362))⟩; replace BK372 : Aside0 (w51.heap[gb372]? = some (.cells #[.slice Ao41 t364.length co41, .int .i64 t367, .slice Ao46 t368.length co46] 61 (0, 0))) := ⟨(by rw [hw]; exact (bA_ BK372))⟩; replace HB : Aside0 (Below w.heap.size w w51) := ⟨(by rw [hw]; exact (bl_ HB))⟩; clear hw; have p374 : 0 ≤ (x9_1 : Int) := of_decide_eq_true (by first | (with_reducible assumption) | assumption); have q374 : x9_1 < (l0.length : Int) := of_decide_eq_true (by first | (with_reducible assumption) | assumption); obtain ⟨ad374, A374_0, c374_0, e374, hx374_0, hl374_0, hi374_0⟩ := at_L3 (Kd.V_reads' HO_0.out).2.2 x9_1 p374 q374; obtain rfl : ad352 = ad374 := (by injection e374); obtain ⟨ce374, hce374, hMe374, hcc374⟩ := Kd.V_get HO_0.out [] x9_1 p374 (by first | exact q374 | exact of_decide_eq_true (by first | (with_reducible assumption) | assumption) | (have e_ := (Kd.V_reads' HO_0.out).1; omega)); obtain ⟨ua374_0, uc374_0, rfl, ul374_0, ge374_0⟩ := Kd.FK_slice_open hMe374; have hv374_0 := hcc374 0 _ rfl; rw [Nat.add_zero, show ((Kd.slice 26 (Kd.slice 5 (Kd.int .u8)))).sz = 1 from rfl, Nat.mul_one] at hv374_0; replace hv374_0 := Option.some.inj (hv374_0.symm.trans hx374_0); injection hv374_0 with hva_ hvn_ hvc_; rw [hva_] at ge374_0; rw [hvc_] at ul374_0; have HL374_0 := Aside0.mk (show Kd.V (Kd.slice 5 (Kd.int .u8)) 26 _ w.heap.size _ _ (rd_L3 l0 x9_1) from Kd.V_mk ul374_0 ge374_0); clear hva_ hvn_ hvc_ ge374_0 ul374_0; clear hcc374 hce374; have HR374_0 := Aside0.mk hi374_0; have HC374_0 := Aside0.mk hl374_0; clear hi374_0 hl374_0; replace p374 := eq_true p374; replace q374 := eq_true q374) | ((with_reducible refine gate_builtin (b := .append) (xs := #[.tmp 57, .tmp 61]) rfl ?_); at_builtin; refine Kd.N_append_rows (Kd.slice 5 (Kd.int .u8)) (w0 := w) w.heap.size rfl (.tmp 57) (.tmp 61) 56 26 (.slice none 0 0) 24 rfl Try.underlying56 info26 rfl (by decide) (by omega) (.slice Ao24 x8_1.length co24) x8_1 (rd_L3 l0 x9_1) _ _ _ (fun k_ => (P0_ k_ ∨ w.heap.size ≤ k_) ∧ some k_ ≠ (.slice Ao25 x352000_1.length co25 : Value).ownBlock ∧ some k_ ≠ (.slice Ao26 x352002_1.length co26 : Value).ownBlock ∧ some k_ ≠ (.slice Ao31 t354.length co31 : Value).ownBlock ∧ some k_ ≠ (.slice Ao34 t358.length co34 : Value).ownBlock ∧ some k_ ≠ (.slice Ao41 t364.length co41 : Value).ownBlock ∧ some k_ ≠ (.slice Ao46 t368.length co46 : Value).ownBlock ∧ k_ ≠ gb350 ∧ k_ ≠ gb351 ∧ k_ ≠ gb362 ∧ k_ ≠ gb372) (fun k_ => ((fun k_ => (P0_ k_ ∨ w.heap.size ≤ k_) ∧ some k_ ≠ (.slice Ao25 x352000_1.length co25 : Value).ownBlock ∧ some k_ ≠ (.slice Ao26 x352002_1.length co26 : Value).ownBlock ∧ some k_ ≠ (.slice Ao31 t354.length co31 : Value).ownBlock ∧ some k_ ≠ (.slice Ao34 t358.length co34 : Value).ownBlock ∧ some k_ ≠ (.slice Ao41 t364.length co41 : Value).ownBlock ∧ some k_ ≠ (.slice Ao46 t368.length co46 : Value).ownBlock ∧ k_ ≠ gb350 ∧ k_ ≠ gb351 ∧ k_ ≠ gb362 ∧ k_ ≠ gb372)) k_ ∧ some k_ ≠ (.slice Ao24 x8_1.length co24 : Value).ownBlock) rfl rfl ?aO ?aR (fun _ hk => hk) ?aF ?aB ?aS ?aL ?_; (case aR => exact (by skip; exact Kd.V_F (Kd.V_mono (ok' := (fun k_ => ((fun k_ => (P0_ k_ ∨ w.heap.size ≤ k_) ∧ some k_ ≠ (.slice Ao25 x352000_1.length co25 : Value).ownBlock ∧ some k_ ≠ (.slice Ao26 x352002_1.length co26 : Value).ownBlock ∧ some k_ ≠ (.slice Ao31 t354.length co31 : Value).ownBlock ∧ some k_ ≠ (.slice Ao34 t358.length co34 : Value).ownBlock ∧ some k_ ≠ (.slice Ao41 t364.length co41 : Value).ownBlock ∧ some k_ ≠ (.slice Ao46 t368.length co46 : Value).ownBlock ∧ k_ ≠ gb350 ∧ k_ ≠ gb351 ∧ k_ ≠ gb362 ∧ k_ ≠ gb372)) k_ ∧ some k_ ≠ (.slice Ao24 x8_1.length co24 : Value).ownBlock)) (HL374_0.out) (fun k_ hk => ⟨⟨hk.1, ⟨hk.2.2.1, ⟨hk.2.2.2.1, ⟨hk.2.2.2.2.1, ⟨hk.2.2.2.2.2.1, ⟨hk.2.2.2.2.2.2.1, ⟨hk.2.2.2.2.2.2.2.1, ⟨hk.2.2.2.2.2.2.2.2.1, ⟨hk.2.2.2.2.2.2.2.2.2.1, ⟨hk.2.2.2.2.2.2.2.2.2.2.1, hk.2.2.2.2.2.2.2.2.2.2.2⟩⟩⟩⟩⟩⟩⟩⟩⟩⟩, hk.2.1⟩)))); (case aB => exact (bl_ HB)); (case aF => exact (fun k_ hk => ⟨(.inr (Nat.le_trans (bs_ HB) hk)), Kd.fresh' (Kd.N_lt (nA_ HO_352000)) k_ hk, Kd.fresh' (Kd.N_lt (nA_ HO_352002)) k_ hk, Kd.fresh' (Kd.N_lt (nA_ HO356)) k_ hk, Kd.fresh' (Kd.N_lt (nA_ HO360)) k_ hk, Kd.fresh' (Kd.N_lt (nA_ HO366)) k_ hk, Kd.fresh' (Kd.N_lt (nA_ HO370)) k_ hk, Kd.freshB (bA_ BK350) k_ hk, Kd.freshB (bA_ BK351) k_ hk, Kd.freshB (bA_ BK362) k_ hk, Kd.freshB (bA_ BK372) k_ hk⟩)); (case aO => exact (nA_ HO_8)); (case aS => exact (bs_ HB)); (case aL => have := LMc23.out; omega); intro v376 w52 ho hb hg hat; rw [← Ny375.out] at ho; replace HO_0 := Aside0.mk (Kd.V_afterv (ok := (fun k_ => (P0_ k_ ∨ w.heap.size ≤ k_) ∧ some k_ ≠ (.slice Ao25 x352000_1.length co25 : Value).ownBlock ∧ some k_ ≠ (.slice Ao26 x352002_1.length co26 : Value).ownBlock ∧ some k_ ≠ (.slice Ao31 t354.length co31 : Value).ownBlock ∧ some k_ ≠ (.slice Ao34 t358.length co34 : Value).ownBlock ∧ some k_ ≠ (.slice Ao41 t364.length co41 : Value).ownBlock ∧ some k_ ≠ (.slice Ao46 t368.length co46 : Value).ownBlock ∧ k_ ≠ gb350 ∧ k_ ≠ gb351 ∧ k_ ≠ gb362 ∧ k_ ≠ gb372)) (by (with_reducible repeat (first | apply Kd.V_alloc | apply Kd.V_drewN | apply Kd.V_drew)); exact Kd.V_mono HO_0.out (fun _ hk => ⟨⟨hk.1, ⟨hk.2.2.1, ⟨hk.2.2.2.1, ⟨hk.2.2.2.2.1, ⟨hk.2.2.2.2.2.1, ⟨hk.2.2.2.2.2.2.1, ⟨hk.2.2.2.2.2.2.2.1, ⟨hk.2.2.2.2.2.2.2.2.1, ⟨hk.2.2.2.2.2.2.2.2.2.1, ⟨hk.2.2.2.2.2.2.2.2.2.2.1, hk.2.2.2.2.2.2.2.2.2.2.2⟩⟩⟩⟩⟩⟩⟩⟩⟩⟩, hk.2.1⟩)) hg hat); replace HO_352000 := Aside0.mk (Kd.N_afterv (ok := (fun k_ => (P0_ k_ ∨ w.heap.size ≤ k_) ∧ some k_ ≠ (.slice Ao26 x352002_1.length co26 : Value).ownBlock ∧ some k_ ≠ (.slice Ao31 t354.length co31 : Value).ownBlock ∧ some k_ ≠ (.slice Ao34 t358.length co34 : Value).ownBlock ∧ some k_ ≠ (.slice Ao41 t364.length co41 : Value).ownBlock ∧ some k_ ≠ (.slice Ao46 t368.length co46 : Value).ownBlock ∧ k_ ≠ gb350 ∧ k_ ≠ gb351 ∧ k_ ≠ gb362 ∧ k_ ≠ gb372)) (by (with_reducible repeat (first | apply Kd.N_alloc | apply Kd.N_drewN | apply Kd.N_drew)); exact Kd.N_mono HO_352000.out (fun _ hk => ⟨⟨hk.1, ⟨hk.2.2.1, ⟨hk.2.2.2.1, ⟨hk.2.2.2.2.1, ⟨hk.2.2.2.2.2.1, ⟨hk.2.2.2.2.2.2.1, ⟨hk.2.2.2.2.2.2.2.1, ⟨hk.2.2.2.2.2.2.2.2.1, ⟨hk.2.2.2.2.2.2.2.2.2.1, hk.2.2.2.2.2.2.2.2.2.2⟩⟩⟩⟩⟩⟩⟩⟩⟩, hk.2.1⟩)) hg hat); replace HO_352002 := Aside0.mk (Kd.N_afterv (ok := (fun k_ => (P0_ k_ ∨ w.heap.size ≤ k_) ∧ some k_ ≠ (.slice Ao25 x352000_1.length co25 : Value).ownBlock ∧ some k_ ≠ (.slice Ao31 t354.length co31 : Value).ownBlock ∧ some k_ ≠ (.slice Ao34 t358.length co34 : Value).ownBlock ∧ some k_ ≠ (.slice Ao41 t364.length co41 : Value).ownBlock ∧ some k_ ≠ (.slice Ao46 t368.length co46 : Value).ownBlock ∧ k_ ≠ gb350 ∧ k_ ≠ gb351 ∧ k_ ≠ gb362 ∧ k_ ≠ gb372)) (by (with_reducible repeat (first | apply Kd.N_alloc | apply Kd.N_drewN | apply Kd.N_drew)); exact Kd.N_mono HO_352002.out (fun _ hk => ⟨⟨hk.1, ⟨hk.2.2.1, ⟨hk.2.2.2.1, ⟨hk.2.2.2.2.1, ⟨hk.2.2.2.2.2.1, ⟨hk.2.2.2.2.2.2.1, ⟨hk.2.2.2.2.2.2.2.1, ⟨hk.2.2.2.2.2.2.2.2.1, ⟨hk.2.2.2.2.2.2.2.2.2.1, hk.2.2.2.2.2.2.2.2.2.2⟩⟩⟩⟩⟩⟩⟩⟩⟩, hk.2.1⟩)) hg hat); replace BK350 := Aside0.mk (blk_grown (bA_ BK350) hg (Kd.N_ne HO_8.out BK350.out (by decide))); replace BK351 := Aside0.mk (blk_grown (bA_ BK351) hg (Kd.N_ne HO_8.out BK351.out (by decide))); replace HL352_0 := Aside0.mk (Kd.V_afterv (ok := (fun k_ => (P0_ k_ ∨ w.heap.size ≤ k_) ∧ some k_ ≠ (.slice Ao25 x352000_1.length co25 : Value).ownBlock ∧ some k_ ≠ (.slice Ao26 x352002_1.length co26 : Value).ownBlock ∧ some k_ ≠ (.slice Ao31 t354.length co31 : Value).ownBlock ∧ some k_ ≠ (.slice Ao34 t358.length co34 : Value).ownBlock ∧ some k_ ≠ (.slice Ao41 t364.length co41 : Value).ownBlock ∧ some k_ ≠ (.slice Ao46 t368.length co46 : Value).ownBlock ∧ k_ ≠ gb350 ∧ k_ ≠ gb351 ∧ k_ ≠ gb362 ∧ k_ ≠ gb372)) (by (with_reducible repeat (first | apply Kd.V_alloc | apply Kd.V_drewN | apply Kd.V_drew)); exact Kd.V_mono HL352_0.out (fun _ hk => ⟨⟨hk.1, ⟨hk.2.2.1, ⟨hk.2.2.2.1, ⟨hk.2.2.2.2.1, ⟨hk.2.2.2.2.2.1, ⟨hk.2.2.2.2.2.2.1, ⟨hk.2.2.2.2.2.2.2.1, ⟨hk.2.2.2.2.2.2.2.2.1, ⟨hk.2.2.2.2.2.2.2.2.2.1, ⟨hk.2.2.2.2.2.2.2.2.2.2.1, hk.2.2.2.2.2.2.2.2.2.2.2⟩⟩⟩⟩⟩⟩⟩⟩⟩⟩, hk.2.1⟩)) hg hat); replace HL353_0 := Aside0.mk (Kd.V_afterv (ok := (fun k_ => (P0_ k_ ∨ w.heap.size ≤ k_) ∧ some k_ ≠ (.slice Ao25 x352000_1.length co25 : Value).ownBlock ∧ some k_ ≠ (.slice Ao26 x352002_1.length co26 : Value).ownBlock ∧ some k_ ≠ (.slice Ao31 t354.length co31 : Value).ownBlock ∧ some k_ ≠ (.slice Ao34 t358.length co34 : Value).ownBlock ∧ some k_ ≠ (.slice Ao41 t364.length co41 : Value).ownBlock ∧ some k_ ≠ (.slice Ao46 t368.length co46 : Value).ownBlock ∧ k_ ≠ gb350 ∧ k_ ≠ gb351 ∧ k_ ≠ gb362 ∧ k_ ≠ gb372)) (by (with_reducible repeat (first | apply Kd.V_alloc | apply Kd.V_drewN | apply Kd.V_drew)); exact Kd.V_mono HL353_0.out (fun _ hk => ⟨⟨hk.1, ⟨hk.2.2.1, ⟨hk.2.2.2.1, ⟨hk.2.2.2.2.1, ⟨hk.2.2.2.2.2.1, ⟨hk.2.2.2.2.2.2.1, ⟨hk.2.2.2.2.2.2.2.1, ⟨hk.2.2.2.2.2.2.2.2.1, ⟨hk.2.2.2.2.2.2.2.2.2.1, ⟨hk.2.2.2.2.2.2.2.2.2.2.1, hk.2.2.2.2.2.2.2.2.2.2.2⟩⟩⟩⟩⟩⟩⟩⟩⟩⟩, hk.2.1⟩)) hg hat); replace HO356 := Aside0.mk (Kd.N_afterv (ok := (fun k_ => (P0_ k_ ∨ w.heap.size ≤ k_) ∧ some k_ ≠ (.slice Ao25 x352000_1.length co25 : Value).ownBlock ∧ some k_ ≠ (.slice Ao26 x352002_1.length co26 : Value).ownBlock ∧ some k_ ≠ (.slice Ao34 t358.length co34 : Value).ownBlock ∧ some k_ ≠ (.slice Ao41 t364.length co41 : Value).ownBlock ∧ some k_ ≠ (.slice Ao46 t368.length co46 : Value).ownBlock ∧ k_ ≠ gb350 ∧ k_ ≠ gb351 ∧ k_ ≠ gb362 ∧ k_ ≠ gb372)) (by (with_reducible repeat (first | apply Kd.N_alloc | apply Kd.N_drewN | apply Kd.N_drew)); exact Kd.N_mono HO356.out (fun _ hk => ⟨⟨hk.1, ⟨hk.2.2.1, ⟨hk.2.2.2.1, ⟨hk.2.2.2.2.1, ⟨hk.2.2.2.2.2.1, ⟨hk.2.2.2.2.2.2.1, ⟨hk.2.2.2.2.2.2.2.1, ⟨hk.2.2.2.2.2.2.2.2.1, ⟨hk.2.2.2.2.2.2.2.2.2.1, hk.2.2.2.2.2.2.2.2.2.2⟩⟩⟩⟩⟩⟩⟩⟩⟩, hk.2.1⟩)) hg hat); replace HO360 := Aside0.mk (Kd.N_afterv (ok := (fun k_ => (P0_ k_ ∨ w.heap.size ≤ k_) ∧ some k_ ≠ (.slice Ao25 x352000_1.length co25 : Value).ownBlock ∧ some k_ ≠ (.slice Ao26 x352002_1.length co26 : Value).ownBlock ∧ some k_ ≠ (.slice Ao31 t354.length co31 : Value).ownBlock ∧ some k_ ≠ (.slice Ao41 t364.length co41 : Value).ownBlock ∧ some k_ ≠ (.slice Ao46 t368.length co46 : Value).ownBlock ∧ k_ ≠ gb350 ∧ k_ ≠ gb351 ∧ k_ ≠ gb362 ∧ k_ ≠ gb372)) (by (with_reducible repeat (first | apply Kd.N_alloc | apply Kd.N_drewN | apply Kd.N_drew)); exact Kd.N_mono HO360.out (fun _ hk => ⟨⟨hk.1, ⟨hk.2.2.1, ⟨hk.2.2.2.1, ⟨hk.2.2.2.2.1, ⟨hk.2.2.2.2.2.1, ⟨hk.2.2.2.2.2.2.1, ⟨hk.2.2.2.2.2.2.2.1, ⟨hk.2.2.2.2.2.2.2.2.1, ⟨hk.2.2.2.2.2.2.2.2.2.1, hk.2.2.2.2.2.2.2.2.2.2⟩⟩⟩⟩⟩⟩⟩⟩⟩, hk.2.1⟩)) hg hat); replace BK362 := Aside0.mk (blk_grown (bA_ BK362) hg (Kd.N_ne HO_8.out BK362.out (by decide))); replace HO366 := Aside0.mk (Kd.N_afterv (ok := (fun k_ => (P0_ k_ ∨ w.heap.size ≤ k_) ∧ some k_ ≠ (.slice Ao25 x352000_1.length co25 : Value).ownBlock ∧ some k_ ≠ (.slice Ao26 x352002_1.length co26 : Value).ownBlock ∧ some k_ ≠ (.slice Ao31 t354.length co31 : Value).ownBlock ∧ some k_ ≠ (.slice Ao34 t358.length co34 : Value).ownBlock ∧ some k_ ≠ (.slice Ao46 t368.length co46 : Value).ownBlock ∧ k_ ≠ gb350 ∧ k_ ≠ gb351 ∧ k_ ≠ gb362 ∧ k_ ≠ gb372)) (by (with_reducible repeat (first | apply Kd.N_alloc | apply Kd.N_drewN | apply Kd.N_drew)); exact Kd.N_mono HO366.out (fun _ hk => ⟨⟨hk.1, ⟨hk.2.2.1, ⟨hk.2.2.2.1, ⟨hk.2.2.2.2.1, ⟨hk.2.2.2.2.2.1, ⟨hk.2.2.2.2.2.2.1, ⟨hk.2.2.2.2.2.2.2.1, ⟨hk.2.2.2.2.2.2.2.2.1, ⟨hk.2.2.2.2.2.2.2.2.2.1, hk.2.2.2.2.2.2.2.2.2.2⟩⟩⟩⟩⟩⟩⟩⟩⟩, hk.2.1⟩)) hg hat); replace HO370 := Aside0.mk (Kd.N_afterv (ok := (fun k_ => (P0_ k_ ∨ w.heap.size ≤ k_) ∧ some k_ ≠ (.slice Ao25 x352000_1.length co25 : Value).ownBlock ∧ some k_ ≠ (.slice Ao26 x352002_1.length co26 : Value).ownBlock ∧ some k_ ≠ (.slice Ao31 t354.length co31 : Value).ownBlock ∧ some k_ ≠ (.slice Ao34 t358.length co34 : Value).ownBlock ∧ some k_ ≠ (.slice Ao41 t364.length co41 : Value).ownBlock ∧ k_ ≠ gb350 ∧ k_ ≠ gb351 ∧ k_ ≠ gb362 ∧ k_ ≠ gb372)) (by (with_reducible repeat (first | apply Kd.N_alloc | apply Kd.N_drewN | apply Kd.N_drew)); exact Kd.N_mono HO370.out (fun _ hk => ⟨⟨hk.1, ⟨hk.2.2.1, ⟨hk.2.2.2.1, ⟨hk.2.2.2.2.1, ⟨hk.2.2.2.2.2.1, ⟨hk.2.2.2.2.2.2.1, ⟨hk.2.2.2.2.2.2.2.1, ⟨hk.2.2.2.2.2.2.2.2.1, ⟨hk.2.2.2.2.2.2.2.2.2.1, hk.2.2.2.2.2.2.2.2.2.2⟩⟩⟩⟩⟩⟩⟩⟩⟩, hk.2.1⟩)) hg hat); replace BK372 := Aside0.mk (blk_grown (bA_ BK372) hg (Kd.N_ne HO_8.out BK372.out (by decide))); replace HL374_0 := Aside0.mk (Kd.V_afterv (ok := (fun k_ => (P0_ k_ ∨ w.heap.size ≤ k_) ∧ some k_ ≠ (.slice Ao25 x352000_1.length co25 : Value).ownBlock ∧ some k_ ≠ (.slice Ao26 x352002_1.length co26 : Value).ownBlock ∧ some k_ ≠ (.slice Ao31 t354.length co31 : Value).ownBlock ∧ some k_ ≠ (.slice Ao34 t358.length co34 : Value).ownBlock ∧ some k_ ≠ (.slice Ao41 t364.length co41 : Value).ownBlock ∧ some k_ ≠ (.slice Ao46 t368.length co46 : Value).ownBlock ∧ k_ ≠ gb350 ∧ k_ ≠ gb351 ∧ k_ ≠ gb362 ∧ k_ ≠ gb372)) (by (with_reducible repeat (first | apply Kd.V_alloc | apply Kd.V_drewN | apply Kd.V_drew)); exact Kd.V_mono HL374_0.out (fun _ hk => ⟨⟨hk.1, ⟨hk.2.2.1, ⟨hk.2.2.2.1, ⟨hk.2.2.2.2.1, ⟨hk.2.2.2.2.2.1, ⟨hk.2.2.2.2.2.2.1, ⟨hk.2.2.2.2.2.2.2.1, ⟨hk.2.2.2.2.2.2.2.2.1, ⟨hk.2.2.2.2.2.2.2.2.2.1, ⟨hk.2.2.2.2.2.2.2.2.2.2.1, hk.2.2.2.2.2.2.2.2.2.2.2⟩⟩⟩⟩⟩⟩⟩⟩⟩⟩, hk.2.1⟩)) hg hat); replace HB := Aside0.mk (hb); have HO377 := Aside0.mk (ho); clear HO_8; clear ho hb hg hat))
            go_roundg kj4
            case measure => have := HK1.out; have := HJ4.out; omega
            case rel => exact ⟨(y375), (wrap64 (x9_1 + 1)), (x351001_1), (t364), (t367), (t368), (.slice Ao41 t364.length co41), (.slice Ao46 t368.length co46), (by first | rfl | (simp; done) | (simp [*]; done)), H', ⟨by have := HK1.out; have := HJ4.out; omega⟩, ⟨by (with_reducible repeat (first | apply Kd.V_alloc | apply Kd.V_drewN | apply Kd.V_drew)); exact Kd.V_mono HO_0.out (fun _ hk => ⟨hk.1.1, ⟨hk.2, ⟨hk.1.2.2.2.2.2.1, ⟨hk.1.2.2.2.2.2.2.1, ⟨hk.1.2.2.2.2.2.2.2.1, hk.1.2.2.2.2.2.2.2.2.1⟩⟩⟩⟩⟩)⟩, ⟨by (with_reducible repeat (first | apply Kd.N_alloc | apply Kd.N_drewN | apply Kd.N_drew)); exact Kd.N_mono HO377.out (fun _ hk => ⟨hk.1, ⟨hk.2.2.2.2.2.1, ⟨hk.2.2.2.2.2.2.1, ⟨hk.2.2.2.2.2.2.2.1, hk.2.2.2.2.2.2.2.2.1⟩⟩⟩⟩)⟩, ⟨by (with_reducible repeat (first | apply Kd.N_alloc | apply Kd.N_drewN | apply Kd.N_drew)); exact Kd.N_mono HO366.out (fun _ hk => ⟨hk.1.1, ⟨hk.2, ⟨hk.1.2.2.2.2.2.1, ⟨hk.1.2.2.2.2.2.2.1, hk.1.2.2.2.2.2.2.2.1⟩⟩⟩⟩)⟩, ⟨by (with_reducible repeat (first | apply Kd.N_alloc | apply Kd.N_drewN | apply Kd.N_drew)); exact Kd.N_mono HO370.out (fun _ hk => ⟨hk.1.1, ⟨hk.2, ⟨hk.1.2.2.2.2.2.1, ⟨hk.1.2.2.2.2.2.2.1, hk.1.2.2.2.2.2.2.2.1⟩⟩⟩⟩)⟩, ⟨bA_ BK350⟩, ⟨bA_ BK351⟩, ⟨bl_ HB⟩⟩
           ·rw [if_neg c23] at H
            exact absurd H (by simp)
          ·rw [if_neg c22] at H
           have c22b0 : (t373 == 0) = false := beq_eq_false_iff_ne.mpr c22
           have c22b1 : (t373 != 0) = true := bne_iff_ne.mpr c22
           simp only [Option.some.injEq, Prod.mk.injEq] at H
           obtain ⟨rfl, rfl, rfl, rfl, rfl⟩ := H
           obtain ⟨Ao53, co53, eo53⟩ := Kd.N_slice HO_8.out
           subst eo53
           have p352 : 0 ≤ (x9_1 : Int) := of_decide_eq_true (by first | (with_reducible assumption) | assumption)
           have q352 : x9_1 < (l0.length : Int) := of_decide_eq_true (by first | (with_reducible assumption) | assumption)
           obtain ⟨ad352, A352_0, c352_0, e352, hx352_0, hl352_0, hi352_0⟩ := at_L3 (Kd.V_reads' HO_0.out).2.2 x9_1 p352 q352
           cases e352
           obtain ⟨ce352, hce352, hMe352, hcc352⟩ := Kd.V_get HO_0.out [] x9_1 p352 (by first | exact q352 | exact of_decide_eq_true (by first | (with_reducible assumption) | assumption) | (have e_ := (Kd.V_reads' HO_0.out).1; omega))
           obtain ⟨ua352_0, uc352_0, rfl, ul352_0, ge352_0⟩ := Kd.FK_slice_open hMe352
           have hv352_0 := hcc352 0 _ rfl
           rw [Nat.add_zero, show ((Kd.slice 26 (Kd.slice 5 (Kd.int .u8)))).sz = 1 from rfl, Nat.mul_one] at hv352_0
           replace hv352_0 := Option.some.inj (hv352_0.symm.trans hx352_0)
           injection hv352_0 with hva_ hvn_ hvc_
           rw [hva_] at ge352_0
           rw [hvc_] at ul352_0
           have HL352_0 := Aside0.mk (show Kd.V (Kd.slice 5 (Kd.int .u8)) 26 _ w.heap.size _ _ (rd_L3 l0 x9_1) from Kd.V_mk ul352_0 ge352_0)
           clear hva_ hvn_ hvc_ ge352_0 ul352_0
           clear hcc352 hce352
           have HR352_0 := Aside0.mk hi352_0
           have HC352_0 := Aside0.mk hl352_0
           clear hi352_0 hl352_0
           replace p352 := eq_true p352
           replace q352 := eq_true q352
           obtain ⟨Ao54, co54, eo54⟩ := Kd.N_slice HO_352000.out
           subst eo54
           obtain ⟨Ao55, co55, eo55⟩ := Kd.N_slice HO_352002.out
           subst eo55
           try go_wp2
           replace HO_0 := Aside0.mk (Kd.V_drew HO_0.out)
           replace HO_8 := Aside0.mk (Kd.N_drew HO_8.out)
           replace HO_352000 := Aside0.mk (Kd.N_drew HO_352000.out)
           replace HO_352002 := Aside0.mk (Kd.N_drew HO_352002.out)
           replace HL352_0 := Aside0.mk (Kd.V_drew HL352_0.out)
           replace BK350 := Aside0.mk (blk_drew BK350.out)
           replace BK351 := Aside0.mk (blk_drew BK351.out)
           replace HR352_0 := Aside0.mk (Kd.C_drew HR352_0.out)
           replace HB := Aside0.mk (below_drew1 HB.out)
           have p353 : 0 ≤ (x9_1 : Int) := of_decide_eq_true (by first | (with_reducible assumption) | assumption)
           have q353 : x9_1 < (l0.length : Int) := of_decide_eq_true (by first | (with_reducible assumption) | assumption)
           obtain ⟨ad353, A353_0, c353_0, e353, hx353_0, hl353_0, hi353_0⟩ := at_L3 (Kd.V_reads' HO_0.out).2.2 x9_1 p353 q353
           obtain rfl : ad352 = ad353 := (by injection e353)
           obtain ⟨ce353, hce353, hMe353, hcc353⟩ := Kd.V_get HO_0.out [] x9_1 p353 (by first | exact q353 | exact of_decide_eq_true (by first | (with_reducible assumption) | assumption) | (have e_ := (Kd.V_reads' HO_0.out).1; omega))
           obtain ⟨ua353_0, uc353_0, rfl, ul353_0, ge353_0⟩ := Kd.FK_slice_open hMe353
           have hv353_0 := hcc353 0 _ rfl
           rw [Nat.add_zero, show ((Kd.slice 26 (Kd.slice 5 (Kd.int .u8)))).sz = 1 from rfl, Nat.mul_one] at hv353_0
           replace hv353_0 := Option.some.inj (hv353_0.symm.trans hx353_0)
           injection hv353_0 with hva_ hvn_ hvc_
           rw [hva_] at ge353_0
           rw [hvc_] at ul353_0
           have HL353_0 := Aside0.mk (show Kd.V (Kd.slice 5 (Kd.int .u8)) 26 _ w.heap.size _ _ (rd_L3 l0 x9_1) from Kd.V_mk ul353_0 ge353_0)
           clear hva_ hvn_ hvc_ ge353_0 ul353_0
           clear hcc353 hce353
           have HR353_0 := Aside0.mk hi353_0
           have HC353_0 := Aside0.mk hl353_0
           clear hi353_0 hl353_0
           replace p353 := eq_true p353
           replace q353 := eq_true q353
           refine start_ (n := 12) (S := fun w' => w'.cell? ⟨gb351, 0, none⟩ = some (.slice Ao54 x352000_1.length co54) ∧ w'.cell? ⟨gb351, 1, none⟩ = some (.int .i64 x352001_1) ∧ w'.cell? ⟨gb351, 2, none⟩ = some (.slice Ao55 x352002_1.length co55) ∧ w'.cell? (ad352.add (x9_1).toNat) = some (.slice A353_0 (rd_L3 l0 x9_1).length c353_0)) (ds := []) #[false, false, false, false, false, false, false, false, false, false, false, false] (by kernel_rfl) rfl rfl ⟨(blk_cell BK351.out 0).trans rfl, (blk_cell BK351.out 1).trans rfl, (blk_cell BK351.out 2).trans rfl, hx353_0⟩ (fun hHeld => ?_); refine with_tabW transeptlaw08_laid.tab7 transeptlaw08_laid.bits7 (fun HT_ HW_ => ?_)
           generalize wc.drew = w56 at HO_0 HO_8 HO_352000 HO_352002 HL352_0 BK350 BK351 HR352_0 HB HL353_0 HR353_0 hx353_0 hHeld ⊢
           refine pu_ 1 (some 35) HT_ ?_
           refine pu_ 2 (some 36) HT_ ?_
           refine pu_ 3 (some 37) HT_ ?_
           refine tk_ 0 (some 34) HT_ HW_ hHeld ?_
           refine tk_ 4 (some 38) HT_ HW_ hHeld ?_
           refine join_ (σ := Value × Value × Nat) 2 #[true, true, true, true, true, true, true, true, true, true, false, false] (fun s_ => [(39, .tuple #[.agg #[s_.1, .int .i64 t357, s_.2.1], .int .i64 t361]), (10, .pointer (some ⟨s_.2.2, 0, none⟩)), (33, .tuple #[.agg #[s_.1, .int .i64 t357, s_.2.1], .int .i64 t361]), (40, .agg #[s_.1, .int .i64 t357, s_.2.1]), (41, .int .i64 t361)]) (fun s_ w' => (w'.cell? ⟨gb351, 0, none⟩ = some (.slice Ao54 x352000_1.length co54) ∧ w'.cell? ⟨gb351, 1, none⟩ = some (.int .i64 x352001_1) ∧ w'.cell? ⟨gb351, 2, none⟩ = some (.slice Ao55 x352002_1.length co55) ∧ w'.cell? (ad352.add (x9_1).toNat) = some (.slice A353_0 (rd_L3 l0 x9_1).length c353_0)) ∧ (Kd.V (Kd.slice 5 (Kd.int .u8)) 26 w' w.heap.size (fun k_ => (P0_ k_ ∨ w.heap.size ≤ k_) ∧ some k_ ≠ (s_.1 : Value).ownBlock ∧ some k_ ≠ (s_.2.1 : Value).ownBlock ∧ some k_ ≠ (.slice Ao54 x352000_1.length co54 : Value).ownBlock ∧ some k_ ≠ (.slice Ao55 x352002_1.length co55 : Value).ownBlock ∧ some k_ ≠ (.slice Ao53 x8_1.length co53 : Value).ownBlock ∧ k_ ≠ gb350 ∧ k_ ≠ gb351 ∧ k_ ≠ s_.2.2) (.slice A352_0 (rd_L3 l0 x9_1).length c352_0) (rd_L3 l0 x9_1)) ∧ (Kd.V (Kd.slice 5 (Kd.int .u8)) 26 w' w.heap.size (fun k_ => (P0_ k_ ∨ w.heap.size ≤ k_) ∧ some k_ ≠ (s_.1 : Value).ownBlock ∧ some k_ ≠ (s_.2.1 : Value).ownBlock ∧ some k_ ≠ (.slice Ao54 x352000_1.length co54 : Value).ownBlock ∧ some k_ ≠ (.slice Ao55 x352002_1.length co55 : Value).ownBlock ∧ some k_ ≠ (.slice Ao53 x8_1.length co53 : Value).ownBlock ∧ k_ ≠ gb350 ∧ k_ ≠ gb351 ∧ k_ ≠ s_.2.2) (.slice A353_0 (rd_L3 l0 x9_1).length c353_0) (rd_L3 l0 x9_1)) ∧ (Kd.N k70 70 w' w.heap.size (fun k_ => (P0_ k_ ∨ w.heap.size ≤ k_) ∧ some k_ ≠ (s_.2.1 : Value).ownBlock ∧ some k_ ≠ (.slice Ao54 x352000_1.length co54 : Value).ownBlock ∧ some k_ ≠ (.slice Ao55 x352002_1.length co55 : Value).ownBlock ∧ some k_ ≠ (.slice Ao53 x8_1.length co53 : Value).ownBlock ∧ k_ ≠ gb350 ∧ k_ ≠ gb351 ∧ k_ ≠ s_.2.2) s_.1 t354) ∧ (Kd.N (Kd.slice 5 (Kd.int .u8)) 26 w' w.heap.size (fun k_ => (P0_ k_ ∨ w.heap.size ≤ k_) ∧ some k_ ≠ (s_.1 : Value).ownBlock ∧ some k_ ≠ (.slice Ao54 x352000_1.length co54 : Value).ownBlock ∧ some k_ ≠ (.slice Ao55 x352002_1.length co55 : Value).ownBlock ∧ some k_ ≠ (.slice Ao53 x8_1.length co53 : Value).ownBlock ∧ k_ ≠ gb350 ∧ k_ ≠ gb351 ∧ k_ ≠ s_.2.2) s_.2.1 t358) ∧ (Kd.V (Kd.slice 26 (Kd.slice 5 (Kd.int .u8))) 56 w' w.heap.size (fun k_ => (P0_ k_ ∨ w.heap.size ≤ k_) ∧ some k_ ≠ (s_.1 : Value).ownBlock ∧ some k_ ≠ (s_.2.1 : Value).ownBlock ∧ some k_ ≠ (.slice Ao54 x352000_1.length co54 : Value).ownBlock ∧ some k_ ≠ (.slice Ao55 x352002_1.length co55 : Value).ownBlock ∧ some k_ ≠ (.slice Ao53 x8_1.length co53 : Value).ownBlock ∧ k_ ≠ gb350 ∧ k_ ≠ gb351 ∧ k_ ≠ s_.2.2) (.slice (some ad352) l0.length c0) l0) ∧ (Kd.N k70 70 w' w.heap.size (fun k_ => (P0_ k_ ∨ w.heap.size ≤ k_) ∧ some k_ ≠ (s_.1 : Value).ownBlock ∧ some k_ ≠ (s_.2.1 : Value).ownBlock ∧ some k_ ≠ (.slice Ao55 x352002_1.length co55 : Value).ownBlock ∧ some k_ ≠ (.slice Ao53 x8_1.length co53 : Value).ownBlock ∧ k_ ≠ gb350 ∧ k_ ≠ gb351 ∧ k_ ≠ s_.2.2) (.slice Ao54 x352000_1.length co54) x352000_1) ∧ (Kd.N (Kd.slice 5 (Kd.int .u8)) 26 w' w.heap.size (fun k_ => (P0_ k_ ∨ w.heap.size ≤ k_) ∧ some k_ ≠ (s_.1 : Value).ownBlock ∧ some k_ ≠ (s_.2.1 : Value).ownBlock ∧ some k_ ≠ (.slice Ao54 x352000_1.length co54 : Value).ownBlock ∧ some k_ ≠ (.slice Ao53 x8_1.length co53 : Value).ownBlock ∧ k_ ≠ gb350 ∧ k_ ≠ gb351 ∧ k_ ≠ s_.2.2) (.slice Ao55 x352002_1.length co55) x352002_1) ∧ (Kd.N (Kd.slice 5 (Kd.int .u8)) 26 w' w.heap.size (fun k_ => (P0_ k_ ∨ w.heap.size ≤ k_) ∧ some k_ ≠ (s_.1 : Value).ownBlock ∧ some k_ ≠ (s_.2.1 : Value).ownBlock ∧ some k_ ≠ (.slice Ao54 x352000_1.length co54 : Value).ownBlock ∧ some k_ ≠ (.slice Ao55 x352002_1.length co55 : Value).ownBlock ∧ k_ ≠ gb350 ∧ k_ ≠ gb351 ∧ k_ ≠ s_.2.2) (.slice Ao53 x8_1.length co53) x8_1) ∧ (w'.heap[gb350]? = some (.cells #[.slice none 0 0, .int .i64 x351001_1, .slice none 0 0] 61 (0, 0))) ∧ (w'.heap[gb351]? = some (.cells #[.slice Ao54 x352000_1.length co54, .int .i64 x352001_1, .slice Ao55 x352002_1.length co55] 61 (0, 0))) ∧ (w'.heap[s_.2.2]? = some (.cells #[.slice none 0 0, .int .i64 0, .slice none 0 0] 61 (0, 0))) ∧ (w.heap.size ≤ s_.2.2) ∧ (w.heap.size ≤ s_.2.2) ∧ (gb350 ≠ s_.2.2) ∧ (s_.2.2 ≠ gb350) ∧ (gb351 ≠ s_.2.2) ∧ (s_.2.2 ≠ gb351) ∧ (Below w.heap.size w w')) ?_ ?_
           rotate_left
           ·intro hCont
            refine two_ (i := 5) (j := 9) (Ni := some 39) (Nj := some 10) #[true, true, true, true, true, true, false, false, false, false, false, false] #[true, true, true, true, true, false, false, false, false, true, false, false] rfl rfl rfl rfl (two_of HT_.out (by kernel_rfl)) (by decide) (by decide) (fun K hK => ?_) (fun K hK => ?_)
            ·skip
             refine goes_ Try.func35 (by kernel_rfl) rfl #[.agg #[.slice Ao54 x352000_1.length co54, .int .i64 x352001_1, .slice Ao55 x352002_1.length co55], .slice A353_0 (rd_L3 l0 x9_1).length c353_0] (by rfl) rfl rfl (by (try simp only [List.map_toArray, List.map_cons, List.map_nil]); first | done | rfl | (simp only [List.length_drop, List.length_take]; rfl)) ?_
             with_reducible refine (wal_Append.calls kj4 _ _ x352000_1 x352001_1 _ _ x352002_1 _ _ (rd_L3 l0 x9_1) t354 t357 t358 t361 _ ?side1 ?side2 ?side3 ?side4 ?side5 ?side6 A17.out).mono ?_
             (case side1 => exact cO_ (Kd.N_reads' HO_352000.out).2.2)
             (case side2 => exact (Kd.N_reads' HO_352000.out).2.1)
             (case side3 => exact cO_ (Kd.N_reads' HO_352002.out).2.2)
             (case side4 => exact (Kd.N_reads' HO_352002.out).2.1)
             (case side5 => repeat (first | exact (by repeat (first | (with_reducible exact HR353_0.out) | (with_reducible refine Kd.C_alloc ?_ _) | (with_reducible refine Kd.C_drewN ?_ _) | (with_reducible refine Kd.C_drew ?_) | exact HR353_0.out)) | (with_reducible refine Kd.C_alloc ?_ _) | (with_reducible refine Kd.C_drewN ?_ _) | (with_reducible refine Kd.C_drew ?_)))
             (case side6 => exact HC353_0.out)
             rintro e w57 ⟨v355, v359, rfl, ho0, ho1, hb⟩
             have HS3_ := (hb.cell (World.block_lt_of_cell? _ _ (hHeld.2.2.2))).trans (hHeld.2.2.2)
             refine ⟨_, rfl, ?_⟩
             replace HO_0 := Aside0.mk (Kd.V_mono (Kd.V_told (Kd.V_told (Kd.V_old (vA_ HO_0) hb) (Kd.N_base ho0)) (Kd.N_base ho1)) (fun _ h_ => h_.1))
             replace HL352_0 := Aside0.mk (Kd.V_mono (Kd.V_told (Kd.V_told (Kd.V_old (vA_ HL352_0) hb) (Kd.N_base ho0)) (Kd.N_base ho1)) (fun _ h_ => h_.1))
             replace HL353_0 := Aside0.mk (Kd.V_mono (Kd.V_told (Kd.V_told (Kd.V_old (vA_ HL353_0) hb) (Kd.N_base ho0)) (Kd.N_base ho1)) (fun _ h_ => h_.1))
             have HO356 := Aside0.mk (Kd.N_lower (Kd.N_mono (ok' := fun k_ => (P0_ k_ ∨ w.heap.size ≤ k_) ∧ some k_ ≠ (v359 : Value).ownBlock ∧ some k_ ≠ (.slice Ao53 x8_1.length co53 : Value).ownBlock ∧ some k_ ≠ (.slice Ao54 x352000_1.length co54 : Value).ownBlock ∧ some k_ ≠ (.slice Ao55 x352002_1.length co55 : Value).ownBlock ∧ k_ ≠ gb350 ∧ k_ ≠ gb351) ho0 (fun k_ hk_ => ⟨(.inr (Nat.le_trans (bs_ HB) hk_.1)), hk_.2, (Kd.fresh' (Kd.N_lt (nA_ HO_8)) k_ hk_.1), (Kd.fresh' (Kd.N_lt (nA_ HO_352000)) k_ hk_.1), (Kd.fresh' (Kd.N_lt (nA_ HO_352002)) k_ hk_.1), (Kd.freshB (bA_ BK350) k_ hk_.1), (Kd.freshB (bA_ BK351) k_ hk_.1)⟩)) (bs_ HB))
             have HO360 := Aside0.mk (Kd.N_lower (Kd.N_mono (ok' := fun k_ => (P0_ k_ ∨ w.heap.size ≤ k_) ∧ some k_ ≠ (v355 : Value).ownBlock ∧ some k_ ≠ (.slice Ao53 x8_1.length co53 : Value).ownBlock ∧ some k_ ≠ (.slice Ao54 x352000_1.length co54 : Value).ownBlock ∧ some k_ ≠ (.slice Ao55 x352002_1.length co55 : Value).ownBlock ∧ k_ ≠ gb350 ∧ k_ ≠ gb351) ho1 (fun k_ hk_ => ⟨(.inr (Nat.le_trans (bs_ HB) hk_.1)), hk_.2, (Kd.fresh' (Kd.N_lt (nA_ HO_8)) k_ hk_.1), (Kd.fresh' (Kd.N_lt (nA_ HO_352000)) k_ hk_.1), (Kd.fresh' (Kd.N_lt (nA_ HO_352002)) k_ hk_.1), (Kd.freshB (bA_ BK350) k_ hk_.1), (Kd.freshB (bA_ BK351) k_ hk_.1)⟩)) (bs_ HB))
             replace HO_8 := Aside0.mk (Kd.N_mono (Kd.N_told (Kd.N_told (Kd.N_old (nA_ HO_8) hb) (Kd.N_base ho0)) (Kd.N_base ho1)) (fun _ h_ => h_.1))
             replace HO_352000 := Aside0.mk (Kd.N_mono (Kd.N_told (Kd.N_told (Kd.N_old (nA_ HO_352000) hb) (Kd.N_base ho0)) (Kd.N_base ho1)) (fun _ h_ => h_.1))
             replace HO_352002 := Aside0.mk (Kd.N_mono (Kd.N_told (Kd.N_told (Kd.N_old (nA_ HO_352002) hb) (Kd.N_base ho0)) (Kd.N_base ho1)) (fun _ h_ => h_.1))
             replace BK350 := bK_ BK350 hb
             replace BK351 := bK_ BK351 hb
             replace HR352_0 := Aside0.mk (Kd.C_below (by repeat (first | (with_reducible exact HR352_0.out) | (with_reducible refine Kd.C_alloc ?_ _) | (with_reducible refine Kd.C_drewN ?_ _) | (with_reducible refine Kd.C_drew ?_) | exact HR352_0.out)) hb)
             replace HR353_0 := Aside0.mk (Kd.C_below (by repeat (first | (with_reducible exact HR353_0.out) | (with_reducible refine Kd.C_alloc ?_ _) | (with_reducible refine Kd.C_drewN ?_ _) | (with_reducible refine Kd.C_drew ?_) | exact HR353_0.out)) hb)
             replace HB := bS_ HB hb
             (try clear hb ho0 ho1)
             refine hK.out _ _ ⟨(blk_cell BK351.out 0).trans rfl, (blk_cell BK351.out 1).trans rfl, (blk_cell BK351.out 2).trans rfl, HS3_⟩ (fun hHeld => ?_)
             clear hK K
             refine norm_ (a' := ?_) ?_ ?_
             rotate_left
             ·show Act.put _ (some 39) _ = _
              simp only [Act.put, List.setIfInBounds_toArray, List.set_cons_zero, List.set_cons_succ, i64_w, i32_w]
              rfl
             refine pu_ 6 (some 33) HT_ ?_
             refine pu_ 7 (some 40) HT_ ?_
             refine pu_ 8 (some 41) HT_ ?_
             refine on_ 9 (some 10) HT_ (fun K hK => ?_)
             refine box_step ?hg (N := 10) ?hd (cs := #[.slice none 0 0, .int .i64 0, .slice none 0 0]) (t := 61) ?hr ?_; (case hd => rfl); (case hg => rfl); (case hr => first | (go_simp; done) | (go_simp; rfl))
             intro gb362 hg w58 hbox hb
             have HS3_ := (hb.cell (World.block_lt_of_cell? _ _ (hHeld.2.2.2))).trans (hHeld.2.2.2)
             replace HO_0 := Aside0.mk (Kd.V_below (Kd.V_elderB (vA_ HO_0) gb362 (Nat.le_of_eq hg.symm)) hb)
             replace HO_8 := Aside0.mk (Kd.N_below (Kd.N_elderB (nA_ HO_8) gb362 (Nat.le_of_eq hg.symm)) hb)
             replace HO_352000 := Aside0.mk (Kd.N_below (Kd.N_elderB (nA_ HO_352000) gb362 (Nat.le_of_eq hg.symm)) hb)
             replace HO_352002 := Aside0.mk (Kd.N_below (Kd.N_elderB (nA_ HO_352002) gb362 (Nat.le_of_eq hg.symm)) hb)
             replace HL352_0 := Aside0.mk (Kd.V_below (Kd.V_elderB (vA_ HL352_0) gb362 (Nat.le_of_eq hg.symm)) hb)
             replace HL353_0 := Aside0.mk (Kd.V_below (Kd.V_elderB (vA_ HL353_0) gb362 (Nat.le_of_eq hg.symm)) hb)
             replace HO356 := Aside0.mk (Kd.N_below (Kd.N_elderB (nA_ HO356) gb362 (Nat.le_of_eq hg.symm)) hb)
             replace HO360 := Aside0.mk (Kd.N_below (Kd.N_elderB (nA_ HO360) gb362 (Nat.le_of_eq hg.symm)) hb)
             replace HR352_0 := Aside0.mk (Kd.C_below (by repeat (first | (with_reducible exact HR352_0.out) | (with_reducible refine Kd.C_alloc ?_ _) | (with_reducible refine Kd.C_drewN ?_ _) | (with_reducible refine Kd.C_drew ?_) | exact HR352_0.out)) hb)
             replace HR353_0 := Aside0.mk (Kd.C_below (by repeat (first | (with_reducible exact HR353_0.out) | (with_reducible refine Kd.C_alloc ?_ _) | (with_reducible refine Kd.C_drewN ?_ _) | (with_reducible refine Kd.C_drew ?_) | exact HR353_0.out)) hb)
             have BK362 := Aside0.mk (hbox)
             have GW362 := bG_ HB hg
             have GE362 := bG_ HB hg
             replace HB := bS_ HB hb
             have NB350_362 := nL_ BK350 hg
             have NB362_350 := nG_ BK350 hg
             replace BK350 := bK_ BK350 hb
             have NB351_362 := nL_ BK351 hg
             have NB362_351 := nG_ BK351 hg
             replace BK351 := bK_ BK351 hb
             clear hb hbox hg
             refine hK.out _ _ ⟨(blk_cell BK351.out 0).trans rfl, (blk_cell BK351.out 1).trans rfl, (blk_cell BK351.out 2).trans rfl, HS3_⟩ (fun hHeld => ?_)
             clear hK K
             refine norm_ (a' := ?_) ?_ ?_
             rotate_left
             ·show Act.put _ (some 10) _ = _
              simp only [Act.put, List.setIfInBounds_toArray, List.set_cons_zero, List.set_cons_succ, i64_w, i32_w]
              rfl
             exact norm_ (by simp only [putAll, Act.put, List.setIfInBounds_toArray, List.set_cons_zero, List.set_cons_succ]) (hCont (v355, v359, gb362) _ ⟨hHeld, (by (with_reducible repeat (first | apply Kd.V_alloc | apply Kd.V_drewN | apply Kd.V_drew)); exact Kd.V_mono HL352_0.out (fun _ hk => ⟨hk.1.1.1.1, ⟨hk.1.1.2, ⟨hk.1.2, ⟨hk.1.1.1.2.2.1, ⟨hk.1.1.1.2.2.2.1, ⟨hk.1.1.1.2.1, ⟨hk.1.1.1.2.2.2.2.1, ⟨hk.1.1.1.2.2.2.2.2, hk.2⟩⟩⟩⟩⟩⟩⟩⟩)), (by (with_reducible repeat (first | apply Kd.V_alloc | apply Kd.V_drewN | apply Kd.V_drew)); exact Kd.V_mono HL353_0.out (fun _ hk => ⟨hk.1.1.1.1, ⟨hk.1.1.2, ⟨hk.1.2, ⟨hk.1.1.1.2.2.1, ⟨hk.1.1.1.2.2.2.1, ⟨hk.1.1.1.2.1, ⟨hk.1.1.1.2.2.2.2.1, ⟨hk.1.1.1.2.2.2.2.2, hk.2⟩⟩⟩⟩⟩⟩⟩⟩)), (by (with_reducible repeat (first | apply Kd.N_alloc | apply Kd.N_drewN | apply Kd.N_drew)); exact Kd.N_mono HO356.out (fun _ hk => ⟨hk.1.1, ⟨hk.1.2.1, ⟨hk.1.2.2.2.1, ⟨hk.1.2.2.2.2.1, ⟨hk.1.2.2.1, ⟨hk.1.2.2.2.2.2.1, ⟨hk.1.2.2.2.2.2.2, hk.2⟩⟩⟩⟩⟩⟩⟩)), (by (with_reducible repeat (first | apply Kd.N_alloc | apply Kd.N_drewN | apply Kd.N_drew)); exact Kd.N_mono HO360.out (fun _ hk => ⟨hk.1.1, ⟨hk.1.2.1, ⟨hk.1.2.2.2.1, ⟨hk.1.2.2.2.2.1, ⟨hk.1.2.2.1, ⟨hk.1.2.2.2.2.2.1, ⟨hk.1.2.2.2.2.2.2, hk.2⟩⟩⟩⟩⟩⟩⟩)), (by (with_reducible repeat (first | apply Kd.V_alloc | apply Kd.V_drewN | apply Kd.V_drew)); exact Kd.V_mono HO_0.out (fun _ hk => ⟨hk.1.1.1.1, ⟨hk.1.1.2, ⟨hk.1.2, ⟨hk.1.1.1.2.2.1, ⟨hk.1.1.1.2.2.2.1, ⟨hk.1.1.1.2.1, ⟨hk.1.1.1.2.2.2.2.1, ⟨hk.1.1.1.2.2.2.2.2, hk.2⟩⟩⟩⟩⟩⟩⟩⟩)), (by (with_reducible repeat (first | apply Kd.N_alloc | apply Kd.N_drewN | apply Kd.N_drew)); exact Kd.N_mono HO_352000.out (fun _ hk => ⟨hk.1.1.1.1, ⟨hk.1.1.2, ⟨hk.1.2, ⟨hk.1.1.1.2.2.1, ⟨hk.1.1.1.2.1, ⟨hk.1.1.1.2.2.2.1, ⟨hk.1.1.1.2.2.2.2, hk.2⟩⟩⟩⟩⟩⟩⟩)), (by (with_reducible repeat (first | apply Kd.N_alloc | apply Kd.N_drewN | apply Kd.N_drew)); exact Kd.N_mono HO_352002.out (fun _ hk => ⟨hk.1.1.1.1, ⟨hk.1.1.2, ⟨hk.1.2, ⟨hk.1.1.1.2.2.1, ⟨hk.1.1.1.2.1, ⟨hk.1.1.1.2.2.2.1, ⟨hk.1.1.1.2.2.2.2, hk.2⟩⟩⟩⟩⟩⟩⟩)), (by (with_reducible repeat (first | apply Kd.N_alloc | apply Kd.N_drewN | apply Kd.N_drew)); exact Kd.N_mono HO_8.out (fun _ hk => ⟨hk.1.1.1.1, ⟨hk.1.1.2, ⟨hk.1.2, ⟨hk.1.1.1.2.1, ⟨hk.1.1.1.2.2.1, ⟨hk.1.1.1.2.2.2.1, ⟨hk.1.1.1.2.2.2.2, hk.2⟩⟩⟩⟩⟩⟩⟩)), (bA_ BK350), (bA_ BK351), (bA_ BK362), GW362.out, GE362.out, NB350_362.out, NB362_350.out, NB351_362.out, NB362_351.out, (bl_ HB)⟩)
            ·skip
             refine box_step ?hg (N := 10) ?hd (cs := #[.slice none 0 0, .int .i64 0, .slice none 0 0]) (t := 61) ?hr ?_; (case hd => rfl); (case hg => rfl); (case hr => first | (go_simp; done) | (go_simp; rfl))
             intro gb362 hg w57 hbox hb
             have HS3_ := (hb.cell (World.block_lt_of_cell? _ _ (hHeld.2.2.2))).trans (hHeld.2.2.2)
             replace HO_0 := Aside0.mk (Kd.V_below (Kd.V_elderB (vA_ HO_0) gb362 (Nat.le_of_eq hg.symm)) hb)
             replace HO_8 := Aside0.mk (Kd.N_below (Kd.N_elderB (nA_ HO_8) gb362 (Nat.le_of_eq hg.symm)) hb)
             replace HO_352000 := Aside0.mk (Kd.N_below (Kd.N_elderB (nA_ HO_352000) gb362 (Nat.le_of_eq hg.symm)) hb)
             replace HO_352002 := Aside0.mk (Kd.N_below (Kd.N_elderB (nA_ HO_352002) gb362 (Nat.le_of_eq hg.symm)) hb)
             replace HL352_0 := Aside0.mk (Kd.V_below (Kd.V_elderB (vA_ HL352_0) gb362 (Nat.le_of_eq hg.symm)) hb)
             replace HL353_0 := Aside0.mk (Kd.V_below (Kd.V_elderB (vA_ HL353_0) gb362 (Nat.le_of_eq hg.symm)) hb)
             replace HR352_0 := Aside0.mk (Kd.C_below (by repeat (first | (with_reducible exact HR352_0.out) | (with_reducible refine Kd.C_alloc ?_ _) | (with_reducible refine Kd.C_drewN ?_ _) | (with_reducible refine Kd.C_drew ?_) | exact HR352_0.out)) hb)
             replace HR353_0 := Aside0.mk (Kd.C_below (by repeat (first | (with_reducible exact HR353_0.out) | (with_reducible refine Kd.C_alloc ?_ _) | (with_reducible refine Kd.C_drewN ?_ _) | (with_reducible refine Kd.C_drew ?_) | exact HR353_0.out)) hb)
             have BK362 := Aside0.mk (hbox)
             have GW362 := bG_ HB hg
             have GE362 := bG_ HB hg
             replace HB := bS_ HB hb
             have NB350_362 := nL_ BK350 hg
             have NB362_350 := nG_ BK350 hg
             replace BK350 := bK_ BK350 hb
             have NB351_362 := nL_ BK351 hg
             have NB362_351 := nG_ BK351 hg
             replace BK351 := bK_ BK351 hb
             clear hb hbox hg
             refine hK.out _ _ ⟨(blk_cell BK351.out 0).trans rfl, (blk_cell BK351.out 1).trans rfl, (blk_cell BK351.out 2).trans rfl, HS3_⟩ (fun hHeld => ?_)
             clear hK K
             refine norm_ (a' := ?_) ?_ ?_
             rotate_left
             ·show Act.put _ (some 10) _ = _
              simp only [Act.put, List.setIfInBounds_toArray, List.set_cons_zero, List.set_cons_succ, i64_w, i32_w]
              rfl
             refine on_ 5 (some 39) HT_ (fun K hK => ?_)
             refine goes_ Try.func35 (by kernel_rfl) rfl #[.agg #[.slice Ao54 x352000_1.length co54, .int .i64 x352001_1, .slice Ao55 x352002_1.length co55], .slice A353_0 (rd_L3 l0 x9_1).length c353_0] (by rfl) rfl rfl (by (try simp only [List.map_toArray, List.map_cons, List.map_nil]); first | done | rfl | (simp only [List.length_drop, List.length_take]; rfl)) ?_
             with_reducible refine (wal_Append.calls kj4 _ _ x352000_1 x352001_1 _ _ x352002_1 _ _ (rd_L3 l0 x9_1) t354 t357 t358 t361 _ ?side1 ?side2 ?side3 ?side4 ?side5 ?side6 A17.out).mono ?_
             (case side1 => exact cO_ (Kd.N_reads' HO_352000.out).2.2)
             (case side2 => exact (Kd.N_reads' HO_352000.out).2.1)
             (case side3 => exact cO_ (Kd.N_reads' HO_352002.out).2.2)
             (case side4 => exact (Kd.N_reads' HO_352002.out).2.1)
             (case side5 => repeat (first | exact (by repeat (first | (with_reducible exact HR353_0.out) | (with_reducible refine Kd.C_alloc ?_ _) | (with_reducible refine Kd.C_drewN ?_ _) | (with_reducible refine Kd.C_drew ?_) | exact HR353_0.out)) | (with_reducible refine Kd.C_alloc ?_ _) | (with_reducible refine Kd.C_drewN ?_ _) | (with_reducible refine Kd.C_drew ?_)))
             (case side6 => exact HC353_0.out)
             rintro e w58 ⟨v355, v359, rfl, ho0, ho1, hb⟩
             have HS3_ := (hb.cell (World.block_lt_of_cell? _ _ (hHeld.2.2.2))).trans (hHeld.2.2.2)
             refine ⟨_, rfl, ?_⟩
             replace HO_0 := Aside0.mk (Kd.V_mono (Kd.V_told (Kd.V_told (Kd.V_old (vA_ HO_0) hb) (Kd.N_base ho0)) (Kd.N_base ho1)) (fun _ h_ => h_.1))
             replace HL352_0 := Aside0.mk (Kd.V_mono (Kd.V_told (Kd.V_told (Kd.V_old (vA_ HL352_0) hb) (Kd.N_base ho0)) (Kd.N_base ho1)) (fun _ h_ => h_.1))
             replace HL353_0 := Aside0.mk (Kd.V_mono (Kd.V_told (Kd.V_told (Kd.V_old (vA_ HL353_0) hb) (Kd.N_base ho0)) (Kd.N_base ho1)) (fun _ h_ => h_.1))
             have HO356 := Aside0.mk (Kd.N_lower (Kd.N_mono (ok' := fun k_ => (P0_ k_ ∨ w.heap.size ≤ k_) ∧ some k_ ≠ (v359 : Value).ownBlock ∧ some k_ ≠ (.slice Ao53 x8_1.length co53 : Value).ownBlock ∧ some k_ ≠ (.slice Ao54 x352000_1.length co54 : Value).ownBlock ∧ some k_ ≠ (.slice Ao55 x352002_1.length co55 : Value).ownBlock ∧ k_ ≠ gb350 ∧ k_ ≠ gb351 ∧ k_ ≠ gb362) ho0 (fun k_ hk_ => ⟨(.inr (Nat.le_trans (bs_ HB) hk_.1)), hk_.2, (Kd.fresh' (Kd.N_lt (nA_ HO_8)) k_ hk_.1), (Kd.fresh' (Kd.N_lt (nA_ HO_352000)) k_ hk_.1), (Kd.fresh' (Kd.N_lt (nA_ HO_352002)) k_ hk_.1), (Kd.freshB (bA_ BK350) k_ hk_.1), (Kd.freshB (bA_ BK351) k_ hk_.1), (Kd.freshB (bA_ BK362) k_ hk_.1)⟩)) (bs_ HB))
             have HO360 := Aside0.mk (Kd.N_lower (Kd.N_mono (ok' := fun k_ => (P0_ k_ ∨ w.heap.size ≤ k_) ∧ some k_ ≠ (v355 : Value).ownBlock ∧ some k_ ≠ (.slice Ao53 x8_1.length co53 : Value).ownBlock ∧ some k_ ≠ (.slice Ao54 x352000_1.length co54 : Value).ownBlock ∧ some k_ ≠ (.slice Ao55 x352002_1.length co55 : Value).ownBlock ∧ k_ ≠ gb350 ∧ k_ ≠ gb351 ∧ k_ ≠ gb362) ho1 (fun k_ hk_ => ⟨(.inr (Nat.le_trans (bs_ HB) hk_.1)), hk_.2, (Kd.fresh' (Kd.N_lt (nA_ HO_8)) k_ hk_.1), (Kd.fresh' (Kd.N_lt (nA_ HO_352000)) k_ hk_.1), (Kd.fresh' (Kd.N_lt (nA_ HO_352002)) k_ hk_.1), (Kd.freshB (bA_ BK350) k_ hk_.1), (Kd.freshB (bA_ BK351) k_ hk_.1), (Kd.freshB (bA_ BK362) k_ hk_.1)⟩)) (bs_ HB))
             replace HO_8 := Aside0.mk (Kd.N_mono (Kd.N_told (Kd.N_told (Kd.N_old (nA_ HO_8) hb) (Kd.N_base ho0)) (Kd.N_base ho1)) (fun _ h_ => h_.1))
             replace HO_352000 := Aside0.mk (Kd.N_mono (Kd.N_told (Kd.N_told (Kd.N_old (nA_ HO_352000) hb) (Kd.N_base ho0)) (Kd.N_base ho1)) (fun _ h_ => h_.1))
             replace HO_352002 := Aside0.mk (Kd.N_mono (Kd.N_told (Kd.N_told (Kd.N_old (nA_ HO_352002) hb) (Kd.N_base ho0)) (Kd.N_base ho1)) (fun _ h_ => h_.1))
             replace BK350 := bK_ BK350 hb
             replace BK351 := bK_ BK351 hb
             replace HR352_0 := Aside0.mk (Kd.C_below (by repeat (first | (with_reducible exact HR352_0.out) | (with_reducible refine Kd.C_alloc ?_ _) | (with_reducible refine Kd.C_drewN ?_ _) | (with_reducible refine Kd.C_drew ?_) | exact HR352_0.out)) hb)
             replace HR353_0 := Aside0.mk (Kd.C_below (by repeat (first | (with_reducible exact HR353_0.out) | (with_reducible refine Kd.C_alloc ?_ _) | (with_reducible refine Kd.C_drewN ?_ _) | (with_reducible refine Kd.C_drew ?_) | exact HR353_0.out)) hb)
             replace BK362 := bK_ BK362 hb
             replace HB := bS_ HB hb
             (try clear hb ho0 ho1)
             refine hK.out _ _ ⟨(blk_cell BK351.out 0).trans rfl, (blk_cell BK351.out 1).trans rfl, (blk_cell BK351.out 2).trans rfl, HS3_⟩ (fun hHeld => ?_)
             clear hK K
             refine norm_ (a' := ?_) ?_ ?_
             rotate_left
             ·show Act.put _ (some 39) _ = _
              simp only [Act.put, List.setIfInBounds_toArray, List.set_cons_zero, List.set_cons_succ, i64_w, i32_w]
              rfl
             refine pu_ 6 (some 33) HT_ ?_
             refine pu_ 7 (some 40) HT_ ?_
             refine pu_ 8 (some 41) HT_ ?_
             exact norm_ (by simp only [putAll, Act.put, List.setIfInBounds_toArray, List.set_cons_zero, List.set_cons_succ]) (hCont (v355, v359, gb362) _ ⟨hHeld, (by (with_reducible repeat (first | apply Kd.V_alloc | apply Kd.V_drewN | apply Kd.V_drew)); exact Kd.V_mono HL352_0.out (fun _ hk => ⟨hk.1.1.1.1, ⟨hk.1.2, ⟨hk.2, ⟨hk.1.1.1.2.2.1, ⟨hk.1.1.1.2.2.2.1, ⟨hk.1.1.1.2.1, ⟨hk.1.1.1.2.2.2.2.1, ⟨hk.1.1.1.2.2.2.2.2, hk.1.1.2⟩⟩⟩⟩⟩⟩⟩⟩)), (by (with_reducible repeat (first | apply Kd.V_alloc | apply Kd.V_drewN | apply Kd.V_drew)); exact Kd.V_mono HL353_0.out (fun _ hk => ⟨hk.1.1.1.1, ⟨hk.1.2, ⟨hk.2, ⟨hk.1.1.1.2.2.1, ⟨hk.1.1.1.2.2.2.1, ⟨hk.1.1.1.2.1, ⟨hk.1.1.1.2.2.2.2.1, ⟨hk.1.1.1.2.2.2.2.2, hk.1.1.2⟩⟩⟩⟩⟩⟩⟩⟩)), (by (with_reducible repeat (first | apply Kd.N_alloc | apply Kd.N_drewN | apply Kd.N_drew)); exact Kd.N_mono HO356.out (fun _ hk => ⟨hk.1, ⟨hk.2.1, ⟨hk.2.2.2.1, ⟨hk.2.2.2.2.1, ⟨hk.2.2.1, ⟨hk.2.2.2.2.2.1, ⟨hk.2.2.2.2.2.2.1, hk.2.2.2.2.2.2.2⟩⟩⟩⟩⟩⟩⟩)), (by (with_reducible repeat (first | apply Kd.N_alloc | apply Kd.N_drewN | apply Kd.N_drew)); exact Kd.N_mono HO360.out (fun _ hk => ⟨hk.1, ⟨hk.2.1, ⟨hk.2.2.2.1, ⟨hk.2.2.2.2.1, ⟨hk.2.2.1, ⟨hk.2.2.2.2.2.1, ⟨hk.2.2.2.2.2.2.1, hk.2.2.2.2.2.2.2⟩⟩⟩⟩⟩⟩⟩)), (by (with_reducible repeat (first | apply Kd.V_alloc | apply Kd.V_drewN | apply Kd.V_drew)); exact Kd.V_mono HO_0.out (fun _ hk => ⟨hk.1.1.1.1, ⟨hk.1.2, ⟨hk.2, ⟨hk.1.1.1.2.2.1, ⟨hk.1.1.1.2.2.2.1, ⟨hk.1.1.1.2.1, ⟨hk.1.1.1.2.2.2.2.1, ⟨hk.1.1.1.2.2.2.2.2, hk.1.1.2⟩⟩⟩⟩⟩⟩⟩⟩)), (by (with_reducible repeat (first | apply Kd.N_alloc | apply Kd.N_drewN | apply Kd.N_drew)); exact Kd.N_mono HO_352000.out (fun _ hk => ⟨hk.1.1.1.1, ⟨hk.1.2, ⟨hk.2, ⟨hk.1.1.1.2.2.1, ⟨hk.1.1.1.2.1, ⟨hk.1.1.1.2.2.2.1, ⟨hk.1.1.1.2.2.2.2, hk.1.1.2⟩⟩⟩⟩⟩⟩⟩)), (by (with_reducible repeat (first | apply Kd.N_alloc | apply Kd.N_drewN | apply Kd.N_drew)); exact Kd.N_mono HO_352002.out (fun _ hk => ⟨hk.1.1.1.1, ⟨hk.1.2, ⟨hk.2, ⟨hk.1.1.1.2.2.1, ⟨hk.1.1.1.2.1, ⟨hk.1.1.1.2.2.2.1, ⟨hk.1.1.1.2.2.2.2, hk.1.1.2⟩⟩⟩⟩⟩⟩⟩)), (by (with_reducible repeat (first | apply Kd.N_alloc | apply Kd.N_drewN | apply Kd.N_drew)); exact Kd.N_mono HO_8.out (fun _ hk => ⟨hk.1.1.1.1, ⟨hk.1.2, ⟨hk.2, ⟨hk.1.1.1.2.1, ⟨hk.1.1.1.2.2.1, ⟨hk.1.1.1.2.2.2.1, ⟨hk.1.1.1.2.2.2.2, hk.1.1.2⟩⟩⟩⟩⟩⟩⟩)), (bA_ BK350), (bA_ BK351), (bA_ BK362), GW362.out, GE362.out, NB350_362.out, NB362_350.out, NB351_362.out, NB362_351.out, (bl_ HB)⟩)
           rintro ⟨v355, v359, gb362⟩ w59 ⟨hS_, h0_, h1_, h2_, h3_, h4_, h5_, h6_, h7_, h8_, h9_, h10_, h11_, h12_, h13_, h14_, h15_, h16_, h17_⟩
           replace HL352_0 : Aside0 (Kd.V (Kd.slice 5 (Kd.int .u8)) 26 w59 w.heap.size (fun k_ => (P0_ k_ ∨ w.heap.size ≤ k_) ∧ some k_ ≠ (v355 : Value).ownBlock ∧ some k_ ≠ (v359 : Value).ownBlock ∧ some k_ ≠ (.slice Ao54 x352000_1.length co54 : Value).ownBlock ∧ some k_ ≠ (.slice Ao55 x352002_1.length co55 : Value).ownBlock ∧ some k_ ≠ (.slice Ao53 x8_1.length co53 : Value).ownBlock ∧ k_ ≠ gb350 ∧ k_ ≠ gb351 ∧ k_ ≠ gb362) (.slice A352_0 (rd_L3 l0 x9_1).length c352_0) (rd_L3 l0 x9_1)) := ⟨h0_⟩
           have HL353_0 : Aside0 (Kd.V (Kd.slice 5 (Kd.int .u8)) 26 w59 w.heap.size (fun k_ => (P0_ k_ ∨ w.heap.size ≤ k_) ∧ some k_ ≠ (v355 : Value).ownBlock ∧ some k_ ≠ (v359 : Value).ownBlock ∧ some k_ ≠ (.slice Ao54 x352000_1.length co54 : Value).ownBlock ∧ some k_ ≠ (.slice Ao55 x352002_1.length co55 : Value).ownBlock ∧ some k_ ≠ (.slice Ao53 x8_1.length co53 : Value).ownBlock ∧ k_ ≠ gb350 ∧ k_ ≠ gb351 ∧ k_ ≠ gb362) (.slice A353_0 (rd_L3 l0 x9_1).length c353_0) (rd_L3 l0 x9_1)) := ⟨h1_⟩
           have HO356 : Aside0 (Kd.N k70 70 w59 w.heap.size (fun k_ => (P0_ k_ ∨ w.heap.size ≤ k_) ∧ some k_ ≠ (v359 : Value).ownBlock ∧ some k_ ≠ (.slice Ao54 x352000_1.length co54 : Value).ownBlock ∧ some k_ ≠ (.slice Ao55 x352002_1.length co55 : Value).ownBlock ∧ some k_ ≠ (.slice Ao53 x8_1.length co53 : Value).ownBlock ∧ k_ ≠ gb350 ∧ k_ ≠ gb351 ∧ k_ ≠ gb362) v355 t354) := ⟨h2_⟩
           have HO360 : Aside0 (Kd.N (Kd.slice 5 (Kd.int .u8)) 26 w59 w.heap.size (fun k_ => (P0_ k_ ∨ w.heap.size ≤ k_) ∧ some k_ ≠ (v355 : Value).ownBlock ∧ some k_ ≠ (.slice Ao54 x352000_1.length co54 : Value).ownBlock ∧ some k_ ≠ (.slice Ao55 x352002_1.length co55 : Value).ownBlock ∧ some k_ ≠ (.slice Ao53 x8_1.length co53 : Value).ownBlock ∧ k_ ≠ gb350 ∧ k_ ≠ gb351 ∧ k_ ≠ gb362) v359 t358) := ⟨h3_⟩
           replace HO_0 : Aside0 (Kd.V (Kd.slice 26 (Kd.slice 5 (Kd.int .u8))) 56 w59 w.heap.size (fun k_ => (P0_ k_ ∨ w.heap.size ≤ k_) ∧ some k_ ≠ (v355 : Value).ownBlock ∧ some k_ ≠ (v359 : Value).ownBlock ∧ some k_ ≠ (.slice Ao54 x352000_1.length co54 : Value).ownBlock ∧ some k_ ≠ (.slice Ao55 x352002_1.length co55 : Value).ownBlock ∧ some k_ ≠ (.slice Ao53 x8_1.length co53 : Value).ownBlock ∧ k_ ≠ gb350 ∧ k_ ≠ gb351 ∧ k_ ≠ gb362) (.slice (some ad352) l0.length c0) l0) := ⟨h4_⟩
           replace HO_352000 : Aside0 (Kd.N k70 70 w59 w.heap.size (fun k_ => (P0_ k_ ∨ w.heap.size ≤ k_) ∧ some k_ ≠ (v355 : Value).ownBlock ∧ some k_ ≠ (v359 : Value).ownBlock ∧ some k_ ≠ (.slice Ao55 x352002_1.length co55 : Value).ownBlock ∧ some k_ ≠ (.slice Ao53 x8_1.length co53 : Value).ownBlock ∧ k_ ≠ gb350 ∧ k_ ≠ gb351 ∧ k_ ≠ gb362) (.slice Ao54 x352000_1.length co54) x352000_1) := ⟨h5_⟩
           replace HO_352002 : Aside0 (Kd.N (Kd.slice 5 (Kd.int .u8)) 26 w59 w.heap.size (fun k_ => (P0_ k_ ∨ w.heap.size ≤ k_) ∧ some k_ ≠ (v355 : Value).ownBlock ∧ some k_ ≠ (v359 : Value).ownBlock ∧ some k_ ≠ (.slice Ao54 x352000_1.length co54 : Value).ownBlock ∧ some k_ ≠ (.slice Ao53 x8_1.length co53 : Value).ownBlock ∧ k_ ≠ gb350 ∧ k_ ≠ gb351 ∧ k_ ≠ gb362) (.slice Ao55 x352002_1.length co55) x352002_1) := ⟨h6_⟩
           replace HO_8 : Aside0 (Kd.N (Kd.slice 5 (Kd.int .u8)) 26 w59 w.heap.size (fun k_ => (P0_ k_ ∨ w.heap.size ≤ k_) ∧ some k_ ≠ (v355 : Value).ownBlock ∧ some k_ ≠ (v359 : Value).ownBlock ∧ some k_ ≠ (.slice Ao54 x352000_1.length co54 : Value).ownBlock ∧ some k_ ≠ (.slice Ao55 x352002_1.length co55 : Value).ownBlock ∧ k_ ≠ gb350 ∧ k_ ≠ gb351 ∧ k_ ≠ gb362) (.slice Ao53 x8_1.length co53) x8_1) := ⟨h7_⟩
           replace BK350 : Aside0 (w59.heap[gb350]? = some (.cells #[.slice none 0 0, .int .i64 x351001_1, .slice none 0 0] 61 (0, 0))) := ⟨h8_⟩
           replace BK351 : Aside0 (w59.heap[gb351]? = some (.cells #[.slice Ao54 x352000_1.length co54, .int .i64 x352001_1, .slice Ao55 x352002_1.length co55] 61 (0, 0))) := ⟨h9_⟩
           have BK362 : Aside0 (w59.heap[gb362]? = some (.cells #[.slice none 0 0, .int .i64 0, .slice none 0 0] 61 (0, 0))) := ⟨h10_⟩
           have GW362 : Aside0 (w.heap.size ≤ gb362) := ⟨h11_⟩
           have GE362 : Aside0 (w.heap.size ≤ gb362) := ⟨h12_⟩
           have NB350_362 : Aside0 (gb350 ≠ gb362) := ⟨h13_⟩
           have NB362_350 : Aside0 (gb362 ≠ gb350) := ⟨h14_⟩
           have NB351_362 : Aside0 (gb351 ≠ gb362) := ⟨h15_⟩
           have NB362_351 : Aside0 (gb362 ≠ gb351) := ⟨h16_⟩
           replace HB : Aside0 (Below w.heap.size w w59) := ⟨h17_⟩
           clear HR352_0 h0_ h1_ h2_ h3_ h4_ h5_ h6_ h7_ h8_ h9_ h10_ h11_ h12_ h13_ h14_ h15_ h16_ h17_
           have hHeld : w59.cell? ⟨gb351, 0, none⟩ = some (.slice Ao54 x352000_1.length co54) ∧ w59.cell? ⟨gb351, 1, none⟩ = some (.int .i64 x352001_1) ∧ w59.cell? ⟨gb351, 2, none⟩ = some (.slice Ao55 x352002_1.length co55) ∧ w59.cell? (ad352.add (x9_1).toNat) = some (.slice A353_0 (rd_L3 l0 x9_1).length c353_0) := hS_
           obtain ⟨Ao60, co60, eo60⟩ := Kd.N_slice HO356.out
           (first | subst eo60 | (injection eo60 with f1_ f2_ f3_; have f4_ := f1_.symm; have f5_ := f3_.symm; clear f1_ f2_ f3_; subst f4_; subst f5_))
           obtain ⟨Ao63, co63, eo63⟩ := Kd.N_slice HO360.out
           (first | subst eo63 | (injection eo63 with f1_ f2_ f3_; have f4_ := f1_.symm; have f5_ := f3_.symm; clear f1_ f2_ f3_; subst f4_; subst f5_))
           refine norm_ (a' := ?_) ?_ ?_
           rotate_left
           ·simp only [putAll, Act.put, List.setIfInBounds_toArray, List.set_cons_zero, List.set_cons_succ]
            rfl
           refine on_ 10 none HT_ (fun K hK => ?_)
           have hs61 : w59.cell? ⟨gb362, 0, none⟩ = some (.slice none 0 0) := (blk_cell BK362.out 0).trans rfl
           have hfs61 := blk_frozen BK362.out 0
           have hns61_0 := NB350_362.out
           have hns61_1 := NB351_362.out
           have hms61_0 := NB362_350.out
           have hms61_1 := NB362_351.out
           have hs62 : w59.cell? ⟨gb362, 1, none⟩ = some (.int .i64 0) := (blk_cell BK362.out 1).trans rfl
           have hfs62 := blk_frozen BK362.out 1
           have hns62_0 := NB350_362.out
           have hns62_1 := NB351_362.out
           have hms62_0 := NB362_350.out
           have hms62_1 := NB362_351.out
           have hs64 : w59.cell? ⟨gb362, 2, none⟩ = some (.slice none 0 0) := (blk_cell BK362.out 2).trans rfl
           have hfs64 := blk_frozen BK362.out 2
           have hns64_0 := NB350_362.out
           have hns64_1 := NB351_362.out
           have hms64_0 := NB362_350.out
           have hms64_1 := NB362_351.out
           refine skip_ (w1 := ?_) (by rfl) rfl ?_ ?_
           rotate_left
           ·go_simp
            rfl
           refine hK.out _ _ ⟨((cell_far (p := ⟨gb362, _, none⟩) NB351_362.out _).trans (((cell_far (p := ⟨gb362, _, none⟩) NB351_362.out _).trans (((cell_far (p := ⟨gb362, _, none⟩) NB351_362.out _).trans (hHeld.1)))))), ((cell_far (p := ⟨gb362, _, none⟩) NB351_362.out _).trans (((cell_far (p := ⟨gb362, _, none⟩) NB351_362.out _).trans (((cell_far (p := ⟨gb362, _, none⟩) NB351_362.out _).trans (hHeld.2.1)))))), ((cell_far (p := ⟨gb362, _, none⟩) NB351_362.out _).trans (((cell_far (p := ⟨gb362, _, none⟩) NB351_362.out _).trans (((cell_far (p := ⟨gb362, _, none⟩) NB351_362.out _).trans (hHeld.2.2.1)))))), ((cell_far (p := ⟨gb362, _, none⟩) (by first | exact vw_ (fun _ hk => hk.2.2.2.2.2.2.2.2) HO_0 (by decide) (by first | exact p353 | exact of_eq_true p353) (by first | exact q353 | exact of_eq_true q353) | (rw [add_block]; exact vw_ (fun _ hk => hk.2.2.2.2.2.2.2.2) HO_0 (by decide) (by first | exact p353 | exact of_eq_true p353) (by first | exact q353 | exact of_eq_true q353)) | (show (Addr.add _ _).block ≠ _; rw [add_block]; exact vw_ (fun _ hk => hk.2.2.2.2.2.2.2.2) HO_0 (by decide) (by first | exact p353 | exact of_eq_true p353) (by first | exact q353 | exact of_eq_true q353)) | (dsimp only; exact vw_ (fun _ hk => hk.2.2.2.2.2.2.2.2) HO_0 (by decide) (by first | exact p353 | exact of_eq_true p353) (by first | exact q353 | exact of_eq_true q353))) _).trans (((cell_far (p := ⟨gb362, _, none⟩) (by first | exact vw_ (fun _ hk => hk.2.2.2.2.2.2.2.2) HO_0 (by decide) (by first | exact p353 | exact of_eq_true p353) (by first | exact q353 | exact of_eq_true q353) | (rw [add_block]; exact vw_ (fun _ hk => hk.2.2.2.2.2.2.2.2) HO_0 (by decide) (by first | exact p353 | exact of_eq_true p353) (by first | exact q353 | exact of_eq_true q353)) | (show (Addr.add _ _).block ≠ _; rw [add_block]; exact vw_ (fun _ hk => hk.2.2.2.2.2.2.2.2) HO_0 (by decide) (by first | exact p353 | exact of_eq_true p353) (by first | exact q353 | exact of_eq_true q353)) | (dsimp only; exact vw_ (fun _ hk => hk.2.2.2.2.2.2.2.2) HO_0 (by decide) (by first | exact p353 | exact of_eq_true p353) (by first | exact q353 | exact of_eq_true q353))) _).trans (((cell_far (p := ⟨gb362, _, none⟩) (by first | exact vw_ (fun _ hk => hk.2.2.2.2.2.2.2.2) HO_0 (by decide) (by first | exact p353 | exact of_eq_true p353) (by first | exact q353 | exact of_eq_true q353) | (rw [add_block]; exact vw_ (fun _ hk => hk.2.2.2.2.2.2.2.2) HO_0 (by decide) (by first | exact p353 | exact of_eq_true p353) (by first | exact q353 | exact of_eq_true q353)) | (show (Addr.add _ _).block ≠ _; rw [add_block]; exact vw_ (fun _ hk => hk.2.2.2.2.2.2.2.2) HO_0 (by decide) (by first | exact p353 | exact of_eq_true p353) (by first | exact q353 | exact of_eq_true q353)) | (dsimp only; exact vw_ (fun _ hk => hk.2.2.2.2.2.2.2.2) HO_0 (by decide) (by first | exact p353 | exact of_eq_true p353) (by first | exact q353 | exact of_eq_true q353))) _).trans (hHeld.2.2.2))))))⟩ (fun hHeld => ?_)
           clear hK K
           refine pu_ 11 (some 11) HT_ ?_
           refine done_ (done_of HT_.out (by kernel_rfl)) ?_
           try go_wp2_with (first | ((with_reducible refine gate_callee (f := 36) rfl ?_); refine gL_ (some 43) Try.func36 #[.int .i64 t361] ?_; (with_reducible refine (transeptlaw08_num.calls t361 t363 _ A18.out).mono ?_); rintro e w' ⟨rfl, ⟨nd, rfl⟩⟩; refine ⟨_, rfl, ?_⟩; have hnb65 := NB362_350.out; have hnc65 := NB350_362.out; have hnb66 := NB362_351.out; have hnc66 := NB351_362.out; obtain ⟨hcz67_0, hcz67_1, hcz67_2, hfz67_0, hfz67_1, hfz67_2⟩ := cz3_ BK362) | ((with_reducible refine gate_callee (f := 48) rfl ?_); refine gL_ (some 48) Try.func48 #[.agg #[.slice Ao60 t354.length co60, .int .i64 t357, .slice Ao63 t358.length co63], .int .i64 a1] ?_; (with_reducible refine (wal_Flush.calls kj4 _ _ t354 t357 _ _ t358 a1 t364 t367 t368 t371 _ ?side1 ?side2 ?side3 ?side4 A20.out).mono ?_); (case side1 => refine (Kd.N_reads' (e := 70) (base := w.heap.size) (ok := fun k_ => ((P0_ k_ ∨ w.heap.size ≤ k_) ∧ (some k_ ≠ (.slice Ao63 t358.length co63 : Value).ownBlock ∧ (some k_ ≠ (.slice Ao54 x352000_1.length co54 : Value).ownBlock ∧ (some k_ ≠ (.slice Ao55 x352002_1.length co55 : Value).ownBlock ∧ (some k_ ≠ (.slice Ao53 x8_1.length co53 : Value).ownBlock ∧ (k_ ≠ gb350 ∧ (k_ ≠ gb351 ∧ k_ ≠ gb362)))))))) (n := t354.length) (c := co60) ?_).2.2; exact (nC_ HO356 (fun k_ hk => hk.2.2.2.2.2.2.2))); (case side2 => exact (Kd.N_reads' HO356.out).2.1); (case side3 => refine (Kd.N_reads' (e := 26) (base := w.heap.size) (ok := fun k_ => ((P0_ k_ ∨ w.heap.size ≤ k_) ∧ (some k_ ≠ (.slice Ao60 t354.length co60 : Value).ownBlock ∧ (some k_ ≠ (.slice Ao54 x352000_1.length co54 : Value).ownBlock ∧ (some k_ ≠ (.slice Ao55 x352002_1.length co55 : Value).ownBlock ∧ (some k_ ≠ (.slice Ao53 x8_1.length co53 : Value).ownBlock ∧ (k_ ≠ gb350 ∧ (k_ ≠ gb351 ∧ k_ ≠ gb362)))))))) (n := t358.length) (c := co63) ?_).2.2; exact (nC_ HO360 (fun k_ hk => hk.2.2.2.2.2.2.2))); (case side4 => exact (Kd.N_reads' HO360.out).2.1); rintro e w68 ⟨v365, v369, rfl, ho0, ho1, hb⟩; refine ⟨_, rfl, ?_⟩; replace HO_0 := Aside0.mk (Kd.V_mono (Kd.V_told (Kd.V_told (Kd.V_old (vC_ HO_0 (fun k_ hk => hk.2.2.2.2.2.2.2.2)) hb) (Kd.S_base ho0)) (Kd.S_base ho1)) (fun _ h_ => h_.1)); replace HL352_0 := Aside0.mk (Kd.V_mono (Kd.V_told (Kd.V_told (Kd.V_old (vC_ HL352_0 (fun k_ hk => hk.2.2.2.2.2.2.2.2)) hb) (Kd.S_base ho0)) (Kd.S_base ho1)) (fun _ h_ => h_.1)); replace HL353_0 := Aside0.mk (Kd.V_mono (Kd.V_told (Kd.V_told (Kd.V_old (vC_ HL353_0 (fun k_ hk => hk.2.2.2.2.2.2.2.2)) hb) (Kd.S_base ho0)) (Kd.S_base ho1)) (fun _ h_ => h_.1)); have HO366 := Aside0.mk (Kd.N_lower (Kd.N_mono (ok' := fun k_ => (P0_ k_ ∨ w.heap.size ≤ k_) ∧ some k_ ≠ (v369 : Value).ownBlock ∧ some k_ ≠ (.slice Ao53 x8_1.length co53 : Value).ownBlock ∧ some k_ ≠ (.slice Ao54 x352000_1.length co54 : Value).ownBlock ∧ some k_ ≠ (.slice Ao55 x352002_1.length co55 : Value).ownBlock ∧ some k_ ≠ (.slice Ao60 t354.length co60 : Value).ownBlock ∧ some k_ ≠ (.slice Ao63 t358.length co63 : Value).ownBlock ∧ k_ ≠ gb350 ∧ k_ ≠ gb351 ∧ k_ ≠ gb362) (Kd.S_N (Kd.S_bound (Kd.S_apart' ho0 (Kd.S_typed ho1) (by decide)))) (fun k_ hk_ => ⟨(.inr (Nat.le_trans (bs_ HB) hk_.2.1)), hk_.1.2, (Kd.fresh' (Kd.N_lt (nC_ HO_8 (fun k_ hk => hk.2.2.2.2.2.2.2))) k_ hk_.2.1), (Kd.fresh' (Kd.N_lt (nC_ HO_352000 (fun k_ hk => hk.2.2.2.2.2.2.2))) k_ hk_.2.1), (Kd.fresh' (Kd.N_lt (nC_ HO_352002 (fun k_ hk => hk.2.2.2.2.2.2.2))) k_ hk_.2.1), (Kd.fresh' (Kd.N_lt (nC_ HO356 (fun k_ hk => hk.2.2.2.2.2.2.2))) k_ hk_.2.1), (Kd.fresh' (Kd.N_lt (nC_ HO360 (fun k_ hk => hk.2.2.2.2.2.2.2))) k_ hk_.2.1), (Kd.freshB (bA_ BK350) k_ hk_.2.1), (Kd.freshB (bA_ BK351) k_ hk_.2.1), (Kd.freshB (g := gb362) (o := .cells #[.slice Ao60 t354.length co60, .int .i64 t357, .slice Ao63 t358.length co63] 61 (0, 0)) (by (with_reducible repeat (first | refine blk_drewN ?_ _ | refine blk_drew ?_ | refine blk_alloc ?_ _)); refine blk_put (cs := #[.slice Ao60 t354.length co60, .int .i64 t357, .slice none 0 0]) ?_ 2 _ rfl; (with_reducible repeat (first | refine blk_drewN ?_ _ | refine blk_drew ?_ | refine blk_alloc ?_ _)); refine blk_put (cs := #[.slice Ao60 t354.length co60, .int .i64 0, .slice none 0 0]) ?_ 1 _ rfl; (with_reducible repeat (first | refine blk_drewN ?_ _ | refine blk_drew ?_ | refine blk_alloc ?_ _)); refine blk_put (cs := #[.slice none 0 0, .int .i64 0, .slice none 0 0]) ?_ 0 _ rfl; (with_reducible repeat (first | refine blk_drewN ?_ _ | refine blk_drew ?_ | refine blk_alloc ?_ _)); exact BK362.out) k_ hk_.2.1)⟩)) (bs_ HB)); have HO370 := Aside0.mk (Kd.N_lower (Kd.N_mono (ok' := fun k_ => (P0_ k_ ∨ w.heap.size ≤ k_) ∧ some k_ ≠ (v365 : Value).ownBlock ∧ some k_ ≠ (.slice Ao53 x8_1.length co53 : Value).ownBlock ∧ some k_ ≠ (.slice Ao54 x352000_1.length co54 : Value).ownBlock ∧ some k_ ≠ (.slice Ao55 x352002_1.length co55 : Value).ownBlock ∧ some k_ ≠ (.slice Ao60 t354.length co60 : Value).ownBlock ∧ some k_ ≠ (.slice Ao63 t358.length co63 : Value).ownBlock ∧ k_ ≠ gb350 ∧ k_ ≠ gb351 ∧ k_ ≠ gb362) (Kd.S_N (Kd.S_bound (Kd.S_apart' ho1 (Kd.S_typed ho0) (by decide)))) (fun k_ hk_ => ⟨(.inr (Nat.le_trans (bs_ HB) hk_.2.1)), hk_.1.2, (Kd.fresh' (Kd.N_lt (nC_ HO_8 (fun k_ hk => hk.2.2.2.2.2.2.2))) k_ hk_.2.1), (Kd.fresh' (Kd.N_lt (nC_ HO_352000 (fun k_ hk => hk.2.2.2.2.2.2.2))) k_ hk_.2.1), (Kd.fresh' (Kd.N_lt (nC_ HO_352002 (fun k_ hk => hk.2.2.2.2.2.2.2))) k_ hk_.2.1), (Kd.fresh' (Kd.N_lt (nC_ HO356 (fun k_ hk => hk.2.2.2.2.2.2.2))) k_ hk_.2.1), (Kd.fresh' (Kd.N_lt (nC_ HO360 (fun k_ hk => hk.2.2.2.2.2.2.2))) k_ hk_.2.1), (Kd.freshB (bA_ BK350) k_ hk_.2.1), (Kd.freshB (bA_ BK351) k_ hk_.2.1), (Kd.freshB (g := gb362) (o := .cells #[.slice Ao60 t354.length co60, .int .i64 t357, .slice Ao63 t358.length co63] 61 (0, 0)) (by (with_reducible repeat (first | refine blk_drewN ?_ _ | refine blk_drew ?_ | refine blk_alloc ?_ _)); refine blk_put (cs := #[.slice Ao60 t354.length co60, .int .i64 t357, .slice none 0 0]) ?_ 2 _ rfl; (with_reducible repeat (first | refine blk_drewN ?_ _ | refine blk_drew ?_ | refine blk_alloc ?_ _)); refine blk_put (cs := #[.slice Ao60 t354.length co60, .int .i64 0, .slice none 0 0]) ?_ 1 _ rfl; (with_reducible repeat (first | refine blk_drewN ?_ _ | refine blk_drew ?_ | refine blk_alloc ?_ _)); refine blk_put (cs := #[.slice none 0 0, .int .i64 0, .slice none 0 0]) ?_ 0 _ rfl; (with_reducible repeat (first | refine blk_drewN ?_ _ | refine blk_drew ?_ | refine blk_alloc ?_ _)); exact BK362.out) k_ hk_.2.1)⟩)) (bs_ HB)); replace HO_8 := Aside0.mk (Kd.N_mono (Kd.N_told (Kd.N_told (Kd.N_old (nC_ HO_8 (fun k_ hk => hk.2.2.2.2.2.2.2)) hb) (Kd.S_base ho0)) (Kd.S_base ho1)) (fun _ h_ => h_.1)); replace HO_352000 := Aside0.mk (Kd.N_mono (Kd.N_told (Kd.N_told (Kd.N_old (nC_ HO_352000 (fun k_ hk => hk.2.2.2.2.2.2.2)) hb) (Kd.S_base ho0)) (Kd.S_base ho1)) (fun _ h_ => h_.1)); replace HO_352002 := Aside0.mk (Kd.N_mono (Kd.N_told (Kd.N_told (Kd.N_old (nC_ HO_352002 (fun k_ hk => hk.2.2.2.2.2.2.2)) hb) (Kd.S_base ho0)) (Kd.S_base ho1)) (fun _ h_ => h_.1)); replace HO356 := Aside0.mk (Kd.N_mono (Kd.N_told (Kd.N_told (Kd.N_old (nC_ HO356 (fun k_ hk => hk.2.2.2.2.2.2.2)) hb) (Kd.S_base ho0)) (Kd.S_base ho1)) (fun _ h_ => h_.1)); replace HO360 := Aside0.mk (Kd.N_mono (Kd.N_told (Kd.N_told (Kd.N_old (nC_ HO360 (fun k_ hk => hk.2.2.2.2.2.2.2)) hb) (Kd.S_base ho0)) (Kd.S_base ho1)) (fun _ h_ => h_.1)); replace BK350 := bK_ BK350 hb; replace BK351 := bK_ BK351 hb; replace BK362 := Aside0.mk (blk_below (g := gb362) (o := .cells #[.slice Ao60 t354.length co60, .int .i64 t357, .slice Ao63 t358.length co63] 61 (0, 0)) (by (with_reducible repeat (first | refine blk_drewN ?_ _ | refine blk_drew ?_ | refine blk_alloc ?_ _)); refine blk_put (cs := #[.slice Ao60 t354.length co60, .int .i64 t357, .slice none 0 0]) ?_ 2 _ rfl; (with_reducible repeat (first | refine blk_drewN ?_ _ | refine blk_drew ?_ | refine blk_alloc ?_ _)); refine blk_put (cs := #[.slice Ao60 t354.length co60, .int .i64 0, .slice none 0 0]) ?_ 1 _ rfl; (with_reducible repeat (first | refine blk_drewN ?_ _ | refine blk_drew ?_ | refine blk_alloc ?_ _)); refine blk_put (cs := #[.slice none 0 0, .int .i64 0, .slice none 0 0]) ?_ 0 _ rfl; (with_reducible repeat (first | refine blk_drewN ?_ _ | refine blk_drew ?_ | refine blk_alloc ?_ _)); exact BK362.out) hb); replace HB := bS_ HB hb; (try clear hb ho0 ho1)) | ((with_reducible refine gate_dst (N := 12) rfl ?_); refine bx_ 12 #[.slice none 0 0, .int .i64 0, .slice none 0 0] 61 ?_; intro gb372 hg w69 hbox hb; replace HO_0 := Aside0.mk (Kd.V_below (Kd.V_elderB (vA_ HO_0) gb372 (Nat.le_of_eq hg.symm)) hb); replace HO_8 := Aside0.mk (Kd.N_below (Kd.N_elderB (nA_ HO_8) gb372 (Nat.le_of_eq hg.symm)) hb); replace HO_352000 := Aside0.mk (Kd.N_below (Kd.N_elderB (nA_ HO_352000) gb372 (Nat.le_of_eq hg.symm)) hb); replace HO_352002 := Aside0.mk (Kd.N_below (Kd.N_elderB (nA_ HO_352002) gb372 (Nat.le_of_eq hg.symm)) hb); replace HL352_0 := Aside0.mk (Kd.V_below (Kd.V_elderB (vA_ HL352_0) gb372 (Nat.le_of_eq hg.symm)) hb); replace HL353_0 := Aside0.mk (Kd.V_below (Kd.V_elderB (vA_ HL353_0) gb372 (Nat.le_of_eq hg.symm)) hb); replace HO356 := Aside0.mk (Kd.N_below (Kd.N_elderB (nA_ HO356) gb372 (Nat.le_of_eq hg.symm)) hb); replace HO360 := Aside0.mk (Kd.N_below (Kd.N_elderB (nA_ HO360) gb372 (Nat.le_of_eq hg.symm)) hb); replace HO366 := Aside0.mk (Kd.N_below (Kd.N_elderB (nA_ HO366) gb372 (Nat.le_of_eq hg.symm)) hb); replace HO370 := Aside0.mk (Kd.N_below (Kd.N_elderB (nA_ HO370) gb372 (Nat.le_of_eq hg.symm)) hb); have BK372 := Aside0.mk (hbox); have GW372 := bG_ HB hg; have GE372 := bG_ HB hg; replace HB := bS_ HB hb; have NB350_372 := nL_ BK350 hg; have NB372_350 := nG_ BK350 hg; replace BK350 := bK_ BK350 hb; have NB351_372 := nL_ BK351 hg; have NB372_351 := nG_ BK351 hg; replace BK351 := bK_ BK351 hb; have NB362_372 := nL_ BK362 hg; have NB372_362 := nG_ BK362 hg; replace BK362 := bK_ BK362 hb; clear hb hbox hg; obtain ⟨Ao70, co70, eo70⟩ := Kd.N_slice HO366.out; subst eo70; have hnb71 := NB372_350.out; have hnc71 := NB350_372.out; have hnb72 := NB372_351.out; have hnc72 := NB351_372.out; have hnb73 := NB372_362.out; have hnc73 := NB362_372.out; obtain ⟨hcz74_0, hcz74_1, hcz74_2, hfz74_0, hfz74_1, hfz74_2⟩ := cz3_ BK372; obtain ⟨Ao75, co75, eo75⟩ := Kd.N_slice HO370.out; subst eo75) | ((with_reducible refine gate_callee (f := 36) rfl ?_); refine gL_ (some 52) Try.func36 #[.int .i64 t371] ?_; (with_reducible refine (transeptlaw08_num.calls t371 t373 _ A21.out).mono ?_); rintro e w' ⟨rfl, ⟨nd, rfl⟩⟩; refine ⟨_, rfl, ?_⟩; have hnb76 := NB351_350.out; have hnc76 := NB350_351.out; obtain ⟨hcz77_0, hcz77_1, hcz77_2, hfz77_0, hfz77_1, hfz77_2⟩ := cz3_ BK351; obtain ⟨hcz78_0, hcz78_1, hcz78_2, hfz78_0, hfz78_1, hfz78_2⟩ := cz3_ BK350))
           refine bodyPost_ret (results_ctt rfl _ _ gb350 61 #[.slice Ao54 x352000_1.length co54, .int .i64 x352001_1, .slice Ao55 x352002_1.length co55] (0, 0) _ rfl (by (with_reducible repeat (first | refine blk_drewN ?_ _ | refine blk_drew ?_ | refine blk_alloc ?_ _)); refine blk_put (cs := #[.slice Ao54 x352000_1.length co54, .int .i64 x352001_1, .slice none 0 0]) ?_ 2 _ rfl; (with_reducible repeat (first | refine blk_drewN ?_ _ | refine blk_drew ?_ | refine blk_alloc ?_ _)); refine blk_put (cs := #[.slice Ao54 x352000_1.length co54, .int .i64 x351001_1, .slice none 0 0]) ?_ 1 _ rfl; (with_reducible repeat (first | refine blk_drewN ?_ _ | refine blk_drew ?_ | refine blk_alloc ?_ _)); refine blk_put (cs := #[.slice none 0 0, .int .i64 x351001_1, .slice none 0 0]) ?_ 0 _ rfl; (with_reducible repeat (first | refine blk_drewN ?_ _ | refine blk_drew ?_ | refine blk_alloc ?_ _)); refine blk_far ?_ NB350_372.out _; (with_reducible repeat (first | refine blk_drewN ?_ _ | refine blk_drew ?_ | refine blk_alloc ?_ _)); refine blk_far ?_ NB350_372.out _; (with_reducible repeat (first | refine blk_drewN ?_ _ | refine blk_drew ?_ | refine blk_alloc ?_ _)); refine blk_far ?_ NB350_372.out _; (with_reducible repeat (first | refine blk_drewN ?_ _ | refine blk_drew ?_ | refine blk_alloc ?_ _)); exact BK350.out) Try.underlying61 rfl (by kernel_rfl)) rfl ?_
           exact ⟨_, _, _, fin_, by (with_reducible repeat (first | apply Kd.N_alloc | apply Kd.N_drewN | apply Kd.N_drew)); exact Kd.N_mono (Kd.N_far (p := ⟨gb350, 2, none⟩) (Kd.N_far (p := ⟨gb350, 1, none⟩) (Kd.N_far (p := ⟨gb350, 0, none⟩) (Kd.N_far (p := ⟨gb372, 2, none⟩) (Kd.N_far (p := ⟨gb372, 1, none⟩) (Kd.N_far (p := ⟨gb372, 0, none⟩) (Kd.N_mono (Kd.N_mono HO_352000.out (fun k_ hk => (⟨hk, hk.2⟩ : _ ∧ k_ ≠ gb372))) (fun k_ hk => (⟨hk, hk.1.1.1.1.2.2.2.2.2.1⟩ : _ ∧ k_ ≠ gb350))) (fun _ hk => hk.1.2) (.slice Ao70 t364.length co70)) (fun _ hk => hk.1.2) (.int .i64 t367)) (fun _ hk => hk.1.2) (.slice Ao75 t368.length co75)) (fun _ hk => hk.2) (.slice Ao54 x352000_1.length co54)) (fun _ hk => hk.2) (.int .i64 x352001_1)) (fun _ hk => hk.2) (.slice Ao55 x352002_1.length co55)) (fun _ hk => ⟨hk.1.1.1.1.1.1, ⟨hk.1.1.1.1.1.2.2.2.1, hk.1.1.1.1.1.2.2.2.2.1⟩⟩), by (with_reducible repeat (first | apply Kd.N_alloc | apply Kd.N_drewN | apply Kd.N_drew)); exact Kd.N_mono (Kd.N_far (p := ⟨gb350, 2, none⟩) (Kd.N_far (p := ⟨gb350, 1, none⟩) (Kd.N_far (p := ⟨gb350, 0, none⟩) (Kd.N_far (p := ⟨gb372, 2, none⟩) (Kd.N_far (p := ⟨gb372, 1, none⟩) (Kd.N_far (p := ⟨gb372, 0, none⟩) (Kd.N_mono (Kd.N_mono HO_352002.out (fun k_ hk => (⟨hk, hk.2⟩ : _ ∧ k_ ≠ gb372))) (fun k_ hk => (⟨hk, hk.1.1.1.1.2.2.2.2.2.1⟩ : _ ∧ k_ ≠ gb350))) (fun _ hk => hk.1.2) (.slice Ao70 t364.length co70)) (fun _ hk => hk.1.2) (.int .i64 t367)) (fun _ hk => hk.1.2) (.slice Ao75 t368.length co75)) (fun _ hk => hk.2) (.slice Ao54 x352000_1.length co54)) (fun _ hk => hk.2) (.int .i64 x352001_1)) (fun _ hk => hk.2) (.slice Ao55 x352002_1.length co55)) (fun _ hk => ⟨hk.1.1.1.1.1.1, ⟨hk.1.1.1.1.1.2.2.2.1, hk.1.1.1.1.1.2.2.2.2.1⟩⟩), by (with_reducible repeat (first | apply Kd.N_alloc | apply Kd.N_drewN | apply Kd.N_drew)); exact Kd.N_mono (Kd.N_far (p := ⟨gb350, 2, none⟩) (Kd.N_far (p := ⟨gb350, 1, none⟩) (Kd.N_far (p := ⟨gb350, 0, none⟩) (Kd.N_far (p := ⟨gb372, 2, none⟩) (Kd.N_far (p := ⟨gb372, 1, none⟩) (Kd.N_far (p := ⟨gb372, 0, none⟩) (Kd.N_mono (Kd.N_mono HO_8.out (fun k_ hk => (⟨hk, hk.2⟩ : _ ∧ k_ ≠ gb372))) (fun k_ hk => (⟨hk, hk.1.1.1.1.2.2.2.2.2.1⟩ : _ ∧ k_ ≠ gb350))) (fun _ hk => hk.1.2) (.slice Ao70 t364.length co70)) (fun _ hk => hk.1.2) (.int .i64 t367)) (fun _ hk => hk.1.2) (.slice Ao75 t368.length co75)) (fun _ hk => hk.2) (.slice Ao54 x352000_1.length co54)) (fun _ hk => hk.2) (.int .i64 x352001_1)) (fun _ hk => hk.2) (.slice Ao55 x352002_1.length co55)) (fun _ hk => ⟨hk.1.1.1.1.1.1, ⟨hk.1.1.1.1.1.2.2.2.1, hk.1.1.1.1.1.2.2.2.2.1⟩⟩), bl_ HB⟩
         ·rw [if_neg c19] at H
          have c19b0 : (t363 == 0) = false := beq_eq_false_iff_ne.mpr c19
          have c19b1 : (t363 != 0) = true := bne_iff_ne.mpr c19
          have H' := Aside0.mk H
          clear H
          obtain ⟨Ao79, co79, eo79⟩ := Kd.N_slice HO_8.out
          subst eo79
          have p352 : 0 ≤ (x9_1 : Int) := of_decide_eq_true (by first | (with_reducible assumption) | assumption)
          have q352 : x9_1 < (l0.length : Int) := of_decide_eq_true (by first | (with_reducible assumption) | assumption)
          obtain ⟨ad352, A352_0, c352_0, e352, hx352_0, hl352_0, hi352_0⟩ := at_L3 (Kd.V_reads' HO_0.out).2.2 x9_1 p352 q352
          cases e352
          obtain ⟨ce352, hce352, hMe352, hcc352⟩ := Kd.V_get HO_0.out [] x9_1 p352 (by first | exact q352 | exact of_decide_eq_true (by first | (with_reducible assumption) | assumption) | (have e_ := (Kd.V_reads' HO_0.out).1; omega))
          obtain ⟨ua352_0, uc352_0, rfl, ul352_0, ge352_0⟩ := Kd.FK_slice_open hMe352
          have hv352_0 := hcc352 0 _ rfl
          rw [Nat.add_zero, show ((Kd.slice 26 (Kd.slice 5 (Kd.int .u8)))).sz = 1 from rfl, Nat.mul_one] at hv352_0
          replace hv352_0 := Option.some.inj (hv352_0.symm.trans hx352_0)
          injection hv352_0 with hva_ hvn_ hvc_
          rw [hva_] at ge352_0
          rw [hvc_] at ul352_0
          have HL352_0 := Aside0.mk (show Kd.V (Kd.slice 5 (Kd.int .u8)) 26 _ w.heap.size _ _ (rd_L3 l0 x9_1) from Kd.V_mk ul352_0 ge352_0)
          clear hva_ hvn_ hvc_ ge352_0 ul352_0
          clear hcc352 hce352
          have HR352_0 := Aside0.mk hi352_0
          have HC352_0 := Aside0.mk hl352_0
          clear hi352_0 hl352_0
          replace p352 := eq_true p352
          replace q352 := eq_true q352
          obtain ⟨Ao80, co80, eo80⟩ := Kd.N_slice HO_352000.out
          subst eo80
          obtain ⟨Ao81, co81, eo81⟩ := Kd.N_slice HO_352002.out
          subst eo81
          try go_wp2
          replace HO_0 := Aside0.mk (Kd.V_drew HO_0.out)
          replace HO_8 := Aside0.mk (Kd.N_drew HO_8.out)
          replace HO_352000 := Aside0.mk (Kd.N_drew HO_352000.out)
          replace HO_352002 := Aside0.mk (Kd.N_drew HO_352002.out)
          replace HL352_0 := Aside0.mk (Kd.V_drew HL352_0.out)
          replace BK350 := Aside0.mk (blk_drew BK350.out)
          replace BK351 := Aside0.mk (blk_drew BK351.out)
          replace HR352_0 := Aside0.mk (Kd.C_drew HR352_0.out)
          replace HB := Aside0.mk (below_drew1 HB.out)
          have p353 : 0 ≤ (x9_1 : Int) := of_decide_eq_true (by first | (with_reducible assumption) | assumption)
          have q353 : x9_1 < (l0.length : Int) := of_decide_eq_true (by first | (with_reducible assumption) | assumption)
          obtain ⟨ad353, A353_0, c353_0, e353, hx353_0, hl353_0, hi353_0⟩ := at_L3 (Kd.V_reads' HO_0.out).2.2 x9_1 p353 q353
          obtain rfl : ad352 = ad353 := (by injection e353)
          obtain ⟨ce353, hce353, hMe353, hcc353⟩ := Kd.V_get HO_0.out [] x9_1 p353 (by first | exact q353 | exact of_decide_eq_true (by first | (with_reducible assumption) | assumption) | (have e_ := (Kd.V_reads' HO_0.out).1; omega))
          obtain ⟨ua353_0, uc353_0, rfl, ul353_0, ge353_0⟩ := Kd.FK_slice_open hMe353
          have hv353_0 := hcc353 0 _ rfl
          rw [Nat.add_zero, show ((Kd.slice 26 (Kd.slice 5 (Kd.int .u8)))).sz = 1 from rfl, Nat.mul_one] at hv353_0
          replace hv353_0 := Option.some.inj (hv353_0.symm.trans hx353_0)
          injection hv353_0 with hva_ hvn_ hvc_
          rw [hva_] at ge353_0
          rw [hvc_] at ul353_0
          have HL353_0 := Aside0.mk (show Kd.V (Kd.slice 5 (Kd.int .u8)) 26 _ w.heap.size _ _ (rd_L3 l0 x9_1) from Kd.V_mk ul353_0 ge353_0)
          clear hva_ hvn_ hvc_ ge353_0 ul353_0
          clear hcc353 hce353
          have HR353_0 := Aside0.mk hi353_0
          have HC353_0 := Aside0.mk hl353_0
          clear hi353_0 hl353_0
          replace p353 := eq_true p353
          replace q353 := eq_true q353
          refine start_ (n := 12) (S := fun w' => w'.cell? ⟨gb351, 0, none⟩ = some (.slice Ao80 x352000_1.length co80) ∧ w'.cell? ⟨gb351, 1, none⟩ = some (.int .i64 x352001_1) ∧ w'.cell? ⟨gb351, 2, none⟩ = some (.slice Ao81 x352002_1.length co81) ∧ w'.cell? (ad352.add (x9_1).toNat) = some (.slice A353_0 (rd_L3 l0 x9_1).length c353_0)) (ds := []) #[false, false, false, false, false, false, false, false, false, false, false, false] (by kernel_rfl) rfl rfl ⟨(blk_cell BK351.out 0).trans rfl, (blk_cell BK351.out 1).trans rfl, (blk_cell BK351.out 2).trans rfl, hx353_0⟩ (fun hHeld => ?_); refine with_tabW transeptlaw08_laid.tab7 transeptlaw08_laid.bits7 (fun HT_ HW_ => ?_)
          generalize wc.drew = w82 at HO_0 HO_8 HO_352000 HO_352002 HL352_0 BK350 BK351 HR352_0 HB HL353_0 HR353_0 hx353_0 hHeld ⊢
          refine pu_ 1 (some 35) HT_ ?_
          refine pu_ 2 (some 36) HT_ ?_
          refine pu_ 3 (some 37) HT_ ?_
          refine tk_ 0 (some 34) HT_ HW_ hHeld ?_
          refine tk_ 4 (some 38) HT_ HW_ hHeld ?_
          refine join_ (σ := Value × Value × Nat) 2 #[true, true, true, true, true, true, true, true, true, true, false, false] (fun s_ => [(39, .tuple #[.agg #[s_.1, .int .i64 t357, s_.2.1], .int .i64 t361]), (10, .pointer (some ⟨s_.2.2, 0, none⟩)), (33, .tuple #[.agg #[s_.1, .int .i64 t357, s_.2.1], .int .i64 t361]), (40, .agg #[s_.1, .int .i64 t357, s_.2.1]), (41, .int .i64 t361)]) (fun s_ w' => (w'.cell? ⟨gb351, 0, none⟩ = some (.slice Ao80 x352000_1.length co80) ∧ w'.cell? ⟨gb351, 1, none⟩ = some (.int .i64 x352001_1) ∧ w'.cell? ⟨gb351, 2, none⟩ = some (.slice Ao81 x352002_1.length co81) ∧ w'.cell? (ad352.add (x9_1).toNat) = some (.slice A353_0 (rd_L3 l0 x9_1).length c353_0)) ∧ (Kd.V (Kd.slice 5 (Kd.int .u8)) 26 w' w.heap.size (fun k_ => (P0_ k_ ∨ w.heap.size ≤ k_) ∧ some k_ ≠ (s_.1 : Value).ownBlock ∧ some k_ ≠ (s_.2.1 : Value).ownBlock ∧ some k_ ≠ (.slice Ao80 x352000_1.length co80 : Value).ownBlock ∧ some k_ ≠ (.slice Ao81 x352002_1.length co81 : Value).ownBlock ∧ some k_ ≠ (.slice Ao79 x8_1.length co79 : Value).ownBlock ∧ k_ ≠ gb350 ∧ k_ ≠ gb351 ∧ k_ ≠ s_.2.2) (.slice A352_0 (rd_L3 l0 x9_1).length c352_0) (rd_L3 l0 x9_1)) ∧ (Kd.V (Kd.slice 5 (Kd.int .u8)) 26 w' w.heap.size (fun k_ => (P0_ k_ ∨ w.heap.size ≤ k_) ∧ some k_ ≠ (s_.1 : Value).ownBlock ∧ some k_ ≠ (s_.2.1 : Value).ownBlock ∧ some k_ ≠ (.slice Ao80 x352000_1.length co80 : Value).ownBlock ∧ some k_ ≠ (.slice Ao81 x352002_1.length co81 : Value).ownBlock ∧ some k_ ≠ (.slice Ao79 x8_1.length co79 : Value).ownBlock ∧ k_ ≠ gb350 ∧ k_ ≠ gb351 ∧ k_ ≠ s_.2.2) (.slice A353_0 (rd_L3 l0 x9_1).length c353_0) (rd_L3 l0 x9_1)) ∧ (Kd.N k70 70 w' w.heap.size (fun k_ => (P0_ k_ ∨ w.heap.size ≤ k_) ∧ some k_ ≠ (s_.2.1 : Value).ownBlock ∧ some k_ ≠ (.slice Ao80 x352000_1.length co80 : Value).ownBlock ∧ some k_ ≠ (.slice Ao81 x352002_1.length co81 : Value).ownBlock ∧ some k_ ≠ (.slice Ao79 x8_1.length co79 : Value).ownBlock ∧ k_ ≠ gb350 ∧ k_ ≠ gb351 ∧ k_ ≠ s_.2.2) s_.1 t354) ∧ (Kd.N (Kd.slice 5 (Kd.int .u8)) 26 w' w.heap.size (fun k_ => (P0_ k_ ∨ w.heap.size ≤ k_) ∧ some k_ ≠ (s_.1 : Value).ownBlock ∧ some k_ ≠ (.slice Ao80 x352000_1.length co80 : Value).ownBlock ∧ some k_ ≠ (.slice Ao81 x352002_1.length co81 : Value).ownBlock ∧ some k_ ≠ (.slice Ao79 x8_1.length co79 : Value).ownBlock ∧ k_ ≠ gb350 ∧ k_ ≠ gb351 ∧ k_ ≠ s_.2.2) s_.2.1 t358) ∧ (Kd.V (Kd.slice 26 (Kd.slice 5 (Kd.int .u8))) 56 w' w.heap.size (fun k_ => (P0_ k_ ∨ w.heap.size ≤ k_) ∧ some k_ ≠ (s_.1 : Value).ownBlock ∧ some k_ ≠ (s_.2.1 : Value).ownBlock ∧ some k_ ≠ (.slice Ao80 x352000_1.length co80 : Value).ownBlock ∧ some k_ ≠ (.slice Ao81 x352002_1.length co81 : Value).ownBlock ∧ some k_ ≠ (.slice Ao79 x8_1.length co79 : Value).ownBlock ∧ k_ ≠ gb350 ∧ k_ ≠ gb351 ∧ k_ ≠ s_.2.2) (.slice (some ad352) l0.length c0) l0) ∧ (Kd.N k70 70 w' w.heap.size (fun k_ => (P0_ k_ ∨ w.heap.size ≤ k_) ∧ some k_ ≠ (s_.1 : Value).ownBlock ∧ some k_ ≠ (s_.2.1 : Value).ownBlock ∧ some k_ ≠ (.slice Ao81 x352002_1.length co81 : Value).ownBlock ∧ some k_ ≠ (.slice Ao79 x8_1.length co79 : Value).ownBlock ∧ k_ ≠ gb350 ∧ k_ ≠ gb351 ∧ k_ ≠ s_.2.2) (.slice Ao80 x352000_1.length co80) x352000_1) ∧ (Kd.N (Kd.slice 5 (Kd.int .u8)) 26 w' w.heap.size (fun k_ => (P0_ k_ ∨ w.heap.size ≤ k_) ∧ some k_ ≠ (s_.1 : Value).ownBlock ∧ some k_ ≠ (s_.2.1 : Value).ownBlock ∧ some k_ ≠ (.slice Ao80 x352000_1.length co80 : Value).ownBlock ∧ some k_ ≠ (.slice Ao79 x8_1.length co79 : Value).ownBlock ∧ k_ ≠ gb350 ∧ k_ ≠ gb351 ∧ k_ ≠ s_.2.2) (.slice Ao81 x352002_1.length co81) x352002_1) ∧ (Kd.N (Kd.slice 5 (Kd.int .u8)) 26 w' w.heap.size (fun k_ => (P0_ k_ ∨ w.heap.size ≤ k_) ∧ some k_ ≠ (s_.1 : Value).ownBlock ∧ some k_ ≠ (s_.2.1 : Value).ownBlock ∧ some k_ ≠ (.slice Ao80 x352000_1.length co80 : Value).ownBlock ∧ some k_ ≠ (.slice Ao81 x352002_1.length co81 : Value).ownBlock ∧ k_ ≠ gb350 ∧ k_ ≠ gb351 ∧ k_ ≠ s_.2.2) (.slice Ao79 x8_1.length co79) x8_1) ∧ (w'.heap[gb350]? = some (.cells #[.slice none 0 0, .int .i64 x351001_1, .slice none 0 0] 61 (0, 0))) ∧ (w'.heap[gb351]? = some (.cells #[.slice Ao80 x352000_1.length co80, .int .i64 x352001_1, .slice Ao81 x352002_1.length co81] 61 (0, 0))) ∧ (w'.heap[s_.2.2]? = some (.cells #[.slice none 0 0, .int .i64 0, .slice none 0 0] 61 (0, 0))) ∧ (w.heap.size ≤ s_.2.2) ∧ (w.heap.size ≤ s_.2.2) ∧ (gb350 ≠ s_.2.2) ∧ (s_.2.2 ≠ gb350) ∧ (gb351 ≠ s_.2.2) ∧ (s_.2.2 ≠ gb351) ∧ (Below w.heap.size w w')) ?_ ?_
          rotate_left
          ·intro hCont
           refine two_ (i := 5) (j := 9) (Ni := some 39) (Nj := some 10) #[true, true, true, true, true, true, false, false, false, false, false, false] #[true, true, true, true, true, false, false, false, false, true, false, false] rfl rfl rfl rfl (two_of HT_.out (by kernel_rfl)) (by decide) (by decide) (fun K hK => ?_) (fun K hK => ?_)
           ·skip
            refine goes_ Try.func35 (by kernel_rfl) rfl #[.agg #[.slice Ao80 x352000_1.length co80, .int .i64 x352001_1, .slice Ao81 x352002_1.length co81], .slice A353_0 (rd_L3 l0 x9_1).length c353_0] (by rfl) rfl rfl (by (try simp only [List.map_toArray, List.map_cons, List.map_nil]); first | done | rfl | (simp only [List.length_drop, List.length_take]; rfl)) ?_
            with_reducible refine (wal_Append.calls kj4 _ _ x352000_1 x352001_1 _ _ x352002_1 _ _ (rd_L3 l0 x9_1) t354 t357 t358 t361 _ ?side1 ?side2 ?side3 ?side4 ?side5 ?side6 A17.out).mono ?_
            (case side1 => exact cO_ (Kd.N_reads' HO_352000.out).2.2)
            (case side2 => exact (Kd.N_reads' HO_352000.out).2.1)
            (case side3 => exact cO_ (Kd.N_reads' HO_352002.out).2.2)
            (case side4 => exact (Kd.N_reads' HO_352002.out).2.1)
            (case side5 => repeat (first | exact (by repeat (first | (with_reducible exact HR353_0.out) | (with_reducible refine Kd.C_alloc ?_ _) | (with_reducible refine Kd.C_drewN ?_ _) | (with_reducible refine Kd.C_drew ?_) | exact HR353_0.out)) | (with_reducible refine Kd.C_alloc ?_ _) | (with_reducible refine Kd.C_drewN ?_ _) | (with_reducible refine Kd.C_drew ?_)))
            (case side6 => exact HC353_0.out)
            rintro e w83 ⟨v355, v359, rfl, ho0, ho1, hb⟩
            have HS3_ := (hb.cell (World.block_lt_of_cell? _ _ (hHeld.2.2.2))).trans (hHeld.2.2.2)
            refine ⟨_, rfl, ?_⟩
            replace HO_0 := Aside0.mk (Kd.V_mono (Kd.V_told (Kd.V_told (Kd.V_old (vA_ HO_0) hb) (Kd.N_base ho0)) (Kd.N_base ho1)) (fun _ h_ => h_.1))
            replace HL352_0 := Aside0.mk (Kd.V_mono (Kd.V_told (Kd.V_told (Kd.V_old (vA_ HL352_0) hb) (Kd.N_base ho0)) (Kd.N_base ho1)) (fun _ h_ => h_.1))
            replace HL353_0 := Aside0.mk (Kd.V_mono (Kd.V_told (Kd.V_told (Kd.V_old (vA_ HL353_0) hb) (Kd.N_base ho0)) (Kd.N_base ho1)) (fun _ h_ => h_.1))
            have HO356 := Aside0.mk (Kd.N_lower (Kd.N_mono (ok' := fun k_ => (P0_ k_ ∨ w.heap.size ≤ k_) ∧ some k_ ≠ (v359 : Value).ownBlock ∧ some k_ ≠ (.slice Ao79 x8_1.length co79 : Value).ownBlock ∧ some k_ ≠ (.slice Ao80 x352000_1.length co80 : Value).ownBlock ∧ some k_ ≠ (.slice Ao81 x352002_1.length co81 : Value).ownBlock ∧ k_ ≠ gb350 ∧ k_ ≠ gb351) ho0 (fun k_ hk_ => ⟨(.inr (Nat.le_trans (bs_ HB) hk_.1)), hk_.2, (Kd.fresh' (Kd.N_lt (nA_ HO_8)) k_ hk_.1), (Kd.fresh' (Kd.N_lt (nA_ HO_352000)) k_ hk_.1), (Kd.fresh' (Kd.N_lt (nA_ HO_352002)) k_ hk_.1), (Kd.freshB (bA_ BK350) k_ hk_.1), (Kd.freshB (bA_ BK351) k_ hk_.1)⟩)) (bs_ HB))
            have HO360 := Aside0.mk (Kd.N_lower (Kd.N_mono (ok' := fun k_ => (P0_ k_ ∨ w.heap.size ≤ k_) ∧ some k_ ≠ (v355 : Value).ownBlock ∧ some k_ ≠ (.slice Ao79 x8_1.length co79 : Value).ownBlock ∧ some k_ ≠ (.slice Ao80 x352000_1.length co80 : Value).ownBlock ∧ some k_ ≠ (.slice Ao81 x352002_1.length co81 : Value).ownBlock ∧ k_ ≠ gb350 ∧ k_ ≠ gb351) ho1 (fun k_ hk_ => ⟨(.inr (Nat.le_trans (bs_ HB) hk_.1)), hk_.2, (Kd.fresh' (Kd.N_lt (nA_ HO_8)) k_ hk_.1), (Kd.fresh' (Kd.N_lt (nA_ HO_352000)) k_ hk_.1), (Kd.fresh' (Kd.N_lt (nA_ HO_352002)) k_ hk_.1), (Kd.freshB (bA_ BK350) k_ hk_.1), (Kd.freshB (bA_ BK351) k_ hk_.1)⟩)) (bs_ HB))
            replace HO_8 := Aside0.mk (Kd.N_mono (Kd.N_told (Kd.N_told (Kd.N_old (nA_ HO_8) hb) (Kd.N_base ho0)) (Kd.N_base ho1)) (fun _ h_ => h_.1))
            replace HO_352000 := Aside0.mk (Kd.N_mono (Kd.N_told (Kd.N_told (Kd.N_old (nA_ HO_352000) hb) (Kd.N_base ho0)) (Kd.N_base ho1)) (fun _ h_ => h_.1))
            replace HO_352002 := Aside0.mk (Kd.N_mono (Kd.N_told (Kd.N_told (Kd.N_old (nA_ HO_352002) hb) (Kd.N_base ho0)) (Kd.N_base ho1)) (fun _ h_ => h_.1))
            replace BK350 := bK_ BK350 hb
            replace BK351 := bK_ BK351 hb
            replace HR352_0 := Aside0.mk (Kd.C_below (by repeat (first | (with_reducible exact HR352_0.out) | (with_reducible refine Kd.C_alloc ?_ _) | (with_reducible refine Kd.C_drewN ?_ _) | (with_reducible refine Kd.C_drew ?_) | exact HR352_0.out)) hb)
            replace HR353_0 := Aside0.mk (Kd.C_below (by repeat (first | (with_reducible exact HR353_0.out) | (with_reducible refine Kd.C_alloc ?_ _) | (with_reducible refine Kd.C_drewN ?_ _) | (with_reducible refine Kd.C_drew ?_) | exact HR353_0.out)) hb)
            replace HB := bS_ HB hb
            (try clear hb ho0 ho1)
            refine hK.out _ _ ⟨(blk_cell BK351.out 0).trans rfl, (blk_cell BK351.out 1).trans rfl, (blk_cell BK351.out 2).trans rfl, HS3_⟩ (fun hHeld => ?_)
            clear hK K
            refine norm_ (a' := ?_) ?_ ?_
            rotate_left
            ·show Act.put _ (some 39) _ = _
             simp only [Act.put, List.setIfInBounds_toArray, List.set_cons_zero, List.set_cons_succ, i64_w, i32_w]
             rfl
            refine pu_ 6 (some 33) HT_ ?_
            refine pu_ 7 (some 40) HT_ ?_
            refine pu_ 8 (some 41) HT_ ?_
            refine on_ 9 (some 10) HT_ (fun K hK => ?_)
            refine box_step ?hg (N := 10) ?hd (cs := #[.slice none 0 0, .int .i64 0, .slice none 0 0]) (t := 61) ?hr ?_; (case hd => rfl); (case hg => rfl); (case hr => first | (go_simp; done) | (go_simp; rfl))
            intro gb362 hg w84 hbox hb
            have HS3_ := (hb.cell (World.block_lt_of_cell? _ _ (hHeld.2.2.2))).trans (hHeld.2.2.2)
            replace HO_0 := Aside0.mk (Kd.V_below (Kd.V_elderB (vA_ HO_0) gb362 (Nat.le_of_eq hg.symm)) hb)
            replace HO_8 := Aside0.mk (Kd.N_below (Kd.N_elderB (nA_ HO_8) gb362 (Nat.le_of_eq hg.symm)) hb)
            replace HO_352000 := Aside0.mk (Kd.N_below (Kd.N_elderB (nA_ HO_352000) gb362 (Nat.le_of_eq hg.symm)) hb)
            replace HO_352002 := Aside0.mk (Kd.N_below (Kd.N_elderB (nA_ HO_352002) gb362 (Nat.le_of_eq hg.symm)) hb)
            replace HL352_0 := Aside0.mk (Kd.V_below (Kd.V_elderB (vA_ HL352_0) gb362 (Nat.le_of_eq hg.symm)) hb)
            replace HL353_0 := Aside0.mk (Kd.V_below (Kd.V_elderB (vA_ HL353_0) gb362 (Nat.le_of_eq hg.symm)) hb)
            replace HO356 := Aside0.mk (Kd.N_below (Kd.N_elderB (nA_ HO356) gb362 (Nat.le_of_eq hg.symm)) hb)
            replace HO360 := Aside0.mk (Kd.N_below (Kd.N_elderB (nA_ HO360) gb362 (Nat.le_of_eq hg.symm)) hb)
            replace HR352_0 := Aside0.mk (Kd.C_below (by repeat (first | (with_reducible exact HR352_0.out) | (with_reducible refine Kd.C_alloc ?_ _) | (with_reducible refine Kd.C_drewN ?_ _) | (with_reducible refine Kd.C_drew ?_) | exact HR352_0.out)) hb)
            replace HR353_0 := Aside0.mk (Kd.C_below (by repeat (first | (with_reducible exact HR353_0.out) | (with_reducible refine Kd.C_alloc ?_ _) | (with_reducible refine Kd.C_drewN ?_ _) | (with_reducible refine Kd.C_drew ?_) | exact HR353_0.out)) hb)
            have BK362 := Aside0.mk (hbox)
            have GW362 := bG_ HB hg
            have GE362 := bG_ HB hg
            replace HB := bS_ HB hb
            have NB350_362 := nL_ BK350 hg
            have NB362_350 := nG_ BK350 hg
            replace BK350 := bK_ BK350 hb
            have NB351_362 := nL_ BK351 hg
            have NB362_351 := nG_ BK351 hg
            replace BK351 := bK_ BK351 hb
            clear hb hbox hg
            refine hK.out _ _ ⟨(blk_cell BK351.out 0).trans rfl, (blk_cell BK351.out 1).trans rfl, (blk_cell BK351.out 2).trans rfl, HS3_⟩ (fun hHeld => ?_)
            clear hK K
            refine norm_ (a' := ?_) ?_ ?_
            rotate_left
            ·show Act.put _ (some 10) _ = _
             simp only [Act.put, List.setIfInBounds_toArray, List.set_cons_zero, List.set_cons_succ, i64_w, i32_w]
             rfl
            exact norm_ (by simp only [putAll, Act.put, List.setIfInBounds_toArray, List.set_cons_zero, List.set_cons_succ]) (hCont (v355, v359, gb362) _ ⟨hHeld, (by (with_reducible repeat (first | apply Kd.V_alloc | apply Kd.V_drewN | apply Kd.V_drew)); exact Kd.V_mono HL352_0.out (fun _ hk => ⟨hk.1.1.1.1, ⟨hk.1.1.2, ⟨hk.1.2, ⟨hk.1.1.1.2.2.1, ⟨hk.1.1.1.2.2.2.1, ⟨hk.1.1.1.2.1, ⟨hk.1.1.1.2.2.2.2.1, ⟨hk.1.1.1.2.2.2.2.2, hk.2⟩⟩⟩⟩⟩⟩⟩⟩)), (by (with_reducible repeat (first | apply Kd.V_alloc | apply Kd.V_drewN | apply Kd.V_drew)); exact Kd.V_mono HL353_0.out (fun _ hk => ⟨hk.1.1.1.1, ⟨hk.1.1.2, ⟨hk.1.2, ⟨hk.1.1.1.2.2.1, ⟨hk.1.1.1.2.2.2.1, ⟨hk.1.1.1.2.1, ⟨hk.1.1.1.2.2.2.2.1, ⟨hk.1.1.1.2.2.2.2.2, hk.2⟩⟩⟩⟩⟩⟩⟩⟩)), (by (with_reducible repeat (first | apply Kd.N_alloc | apply Kd.N_drewN | apply Kd.N_drew)); exact Kd.N_mono HO356.out (fun _ hk => ⟨hk.1.1, ⟨hk.1.2.1, ⟨hk.1.2.2.2.1, ⟨hk.1.2.2.2.2.1, ⟨hk.1.2.2.1, ⟨hk.1.2.2.2.2.2.1, ⟨hk.1.2.2.2.2.2.2, hk.2⟩⟩⟩⟩⟩⟩⟩)), (by (with_reducible repeat (first | apply Kd.N_alloc | apply Kd.N_drewN | apply Kd.N_drew)); exact Kd.N_mono HO360.out (fun _ hk => ⟨hk.1.1, ⟨hk.1.2.1, ⟨hk.1.2.2.2.1, ⟨hk.1.2.2.2.2.1, ⟨hk.1.2.2.1, ⟨hk.1.2.2.2.2.2.1, ⟨hk.1.2.2.2.2.2.2, hk.2⟩⟩⟩⟩⟩⟩⟩)), (by (with_reducible repeat (first | apply Kd.V_alloc | apply Kd.V_drewN | apply Kd.V_drew)); exact Kd.V_mono HO_0.out (fun _ hk => ⟨hk.1.1.1.1, ⟨hk.1.1.2, ⟨hk.1.2, ⟨hk.1.1.1.2.2.1, ⟨hk.1.1.1.2.2.2.1, ⟨hk.1.1.1.2.1, ⟨hk.1.1.1.2.2.2.2.1, ⟨hk.1.1.1.2.2.2.2.2, hk.2⟩⟩⟩⟩⟩⟩⟩⟩)), (by (with_reducible repeat (first | apply Kd.N_alloc | apply Kd.N_drewN | apply Kd.N_drew)); exact Kd.N_mono HO_352000.out (fun _ hk => ⟨hk.1.1.1.1, ⟨hk.1.1.2, ⟨hk.1.2, ⟨hk.1.1.1.2.2.1, ⟨hk.1.1.1.2.1, ⟨hk.1.1.1.2.2.2.1, ⟨hk.1.1.1.2.2.2.2, hk.2⟩⟩⟩⟩⟩⟩⟩)), (by (with_reducible repeat (first | apply Kd.N_alloc | apply Kd.N_drewN | apply Kd.N_drew)); exact Kd.N_mono HO_352002.out (fun _ hk => ⟨hk.1.1.1.1, ⟨hk.1.1.2, ⟨hk.1.2, ⟨hk.1.1.1.2.2.1, ⟨hk.1.1.1.2.1, ⟨hk.1.1.1.2.2.2.1, ⟨hk.1.1.1.2.2.2.2, hk.2⟩⟩⟩⟩⟩⟩⟩)), (by (with_reducible repeat (first | apply Kd.N_alloc | apply Kd.N_drewN | apply Kd.N_drew)); exact Kd.N_mono HO_8.out (fun _ hk => ⟨hk.1.1.1.1, ⟨hk.1.1.2, ⟨hk.1.2, ⟨hk.1.1.1.2.1, ⟨hk.1.1.1.2.2.1, ⟨hk.1.1.1.2.2.2.1, ⟨hk.1.1.1.2.2.2.2, hk.2⟩⟩⟩⟩⟩⟩⟩)), (bA_ BK350), (bA_ BK351), (bA_ BK362), GW362.out, GE362.out, NB350_362.out, NB362_350.out, NB351_362.out, NB362_351.out, (bl_ HB)⟩)
           ·skip
            refine box_step ?hg (N := 10) ?hd (cs := #[.slice none 0 0, .int .i64 0, .slice none 0 0]) (t := 61) ?hr ?_; (case hd => rfl); (case hg => rfl); (case hr => first | (go_simp; done) | (go_simp; rfl))
            intro gb362 hg w83 hbox hb
            have HS3_ := (hb.cell (World.block_lt_of_cell? _ _ (hHeld.2.2.2))).trans (hHeld.2.2.2)
            replace HO_0 := Aside0.mk (Kd.V_below (Kd.V_elderB (vA_ HO_0) gb362 (Nat.le_of_eq hg.symm)) hb)
            replace HO_8 := Aside0.mk (Kd.N_below (Kd.N_elderB (nA_ HO_8) gb362 (Nat.le_of_eq hg.symm)) hb)
            replace HO_352000 := Aside0.mk (Kd.N_below (Kd.N_elderB (nA_ HO_352000) gb362 (Nat.le_of_eq hg.symm)) hb)
            replace HO_352002 := Aside0.mk (Kd.N_below (Kd.N_elderB (nA_ HO_352002) gb362 (Nat.le_of_eq hg.symm)) hb)
            replace HL352_0 := Aside0.mk (Kd.V_below (Kd.V_elderB (vA_ HL352_0) gb362 (Nat.le_of_eq hg.symm)) hb)
            replace HL353_0 := Aside0.mk (Kd.V_below (Kd.V_elderB (vA_ HL353_0) gb362 (Nat.le_of_eq hg.symm)) hb)
            replace HR352_0 := Aside0.mk (Kd.C_below (by repeat (first | (with_reducible exact HR352_0.out) | (with_reducible refine Kd.C_alloc ?_ _) | (with_reducible refine Kd.C_drewN ?_ _) | (with_reducible refine Kd.C_drew ?_) | exact HR352_0.out)) hb)
            replace HR353_0 := Aside0.mk (Kd.C_below (by repeat (first | (with_reducible exact HR353_0.out) | (with_reducible refine Kd.C_alloc ?_ _) | (with_reducible refine Kd.C_drewN ?_ _) | (with_reducible refine Kd.C_drew ?_) | exact HR353_0.out)) hb)
            have BK362 := Aside0.mk (hbox)
            have GW362 := bG_ HB hg
            have GE362 := bG_ HB hg
            replace HB := bS_ HB hb
            have NB350_362 := nL_ BK350 hg
            have NB362_350 := nG_ BK350 hg
            replace BK350 := bK_ BK350 hb
            have NB351_362 := nL_ BK351 hg
            have NB362_351 := nG_ BK351 hg
            replace BK351 := bK_ BK351 hb
            clear hb hbox hg
            refine hK.out _ _ ⟨(blk_cell BK351.out 0).trans rfl, (blk_cell BK351.out 1).trans rfl, (blk_cell BK351.out 2).trans rfl, HS3_⟩ (fun hHeld => ?_)
            clear hK K
            refine norm_ (a' := ?_) ?_ ?_
            rotate_left
            ·show Act.put _ (some 10) _ = _
             simp only [Act.put, List.setIfInBounds_toArray, List.set_cons_zero, List.set_cons_succ, i64_w, i32_w]
             rfl
            refine on_ 5 (some 39) HT_ (fun K hK => ?_)
            refine goes_ Try.func35 (by kernel_rfl) rfl #[.agg #[.slice Ao80 x352000_1.length co80, .int .i64 x352001_1, .slice Ao81 x352002_1.length co81], .slice A353_0 (rd_L3 l0 x9_1).length c353_0] (by rfl) rfl rfl (by (try simp only [List.map_toArray, List.map_cons, List.map_nil]); first | done | rfl | (simp only [List.length_drop, List.length_take]; rfl)) ?_
            with_reducible refine (wal_Append.calls kj4 _ _ x352000_1 x352001_1 _ _ x352002_1 _ _ (rd_L3 l0 x9_1) t354 t357 t358 t361 _ ?side1 ?side2 ?side3 ?side4 ?side5 ?side6 A17.out).mono ?_
            (case side1 => exact cO_ (Kd.N_reads' HO_352000.out).2.2)
            (case side2 => exact (Kd.N_reads' HO_352000.out).2.1)
            (case side3 => exact cO_ (Kd.N_reads' HO_352002.out).2.2)
            (case side4 => exact (Kd.N_reads' HO_352002.out).2.1)
            (case side5 => repeat (first | exact (by repeat (first | (with_reducible exact HR353_0.out) | (with_reducible refine Kd.C_alloc ?_ _) | (with_reducible refine Kd.C_drewN ?_ _) | (with_reducible refine Kd.C_drew ?_) | exact HR353_0.out)) | (with_reducible refine Kd.C_alloc ?_ _) | (with_reducible refine Kd.C_drewN ?_ _) | (with_reducible refine Kd.C_drew ?_)))
            (case side6 => exact HC353_0.out)
            rintro e w84 ⟨v355, v359, rfl, ho0, ho1, hb⟩
            have HS3_ := (hb.cell (World.block_lt_of_cell? _ _ (hHeld.2.2.2))).trans (hHeld.2.2.2)
            refine ⟨_, rfl, ?_⟩
            replace HO_0 := Aside0.mk (Kd.V_mono (Kd.V_told (Kd.V_told (Kd.V_old (vA_ HO_0) hb) (Kd.N_base ho0)) (Kd.N_base ho1)) (fun _ h_ => h_.1))
            replace HL352_0 := Aside0.mk (Kd.V_mono (Kd.V_told (Kd.V_told (Kd.V_old (vA_ HL352_0) hb) (Kd.N_base ho0)) (Kd.N_base ho1)) (fun _ h_ => h_.1))
            replace HL353_0 := Aside0.mk (Kd.V_mono (Kd.V_told (Kd.V_told (Kd.V_old (vA_ HL353_0) hb) (Kd.N_base ho0)) (Kd.N_base ho1)) (fun _ h_ => h_.1))
            have HO356 := Aside0.mk (Kd.N_lower (Kd.N_mono (ok' := fun k_ => (P0_ k_ ∨ w.heap.size ≤ k_) ∧ some k_ ≠ (v359 : Value).ownBlock ∧ some k_ ≠ (.slice Ao79 x8_1.length co79 : Value).ownBlock ∧ some k_ ≠ (.slice Ao80 x352000_1.length co80 : Value).ownBlock ∧ some k_ ≠ (.slice Ao81 x352002_1.length co81 : Value).ownBlock ∧ k_ ≠ gb350 ∧ k_ ≠ gb351 ∧ k_ ≠ gb362) ho0 (fun k_ hk_ => ⟨(.inr (Nat.le_trans (bs_ HB) hk_.1)), hk_.2, (Kd.fresh' (Kd.N_lt (nA_ HO_8)) k_ hk_.1), (Kd.fresh' (Kd.N_lt (nA_ HO_352000)) k_ hk_.1), (Kd.fresh' (Kd.N_lt (nA_ HO_352002)) k_ hk_.1), (Kd.freshB (bA_ BK350) k_ hk_.1), (Kd.freshB (bA_ BK351) k_ hk_.1), (Kd.freshB (bA_ BK362) k_ hk_.1)⟩)) (bs_ HB))
            have HO360 := Aside0.mk (Kd.N_lower (Kd.N_mono (ok' := fun k_ => (P0_ k_ ∨ w.heap.size ≤ k_) ∧ some k_ ≠ (v355 : Value).ownBlock ∧ some k_ ≠ (.slice Ao79 x8_1.length co79 : Value).ownBlock ∧ some k_ ≠ (.slice Ao80 x352000_1.length co80 : Value).ownBlock ∧ some k_ ≠ (.slice Ao81 x352002_1.length co81 : Value).ownBlock ∧ k_ ≠ gb350 ∧ k_ ≠ gb351 ∧ k_ ≠ gb362) ho1 (fun k_ hk_ => ⟨(.inr (Nat.le_trans (bs_ HB) hk_.1)), hk_.2, (Kd.fresh' (Kd.N_lt (nA_ HO_8)) k_ hk_.1), (Kd.fresh' (Kd.N_lt (nA_ HO_352000)) k_ hk_.1), (Kd.fresh' (Kd.N_lt (nA_ HO_352002)) k_ hk_.1), (Kd.freshB (bA_ BK350) k_ hk_.1), (Kd.freshB (bA_ BK351) k_ hk_.1), (Kd.freshB (bA_ BK362) k_ hk_.1)⟩)) (bs_ HB))
            replace HO_8 := Aside0.mk (Kd.N_mono (Kd.N_told (Kd.N_told (Kd.N_old (nA_ HO_8) hb) (Kd.N_base ho0)) (Kd.N_base ho1)) (fun _ h_ => h_.1))
            replace HO_352000 := Aside0.mk (Kd.N_mono (Kd.N_told (Kd.N_told (Kd.N_old (nA_ HO_352000) hb) (Kd.N_base ho0)) (Kd.N_base ho1)) (fun _ h_ => h_.1))
            replace HO_352002 := Aside0.mk (Kd.N_mono (Kd.N_told (Kd.N_told (Kd.N_old (nA_ HO_352002) hb) (Kd.N_base ho0)) (Kd.N_base ho1)) (fun _ h_ => h_.1))
            replace BK350 := bK_ BK350 hb
            replace BK351 := bK_ BK351 hb
            replace HR352_0 := Aside0.mk (Kd.C_below (by repeat (first | (with_reducible exact HR352_0.out) | (with_reducible refine Kd.C_alloc ?_ _) | (with_reducible refine Kd.C_drewN ?_ _) | (with_reducible refine Kd.C_drew ?_) | exact HR352_0.out)) hb)
            replace HR353_0 := Aside0.mk (Kd.C_below (by repeat (first | (with_reducible exact HR353_0.out) | (with_reducible refine Kd.C_alloc ?_ _) | (with_reducible refine Kd.C_drewN ?_ _) | (with_reducible refine Kd.C_drew ?_) | exact HR353_0.out)) hb)
            replace BK362 := bK_ BK362 hb
            replace HB := bS_ HB hb
            (try clear hb ho0 ho1)
            refine hK.out _ _ ⟨(blk_cell BK351.out 0).trans rfl, (blk_cell BK351.out 1).trans rfl, (blk_cell BK351.out 2).trans rfl, HS3_⟩ (fun hHeld => ?_)
            clear hK K
            refine norm_ (a' := ?_) ?_ ?_
            rotate_left
            ·show Act.put _ (some 39) _ = _
             simp only [Act.put, List.setIfInBounds_toArray, List.set_cons_zero, List.set_cons_succ, i64_w, i32_w]
             rfl
            refine pu_ 6 (some 33) HT_ ?_
            refine pu_ 7 (some 40) HT_ ?_
            refine pu_ 8 (some 41) HT_ ?_
            exact norm_ (by simp only [putAll, Act.put, List.setIfInBounds_toArray, List.set_cons_zero, List.set_cons_succ]) (hCont (v355, v359, gb362) _ ⟨hHeld, (by (with_reducible repeat (first | apply Kd.V_alloc | apply Kd.V_drewN | apply Kd.V_drew)); exact Kd.V_mono HL352_0.out (fun _ hk => ⟨hk.1.1.1.1, ⟨hk.1.2, ⟨hk.2, ⟨hk.1.1.1.2.2.1, ⟨hk.1.1.1.2.2.2.1, ⟨hk.1.1.1.2.1, ⟨hk.1.1.1.2.2.2.2.1, ⟨hk.1.1.1.2.2.2.2.2, hk.1.1.2⟩⟩⟩⟩⟩⟩⟩⟩)), (by (with_reducible repeat (first | apply Kd.V_alloc | apply Kd.V_drewN | apply Kd.V_drew)); exact Kd.V_mono HL353_0.out (fun _ hk => ⟨hk.1.1.1.1, ⟨hk.1.2, ⟨hk.2, ⟨hk.1.1.1.2.2.1, ⟨hk.1.1.1.2.2.2.1, ⟨hk.1.1.1.2.1, ⟨hk.1.1.1.2.2.2.2.1, ⟨hk.1.1.1.2.2.2.2.2, hk.1.1.2⟩⟩⟩⟩⟩⟩⟩⟩)), (by (with_reducible repeat (first | apply Kd.N_alloc | apply Kd.N_drewN | apply Kd.N_drew)); exact Kd.N_mono HO356.out (fun _ hk => ⟨hk.1, ⟨hk.2.1, ⟨hk.2.2.2.1, ⟨hk.2.2.2.2.1, ⟨hk.2.2.1, ⟨hk.2.2.2.2.2.1, ⟨hk.2.2.2.2.2.2.1, hk.2.2.2.2.2.2.2⟩⟩⟩⟩⟩⟩⟩)), (by (with_reducible repeat (first | apply Kd.N_alloc | apply Kd.N_drewN | apply Kd.N_drew)); exact Kd.N_mono HO360.out (fun _ hk => ⟨hk.1, ⟨hk.2.1, ⟨hk.2.2.2.1, ⟨hk.2.2.2.2.1, ⟨hk.2.2.1, ⟨hk.2.2.2.2.2.1, ⟨hk.2.2.2.2.2.2.1, hk.2.2.2.2.2.2.2⟩⟩⟩⟩⟩⟩⟩)), (by (with_reducible repeat (first | apply Kd.V_alloc | apply Kd.V_drewN | apply Kd.V_drew)); exact Kd.V_mono HO_0.out (fun _ hk => ⟨hk.1.1.1.1, ⟨hk.1.2, ⟨hk.2, ⟨hk.1.1.1.2.2.1, ⟨hk.1.1.1.2.2.2.1, ⟨hk.1.1.1.2.1, ⟨hk.1.1.1.2.2.2.2.1, ⟨hk.1.1.1.2.2.2.2.2, hk.1.1.2⟩⟩⟩⟩⟩⟩⟩⟩)), (by (with_reducible repeat (first | apply Kd.N_alloc | apply Kd.N_drewN | apply Kd.N_drew)); exact Kd.N_mono HO_352000.out (fun _ hk => ⟨hk.1.1.1.1, ⟨hk.1.2, ⟨hk.2, ⟨hk.1.1.1.2.2.1, ⟨hk.1.1.1.2.1, ⟨hk.1.1.1.2.2.2.1, ⟨hk.1.1.1.2.2.2.2, hk.1.1.2⟩⟩⟩⟩⟩⟩⟩)), (by (with_reducible repeat (first | apply Kd.N_alloc | apply Kd.N_drewN | apply Kd.N_drew)); exact Kd.N_mono HO_352002.out (fun _ hk => ⟨hk.1.1.1.1, ⟨hk.1.2, ⟨hk.2, ⟨hk.1.1.1.2.2.1, ⟨hk.1.1.1.2.1, ⟨hk.1.1.1.2.2.2.1, ⟨hk.1.1.1.2.2.2.2, hk.1.1.2⟩⟩⟩⟩⟩⟩⟩)), (by (with_reducible repeat (first | apply Kd.N_alloc | apply Kd.N_drewN | apply Kd.N_drew)); exact Kd.N_mono HO_8.out (fun _ hk => ⟨hk.1.1.1.1, ⟨hk.1.2, ⟨hk.2, ⟨hk.1.1.1.2.1, ⟨hk.1.1.1.2.2.1, ⟨hk.1.1.1.2.2.2.1, ⟨hk.1.1.1.2.2.2.2, hk.1.1.2⟩⟩⟩⟩⟩⟩⟩)), (bA_ BK350), (bA_ BK351), (bA_ BK362), GW362.out, GE362.out, NB350_362.out, NB362_350.out, NB351_362.out, NB362_351.out, (bl_ HB)⟩)
          rintro ⟨v355, v359, gb362⟩ w85 ⟨hS_, h0_, h1_, h2_, h3_, h4_, h5_, h6_, h7_, h8_, h9_, h10_, h11_, h12_, h13_, h14_, h15_, h16_, h17_⟩
          replace HL352_0 : Aside0 (Kd.V (Kd.slice 5 (Kd.int .u8)) 26 w85 w.heap.size (fun k_ => (P0_ k_ ∨ w.heap.size ≤ k_) ∧ some k_ ≠ (v355 : Value).ownBlock ∧ some k_ ≠ (v359 : Value).ownBlock ∧ some k_ ≠ (.slice Ao80 x352000_1.length co80 : Value).ownBlock ∧ some k_ ≠ (.slice Ao81 x352002_1.length co81 : Value).ownBlock ∧ some k_ ≠ (.slice Ao79 x8_1.length co79 : Value).ownBlock ∧ k_ ≠ gb350 ∧ k_ ≠ gb351 ∧ k_ ≠ gb362) (.slice A352_0 (rd_L3 l0 x9_1).length c352_0) (rd_L3 l0 x9_1)) := ⟨h0_⟩
          have HL353_0 : Aside0 (Kd.V (Kd.slice 5 (Kd.int .u8)) 26 w85 w.heap.size (fun k_ => (P0_ k_ ∨ w.heap.size ≤ k_) ∧ some k_ ≠ (v355 : Value).ownBlock ∧ some k_ ≠ (v359 : Value).ownBlock ∧ some k_ ≠ (.slice Ao80 x352000_1.length co80 : Value).ownBlock ∧ some k_ ≠ (.slice Ao81 x352002_1.length co81 : Value).ownBlock ∧ some k_ ≠ (.slice Ao79 x8_1.length co79 : Value).ownBlock ∧ k_ ≠ gb350 ∧ k_ ≠ gb351 ∧ k_ ≠ gb362) (.slice A353_0 (rd_L3 l0 x9_1).length c353_0) (rd_L3 l0 x9_1)) := ⟨h1_⟩
          have HO356 : Aside0 (Kd.N k70 70 w85 w.heap.size (fun k_ => (P0_ k_ ∨ w.heap.size ≤ k_) ∧ some k_ ≠ (v359 : Value).ownBlock ∧ some k_ ≠ (.slice Ao80 x352000_1.length co80 : Value).ownBlock ∧ some k_ ≠ (.slice Ao81 x352002_1.length co81 : Value).ownBlock ∧ some k_ ≠ (.slice Ao79 x8_1.length co79 : Value).ownBlock ∧ k_ ≠ gb350 ∧ k_ ≠ gb351 ∧ k_ ≠ gb362) v355 t354) := ⟨h2_⟩
          have HO360 : Aside0 (Kd.N (Kd.slice 5 (Kd.int .u8)) 26 w85 w.heap.size (fun k_ => (P0_ k_ ∨ w.heap.size ≤ k_) ∧ some k_ ≠ (v355 : Value).ownBlock ∧ some k_ ≠ (.slice Ao80 x352000_1.length co80 : Value).ownBlock ∧ some k_ ≠ (.slice Ao81 x352002_1.length co81 : Value).ownBlock ∧ some k_ ≠ (.slice Ao79 x8_1.length co79 : Value).ownBlock ∧ k_ ≠ gb350 ∧ k_ ≠ gb351 ∧ k_ ≠ gb362) v359 t358) := ⟨h3_⟩
          replace HO_0 : Aside0 (Kd.V (Kd.slice 26 (Kd.slice 5 (Kd.int .u8))) 56 w85 w.heap.size (fun k_ => (P0_ k_ ∨ w.heap.size ≤ k_) ∧ some k_ ≠ (v355 : Value).ownBlock ∧ some k_ ≠ (v359 : Value).ownBlock ∧ some k_ ≠ (.slice Ao80 x352000_1.length co80 : Value).ownBlock ∧ some k_ ≠ (.slice Ao81 x352002_1.length co81 : Value).ownBlock ∧ some k_ ≠ (.slice Ao79 x8_1.length co79 : Value).ownBlock ∧ k_ ≠ gb350 ∧ k_ ≠ gb351 ∧ k_ ≠ gb362) (.slice (some ad352) l0.length c0) l0) := ⟨h4_⟩
          replace HO_352000 : Aside0 (Kd.N k70 70 w85 w.heap.size (fun k_ => (P0_ k_ ∨ w.heap.size ≤ k_) ∧ some k_ ≠ (v355 : Value).ownBlock ∧ some k_ ≠ (v359 : Value).ownBlock ∧ some k_ ≠ (.slice Ao81 x352002_1.length co81 : Value).ownBlock ∧ some k_ ≠ (.slice Ao79 x8_1.length co79 : Value).ownBlock ∧ k_ ≠ gb350 ∧ k_ ≠ gb351 ∧ k_ ≠ gb362) (.slice Ao80 x352000_1.length co80) x352000_1) := ⟨h5_⟩
          replace HO_352002 : Aside0 (Kd.N (Kd.slice 5 (Kd.int .u8)) 26 w85 w.heap.size (fun k_ => (P0_ k_ ∨ w.heap.size ≤ k_) ∧ some k_ ≠ (v355 : Value).ownBlock ∧ some k_ ≠ (v359 : Value).ownBlock ∧ some k_ ≠ (.slice Ao80 x352000_1.length co80 : Value).ownBlock ∧ some k_ ≠ (.slice Ao79 x8_1.length co79 : Value).ownBlock ∧ k_ ≠ gb350 ∧ k_ ≠ gb351 ∧ k_ ≠ gb362) (.slice Ao81 x352002_1.length co81) x352002_1) := ⟨h6_⟩
          replace HO_8 : Aside0 (Kd.N (Kd.slice 5 (Kd.int .u8)) 26 w85 w.heap.size (fun k_ => (P0_ k_ ∨ w.heap.size ≤ k_) ∧ some k_ ≠ (v355 : Value).ownBlock ∧ some k_ ≠ (v359 : Value).ownBlock ∧ some k_ ≠ (.slice Ao80 x352000_1.length co80 : Value).ownBlock ∧ some k_ ≠ (.slice Ao81 x352002_1.length co81 : Value).ownBlock ∧ k_ ≠ gb350 ∧ k_ ≠ gb351 ∧ k_ ≠ gb362) (.slice Ao79 x8_1.length co79) x8_1) := ⟨h7_⟩
          replace BK350 : Aside0 (w85.heap[gb350]? = some (.cells #[.slice none 0 0, .int .i64 x351001_1, .slice none 0 0] 61 (0, 0))) := ⟨h8_⟩
          replace BK351 : Aside0 (w85.heap[gb351]? = some (.cells #[.slice Ao80 x352000_1.length co80, .int .i64 x352001_1, .slice Ao81 x352002_1.length co81] 61 (0, 0))) := ⟨h9_⟩
          have BK362 : Aside0 (w85.heap[gb362]? = some (.cells #[.slice none 0 0, .int .i64 0, .slice none 0 0] 61 (0, 0))) := ⟨h10_⟩
          have GW362 : Aside0 (w.heap.size ≤ gb362) := ⟨h11_⟩
          have GE362 : Aside0 (w.heap.size ≤ gb362) := ⟨h12_⟩
          have NB350_362 : Aside0 (gb350 ≠ gb362) := ⟨h13_⟩
          have NB362_350 : Aside0 (gb362 ≠ gb350) := ⟨h14_⟩
          have NB351_362 : Aside0 (gb351 ≠ gb362) := ⟨h15_⟩
          have NB362_351 : Aside0 (gb362 ≠ gb351) := ⟨h16_⟩
          replace HB : Aside0 (Below w.heap.size w w85) := ⟨h17_⟩
          clear HR352_0 h0_ h1_ h2_ h3_ h4_ h5_ h6_ h7_ h8_ h9_ h10_ h11_ h12_ h13_ h14_ h15_ h16_ h17_
          have hHeld : w85.cell? ⟨gb351, 0, none⟩ = some (.slice Ao80 x352000_1.length co80) ∧ w85.cell? ⟨gb351, 1, none⟩ = some (.int .i64 x352001_1) ∧ w85.cell? ⟨gb351, 2, none⟩ = some (.slice Ao81 x352002_1.length co81) ∧ w85.cell? (ad352.add (x9_1).toNat) = some (.slice A353_0 (rd_L3 l0 x9_1).length c353_0) := hS_
          obtain ⟨Ao86, co86, eo86⟩ := Kd.N_slice HO356.out
          (first | subst eo86 | (injection eo86 with f1_ f2_ f3_; have f4_ := f1_.symm; have f5_ := f3_.symm; clear f1_ f2_ f3_; subst f4_; subst f5_))
          obtain ⟨Ao89, co89, eo89⟩ := Kd.N_slice HO360.out
          (first | subst eo89 | (injection eo89 with f1_ f2_ f3_; have f4_ := f1_.symm; have f5_ := f3_.symm; clear f1_ f2_ f3_; subst f4_; subst f5_))
          refine norm_ (a' := ?_) ?_ ?_
          rotate_left
          ·simp only [putAll, Act.put, List.setIfInBounds_toArray, List.set_cons_zero, List.set_cons_succ]
           rfl
          refine on_ 10 none HT_ (fun K hK => ?_)
          have hs87 : w85.cell? ⟨gb362, 0, none⟩ = some (.slice none 0 0) := (blk_cell BK362.out 0).trans rfl
          have hfs87 := blk_frozen BK362.out 0
          have hns87_0 := NB350_362.out
          have hns87_1 := NB351_362.out
          have hms87_0 := NB362_350.out
          have hms87_1 := NB362_351.out
          have hs88 : w85.cell? ⟨gb362, 1, none⟩ = some (.int .i64 0) := (blk_cell BK362.out 1).trans rfl
          have hfs88 := blk_frozen BK362.out 1
          have hns88_0 := NB350_362.out
          have hns88_1 := NB351_362.out
          have hms88_0 := NB362_350.out
          have hms88_1 := NB362_351.out
          have hs90 : w85.cell? ⟨gb362, 2, none⟩ = some (.slice none 0 0) := (blk_cell BK362.out 2).trans rfl
          have hfs90 := blk_frozen BK362.out 2
          have hns90_0 := NB350_362.out
          have hns90_1 := NB351_362.out
          have hms90_0 := NB362_350.out
          have hms90_1 := NB362_351.out
          refine skip_ (w1 := ?_) (by rfl) rfl ?_ ?_
          rotate_left
          ·go_simp
           rfl
          refine hK.out _ _ ⟨((cell_far (p := ⟨gb362, _, none⟩) NB351_362.out _).trans (((cell_far (p := ⟨gb362, _, none⟩) NB351_362.out _).trans (((cell_far (p := ⟨gb362, _, none⟩) NB351_362.out _).trans (hHeld.1)))))), ((cell_far (p := ⟨gb362, _, none⟩) NB351_362.out _).trans (((cell_far (p := ⟨gb362, _, none⟩) NB351_362.out _).trans (((cell_far (p := ⟨gb362, _, none⟩) NB351_362.out _).trans (hHeld.2.1)))))), ((cell_far (p := ⟨gb362, _, none⟩) NB351_362.out _).trans (((cell_far (p := ⟨gb362, _, none⟩) NB351_362.out _).trans (((cell_far (p := ⟨gb362, _, none⟩) NB351_362.out _).trans (hHeld.2.2.1)))))), ((cell_far (p := ⟨gb362, _, none⟩) (by first | exact vw_ (fun _ hk => hk.2.2.2.2.2.2.2.2) HO_0 (by decide) (by first | exact p353 | exact of_eq_true p353) (by first | exact q353 | exact of_eq_true q353) | (rw [add_block]; exact vw_ (fun _ hk => hk.2.2.2.2.2.2.2.2) HO_0 (by decide) (by first | exact p353 | exact of_eq_true p353) (by first | exact q353 | exact of_eq_true q353)) | (show (Addr.add _ _).block ≠ _; rw [add_block]; exact vw_ (fun _ hk => hk.2.2.2.2.2.2.2.2) HO_0 (by decide) (by first | exact p353 | exact of_eq_true p353) (by first | exact q353 | exact of_eq_true q353)) | (dsimp only; exact vw_ (fun _ hk => hk.2.2.2.2.2.2.2.2) HO_0 (by decide) (by first | exact p353 | exact of_eq_true p353) (by first | exact q353 | exact of_eq_true q353))) _).trans (((cell_far (p := ⟨gb362, _, none⟩) (by first | exact vw_ (fun _ hk => hk.2.2.2.2.2.2.2.2) HO_0 (by decide) (by first | exact p353 | exact of_eq_true p353) (by first | exact q353 | exact of_eq_true q353) | (rw [add_block]; exact vw_ (fun _ hk => hk.2.2.2.2.2.2.2.2) HO_0 (by decide) (by first | exact p353 | exact of_eq_true p353) (by first | exact q353 | exact of_eq_true q353)) | (show (Addr.add _ _).block ≠ _; rw [add_block]; exact vw_ (fun _ hk => hk.2.2.2.2.2.2.2.2) HO_0 (by decide) (by first | exact p353 | exact of_eq_true p353) (by first | exact q353 | exact of_eq_true q353)) | (dsimp only; exact vw_ (fun _ hk => hk.2.2.2.2.2.2.2.2) HO_0 (by decide) (by first | exact p353 | exact of_eq_true p353) (by first | exact q353 | exact of_eq_true q353))) _).trans (((cell_far (p := ⟨gb362, _, none⟩) (by first | exact vw_ (fun _ hk => hk.2.2.2.2.2.2.2.2) HO_0 (by decide) (by first | exact p353 | exact of_eq_true p353) (by first | exact q353 | exact of_eq_true q353) | (rw [add_block]; exact vw_ (fun _ hk => hk.2.2.2.2.2.2.2.2) HO_0 (by decide) (by first | exact p353 | exact of_eq_true p353) (by first | exact q353 | exact of_eq_true q353)) | (show (Addr.add _ _).block ≠ _; rw [add_block]; exact vw_ (fun _ hk => hk.2.2.2.2.2.2.2.2) HO_0 (by decide) (by first | exact p353 | exact of_eq_true p353) (by first | exact q353 | exact of_eq_true q353)) | (dsimp only; exact vw_ (fun _ hk => hk.2.2.2.2.2.2.2.2) HO_0 (by decide) (by first | exact p353 | exact of_eq_true p353) (by first | exact q353 | exact of_eq_true q353))) _).trans (hHeld.2.2.2))))))⟩ (fun hHeld => ?_)
          clear hK K
          refine pu_ 11 (some 11) HT_ ?_
          refine done_ (done_of HT_.out (by kernel_rfl)) ?_
          try go_wp2_with (first | ((with_reducible refine gate_callee (f := 36) rfl ?_); refine gL_ (some 43) Try.func36 #[.int .i64 t361] ?_; (with_reducible refine (transeptlaw08_num.calls t361 t363 _ A18.out).mono ?_); rintro e w' ⟨rfl, ⟨nd, rfl⟩⟩; refine ⟨_, rfl, ?_⟩))
          go_roundg kj4
          case measure => have := HK1.out; have := HJ4.out; omega
          case rel => exact ⟨(x8_1), (wrap64 (x9_1 + 1)), (x351001_1), (x352000_1), (x352001_1), (x352002_1), (.slice Ao80 x352000_1.length co80), (.slice Ao81 x352002_1.length co81), (by first | rfl | (simp; done) | (simp [*]; done)), H', ⟨by have := HK1.out; have := HJ4.out; omega⟩, ⟨Kd.V_mono (vD_ HO_0 (fun k_ hk => hk.2.2.2.2.2.2.2.2)) (fun _ hk => ⟨hk.1.1, ⟨hk.1.2.2.2.2.2.1, ⟨hk.1.2.2.2.1, ⟨hk.1.2.2.2.2.1, ⟨hk.1.2.2.2.2.2.2.1, hk.1.2.2.2.2.2.2.2.1⟩⟩⟩⟩⟩)⟩, ⟨Kd.N_mono (nD_ HO_8 (fun k_ hk => hk.2.2.2.2.2.2.2)) (fun _ hk => ⟨hk.1.1, ⟨hk.1.2.2.2.1, ⟨hk.1.2.2.2.2.1, ⟨hk.1.2.2.2.2.2.1, hk.1.2.2.2.2.2.2.1⟩⟩⟩⟩)⟩, ⟨Kd.N_mono (nD_ HO_352000 (fun k_ hk => hk.2.2.2.2.2.2.2)) (fun _ hk => ⟨hk.1.1, ⟨hk.1.2.2.2.2.1, ⟨hk.1.2.2.2.1, ⟨hk.1.2.2.2.2.2.1, hk.1.2.2.2.2.2.2.1⟩⟩⟩⟩)⟩, ⟨Kd.N_mono (nD_ HO_352002 (fun k_ hk => hk.2.2.2.2.2.2.2)) (fun _ hk => ⟨hk.1.1, ⟨hk.1.2.2.2.2.1, ⟨hk.1.2.2.2.1, ⟨hk.1.2.2.2.2.2.1, hk.1.2.2.2.2.2.2.1⟩⟩⟩⟩)⟩, ⟨bA_ BK350⟩, ⟨bA_ BK351⟩, ⟨bl_ HB⟩⟩
       ·rw [if_neg c9] at H
        exact absurd H (by simp)
      ·rw [if_neg c8] at H
       exact absurd H (by simp)
     ·replace c7 := Bool.eq_false_iff.mpr c7
      subst c7
      rw [if_neg (show ¬ (false = true) by decide)] at H
      simp only [Option.some.injEq, Prod.mk.injEq] at H
      obtain ⟨rfl, rfl, rfl, rfl, rfl⟩ := H
      have hnb91 := NB351_350.out
      have hnc91 := NB350_351.out
      obtain ⟨hcz92_0, hcz92_1, hcz92_2, hfz92_0, hfz92_1, hfz92_2⟩ := cz3_ BK351
      obtain ⟨Ao93, co93, eo93⟩ := Kd.N_slice HO_352000.out
      subst eo93
      obtain ⟨hcz94_0, hcz94_1, hcz94_2, hfz94_0, hfz94_1, hfz94_2⟩ := cz3_ BK350
      obtain ⟨Ao95, co95, eo95⟩ := Kd.N_slice HO_352002.out
      subst eo95
      go_wp2
      refine bodyPost_ret (results_ctt rfl _ _ gb350 61 #[.slice Ao93 x352000_1.length co93, .int .i64 x352001_1, .slice Ao95 x352002_1.length co95] (0, 0) _ rfl (by (with_reducible repeat (first | refine blk_drewN ?_ _ | refine blk_drew ?_ | refine blk_alloc ?_ _)); refine blk_put (cs := #[.slice Ao93 x352000_1.length co93, .int .i64 x352001_1, .slice none 0 0]) ?_ 2 _ rfl; (with_reducible repeat (first | refine blk_drewN ?_ _ | refine blk_drew ?_ | refine blk_alloc ?_ _)); refine blk_put (cs := #[.slice Ao93 x352000_1.length co93, .int .i64 x351001_1, .slice none 0 0]) ?_ 1 _ rfl; (with_reducible repeat (first | refine blk_drewN ?_ _ | refine blk_drew ?_ | refine blk_alloc ?_ _)); refine blk_put (cs := #[.slice none 0 0, .int .i64 x351001_1, .slice none 0 0]) ?_ 0 _ rfl; (with_reducible repeat (first | refine blk_drewN ?_ _ | refine blk_drew ?_ | refine blk_alloc ?_ _)); exact BK350.out) Try.underlying61 rfl (by kernel_rfl)) rfl ?_
      exact ⟨_, _, _, fin_, Kd.N_mono (nD_ HO_352000 (fun k_ hk => hk.2.2.2.1)) (fun _ hk => ⟨hk.1.1, ⟨hk.1.2.2.1, hk.1.2.1⟩⟩), Kd.N_mono (nD_ HO_352002 (fun k_ hk => hk.2.2.2.1)) (fun _ hk => ⟨hk.1.1, ⟨hk.1.2.2.1, hk.1.2.1⟩⟩), Kd.N_mono (nD_ HO_8 (fun k_ hk => hk.2.2.2.1)) (fun _ hk => ⟨hk.1.1, ⟨hk.1.2.1, hk.1.2.2.1⟩⟩), bl_ HB⟩
end Go.Proofs.Ytooabchnbmnchaa.Q
