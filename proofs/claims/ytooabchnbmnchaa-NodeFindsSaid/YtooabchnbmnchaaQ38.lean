-- Laid by this session's own program (wip/tools) out of the translation; Lean checks it. Thinned, shortened and merged for this claim.
import Derived.Test.YtooabchnbmnchaaQ0
import Derived.Test.YtooabchnbmnchaaSq
import Derived.Test.YtooabchnbmnchaaQ32
namespace Go.Proofs.Ytooabchnbmnchaa.Q
open Go.RowKit Go.Proofs.YtooabchnbmnchaaW.PrintWords Go.Proofs.YtooabchnbmnchaaW.PrintLast Go.Proofs.YtooabchnbmnchaaW.PrintMore
attribute [local go_sem] max2_int min2_int max_two min_two max_three min_three max_four min_four binOp_string_leq binOp_string_geq binOp_string_gtr   -- for this text's walks alone
set_option linter.unusedVariables false
set_option linter.unusedSimpArgs false
mutual
def transeptref09_Check.l0 : Nat → Int → Bool → List ByteArray → List ByteArray → List Int → Option (Int)
 | 0, _, _, _, _, _ => none
 | k + 1, x3, x249000, x249001, x249002, x249003 => if x3 < (x249001.length : Int) then (if 0 ≤ x3 then (if ((rdOf ByteArray.empty x249001 x3).size : Int) < 1 then (some 91) else (if ((rdOf ByteArray.empty x249001 x3).size : Int) > 32 then (some 91) else (if x3 > 0 then (if 0 ≤ (wrap64 (x3 - 1)) then (if (wrap64 (x3 - 1)) < (x249001.length : Int) then (if ((Op.bytesLess ((rdOf ByteArray.empty x249001 (wrap64 (x3 - 1))).toList) ((rdOf ByteArray.empty x249001 x3).toList)) = true) then (transeptref09_Check.l0 k (wrap64 (x3 + 1)) x249000 x249001 x249002 x249003) else (some 91)) else (none)) else (none)) else (transeptref09_Check.l0 k (wrap64 (x3 + 1)) x249000 x249001 x249002 x249003)))) else (none)) else (if x249000 = true then (if (x249002.length : Int) = (x249001.length : Int) then (if (x249003.length : Int) > 0 then (transeptref09_Check.j1 k true x249000 x249001 x249002 x249003) else (transeptref09_Check.j1 k false x249000 x249001 x249002 x249003)) else (transeptref09_Check.j1 k true x249000 x249001 x249002 x249003)) else (if (x249002.length : Int) > 0 then (transeptref09_Check.j1 k true x249000 x249001 x249002 x249003) else (if (x249001.length : Int) < 1 then (transeptref09_Check.j1 k true x249000 x249001 x249002 x249003) else (transeptref09_Check.j1 k ((x249003.length : Int) != (wrap64 ((x249001.length : Int) + 1))) x249000 x249001 x249002 x249003))))
def transeptref09_Check.j1 : Nat → Bool → Bool → List ByteArray → List ByteArray → List Int → Option (Int)
 | 0, _, _, _, _, _ => none
 | k + 1, x90, x249000, x249001, x249002, x249003 => if x90 = true then (some 3) else (transeptref09_Check.l1 k 0 x249000 x249001 x249002 x249003)
def transeptref09_Check.l1 : Nat → Int → Bool → List ByteArray → List ByteArray → List Int → Option (Int)
 | 0, _, _, _, _, _ => none
 | k + 1, x4, x249000, x249001, x249002, x249003 => if x4 < (x249002.length : Int) then (if 0 ≤ x4 then (if ((rdOf ByteArray.empty x249002 x4).size : Int) > 64 then (some 5) else (transeptref09_Check.l1 k (wrap64 (x4 + 1)) x249000 x249001 x249002 x249003)) else (none)) else (transeptref09_Check.l2 k 0 x249000 x249001 x249002 x249003)
def transeptref09_Check.l2 : Nat → Int → Bool → List ByteArray → List ByteArray → List Int → Option (Int)
 | 0, _, _, _, _, _ => none
 | k + 1, x5, x249000, x249001, x249002, x249003 => if x5 < (x249003.length : Int) then (if 0 ≤ x5 then (if (rd x249003 x5) < 1 then (some 4) else (if (rd x249003 x5) > 65536 then (some 4) else (transeptref09_Check.l2 k (wrap64 (x5 + 1)) x249000 x249001 x249002 x249003))) else (none)) else ((transeptref09_Size.f k x249000 x249001 x249002 x249003).bind fun t256 => (if t256 > 244 then (some 51) else (some 0)))
end
def transeptref09_Check.f (k : Nat) (a0_0 : Bool) (l0_1 : List ByteArray) (l0_2 : List ByteArray) (l0_3 : List Int) : Option (Int) := transeptref09_Check.l0 k 0 a0_0 l0_1 l0_2 l0_3
theorem transeptref09_Check.mono_l : ∀ k, (∀ y0 y1 y2 y3 y4, LeO (transeptref09_Check.l0 k y0 y1 y2 y3 y4) (transeptref09_Check.l0 (k + 1) y0 y1 y2 y3 y4)) ∧ (∀ y0 y1 y2 y3 y4, LeO (transeptref09_Check.j1 k y0 y1 y2 y3 y4) (transeptref09_Check.j1 (k + 1) y0 y1 y2 y3 y4)) ∧ (∀ y0 y1 y2 y3 y4, LeO (transeptref09_Check.l1 k y0 y1 y2 y3 y4) (transeptref09_Check.l1 (k + 1) y0 y1 y2 y3 y4)) ∧ (∀ y0 y1 y2 y3 y4, LeO (transeptref09_Check.l2 k y0 y1 y2 y3 y4) (transeptref09_Check.l2 (k + 1) y0 y1 y2 y3 y4))
 | 0 => ⟨fun _ _ _ _ _ r h => by simp [transeptref09_Check.l0] at h, fun _ _ _ _ _ r h => by simp [transeptref09_Check.j1] at h, fun _ _ _ _ _ r h => by simp [transeptref09_Check.l1] at h, fun _ _ _ _ _ r h => by simp [transeptref09_Check.l2] at h⟩
 | k + 1 => by
  obtain ⟨ih0, ih1, ih2, ih3⟩ := transeptref09_Check.mono_l k
  refine ⟨?_, ?_, ?_, ?_⟩
  ·intro y0 y1 y2 y3 y4
   unfold transeptref09_Check.l0
   repeat' first
   | (with_reducible exact ih0 _ _ _ _ _)
   | (with_reducible exact ih1 _ _ _ _ _)
   | (with_reducible exact ih2 _ _ _ _ _)
   | (with_reducible exact ih3 _ _ _ _ _)
   | (with_reducible exact transeptref09_Size.mono _ _ _ _ _)
   | (with_reducible exact LeO.refl _)
   | (with_reducible exact LeO.none _)
   | (with_reducible refine LeO.ite ?_ ?_)
   | (with_reducible refine LeO.bind ?_ (fun _ => ?_))
   | exact ih0 _ _ _ _ _
   | exact ih1 _ _ _ _ _
   | exact ih2 _ _ _ _ _
   | exact ih3 _ _ _ _ _
   | exact transeptref09_Size.mono _ _ _ _ _
   | exact LeO.none _
   | refine LeO.ite ?_ ?_
   | refine LeO.bind ?_ (fun _ => ?_)
  ·intro y0 y1 y2 y3 y4
   unfold transeptref09_Check.j1
   repeat' first
   | (with_reducible exact ih0 _ _ _ _ _)
   | (with_reducible exact ih1 _ _ _ _ _)
   | (with_reducible exact ih2 _ _ _ _ _)
   | (with_reducible exact ih3 _ _ _ _ _)
   | (with_reducible exact transeptref09_Size.mono _ _ _ _ _)
   | (with_reducible exact LeO.refl _)
   | (with_reducible exact LeO.none _)
   | (with_reducible refine LeO.ite ?_ ?_)
   | (with_reducible refine LeO.bind ?_ (fun _ => ?_))
   | exact ih0 _ _ _ _ _
   | exact ih1 _ _ _ _ _
   | exact ih2 _ _ _ _ _
   | exact ih3 _ _ _ _ _
   | exact transeptref09_Size.mono _ _ _ _ _
   | exact LeO.none _
   | refine LeO.ite ?_ ?_
   | refine LeO.bind ?_ (fun _ => ?_)
  ·intro y0 y1 y2 y3 y4
   unfold transeptref09_Check.l1
   repeat' first
   | (with_reducible exact ih0 _ _ _ _ _)
   | (with_reducible exact ih1 _ _ _ _ _)
   | (with_reducible exact ih2 _ _ _ _ _)
   | (with_reducible exact ih3 _ _ _ _ _)
   | (with_reducible exact transeptref09_Size.mono _ _ _ _ _)
   | (with_reducible exact LeO.refl _)
   | (with_reducible exact LeO.none _)
   | (with_reducible refine LeO.ite ?_ ?_)
   | (with_reducible refine LeO.bind ?_ (fun _ => ?_))
   | exact ih0 _ _ _ _ _
   | exact ih1 _ _ _ _ _
   | exact ih2 _ _ _ _ _
   | exact ih3 _ _ _ _ _
   | exact transeptref09_Size.mono _ _ _ _ _
   | exact LeO.none _
   | refine LeO.ite ?_ ?_
   | refine LeO.bind ?_ (fun _ => ?_)
  ·intro y0 y1 y2 y3 y4
   unfold transeptref09_Check.l2
   repeat' first
   | (with_reducible exact ih0 _ _ _ _ _)
   | (with_reducible exact ih1 _ _ _ _ _)
   | (with_reducible exact ih2 _ _ _ _ _)
   | (with_reducible exact ih3 _ _ _ _ _)
   | (with_reducible exact transeptref09_Size.mono _ _ _ _ _)
   | (with_reducible exact LeO.refl _)
   | (with_reducible exact LeO.none _)
   | (with_reducible refine LeO.ite ?_ ?_)
   | (with_reducible refine LeO.bind ?_ (fun _ => ?_))
   | exact ih0 _ _ _ _ _
   | exact ih1 _ _ _ _ _
   | exact ih2 _ _ _ _ _
   | exact ih3 _ _ _ _ _
   | exact transeptref09_Size.mono _ _ _ _ _
   | exact LeO.none _
   | refine LeO.ite ?_ ?_
   | refine LeO.bind ?_ (fun _ => ?_)
theorem transeptref09_Check.mono : ∀ a0 a1 a2 a3 k, LeO (transeptref09_Check.f k a0 a1 a2 a3) (transeptref09_Check.f (k + 1) a0 a1 a2 a3) := by
 intro a0 a1 a2 a3 k
 obtain ⟨ih0, ih1, ih2, ih3⟩ := transeptref09_Check.mono_l k
 unfold transeptref09_Check.f
 repeat' first
   | (with_reducible exact ih0 _ _ _ _ _)
   | (with_reducible exact ih1 _ _ _ _ _)
   | (with_reducible exact ih2 _ _ _ _ _)
   | (with_reducible exact ih3 _ _ _ _ _)
   | (with_reducible exact transeptref09_Size.mono _ _ _ _ _)
   | (with_reducible exact LeO.refl _)
   | (with_reducible exact LeO.none _)
   | (with_reducible refine LeO.ite ?_ ?_)
   | (with_reducible refine LeO.bind ?_ (fun _ => ?_))
   | exact ih0 _ _ _ _ _
   | exact ih1 _ _ _ _ _
   | exact ih2 _ _ _ _ _
   | exact ih3 _ _ _ _ _
   | exact transeptref09_Size.mono _ _ _ _ _
   | exact LeO.none _
   | refine LeO.ite ?_ ?_
   | refine LeO.bind ?_ (fun _ => ?_)
set_option maxHeartbeats 8000000 in
set_option maxRecDepth 100000 in
theorem transeptref09_Check.calls (k : Nat) (a0_0 : Bool) (A0_1 : Option Addr) (c0_1 : Nat) (l0_1 : List ByteArray) (A0_2 : Option Addr) (c0_2 : Nat) (l0_2 : List ByteArray) (A0_3 : Option Addr) (c0_3 : Nat) (l0_3 : List Int) (r : Int) (w : World) (hr0_1 : Kd.C Kd.string w A0_1 l0_1.length l0_1) (hc0_1 : l0_1.length ≤ c0_1) (hr0_2 : Kd.C Kd.string w A0_2 l0_2.length l0_2) (hc0_2 : l0_2.length ≤ c0_2) (hr0_3 : Kd.C (Kd.int .i64) w A0_3 l0_3.length l0_3) (hc0_3 : l0_3.length ≤ c0_3) (h : transeptref09_Check.f k a0_0 l0_1 l0_2 l0_3 = some r) :
  Calls Try.prog 62 #[.agg #[.bool a0_0, .slice A0_1 l0_1.length c0_1, .slice A0_2 l0_2.length c0_2, .slice A0_3 l0_3.length c0_3]] w fun e w' => e = .returned (.int .i64 r) ∧ Below w.heap.size w w' := by
 have hu25 := Try.underlying25
 have HR0_1 := Aside0.mk hr0_1
 have HC0_1 := Aside0.mk hc0_1
 clear hr0_1 hc0_1
 have HR0_2 := Aside0.mk hr0_2
 have HC0_2 := Aside0.mk hc0_2
 clear hr0_2 hc0_2
 have HR0_3 := Aside0.mk hr0_3
 have HC0_3 := Aside0.mk hc0_3
 clear hr0_3 hc0_3
 have HB := Aside0.mk (Below.refl w.heap.size w)
 have H : (transeptref09_Check.l0 k 0 a0_0 l0_1 l0_2 l0_3) = some r := h
 clear h
 have H' := Aside0.mk H
 clear H
 go_enter Try.func62, Try.ntmps62
 go_wp2_with (first | ((with_reducible refine gate_dst (N := 1) rfl ?_); (try (refine gate_guard (by rfl) ?_; dsimp only)); refine bx_ 1 #[.bool a0_0, .slice A0_1 l0_1.length c0_1, .slice A0_2 l0_2.length c0_2, .slice A0_3 l0_3.length c0_3] 25 ?_; intro gb248 hg w2 hbox hb; have BK248 := Aside0.mk (hbox); have GW248 := bG_ HB hg; have GE248 := bG_ HB hg; replace HB := bS_ HB hb; clear hb hbox hg))
 repeat (go_quiet (first | ((with_reducible refine gate_dst (N := 1) rfl ?_); (try (refine gate_guard (by rfl) ?_; dsimp only)); refine bx_ 1 #[.bool a0_0, .slice A0_1 l0_1.length c0_1, .slice A0_2 l0_2.length c0_2, .slice A0_3 l0_3.length c0_3] 25 ?_; intro gb248 hg w2 hbox hb; have BK248 := Aside0.mk (hbox); have GW248 := bG_ HB hg; have GE248 := bG_ HB hg; replace HB := bS_ HB hb; clear hb hbox hg)); try go_wp2_with (first | ((with_reducible refine gate_dst (N := 1) rfl ?_); (try (refine gate_guard (by rfl) ?_; dsimp only)); refine bx_ 1 #[.bool a0_0, .slice A0_1 l0_1.length c0_1, .slice A0_2 l0_2.length c0_2, .slice A0_3 l0_3.length c0_3] 25 ?_; intro gb248 hg w2 hbox hb; have BK248 := Aside0.mk (hbox); have GW248 := bG_ HB hg; have GE248 := bG_ HB hg; replace HB := bS_ HB hb; clear hb hbox hg)))
 go_loopg [3] k (fun kq v3 w' => ∃ (x3_1 : Int), v3 = .int .i64 x3_1 ∧ Aside0 (transeptref09_Check.l0 kq x3_1 a0_0 l0_1 l0_2 l0_3 = some r) ∧ Aside0 (kq ≤ k) ∧ Aside0 (w'.heap[gb248]? = some (.cells #[.bool a0_0, (.slice A0_1 l0_1.length c0_1), (.slice A0_2 l0_2.length c0_2), (.slice A0_3 l0_3.length c0_3)] 25 (0, 0))) ∧ Aside0 (Below w.heap.size w w'))
 case atStart => exact ⟨(0), (by first | rfl | (simp; done) | (simp [*]; done)), H', ⟨Nat.le_refl _⟩, ⟨bA_ BK248⟩, ⟨bl_ HB⟩⟩
 case round =>
  clear H'
  try clear p2
  obtain ⟨x3_1, rfl, HA, HK1, BK248, HB⟩ := hrel
  cases gk with
  | zero => exact absurd HA.out (by simp [transeptref09_Check.l0])
  | succ k1 =>
   have H := HA.out
   clear HA
   simp only [transeptref09_Check.l0] at H
   by_cases c3 : x3_1 < (l0_1.length : Int)
   ·rw [if_pos c3] at H
    have c3b0 : decide (x3_1 < (l0_1.length : Int)) = true := decide_eq_true c3
    clear c3
    by_cases c4 : 0 ≤ x3_1
    ·rw [if_pos c4] at H
     have c4b0 : decide (0 ≤ x3_1) = true := decide_eq_true c4
     clear c4
     by_cases c5 : ((rdOf ByteArray.empty l0_1 x3_1).size : Int) < 1
     ·rw [if_pos c5] at H
      have c5b0 : decide (((rdOf ByteArray.empty l0_1 x3_1).size : Int) < 1) = true := decide_eq_true c5
      have c5b1 : decide ((rdOf ByteArray.empty l0_1 x3_1).size < 1) = true := decide_eq_true (by omega)
      clear c5
      obtain rfl := Option.some.inj H
      obtain ⟨hcz6_0, hcz6_1, hcz6_2, hcz6_3, hfz6_0, hfz6_1, hfz6_2, hfz6_3⟩ := cz4_ BK248
      have p249 : 0 ≤ (x3_1 : Int) := of_decide_eq_true (by first | (with_reducible assumption) | assumption)
      have q249 : x3_1 < (l0_1.length : Int) := of_decide_eq_true (by first | (with_reducible assumption) | assumption)
      obtain ⟨ad249, e249, hx249_0⟩ := Kd.at_string HR0_1.out x3_1 p249 q249
      cases e249
      replace hx249_0 := (HB.out.cell (World.block_lt_of_cell? w _ hx249_0)).trans hx249_0
      replace p249 := eq_true p249
      replace q249 := eq_true q249
      go_wp2
      repeat (go_quiet (fail); try go_wp2)
      go_ret
      exact ⟨fin_, bl_ HB⟩
     ·rw [if_neg c5] at H
      have c5b0 : decide (((rdOf ByteArray.empty l0_1 x3_1).size : Int) < 1) = false := decide_eq_false c5
      have c5b1 : decide ((rdOf ByteArray.empty l0_1 x3_1).size < 1) = false := decide_eq_false (by omega)
      clear c5
      by_cases c7 : ((rdOf ByteArray.empty l0_1 x3_1).size : Int) > 32
      ·rw [if_pos c7] at H
       have c7b0 : decide (32 < ((rdOf ByteArray.empty l0_1 x3_1).size : Int)) = true := decide_eq_true c7
       have c7b1 : decide (32 < (rdOf ByteArray.empty l0_1 x3_1).size) = true := decide_eq_true (by omega)
       clear c7
       obtain rfl := Option.some.inj H
       obtain ⟨hcz8_0, hcz8_1, hcz8_2, hcz8_3, hfz8_0, hfz8_1, hfz8_2, hfz8_3⟩ := cz4_ BK248
       have p249 : 0 ≤ (x3_1 : Int) := of_decide_eq_true (by first | (with_reducible assumption) | assumption)
       have q249 : x3_1 < (l0_1.length : Int) := of_decide_eq_true (by first | (with_reducible assumption) | assumption)
       obtain ⟨ad249, e249, hx249_0⟩ := Kd.at_string HR0_1.out x3_1 p249 q249
       cases e249
       replace hx249_0 := (HB.out.cell (World.block_lt_of_cell? w _ hx249_0)).trans hx249_0
       replace p249 := eq_true p249
       replace q249 := eq_true q249
       have p250 : 0 ≤ (x3_1 : Int) := of_decide_eq_true (by first | (with_reducible assumption) | assumption)
       have q250 : x3_1 < (l0_1.length : Int) := of_decide_eq_true (by first | (with_reducible assumption) | assumption)
       obtain ⟨ad250, e250, hx250_0⟩ := Kd.at_string HR0_1.out x3_1 p250 q250
       obtain rfl : ad249 = ad250 := (by injection e250)
       replace hx250_0 := (HB.out.cell (World.block_lt_of_cell? w _ hx250_0)).trans hx250_0
       replace p250 := eq_true p250
       replace q250 := eq_true q250
       go_wp2
       repeat (go_quiet (fail); try go_wp2)
       go_ret
       exact ⟨fin_, bl_ HB⟩
      ·rw [if_neg c7] at H
       have c7b0 : decide (32 < ((rdOf ByteArray.empty l0_1 x3_1).size : Int)) = false := decide_eq_false c7
       have c7b1 : decide (32 < (rdOf ByteArray.empty l0_1 x3_1).size) = false := decide_eq_false (by omega)
       clear c7
       by_cases c9 : x3_1 > 0
       ·rw [if_pos c9] at H
        have c9b0 : decide (0 < x3_1) = true := decide_eq_true c9
        clear c9
        obtain ⟨ji10, hji10⟩ : ∃ j_ : Int, (wrap64 (x3_1 - 1)) = j_ := ⟨_, rfl⟩
        replace H : (if 0 ≤ (ji10) then (if (ji10) < (l0_1.length : Int) then (if ((Op.bytesLess ((rdOf ByteArray.empty l0_1 (ji10)).toList) ((rdOf ByteArray.empty l0_1 x3_1).toList)) = true) then (transeptref09_Check.l0 k1 (wrap64 (x3_1 + 1)) a0_0 l0_1 l0_2 l0_3) else (some 91)) else (none)) else (none)) = some r := by first | (rw [hji10] at H; exact H) | (simp only [hji10] at H ⊢; exact H)
        have hji10w : (IntKind.i64.wrap (x3_1 - 1)) = ji10 := (i64_w _).trans hji10
        by_cases c11 : 0 ≤ (ji10)
        ·rw [if_pos c11] at H
         have c11b0 : decide (0 ≤ (ji10)) = true := decide_eq_true c11
         clear c11
         by_cases c12 : (ji10) < (l0_1.length : Int)
         ·rw [if_pos c12] at H
          have c12b0 : decide ((ji10) < (l0_1.length : Int)) = true := decide_eq_true c12
          clear c12
          by_cases c13 : ((Op.bytesLess ((rdOf ByteArray.empty l0_1 (ji10)).toList) ((rdOf ByteArray.empty l0_1 x3_1).toList)) = true)
          ·rw [if_pos c13] at H
           have c13b0 : (Op.bytesLess ((rdOf ByteArray.empty l0_1 (ji10)).toList) ((rdOf ByteArray.empty l0_1 x3_1).toList)) = true := c13
           clear c13
           have H' := Aside0.mk H
           clear H
           obtain ⟨hcz14_0, hcz14_1, hcz14_2, hcz14_3, hfz14_0, hfz14_1, hfz14_2, hfz14_3⟩ := cz4_ BK248
           have p249 : 0 ≤ (x3_1 : Int) := of_decide_eq_true (by first | (with_reducible assumption) | assumption)
           have q249 : x3_1 < (l0_1.length : Int) := of_decide_eq_true (by first | (with_reducible assumption) | assumption)
           obtain ⟨ad249, e249, hx249_0⟩ := Kd.at_string HR0_1.out x3_1 p249 q249
           cases e249
           replace hx249_0 := (HB.out.cell (World.block_lt_of_cell? w _ hx249_0)).trans hx249_0
           replace p249 := eq_true p249
           replace q249 := eq_true q249
           have p250 : 0 ≤ (x3_1 : Int) := of_decide_eq_true (by first | (with_reducible assumption) | assumption)
           have q250 : x3_1 < (l0_1.length : Int) := of_decide_eq_true (by first | (with_reducible assumption) | assumption)
           obtain ⟨ad250, e250, hx250_0⟩ := Kd.at_string HR0_1.out x3_1 p250 q250
           obtain rfl : ad249 = ad250 := (by injection e250)
           replace hx250_0 := (HB.out.cell (World.block_lt_of_cell? w _ hx250_0)).trans hx250_0
           replace p250 := eq_true p250
           replace q250 := eq_true q250
           have p251 : 0 ≤ (x3_1 : Int) := of_decide_eq_true (by first | (with_reducible assumption) | assumption)
           have q251 : x3_1 < (l0_1.length : Int) := of_decide_eq_true (by first | (with_reducible assumption) | assumption)
           obtain ⟨ad251, e251, hx251_0⟩ := Kd.at_string HR0_1.out x3_1 p251 q251
           obtain rfl : ad249 = ad251 := (by injection e251)
           replace hx251_0 := (HB.out.cell (World.block_lt_of_cell? w _ hx251_0)).trans hx251_0
           replace p251 := eq_true p251
           replace q251 := eq_true q251
           have p252 : 0 ≤ ((ji10) : Int) := of_decide_eq_true (by first | (with_reducible assumption) | assumption)
           have q252 : (ji10) < (l0_1.length : Int) := of_decide_eq_true (by first | (with_reducible assumption) | assumption)
           obtain ⟨ad252, e252, hx252_0⟩ := Kd.at_string HR0_1.out (ji10) p252 q252
           obtain rfl : ad249 = ad252 := (by injection e252)
           replace hx252_0 := (HB.out.cell (World.block_lt_of_cell? w _ hx252_0)).trans hx252_0
           replace p252 := eq_true p252
           replace q252 := eq_true q252
           go_wp2
           repeat (go_quiet (fail); try go_wp2)
           go_roundg k1
           case measure => have := HK1.out; omega
           case rel => exact ⟨(wrap64 (x3_1 + 1)), (by first | rfl | (simp; done) | (simp [*]; done)), H', ⟨by have := HK1.out; omega⟩, ⟨bA_ BK248⟩, ⟨bl_ HB⟩⟩
          ·rw [if_neg c13] at H
           have c13b0 : (Op.bytesLess ((rdOf ByteArray.empty l0_1 (ji10)).toList) ((rdOf ByteArray.empty l0_1 x3_1).toList)) = false := by simpa using c13
           clear c13
           obtain rfl := Option.some.inj H
           obtain ⟨hcz15_0, hcz15_1, hcz15_2, hcz15_3, hfz15_0, hfz15_1, hfz15_2, hfz15_3⟩ := cz4_ BK248
           have p249 : 0 ≤ (x3_1 : Int) := of_decide_eq_true (by first | (with_reducible assumption) | assumption)
           have q249 : x3_1 < (l0_1.length : Int) := of_decide_eq_true (by first | (with_reducible assumption) | assumption)
           obtain ⟨ad249, e249, hx249_0⟩ := Kd.at_string HR0_1.out x3_1 p249 q249
           cases e249
           replace hx249_0 := (HB.out.cell (World.block_lt_of_cell? w _ hx249_0)).trans hx249_0
           replace p249 := eq_true p249
           replace q249 := eq_true q249
           have p250 : 0 ≤ (x3_1 : Int) := of_decide_eq_true (by first | (with_reducible assumption) | assumption)
           have q250 : x3_1 < (l0_1.length : Int) := of_decide_eq_true (by first | (with_reducible assumption) | assumption)
           obtain ⟨ad250, e250, hx250_0⟩ := Kd.at_string HR0_1.out x3_1 p250 q250
           obtain rfl : ad249 = ad250 := (by injection e250)
           replace hx250_0 := (HB.out.cell (World.block_lt_of_cell? w _ hx250_0)).trans hx250_0
           replace p250 := eq_true p250
           replace q250 := eq_true q250
           have p251 : 0 ≤ (x3_1 : Int) := of_decide_eq_true (by first | (with_reducible assumption) | assumption)
           have q251 : x3_1 < (l0_1.length : Int) := of_decide_eq_true (by first | (with_reducible assumption) | assumption)
           obtain ⟨ad251, e251, hx251_0⟩ := Kd.at_string HR0_1.out x3_1 p251 q251
           obtain rfl : ad249 = ad251 := (by injection e251)
           replace hx251_0 := (HB.out.cell (World.block_lt_of_cell? w _ hx251_0)).trans hx251_0
           replace p251 := eq_true p251
           replace q251 := eq_true q251
           have p252 : 0 ≤ ((ji10) : Int) := of_decide_eq_true (by first | (with_reducible assumption) | assumption)
           have q252 : (ji10) < (l0_1.length : Int) := of_decide_eq_true (by first | (with_reducible assumption) | assumption)
           obtain ⟨ad252, e252, hx252_0⟩ := Kd.at_string HR0_1.out (ji10) p252 q252
           obtain rfl : ad249 = ad252 := (by injection e252)
           replace hx252_0 := (HB.out.cell (World.block_lt_of_cell? w _ hx252_0)).trans hx252_0
           replace p252 := eq_true p252
           replace q252 := eq_true q252
           go_wp2
           repeat (go_quiet (fail); try go_wp2)
           go_ret
           exact ⟨by first | rfl | (simp [errW_none, errW_some] <;> rfl) | (simp only [← hji10]; first | rfl | (simp [errW_none, errW_some] <;> rfl)) | (simp [*, errW_none, errW_some] <;> rfl), bl_ HB⟩
         ·rw [if_neg c12] at H
          exact absurd H (by simp)
        ·rw [if_neg c11] at H
         exact absurd H (by simp)
       ·rw [if_neg c9] at H
        have c9b0 : decide (0 < x3_1) = false := decide_eq_false c9
        clear c9
        have H' := Aside0.mk H
        clear H
        obtain ⟨hcz16_0, hcz16_1, hcz16_2, hcz16_3, hfz16_0, hfz16_1, hfz16_2, hfz16_3⟩ := cz4_ BK248
        have p249 : 0 ≤ (x3_1 : Int) := of_decide_eq_true (by first | (with_reducible assumption) | assumption)
        have q249 : x3_1 < (l0_1.length : Int) := of_decide_eq_true (by first | (with_reducible assumption) | assumption)
        obtain ⟨ad249, e249, hx249_0⟩ := Kd.at_string HR0_1.out x3_1 p249 q249
        cases e249
        replace hx249_0 := (HB.out.cell (World.block_lt_of_cell? w _ hx249_0)).trans hx249_0
        replace p249 := eq_true p249
        replace q249 := eq_true q249
        have p250 : 0 ≤ (x3_1 : Int) := of_decide_eq_true (by first | (with_reducible assumption) | assumption)
        have q250 : x3_1 < (l0_1.length : Int) := of_decide_eq_true (by first | (with_reducible assumption) | assumption)
        obtain ⟨ad250, e250, hx250_0⟩ := Kd.at_string HR0_1.out x3_1 p250 q250
        obtain rfl : ad249 = ad250 := (by injection e250)
        replace hx250_0 := (HB.out.cell (World.block_lt_of_cell? w _ hx250_0)).trans hx250_0
        replace p250 := eq_true p250
        replace q250 := eq_true q250
        go_wp2
        repeat (go_quiet (fail); try go_wp2)
        go_roundg k1
        case measure => have := HK1.out; omega
        case rel => exact ⟨(wrap64 (x3_1 + 1)), (by first | rfl | (simp; done) | (simp [*]; done)), H', ⟨by have := HK1.out; omega⟩, ⟨bA_ BK248⟩, ⟨bl_ HB⟩⟩
    ·rw [if_neg c4] at H
     exact absurd H (by simp)
   ·rw [if_neg c3] at H
    have c3b0 : decide (x3_1 < (l0_1.length : Int)) = false := decide_eq_false c3
    clear c3
    have HC17 := Aside0.mk H
    clear H
    obtain ⟨hcz18_0, hcz18_1, hcz18_2, hcz18_3, hfz18_0, hfz18_1, hfz18_2, hfz18_3⟩ := cz4_ BK248
    go_upto_region 6 with (fail)
    repeat (go_quiet (fail); go_upto_region 6 with (fail))
    go_cut [90] (fun v90 wc => ∃ (kq : Nat) (x90_16 : Bool), v90 = .bool x90_16 ∧ Aside0 (transeptref09_Check.j1 kq x90_16 a0_0 l0_1 l0_2 l0_3 = some r) ∧ Aside0 (kq ≤ k1) ∧ Aside0 (wc.heap[gb248]? = some (.cells #[.bool a0_0, (.slice A0_1 l0_1.length c0_1), (.slice A0_2 l0_2.length c0_2), (.slice A0_3 l0_3.length c0_3)] 25 (0, 0))) ∧ Aside0 (Below w.heap.size w wc))
    case first =>
     have H := HC17.out
     clear HC17
     by_cases c19 : a0_0 = true
     ·subst c19
      rw [if_pos rfl] at H
      by_cases c20 : (l0_2.length : Int) = (l0_1.length : Int)
      ·rw [if_pos c20] at H
       have c20b0 : ((l0_2.length : Int) == (l0_1.length : Int)) = true := beq_iff_eq.mpr c20
       have c20b1 : ((l0_2.length : Int) != (l0_1.length : Int)) = false := bne_eq_false_iff_eq.mpr c20
       have c20b2 : (l0_2.length == l0_1.length) = true := by first | simpa using c20 | (simp at c20 ⊢; omega)
       clear c20
       (first | rw [c20b0] | (simp only [i64_w, i32_w]; rw [c20b0]) | skip)
       by_cases c21 : (l0_3.length : Int) > 0
       ·rw [if_pos c21] at H
        have c21b0 : decide (0 < (l0_3.length : Int)) = true := decide_eq_true c21
        have c21b1 : decide (0 < l0_3.length) = true := decide_eq_true (by omega)
        clear c21
        have H' := Aside0.mk H
        clear H
        obtain ⟨hcz22_0, hcz22_1, hcz22_2, hcz22_3, hfz22_0, hfz22_1, hfz22_2, hfz22_3⟩ := cz4_ BK248
        go_wp2
        repeat (go_quiet (fail); try go_wp2)
        go_meet
        case rel => exact ⟨_, (true), (by first | rfl | (simp; done) | (simp [*]; done)), H', ⟨by have := HK1.out; first | omega | exact Nat.le_refl _⟩, ⟨bA_ BK248⟩, ⟨bl_ HB⟩⟩
       ·rw [if_neg c21] at H
        have c21b0 : decide (0 < (l0_3.length : Int)) = false := decide_eq_false c21
        have c21b1 : decide (0 < l0_3.length) = false := decide_eq_false (by omega)
        clear c21
        have H' := Aside0.mk H
        clear H
        obtain ⟨hcz23_0, hcz23_1, hcz23_2, hcz23_3, hfz23_0, hfz23_1, hfz23_2, hfz23_3⟩ := cz4_ BK248
        go_wp2
        repeat (go_quiet (fail); try go_wp2)
        go_meet
        case rel => exact ⟨_, (false), (by first | rfl | (simp; done) | (simp [*]; done)), H', ⟨by have := HK1.out; first | omega | exact Nat.le_refl _⟩, ⟨bA_ BK248⟩, ⟨bl_ HB⟩⟩
      ·rw [if_neg c20] at H
       have c20b0 : ((l0_2.length : Int) == (l0_1.length : Int)) = false := beq_eq_false_iff_ne.mpr c20
       have c20b1 : ((l0_2.length : Int) != (l0_1.length : Int)) = true := bne_iff_ne.mpr c20
       have c20b2 : (l0_2.length == l0_1.length) = false := by first | simpa using c20 | (simp at c20 ⊢; omega)
       (first | rw [c20b0] | (simp only [i64_w, i32_w]; rw [c20b0]) | skip)
       have H' := Aside0.mk H
       clear H
       obtain ⟨hcz24_0, hcz24_1, hcz24_2, hcz24_3, hfz24_0, hfz24_1, hfz24_2, hfz24_3⟩ := cz4_ BK248
       go_wp2
       repeat (go_quiet (fail); try go_wp2)
       go_meet
       case rel => exact ⟨_, (true), (by first | rfl | (simp; done) | (simp [*]; done)), H', ⟨by have := HK1.out; first | omega | exact Nat.le_refl _⟩, ⟨bA_ BK248⟩, ⟨bl_ HB⟩⟩
     ·replace c19 := Bool.eq_false_iff.mpr c19
      subst c19
      rw [if_neg (show ¬ (false = true) by decide)] at H
      by_cases c25 : (l0_2.length : Int) > 0
      ·rw [if_pos c25] at H
       have c25b0 : decide (0 < (l0_2.length : Int)) = true := decide_eq_true c25
       have c25b1 : decide (0 < l0_2.length) = true := decide_eq_true (by omega)
       clear c25
       have H' := Aside0.mk H
       clear H
       obtain ⟨hcz26_0, hcz26_1, hcz26_2, hcz26_3, hfz26_0, hfz26_1, hfz26_2, hfz26_3⟩ := cz4_ BK248
       go_wp2
       repeat (go_quiet (fail); try go_wp2)
       go_meet
       case rel => exact ⟨_, (true), (by first | rfl | (simp; done) | (simp [*]; done)), H', ⟨by have := HK1.out; first | omega | exact Nat.le_refl _⟩, ⟨bA_ BK248⟩, ⟨bl_ HB⟩⟩
      ·rw [if_neg c25] at H
       have c25b0 : decide (0 < (l0_2.length : Int)) = false := decide_eq_false c25
       have c25b1 : decide (0 < l0_2.length) = false := decide_eq_false (by omega)
       clear c25
       by_cases c27 : (l0_1.length : Int) < 1
       ·rw [if_pos c27] at H
        have c27b0 : decide ((l0_1.length : Int) < 1) = true := decide_eq_true c27
        have c27b1 : decide (l0_1.length < 1) = true := decide_eq_true (by omega)
        clear c27
        have H' := Aside0.mk H
        clear H
        obtain ⟨hcz28_0, hcz28_1, hcz28_2, hcz28_3, hfz28_0, hfz28_1, hfz28_2, hfz28_3⟩ := cz4_ BK248
        go_wp2
        repeat (go_quiet (fail); try go_wp2)
        go_meet
        case rel => exact ⟨_, (true), (by first | rfl | (simp; done) | (simp [*]; done)), H', ⟨by have := HK1.out; first | omega | exact Nat.le_refl _⟩, ⟨bA_ BK248⟩, ⟨bl_ HB⟩⟩
       ·rw [if_neg c27] at H
        have c27b0 : decide ((l0_1.length : Int) < 1) = false := decide_eq_false c27
        have c27b1 : decide (l0_1.length < 1) = false := decide_eq_false (by omega)
        clear c27
        have H' := Aside0.mk H
        clear H
        obtain ⟨hcz29_0, hcz29_1, hcz29_2, hcz29_3, hfz29_0, hfz29_1, hfz29_2, hfz29_3⟩ := cz4_ BK248
        go_wp2
        repeat (go_quiet (fail); try go_wp2)
        go_meet
        case rel => exact ⟨_, (((l0_3.length : Int) != (wrap64 ((l0_1.length : Int) + 1)))), (by first | rfl | (simp; done) | (simp [*]; done)), H', ⟨by have := HK1.out; first | omega | exact Nat.le_refl _⟩, ⟨bA_ BK248⟩, ⟨bl_ HB⟩⟩
    case rest =>
     clear HC17
     try clear c1
     try clear c2
     try clear p2
     try clear q2
     try clear hx2
     try clear c3
     try clear c3b0
     try clear c4
     try clear c4b0
     try clear c5
     try clear c5b0
     try clear c5b1
     try clear c6
     try clear p6
     try clear c7
     try clear c7b0
     try clear c7b1
     try clear c9
     try clear c9b0
     try clear c11
     try clear c11b0
     try clear c12
     try clear c12b0
     try clear c13
     try clear c13b0
     try clear c19
     try clear c20
     try clear c20b0
     try clear c20b1
     try clear c20b2
     try clear c21
     try clear c21b0
     try clear c21b1
     try clear p24
     try clear q24
     try clear hx24
     try clear c25
     try clear c25b0
     try clear c25b1
     try clear p25
     try clear q25
     try clear hx25
     try clear c27
     try clear c27b0
     try clear c27b1
     try clear hcz14_0
     try clear hcz14_1
     try clear hcz14_2
     try clear hcz14_3
     try clear hcz15_0
     try clear hcz15_1
     try clear hcz15_2
     try clear hcz15_3
     try clear hcz16_0
     try clear hcz16_1
     try clear hcz16_2
     try clear hcz16_3
     try clear hcz18_0
     try clear hcz18_1
     try clear hcz18_2
     try clear hcz18_3
     try clear hcz22_0
     try clear hcz22_1
     try clear hcz22_2
     try clear hcz22_3
     try clear hcz23_0
     try clear hcz23_1
     try clear hcz23_2
     try clear hcz23_3
     try clear hcz24_0
     try clear hcz24_1
     try clear hcz24_2
     try clear hcz24_3
     try clear hcz26_0
     try clear hcz26_1
     try clear hcz26_2
     try clear hcz26_3
     try clear hcz28_0
     try clear hcz28_1
     try clear hcz28_2
     try clear hcz28_3
     try clear hcz29_0
     try clear hcz29_1
     try clear hcz29_2
     try clear hcz29_3
     try clear hcz6_0
     try clear hcz6_1
     try clear hcz6_2
     try clear hcz6_3
     try clear hcz8_0
     try clear hcz8_1
     try clear hcz8_2
     try clear hcz8_3
     try clear hfz14_0
     try clear hfz14_1
     try clear hfz14_2
     try clear hfz14_3
     try clear hfz15_0
     try clear hfz15_1
     try clear hfz15_2
     try clear hfz15_3
     try clear hfz16_0
     try clear hfz16_1
     try clear hfz16_2
     try clear hfz16_3
     try clear hfz18_0
     try clear hfz18_1
     try clear hfz18_2
     try clear hfz18_3
     try clear hfz22_0
     try clear hfz22_1
     try clear hfz22_2
     try clear hfz22_3
     try clear hfz23_0
     try clear hfz23_1
     try clear hfz23_2
     try clear hfz23_3
     try clear hfz24_0
     try clear hfz24_1
     try clear hfz24_2
     try clear hfz24_3
     try clear hfz26_0
     try clear hfz26_1
     try clear hfz26_2
     try clear hfz26_3
     try clear hfz28_0
     try clear hfz28_1
     try clear hfz28_2
     try clear hfz28_3
     try clear hfz29_0
     try clear hfz29_1
     try clear hfz29_2
     try clear hfz29_3
     try clear hfz6_0
     try clear hfz6_1
     try clear hfz6_2
     try clear hfz6_3
     try clear hfz8_0
     try clear hfz8_1
     try clear hfz8_2
     try clear hfz8_3
     try clear hx249_0
     try clear hx250_0
     try clear hx251_0
     try clear hx252_0
     try clear p2
     try clear p249
     try clear p250
     try clear p251
     try clear p252
     try clear q249
     try clear q250
     try clear q251
     try clear q252
     obtain ⟨kq, x90_16, rfl, HA, HJ16, BK248, HB⟩ := hcut
     cases kq with
     | zero => exact absurd HA.out (by simp [transeptref09_Check.j1])
     | succ kj16 =>
      have H := HA.out
      clear HA
      simp only [transeptref09_Check.j1] at H
      by_cases c30 : x90_16 = true
      ·subst c30
       rw [if_pos rfl] at H
       obtain rfl := Option.some.inj H
       go_wp2
       repeat (go_quiet (fail); try go_wp2)
       go_ret
       exact ⟨fin_, bl_ HB⟩
      ·replace c30 := Bool.eq_false_iff.mpr c30
       subst c30
       rw [if_neg (show ¬ (false = true) by decide)] at H
       have H' := Aside0.mk H
       clear H
       go_wp2
       repeat (go_quiet (fail); try go_wp2)
       go_loopg [4] kj16 (fun kq v4 w' => ∃ (x4_3 : Int), v4 = .int .i64 x4_3 ∧ Aside0 (transeptref09_Check.l1 kq x4_3 a0_0 l0_1 l0_2 l0_3 = some r) ∧ Aside0 (kq ≤ kj16) ∧ Aside0 (w'.heap[gb248]? = some (.cells #[.bool a0_0, (.slice A0_1 l0_1.length c0_1), (.slice A0_2 l0_2.length c0_2), (.slice A0_3 l0_3.length c0_3)] 25 (0, 0))) ∧ Aside0 (Below w.heap.size w w'))
       case atStart => exact ⟨(0), (by first | rfl | (simp; done) | (simp [*]; done)), H', ⟨Nat.le_refl _⟩, ⟨bA_ BK248⟩, ⟨bl_ HB⟩⟩
       case round =>
        clear H'
        try clear c1
        try clear c2
        try clear p2
        try clear q2
        try clear hx2
        try clear c3
        try clear c3b0
        try clear c4
        try clear c4b0
        try clear c5
        try clear c5b0
        try clear c5b1
        try clear c6
        try clear p6
        try clear c7
        try clear c7b0
        try clear c7b1
        try clear c9
        try clear c9b0
        try clear c11
        try clear c11b0
        try clear c12
        try clear c12b0
        try clear c13
        try clear c13b0
        try clear c19
        try clear c20
        try clear c20b0
        try clear c20b1
        try clear c20b2
        try clear c21
        try clear c21b0
        try clear c21b1
        try clear p24
        try clear q24
        try clear hx24
        try clear c25
        try clear c25b0
        try clear c25b1
        try clear p25
        try clear q25
        try clear hx25
        try clear c27
        try clear c27b0
        try clear c27b1
        try clear c30
        try clear hcz14_0
        try clear hcz14_1
        try clear hcz14_2
        try clear hcz14_3
        try clear hcz15_0
        try clear hcz15_1
        try clear hcz15_2
        try clear hcz15_3
        try clear hcz16_0
        try clear hcz16_1
        try clear hcz16_2
        try clear hcz16_3
        try clear hcz18_0
        try clear hcz18_1
        try clear hcz18_2
        try clear hcz18_3
        try clear hcz22_0
        try clear hcz22_1
        try clear hcz22_2
        try clear hcz22_3
        try clear hcz23_0
        try clear hcz23_1
        try clear hcz23_2
        try clear hcz23_3
        try clear hcz24_0
        try clear hcz24_1
        try clear hcz24_2
        try clear hcz24_3
        try clear hcz26_0
        try clear hcz26_1
        try clear hcz26_2
        try clear hcz26_3
        try clear hcz28_0
        try clear hcz28_1
        try clear hcz28_2
        try clear hcz28_3
        try clear hcz29_0
        try clear hcz29_1
        try clear hcz29_2
        try clear hcz29_3
        try clear hcz6_0
        try clear hcz6_1
        try clear hcz6_2
        try clear hcz6_3
        try clear hcz8_0
        try clear hcz8_1
        try clear hcz8_2
        try clear hcz8_3
        try clear hfz14_0
        try clear hfz14_1
        try clear hfz14_2
        try clear hfz14_3
        try clear hfz15_0
        try clear hfz15_1
        try clear hfz15_2
        try clear hfz15_3
        try clear hfz16_0
        try clear hfz16_1
        try clear hfz16_2
        try clear hfz16_3
        try clear hfz18_0
        try clear hfz18_1
        try clear hfz18_2
        try clear hfz18_3
        try clear hfz22_0
        try clear hfz22_1
        try clear hfz22_2
        try clear hfz22_3
        try clear hfz23_0
        try clear hfz23_1
        try clear hfz23_2
        try clear hfz23_3
        try clear hfz24_0
        try clear hfz24_1
        try clear hfz24_2
        try clear hfz24_3
        try clear hfz26_0
        try clear hfz26_1
        try clear hfz26_2
        try clear hfz26_3
        try clear hfz28_0
        try clear hfz28_1
        try clear hfz28_2
        try clear hfz28_3
        try clear hfz29_0
        try clear hfz29_1
        try clear hfz29_2
        try clear hfz29_3
        try clear hfz6_0
        try clear hfz6_1
        try clear hfz6_2
        try clear hfz6_3
        try clear hfz8_0
        try clear hfz8_1
        try clear hfz8_2
        try clear hfz8_3
        try clear hx249_0
        try clear hx250_0
        try clear hx251_0
        try clear hx252_0
        try clear p2
        try clear p24
        try clear p249
        try clear p25
        try clear p250
        try clear p251
        try clear p252
        try clear p6
        try clear q2
        try clear q24
        try clear q249
        try clear q25
        try clear q250
        try clear q251
        try clear q252
        obtain ⟨x4_3, rfl, HA, HK3, BK248, HB⟩ := hrel
        cases gk with
        | zero => exact absurd HA.out (by simp [transeptref09_Check.l1])
        | succ k3 =>
         have H := HA.out
         clear HA
         simp only [transeptref09_Check.l1] at H
         by_cases c31 : x4_3 < (l0_2.length : Int)
         ·rw [if_pos c31] at H
          have c31b0 : decide (x4_3 < (l0_2.length : Int)) = true := decide_eq_true c31
          clear c31
          by_cases c32 : 0 ≤ x4_3
          ·rw [if_pos c32] at H
           have c32b0 : decide (0 ≤ x4_3) = true := decide_eq_true c32
           clear c32
           by_cases c33 : ((rdOf ByteArray.empty l0_2 x4_3).size : Int) > 64
           ·rw [if_pos c33] at H
            have c33b0 : decide (64 < ((rdOf ByteArray.empty l0_2 x4_3).size : Int)) = true := decide_eq_true c33
            have c33b1 : decide (64 < (rdOf ByteArray.empty l0_2 x4_3).size) = true := decide_eq_true (by omega)
            clear c33
            obtain rfl := Option.some.inj H
            obtain ⟨hcz34_0, hcz34_1, hcz34_2, hcz34_3, hfz34_0, hfz34_1, hfz34_2, hfz34_3⟩ := cz4_ BK248
            have p253 : 0 ≤ (x4_3 : Int) := of_decide_eq_true (by first | (with_reducible assumption) | assumption)
            have q253 : x4_3 < (l0_2.length : Int) := of_decide_eq_true (by first | (with_reducible assumption) | assumption)
            obtain ⟨ad253, e253, hx253_0⟩ := Kd.at_string HR0_2.out x4_3 p253 q253
            cases e253
            replace hx253_0 := (HB.out.cell (World.block_lt_of_cell? w _ hx253_0)).trans hx253_0
            replace p253 := eq_true p253
            replace q253 := eq_true q253
            go_wp2
            repeat (go_quiet (fail); try go_wp2)
            go_ret
            exact ⟨fin_, bl_ HB⟩
           ·rw [if_neg c33] at H
            have c33b0 : decide (64 < ((rdOf ByteArray.empty l0_2 x4_3).size : Int)) = false := decide_eq_false c33
            have c33b1 : decide (64 < (rdOf ByteArray.empty l0_2 x4_3).size) = false := decide_eq_false (by omega)
            clear c33
            have H' := Aside0.mk H
            clear H
            obtain ⟨hcz35_0, hcz35_1, hcz35_2, hcz35_3, hfz35_0, hfz35_1, hfz35_2, hfz35_3⟩ := cz4_ BK248
            have p253 : 0 ≤ (x4_3 : Int) := of_decide_eq_true (by first | (with_reducible assumption) | assumption)
            have q253 : x4_3 < (l0_2.length : Int) := of_decide_eq_true (by first | (with_reducible assumption) | assumption)
            obtain ⟨ad253, e253, hx253_0⟩ := Kd.at_string HR0_2.out x4_3 p253 q253
            cases e253
            replace hx253_0 := (HB.out.cell (World.block_lt_of_cell? w _ hx253_0)).trans hx253_0
            replace p253 := eq_true p253
            replace q253 := eq_true q253
            go_wp2
            repeat (go_quiet (fail); try go_wp2)
            go_roundg k3
            case measure => have := HK1.out; have := HJ16.out; have := HK3.out; omega
            case rel => exact ⟨(wrap64 (x4_3 + 1)), (by first | rfl | (simp; done) | (simp [*]; done)), H', ⟨by have := HK1.out; have := HJ16.out; have := HK3.out; omega⟩, ⟨bA_ BK248⟩, ⟨bl_ HB⟩⟩
          ·rw [if_neg c32] at H
           exact absurd H (by simp)
         ·rw [if_neg c31] at H
          have c31b0 : decide (x4_3 < (l0_2.length : Int)) = false := decide_eq_false c31
          clear c31
          have H' := Aside0.mk H
          clear H
          obtain ⟨hcz36_0, hcz36_1, hcz36_2, hcz36_3, hfz36_0, hfz36_1, hfz36_2, hfz36_3⟩ := cz4_ BK248
          go_wp2
          repeat (go_quiet (fail); try go_wp2)
          go_loopg [5] k3 (fun kq v5 w' => ∃ (x5_4 : Int), v5 = .int .i64 x5_4 ∧ Aside0 (transeptref09_Check.l2 kq x5_4 a0_0 l0_1 l0_2 l0_3 = some r) ∧ Aside0 (kq ≤ k3) ∧ Aside0 (w'.heap[gb248]? = some (.cells #[.bool a0_0, (.slice A0_1 l0_1.length c0_1), (.slice A0_2 l0_2.length c0_2), (.slice A0_3 l0_3.length c0_3)] 25 (0, 0))) ∧ Aside0 (Below w.heap.size w w'))
          case atStart => exact ⟨(0), (by first | rfl | (simp; done) | (simp [*]; done)), H', ⟨Nat.le_refl _⟩, ⟨bA_ BK248⟩, ⟨bl_ HB⟩⟩
          case round =>
           clear H'
           try clear c1
           try clear c2
           try clear p2
           try clear q2
           try clear hx2
           try clear c3
           try clear c3b0
           try clear c4
           try clear c4b0
           try clear c5
           try clear c5b0
           try clear c5b1
           try clear c6
           try clear p6
           try clear c7
           try clear c7b0
           try clear c7b1
           try clear c9
           try clear c9b0
           try clear c11
           try clear c11b0
           try clear c12
           try clear c12b0
           try clear c13
           try clear c13b0
           try clear c19
           try clear c20
           try clear c20b0
           try clear c20b1
           try clear c20b2
           try clear c21
           try clear c21b0
           try clear c21b1
           try clear p24
           try clear q24
           try clear hx24
           try clear c25
           try clear c25b0
           try clear c25b1
           try clear p25
           try clear q25
           try clear hx25
           try clear c27
           try clear c27b0
           try clear c27b1
           try clear c30
           try clear c31
           try clear c31b0
           try clear c32
           try clear c32b0
           try clear c33
           try clear c33b0
           try clear c33b1
           try clear hcz14_0
           try clear hcz14_1
           try clear hcz14_2
           try clear hcz14_3
           try clear hcz15_0
           try clear hcz15_1
           try clear hcz15_2
           try clear hcz15_3
           try clear hcz16_0
           try clear hcz16_1
           try clear hcz16_2
           try clear hcz16_3
           try clear hcz18_0
           try clear hcz18_1
           try clear hcz18_2
           try clear hcz18_3
           try clear hcz22_0
           try clear hcz22_1
           try clear hcz22_2
           try clear hcz22_3
           try clear hcz23_0
           try clear hcz23_1
           try clear hcz23_2
           try clear hcz23_3
           try clear hcz24_0
           try clear hcz24_1
           try clear hcz24_2
           try clear hcz24_3
           try clear hcz26_0
           try clear hcz26_1
           try clear hcz26_2
           try clear hcz26_3
           try clear hcz28_0
           try clear hcz28_1
           try clear hcz28_2
           try clear hcz28_3
           try clear hcz29_0
           try clear hcz29_1
           try clear hcz29_2
           try clear hcz29_3
           try clear hcz34_0
           try clear hcz34_1
           try clear hcz34_2
           try clear hcz34_3
           try clear hcz35_0
           try clear hcz35_1
           try clear hcz35_2
           try clear hcz35_3
           try clear hcz36_0
           try clear hcz36_1
           try clear hcz36_2
           try clear hcz36_3
           try clear hcz6_0
           try clear hcz6_1
           try clear hcz6_2
           try clear hcz6_3
           try clear hcz8_0
           try clear hcz8_1
           try clear hcz8_2
           try clear hcz8_3
           try clear hfz14_0
           try clear hfz14_1
           try clear hfz14_2
           try clear hfz14_3
           try clear hfz15_0
           try clear hfz15_1
           try clear hfz15_2
           try clear hfz15_3
           try clear hfz16_0
           try clear hfz16_1
           try clear hfz16_2
           try clear hfz16_3
           try clear hfz18_0
           try clear hfz18_1
           try clear hfz18_2
           try clear hfz18_3
           try clear hfz22_0
           try clear hfz22_1
           try clear hfz22_2
           try clear hfz22_3
           try clear hfz23_0
           try clear hfz23_1
           try clear hfz23_2
           try clear hfz23_3
           try clear hfz24_0
           try clear hfz24_1
           try clear hfz24_2
           try clear hfz24_3
           try clear hfz26_0
           try clear hfz26_1
           try clear hfz26_2
           try clear hfz26_3
           try clear hfz28_0
           try clear hfz28_1
           try clear hfz28_2
           try clear hfz28_3
           try clear hfz29_0
           try clear hfz29_1
           try clear hfz29_2
           try clear hfz29_3
           try clear hfz34_0
           try clear hfz34_1
           try clear hfz34_2
           try clear hfz34_3
           try clear hfz35_0
           try clear hfz35_1
           try clear hfz35_2
           try clear hfz35_3
           try clear hfz36_0
           try clear hfz36_1
           try clear hfz36_2
           try clear hfz36_3
           try clear hfz6_0
           try clear hfz6_1
           try clear hfz6_2
           try clear hfz6_3
           try clear hfz8_0
           try clear hfz8_1
           try clear hfz8_2
           try clear hfz8_3
           try clear hx249_0
           try clear hx250_0
           try clear hx251_0
           try clear hx252_0
           try clear hx253_0
           try clear p2
           try clear p24
           try clear p249
           try clear p25
           try clear p250
           try clear p251
           try clear p252
           try clear p253
           try clear p6
           try clear q2
           try clear q24
           try clear q249
           try clear q25
           try clear q250
           try clear q251
           try clear q252
           try clear q253
           obtain ⟨x5_4, rfl, HA, HK4, BK248, HB⟩ := hrel
           cases gk with
           | zero => exact absurd HA.out (by simp [transeptref09_Check.l2])
           | succ k4 =>
            have H := HA.out
            clear HA
            simp only [transeptref09_Check.l2] at H
            by_cases c37 : x5_4 < (l0_3.length : Int)
            ·rw [if_pos c37] at H
             have c37b0 : decide (x5_4 < (l0_3.length : Int)) = true := decide_eq_true c37
             clear c37
             by_cases c38 : 0 ≤ x5_4
             ·rw [if_pos c38] at H
              have c38b0 : decide (0 ≤ x5_4) = true := decide_eq_true c38
              clear c38
              by_cases c39 : (rd l0_3 x5_4) < 1
              ·rw [if_pos c39] at H
               have c39b0 : decide ((rd l0_3 x5_4) < 1) = true := decide_eq_true c39
               clear c39
               obtain rfl := Option.some.inj H
               obtain ⟨hcz40_0, hcz40_1, hcz40_2, hcz40_3, hfz40_0, hfz40_1, hfz40_2, hfz40_3⟩ := cz4_ BK248
               have p254 : 0 ≤ (x5_4 : Int) := of_decide_eq_true (by first | (with_reducible assumption) | assumption)
               have q254 : x5_4 < (l0_3.length : Int) := of_decide_eq_true (by first | (with_reducible assumption) | assumption)
               obtain ⟨ad254, e254, hx254_0⟩ := Kd.at_int HR0_3.out x5_4 p254 q254
               cases e254
               replace hx254_0 := (HB.out.cell (World.block_lt_of_cell? w _ hx254_0)).trans hx254_0
               replace p254 := eq_true p254
               replace q254 := eq_true q254
               go_wp2
               repeat (go_quiet (fail); try go_wp2)
               go_ret
               exact ⟨fin_, bl_ HB⟩
              ·rw [if_neg c39] at H
               have c39b0 : decide ((rd l0_3 x5_4) < 1) = false := decide_eq_false c39
               clear c39
               by_cases c41 : (rd l0_3 x5_4) > 65536
               ·rw [if_pos c41] at H
                have c41b0 : decide (65536 < (rd l0_3 x5_4)) = true := decide_eq_true c41
                clear c41
                obtain rfl := Option.some.inj H
                obtain ⟨hcz42_0, hcz42_1, hcz42_2, hcz42_3, hfz42_0, hfz42_1, hfz42_2, hfz42_3⟩ := cz4_ BK248
                have p254 : 0 ≤ (x5_4 : Int) := of_decide_eq_true (by first | (with_reducible assumption) | assumption)
                have q254 : x5_4 < (l0_3.length : Int) := of_decide_eq_true (by first | (with_reducible assumption) | assumption)
                obtain ⟨ad254, e254, hx254_0⟩ := Kd.at_int HR0_3.out x5_4 p254 q254
                cases e254
                replace hx254_0 := (HB.out.cell (World.block_lt_of_cell? w _ hx254_0)).trans hx254_0
                replace p254 := eq_true p254
                replace q254 := eq_true q254
                have p255 : 0 ≤ (x5_4 : Int) := of_decide_eq_true (by first | (with_reducible assumption) | assumption)
                have q255 : x5_4 < (l0_3.length : Int) := of_decide_eq_true (by first | (with_reducible assumption) | assumption)
                obtain ⟨ad255, e255, hx255_0⟩ := Kd.at_int HR0_3.out x5_4 p255 q255
                obtain rfl : ad254 = ad255 := (by injection e255)
                replace hx255_0 := (HB.out.cell (World.block_lt_of_cell? w _ hx255_0)).trans hx255_0
                replace p255 := eq_true p255
                replace q255 := eq_true q255
                go_wp2
                repeat (go_quiet (fail); try go_wp2)
                go_ret
                exact ⟨fin_, bl_ HB⟩
               ·rw [if_neg c41] at H
                have c41b0 : decide (65536 < (rd l0_3 x5_4)) = false := decide_eq_false c41
                clear c41
                have H' := Aside0.mk H
                clear H
                obtain ⟨hcz43_0, hcz43_1, hcz43_2, hcz43_3, hfz43_0, hfz43_1, hfz43_2, hfz43_3⟩ := cz4_ BK248
                have p254 : 0 ≤ (x5_4 : Int) := of_decide_eq_true (by first | (with_reducible assumption) | assumption)
                have q254 : x5_4 < (l0_3.length : Int) := of_decide_eq_true (by first | (with_reducible assumption) | assumption)
                obtain ⟨ad254, e254, hx254_0⟩ := Kd.at_int HR0_3.out x5_4 p254 q254
                cases e254
                replace hx254_0 := (HB.out.cell (World.block_lt_of_cell? w _ hx254_0)).trans hx254_0
                replace p254 := eq_true p254
                replace q254 := eq_true q254
                have p255 : 0 ≤ (x5_4 : Int) := of_decide_eq_true (by first | (with_reducible assumption) | assumption)
                have q255 : x5_4 < (l0_3.length : Int) := of_decide_eq_true (by first | (with_reducible assumption) | assumption)
                obtain ⟨ad255, e255, hx255_0⟩ := Kd.at_int HR0_3.out x5_4 p255 q255
                obtain rfl : ad254 = ad255 := (by injection e255)
                replace hx255_0 := (HB.out.cell (World.block_lt_of_cell? w _ hx255_0)).trans hx255_0
                replace p255 := eq_true p255
                replace q255 := eq_true q255
                go_wp2
                repeat (go_quiet (fail); try go_wp2)
                go_roundg k4
                case measure => have := HK1.out; have := HJ16.out; have := HK3.out; have := HK4.out; omega
                case rel => exact ⟨(wrap64 (x5_4 + 1)), (by first | rfl | (simp; done) | (simp [*]; done)), H', ⟨by have := HK1.out; have := HJ16.out; have := HK3.out; have := HK4.out; omega⟩, ⟨bA_ BK248⟩, ⟨bl_ HB⟩⟩
             ·rw [if_neg c38] at H
              exact absurd H (by simp)
            ·rw [if_neg c37] at H
             have c37b0 : decide (x5_4 < (l0_3.length : Int)) = false := decide_eq_false c37
             clear c37
             replace H := Option.bind_eq_some_iff.mp H
             obtain ⟨t256, A440, H⟩ := H
             replace H : (if t256 > 244 then (some 51) else (some 0)) = some r := H
             have A44 := Aside0.mk A440
             clear A440
             by_cases c45 : t256 > 244
             ·rw [if_pos c45] at H
              have c45b0 : decide (244 < t256) = true := decide_eq_true c45
              clear c45
              obtain rfl := Option.some.inj H
              obtain ⟨hcz46_0, hcz46_1, hcz46_2, hcz46_3, hfz46_0, hfz46_1, hfz46_2, hfz46_3⟩ := cz4_ BK248
              go_wp2_with (first | (go_at_call 88; (with_reducible refine (transeptref09_Size.calls k4 a0_0 _ _ l0_1 _ _ l0_2 _ _ l0_3 t256 _ ?_ ?_ ?_ ?_ ?_ ?_ A44.out).mono ?_); exact cB_ HR0_1 HB; exact HC0_1.out; exact cB_ HR0_2 HB; exact HC0_2.out; exact cB_ HR0_3 HB; exact HC0_3.out; rintro e w47 ⟨rfl, hb⟩; replace BK248 := bK_ BK248 hb; replace HB := bS_ HB hb; (try clear hb)))
              repeat (go_quiet (first | (go_at_call 88; (with_reducible refine (transeptref09_Size.calls k4 a0_0 _ _ l0_1 _ _ l0_2 _ _ l0_3 t256 _ ?_ ?_ ?_ ?_ ?_ ?_ A44.out).mono ?_); exact cB_ HR0_1 HB; exact HC0_1.out; exact cB_ HR0_2 HB; exact HC0_2.out; exact cB_ HR0_3 HB; exact HC0_3.out; rintro e w47 ⟨rfl, hb⟩; replace BK248 := bK_ BK248 hb; replace HB := bS_ HB hb; (try clear hb))); try go_wp2_with (first | (go_at_call 88; (with_reducible refine (transeptref09_Size.calls k4 a0_0 _ _ l0_1 _ _ l0_2 _ _ l0_3 t256 _ ?_ ?_ ?_ ?_ ?_ ?_ A44.out).mono ?_); exact cB_ HR0_1 HB; exact HC0_1.out; exact cB_ HR0_2 HB; exact HC0_2.out; exact cB_ HR0_3 HB; exact HC0_3.out; rintro e w47 ⟨rfl, hb⟩; replace BK248 := bK_ BK248 hb; replace HB := bS_ HB hb; (try clear hb))))
              go_ret
              exact ⟨fin_, bl_ HB⟩
             ·rw [if_neg c45] at H
              have c45b0 : decide (244 < t256) = false := decide_eq_false c45
              clear c45
              obtain rfl := Option.some.inj H
              obtain ⟨hcz48_0, hcz48_1, hcz48_2, hcz48_3, hfz48_0, hfz48_1, hfz48_2, hfz48_3⟩ := cz4_ BK248
              go_wp2_with (first | (go_at_call 88; (with_reducible refine (transeptref09_Size.calls k4 a0_0 _ _ l0_1 _ _ l0_2 _ _ l0_3 t256 _ ?_ ?_ ?_ ?_ ?_ ?_ A44.out).mono ?_); exact cB_ HR0_1 HB; exact HC0_1.out; exact cB_ HR0_2 HB; exact HC0_2.out; exact cB_ HR0_3 HB; exact HC0_3.out; rintro e w49 ⟨rfl, hb⟩; replace BK248 := bK_ BK248 hb; replace HB := bS_ HB hb; (try clear hb)))
              repeat (go_quiet (first | (go_at_call 88; (with_reducible refine (transeptref09_Size.calls k4 a0_0 _ _ l0_1 _ _ l0_2 _ _ l0_3 t256 _ ?_ ?_ ?_ ?_ ?_ ?_ A44.out).mono ?_); exact cB_ HR0_1 HB; exact HC0_1.out; exact cB_ HR0_2 HB; exact HC0_2.out; exact cB_ HR0_3 HB; exact HC0_3.out; rintro e w49 ⟨rfl, hb⟩; replace BK248 := bK_ BK248 hb; replace HB := bS_ HB hb; (try clear hb))); try go_wp2_with (first | (go_at_call 88; (with_reducible refine (transeptref09_Size.calls k4 a0_0 _ _ l0_1 _ _ l0_2 _ _ l0_3 t256 _ ?_ ?_ ?_ ?_ ?_ ?_ A44.out).mono ?_); exact cB_ HR0_1 HB; exact HC0_1.out; exact cB_ HR0_2 HB; exact HC0_2.out; exact cB_ HR0_3 HB; exact HC0_3.out; rintro e w49 ⟨rfl, hb⟩; replace BK248 := bK_ BK248 hb; replace HB := bS_ HB hb; (try clear hb))))
              go_ret
              exact ⟨fin_, bl_ HB⟩
end Go.Proofs.Ytooabchnbmnchaa.Q
