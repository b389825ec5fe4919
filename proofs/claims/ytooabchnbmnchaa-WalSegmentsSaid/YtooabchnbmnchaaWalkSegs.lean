-- (thinned for this claim by wip/tools/shake.py: what the claim doesn't use is left out)
import Derived.Test.YtooabchnbmnchaaQ49
import Derived.Test.YtooabchnbmnchaaQ27
import Derived.Test.YtooabchnbmnchaaKit
import Derived.Test.YtooabchnbmnchaaSq
import Derived.Test.YtooabchnbmnchaaPlNum
import Derived.Test.YtooabchnbmnchaaPlCrc
import Derived.Test.YtooabchnbmnchaaPlScan
import Derived.Test.YtooabchnbmnchaaPlWal
import Derived.Test.YtooabchnbmnchaaPlWalF
namespace Go.Proofs.Ytooabchnbmnchaa.Q
open Go.RowKit Go.Proofs.YtooabchnbmnchaaW.PrintWords Go.Proofs.YtooabchnbmnchaaW.PrintLast Go.Proofs.YtooabchnbmnchaaW.PrintMore
set_option linter.unusedVariables false
set_option linter.unusedSimpArgs false
structure SegFit (lim : Int) (gs : List (List (List Int))) : Prop where
  good : GoodG gs
  ne : NE gs
  cnt : gs.flatten.length ≤ 4096
  low : ∀ i (h : i < gs.length) j, j < gs[i].length → ((lenR (gs[i].take j) : Nat) : Int) < lim
  full : ∀ i (h : i < gs.length), i + 1 < gs.length → lim ≤ ((lenR gs[i] : Nat) : Int)
theorem lenR_step (g : List (List Int)) (j : Nat) (h : j < g.length) : lenR (g.take (j + 1)) = lenR (g.take j) + g[j].length + 8 := by
  rw [← List.take_append_getElem h, lenR_append]; simp [lenR]; omega
theorem lenR_mono (g : List (List Int)) : ∀ (i j : Nat), i ≤ j → lenR (g.take i) ≤ lenR (g.take j) := by
  intro i j h
  obtain ⟨d, rfl⟩ : ∃ d, j = i + d := ⟨j - i, by omega⟩
  rw [List.take_add, lenR_append]; omega
theorem rdL_flat (gs : List (List (List Int))) (i j : Nat) (hi : i < gs.length) (hj : j < gs[i].length) : rd_L1 gs.flatten (((gs.take i).flatten.length + j : Nat) : Int) = gs[i][j] := by
  have hm := mem_flat_le gs i hi
  rw [rdL _ _ (by omega)]
  have hsplit : gs.flatten = (gs.take i).flatten ++ (gs[i] ++ (gs.drop (i + 1)).flatten) := by
    conv => lhs; rw [← List.take_append_drop i gs, List.flatten_append, List.drop_eq_getElem_cons hi, List.flatten_cons]
  have : gs.flatten[(gs.take i).flatten.length + j]? = some gs[i][j] := by
    rw [hsplit, List.getElem?_append_right (by omega), show (gs.take i).flatten.length + j - (gs.take i).flatten.length = j by omega, List.getElem?_append_left hj, List.getElem?_eq_getElem hj]
  rw [List.getElem?_eq_getElem (by omega)] at this
  exact Option.some.inj this
theorem below_join {B : Nat} {w0 w1 w2 : World} (h : Below B w0 w1) (h2 : Below B w1 w2) : Below B w0 w2 := h.trans h2
theorem blk_new {W w : World} {g g10 : Nat} {o : Obj} (h : W.heap[g]? = some o) (hg : g10 = W.heap.size) : g ≠ g10 := by have := blk_lt h; omega
theorem blk_fresh (w : World) (o : Obj) : (w.alloc o).heap[w.heap.size]? = some o := by
  show (w.heap.push o)[w.heap.size]? = some o
  simp
theorem SegFit.at {lim : Int} {gs : List (List (List Int))} (h : SegFit lim gs) {sg : List S70} (hs : sg = segsOf 0 gs) (i : Nat) (hi : i < gs.length) : rd_T70 sg (i : Int) = ⟨(((gs.take i).flatten.length : Nat) : Int), catR gs[i]⟩ := by
  subst hs
  rw [rdS _ i (by rw [segsOf_length]; exact hi), segsOf_get gs 0 i hi, Nat.zero_add]
set_option maxHeartbeats 8000000 in
set_option maxRecDepth 100000 in
theorem transeptlaw08_WalSegments.walk (k : Nat) (A0 : Option Addr) (c0 : Nat) (l0 : List (List (List Int))) (a1 lim : Int) (gs : List (List (List Int))) (sg : List S70) (al : List (List Int)) (nx : Int) (w : World) (hr0 : Kd.C (Kd.slice 26 (Kd.slice 5 (Kd.int .u8))) w A0 l0.length l0) (hc0 : l0.length ≤ c0)
    (hlim : wrap64 (1 + (Int.tmod (wrap64 ((Int.tmod a1 300) + 300)) 300)) = lim) (hl1 : 1 ≤ lim) (hl2 : lim ≤ 300) (halive : transeptlaw08_alive.f k = some true)
    (hlaid : transeptlaw08_laid.f k l0 lim = some (sg, nx, [], al, true)) (hfit : SegFit lim gs) (hsg : sg = segsOf 0 gs) (hal : al = gs.flatten) :
    Calls Try.prog 9 #[.slice A0 l0.length c0, .int .i64 a1] w fun e w' => e = .returned (.bool true) ∧ Below w.heap.size w w' := by
  have hu61 := Try.underlying61
  have hu70 := Try.underlying70
  have HR0 := Aside0.mk hr0
  have HC0 := Aside0.mk hc0
  have HB := Aside0.mk (Below.refl w.heap.size w)
  have A4 := Aside0.mk halive
  have A6 := Aside0.mk hlaid
  have HF := Aside0.mk hfit
  have HL1 := Aside0.mk hl1
  have HL2 := Aside0.mk hl2
  have HSG := Aside0.mk hsg
  have HAL := Aside0.mk hal
  have HSL : Aside0 (sg.length = gs.length) := ⟨by rw [hsg, segsOf_length]⟩
  have HALL : Aside0 (al.length = gs.flatten.length) := ⟨by rw [hal]⟩
  have HGL : Aside0 (gs.length ≤ 4096) := ⟨by have := NE_len gs hfit.ne; have := hfit.cnt; omega⟩
  clear hr0 hc0 halive hlaid hfit hl1 hl2 hsg hal
  go_enter Try.func9, Try.ntmps9
  go_wp2_with (first | (go_at_call 32; (with_reducible refine (transeptlaw08_alive.calls k  true _ A4.out).mono ?_); rintro e w8 ⟨rfl, hb⟩; replace HB := bS_ HB hb; (try clear hb)) | (go_at_call 40; (with_reducible refine (transeptlaw08_laid.calls k (fun k_ => k_ < w.heap.size) _ _ l0 lim sg nx [] al true _ ?_ A6.out).mono ?_); exact Kd.V_mk HC0.out (Kd.F_below (Kd.C_F (Kd.heap_slice 26 (Kd.heap_slice 5 (Kd.heap_int .u8))) HR0.out) (bl_ HB)); rintro e w9 ⟨v578, v582, v585, rfl, ho0, ho1, ho2, hb⟩; replace HB := bS_ HB hb; obtain ⟨Aq, cq, rfl⟩ := Kd.N_slice ho0; obtain ⟨Aw, cw, rfl⟩ := Kd.N_slice ho1; obtain ⟨Aa, ca, rfl⟩ := Kd.N_slice ho2; have HQ := Aside0.mk (Kd.N_reads' ho0).2.2; have HA := Aside0.mk (Kd.N_reads' ho2).2.2; have HQc := Aside0.mk (Kd.N_reads' ho0).2.1; have HAc := Aside0.mk (Kd.N_reads' ho2).2.1; clear hb ho0 ho1 ho2) | ((with_reducible refine gate_dst (N := 5) rfl ?_); refine bx_ 5 #[.slice none 0 0, .int .i64 0, .slice none 0 0] 61 ?_; intro g5 hg w10 hbox hb; have HK : Aside0 (∀ W', Below g5 w10 W' → Kd.C k70 W' Aq sg.length sg ∧ Kd.C (Kd.slice 5 (Kd.int .u8)) W' Aa al.length al) := ⟨fun W' h => by rw [hg] at h; exact ⟨Kd.C_below (cO_ HQ.out) (below_join hb h), Kd.C_below (cO_ HA.out) (below_join hb h)⟩⟩; clear HQ HA; have BK5 := Aside0.mk hbox; have GE5 := bG_ HB hg; replace HB := bS_ HB hb; clear hb hbox hg; obtain ⟨hy0, hy1, hy2, hz0, hz1, hz2⟩ := cz3_ BK5))
  have BK5' : Aside0 (((((w10.setCell ⟨g5, 0, none⟩ (.slice Aq sg.length cq)).setCell ⟨g5, 1, none⟩ (.int .i64 nx)).setCell ⟨g5, 2, none⟩ (.slice Aw 0 cw))).heap[g5]? = some (.cells #[.slice Aq sg.length cq, .int .i64 nx, .slice Aw 0 cw] 61 (0, 0))) := ⟨blk_put (blk_put (blk_put BK5.out 0 _ rfl) 1 _ rfl) 2 _ rfl⟩
  have HW : Aside0 (Below g5 w10 (((w10.setCell ⟨g5, 0, none⟩ (.slice Aq sg.length cq)).setCell ⟨g5, 1, none⟩ (.int .i64 nx)).setCell ⟨g5, 2, none⟩ (.slice Aw 0 cw))) := ⟨(((Below.refl g5 w10).setCell (Nat.le_refl _) _).setCell (Nat.le_refl _) _).setCell (Nat.le_refl _) _⟩
  clear hy0 hy1 hy2 hz0 hz1 hz2 BK5
  go_loopw [8, 9] (fun v8 v9 wr => ∃ (i : Nat) (nn : Int), v9 = .int .i64 (i : Int) ∧ v8 = .int .i64 nn ∧ Aside0 (nn = (((gs.take i).flatten.length : Nat) : Int)) ∧ Aside0 (i ≤ gs.length) ∧ Aside0 (Below g5 w10 wr) ∧ Aside0 (wr.heap[g5]? = some (.cells #[.slice Aq sg.length cq, .int .i64 nx, .slice Aw 0 cw] 61 (0, 0)))) (fun _ v9 _ => gs.length - (intOf v9).toNat)
  case atStart => exact ⟨0, 0, rfl, rfl, ⟨rfl⟩, ⟨Nat.zero_le _⟩, HW, BK5'⟩
  case round =>
    clear HW BK5'
    obtain ⟨i, nn, rfl, rfl, HN, HI, HW, BK5⟩ := hrel
    obtain ⟨hy0, hy1, hy2, hz0, hz1, hz2⟩ := cz3_ BK5
    by_cases hi : i < gs.length
    · have HIL := Aside0.mk hi
      have c1b : decide ((i : Int) < (sg.length : Int)) = true := decide_eq_true (by have := HSL.out; omega)
      have c1c : ((i : Int) < (sg.length : Int)) = True := eq_true (by have := HSL.out; omega)
      have c1d : (0 ≤ (i : Int)) = True := eq_true (by omega)
      obtain ⟨ad, A1, c1, e1, hx0, hx1, hl1, hC1⟩ := at_T70 (HK.out _ HW.out).1 (i : Int) (by omega) (by have := HSL.out; omega)
      cases e1
      rw [HF.out.at HSG.out i hi] at hx0 hx1 hl1 hC1
      dsimp only at hx0 hx1 hl1 hC1
      rw [Int.toNat_natCast] at hx0 hx1
      rw [← HN.out] at hx0
      obtain ⟨D, hD⟩ : ∃ D, D = catR gs[i] := ⟨_, rfl⟩
      rw [← hD] at hx1 hl1 hC1
      have HD := Aside0.mk hD
      have HD1 := Aside0.mk hl1
      have hDn : D.length ≠ 0 := by
        have h1 := hD
        have h2 := lenR_ge gs[i]
        have h3 : 0 < gs[i].length := List.length_pos_iff.2 (HF.out.ne _ (List.getElem_mem hi))
        rw [h1, catR_len]; omega
      have hDe : (D = []) = False := eq_false (fun h => hDn (by rw [h]; rfl))
      have hDz : ((D.length : Int) == 0) = false := beq_eq_false_iff_ne.2 (by omega)
      clear hC1 hl1 hD hDn
      go_wp2
      have BK10' : Aside0 ((wr.alloc (.cells #[.int .i64 nn, .slice A1 D.length c1] 70)).heap[wr.heap.size]? = some (.cells #[.int .i64 nn, .slice A1 D.length c1] 70 (0, 0))) := ⟨blk_fresh _ _⟩
      have BK5' := Aside0.mk (blk_alloc BK5.out (.cells #[.int .i64 nn, .slice A1 D.length c1] 70))
      have HW' := Aside0.mk (HW.out.alloc (blk_lt BK5.out |> Nat.le_of_lt) (.cells #[.int .i64 nn, .slice A1 D.length c1] 70))
      have NB : Aside0 (g5 ≠ wr.heap.size) := ⟨by have := blk_lt BK5.out; omega⟩
      generalize wr.alloc (.cells #[.int .i64 nn, .slice A1 D.length c1] 70) = w2 at BK10' BK5' HW' ⊢
      generalize wr.heap.size = g10 at BK10' NB ⊢
      clear hx0 hx1 hy0 hy1 hy2 hz0 hz1 hz2 BK5 HW c1b c1c c1d
      go_loopw [8, 11] (fun v8 v11 w3 => ∃ (j : Nat) (mm aa : Int), v8 = .int .i64 mm ∧ v11 = .int .i64 aa ∧ Aside0 (mm = (((gs.take i).flatten.length + j : Nat) : Int)) ∧ Aside0 (aa = ((lenR (gs[i].take j) : Nat) : Int)) ∧ Aside0 (j ≤ gs[i].length) ∧ Aside0 (Below g5 w10 w3) ∧ Aside0 (w3.heap[g5]? = some (.cells #[.slice (some ad) sg.length cq, .int .i64 nx, .slice Aw 0 cw] 61 (0, 0))) ∧ Aside0 (w3.heap[g10]? = some (.cells #[.int .i64 nn, .slice A1 D.length c1] 70 (0, 0)))) (fun v8 _ _ => gs.flatten.length - (intOf v8).toNat)
      case atStart => exact ⟨0, nn, 0, rfl, rfl, ⟨by rw [HN.out]; rfl⟩, ⟨rfl⟩, ⟨Nat.zero_le _⟩, HW', BK5', BK10'⟩
      case round =>
        clear HW' BK5' BK10'
        obtain ⟨j, mm, aa, rfl, rfl, HM, HAA, HJ, HW, BK5, BK10⟩ := hrel
        obtain ⟨hy0, hy1, hy2, hz0, hz1, hz2⟩ := cz3_ BK5
        obtain ⟨hy3, hy4, hz3, hz4⟩ := cz2_ BK10
        have hDl : D.length = lenR gs[i] := by rw [HD.out, catR_len]
        by_cases hj : j < gs[i].length
        · have hst := lenR_step gs[i] j hj
          have hmono := lenR_mono gs[i] (j + 1) gs[i].length (by omega)
          rw [List.take_of_length_le (Nat.le_refl _)] at hmono
          have hlow := HF.out.low i hi j hj
          have hml := mem_flat_le gs i hi
          have hall := HALL.out
          have hcnt := HF.out.cnt
          have hd4 : gs[i][j].length ≤ 4096 := (HF.out.good _ (List.getElem_mem hi) _ (List.getElem_mem hj)).1
          have hb := lenR_le gs[i] (HF.out.good _ (List.getElem_mem hi))
          have hM := HM.out
          have hA := HAA.out
          have q1 : (aa < (D.length : Int)) = True := eq_true (by omega)
          have q2 : ((al.length : Int) ≤ mm) = False := eq_false (by omega)
          have q3 : (lim ≤ aa) = False := eq_false (by omega)
          have q4 : (0 ≤ mm) = True := eq_true (by omega)
          have q5 : (mm < (al.length : Int)) = True := eq_true (by omega)
          obtain ⟨ad3, A3, c3, e3, hx3, hl3, hC3⟩ := at_L1 (HK.out _ HW.out).2 mm (by omega) (by omega)
          cases e3
          have hrd : rd_L1 al mm = gs[i][j] := by rw [HAL.out, hM, rdL_flat gs i j hi hj]
          rw [hrd] at hx3 hl3
          obtain ⟨bb, hbb⟩ : ∃ bb : Int, bb = ((lenR (gs[i].take (j + 1)) : Nat) : Int) := ⟨_, rfl⟩
          have HBB := Aside0.mk hbb
          have HM1 : Aside0 (mm + 1 = (((gs.take i).flatten.length + (j + 1) : Nat) : Int)) := ⟨by omega⟩
          have HME : Aside0 (gs.flatten.length - (mm + 1).toNat < gs.flatten.length - mm.toNat) := ⟨by omega⟩
          have q7 : Aside0 (wrap64 (mm + 1) = mm + 1) := ⟨wrap64_id (by omega) (by omega)⟩
          have q6 : Aside0 (wrap64 (wrap64 (aa + (gs[i][j].length : Int)) + 8) = bb) := ⟨by
            rw [wrap64_id (x := aa + (gs[i][j].length : Int)) (by omega) (by omega), wrap64_id (by omega) (by omega)]; omega⟩
          generalize hX : gs[i][j].length = X at hx3 q6
          clear hst hmono hlow hml hall hcnt hd4 hb hM hA hl3 hrd hX hbb hDl hC3
          go_wp2
          rw [q6.out, q7.out]
          refine ⟨⟨j + 1, mm + 1, bb, rfl, rfl, HM1, HBB, ⟨hj⟩, HW, BK5, BK10⟩, HME.out⟩
        · have hje : j = gs[i].length := by have := HJ.out; omega
          have hA := HAA.out
          have hM := HM.out
          subst hje
          rw [List.take_of_length_le (Nat.le_refl _), ← hDl] at hA
          have hml := mem_flat_le gs i hi
          have hsl := HSL.out
          have hgl := HGL.out
          have hfull := HF.out.full i hi
          have hb := lenR_le gs[i] (HF.out.good _ (List.getElem_mem hi))
          have hcnt := HF.out.cnt
          have q1 : (aa < (D.length : Int)) = False := eq_false (by omega)
          have q2 : (aa != (D.length : Int)) = false := bne_eq_false_iff_eq.2 hA
          have HN1 : Aside0 (mm = (((gs.take (i + 1)).flatten.length : Nat) : Int)) := ⟨by
            rw [← List.take_append_getElem hi, List.flatten_append, List.length_append]; simp only [List.flatten_cons, List.flatten_nil, List.append_nil]; omega⟩
          have HME : Aside0 (gs.length - (i + 1) < gs.length - i) := ⟨by omega⟩
          have HW1 : Aside0 (wrap64 ((sg.length : Int) - 1) = (sg.length : Int) - 1) := ⟨wrap64_id (by omega) (by omega)⟩
          have HW2 : Aside0 (wrap64 ((i : Int) + 1) = ((i + 1 : Nat) : Int)) := ⟨by rw [wrap64_id (by omega) (by omega)]; omega⟩
          by_cases hlast : i + 1 < gs.length
          · have q3 : ((i : Int) < wrap64 ((sg.length : Int) - 1)) = True := eq_true (by rw [HW1.out]; omega)
            have q4 : (aa < lim) = False := eq_false (by have := hfull hlast; omega)
            clear hml hsl hgl hfull hb hcnt hA hM hj hlast hDl
            go_wp2
            rw [HW2.out]
            exact ⟨⟨i + 1, mm, rfl, rfl, HN1, ⟨hi⟩, HW, BK5⟩, HME.out⟩
          · have q3 : ((i : Int) < wrap64 ((sg.length : Int) - 1)) = False := eq_false (by rw [HW1.out]; omega)
            clear hml hsl hgl hfull hb hcnt hA hM hj hlast hDl
            go_wp2
            rw [HW2.out]
            exact ⟨⟨i + 1, mm, rfl, rfl, HN1, ⟨hi⟩, HW, BK5⟩, HME.out⟩
    · have hie : i = gs.length := by have := HI.out; omega
      have hN := HN.out
      subst hie
      have c1b : decide ((gs.length : Int) < (sg.length : Int)) = false := decide_eq_false (by have := HSL.out; omega)
      have c1c : ((gs.length : Int) < (sg.length : Int)) = False := eq_false (by have := HSL.out; omega)
      rw [List.take_of_length_le (Nat.le_refl _), ← HALL.out] at hN
      have q1 : (nn == (al.length : Int)) = true := beq_iff_eq.2 hN
      clear hN
      go_wp2
      go_ret
      exact ⟨rfl, HB.out.trans (HW.out.mono GE5.out)⟩
end Go.Proofs.Ytooabchnbmnchaa.Q
