-- Laid by this session's own program (wip/tools) out of the translation; Lean checks it.
import Derived.Test.YthphelbkfgbejaaQ0
namespace Go.Proofs.Ythphelbkfgbejaa.Q
open Go.RowKit Go.Proofs.YthphelbkfgbejaaW.PrintWords Go.Proofs.YthphelbkfgbejaaW.PrintLast Go.Proofs.YthphelbkfgbejaaW.PrintMore
attribute [local go_sem] max2_int min2_int max_two min_two max_three min_three max_four min_four   -- for this text's walks alone
set_option linter.unusedVariables false
set_option linter.unusedSimpArgs false

/-! ### slices_Concat_byte_byte: function 54 (by hand) -/
set_option maxHeartbeats 800000 in
set_option maxRecDepth 100000 in
theorem slices_Grow_byte_nil (n : Nat) (hn : n ≤ 140737488355328) (w : World) : Calls Try.prog 60 #[.slice none 0 0, .int .i64 (n : Int)] w fun e w' => ∃ v, e = .returned v ∧ Kd.R (Kd.int .u8) 5 w' w.heap.size (fun _ => True) v [] ∧ Below w.heap.size w w' := by
  have hinfo : (Try.prog.info? 5).map (fun i => (i.zero, i.size, i.bytes)) = some (some (.int .u8 0), 1, 1) := by kernel_rfl
  have HI := Aside0.mk hinfo
  have HB := Aside0.mk (Below.refl w.heap.size w)
  clear hinfo
  have h0 : decide ((n : Int) < 0) = false := by simp
  by_cases hp : 0 < n
  · have h1 : decide (0 < (n : Int)) = true := by simp; omega
    have hby : Try.t5.bytes = 1 := by kernel_rfl
    have hnx : Builtin.nextslicecap n 0 = n := by unfold Builtin.nextslicecap; rw [if_pos (by omega)]
    have g1 : ¬ (281474976710656 < Builtin.nextslicecap n 0 * Try.t5.bytes) := by rw [hnx, hby]; omega
    have g2 : ¬ (281474976710656 < (n : Int) * (Try.t5.bytes : Int)) := by rw [hby]; omega
    have hge := grownCap_ge w n 0 5
    have hcm := grownCap_le_maxLen w n 0 5 (by unfold maxLen; omega)
    have G := Aside0.mk (And.intro g1 (And.intro g2 (And.intro hge hcm)))
    clear hby hnx g1 g2 hge hcm
    go_enter Try.func60, Try.ntmps60
    go_wp2
    all_goals first
      | (exact absurd (by assumption) G.out.1)
      | (exact absurd (by assumption) G.out.2.1)
      | (exact absurd (by assumption) (Int.not_lt.mpr G.out.2.1))
      | skip
    go_ret
    refine ⟨_, rfl, Kd.R_drew (Kd.R_of_own (World.ownsRow_made w _ _ (Nat.le_refl _) G.out.2.2.2 ?_) (fun _ _ => trivial)) , ?_⟩
    · rw [Array.size_append, size_zeroCells, size_zeroCells]
      have : n ≤ (Question.appendCap n 0 5).cut (w.tape w.drawn (Question.appendCap n 0 5)) := G.out.2.2.1
      simp only [List.size_toArray, List.length_cons, List.length_nil]
      omega
    · exact below_drew (below_alloc HB.out _)
  · have : n = 0 := by omega
    subst this
    go_enter Try.func60, Try.ntmps60
    go_wp2
    go_ret
    exact ⟨_, rfl, Kd.R_nil _ _ _ _ _, Below.refl _ _⟩

theorem concat_at {w : World} {A : Option Addr} {n : Nat} {xs : List (List Int)} (h : Kd.C (Kd.slice 5 (Kd.int .u8)) w A n xs) (i : Nat) (h0 : i < n) (h1 : i < xs.length) : ∃ ad A0 c0, A = some ad ∧ w.cell? (ad.add i) = some (.slice A0 xs[i].length c0) ∧ xs[i].length ≤ c0 ∧ (Kd.int .u8).C w A0 xs[i].length xs[i] := by
  obtain ⟨ad, c, e, _, hK, hc0⟩ := Kd.C_get h ([] : List Int) (i : Int) (by omega) (by omega)
  have hx : xs.getD ((i : Int)).toNat [] = xs[i] := by rw [Int.toNat_natCast, List.getD_eq_getElem?_getD, List.getElem?_eq_getElem h1]; rfl
  rw [hx] at hK
  have hc : ∀ j u, c[j]? = some u → w.cell? (ad.add (((i : Int)).toNat * 1 + j)) = some u := hc0
  obtain ⟨A0, c0, rfl, l0, g0⟩ := hK
  exact ⟨ad, A0, c0, e, by have hq := hc 0 _ rfl; rwa [Nat.mul_one, Nat.add_zero, Int.toNat_natCast] at hq, l0, g0⟩
theorem slices_Concat_take (l : List (List Int)) (k : Nat) (h : k < l.length) : (l.take (k + 1)).flatten = (l.take k).flatten ++ l[k] := by
  rw [List.take_succ_eq_append_getElem h, List.flatten_append]
  simp
theorem slices_Concat_le (l : List (List Int)) (k : Nat) : (l.take k).flatten.length ≤ l.flatten.length := by
  conv => rhs; rw [← List.take_append_drop k l, List.flatten_append, List.length_append]
  omega
def slices_Concat_byte_byte.f (l0 : List (List Int)) : Option (List Int) := if l0.flatten.length ≤ 140737488355328 then some l0.flatten else none
set_option maxHeartbeats 1600000 in
set_option maxRecDepth 100000 in
theorem slices_Concat_byte_byte.calls (A0 : Option Addr) (c0 : Nat) (l0 : List (List Int)) (r : List Int) (w : World) (hr0 : Kd.C (Kd.slice 5 (Kd.int .u8)) w A0 l0.length l0) (hc0 : l0.length ≤ c0) (h : slices_Concat_byte_byte.f l0 = some r) : Calls Try.prog 54 #[.slice A0 l0.length c0] w fun e w' => ∃ v0_ : Value, e = .returned (v0_) ∧ Kd.R (Kd.int .u8) 5 w' w.heap.size (fun _ => True) v0_ r ∧ Below w.heap.size w w' := by
  unfold slices_Concat_byte_byte.f at h
  by_cases hl : l0.flatten.length ≤ 140737488355328
  case neg => rw [if_neg hl] at h; cases h
  rw [if_pos hl] at h
  cases h
  have HR0 := Aside0.mk hr0
  have HC0 := Aside0.mk hc0
  have hmax := Kd.C_max hr0
  clear hr0 hc0
  have hinfo : (Try.prog.info? 5).map (fun i => (i.zero, i.size, i.bytes)) = some (some (.int .u8 0), 1, 1) := by kernel_rfl
  have HI := Aside0.mk hinfo
  clear hinfo
  go_enter Try.func54, Try.ntmps54
  go_wp2
  go_loop [3, 11] (fun v3 v11 => ∃ k : Nat, v11 = .int .i64 (k : Int) ∧ k ≤ l0.length ∧ v3 = .int .i64 ((l0.take k).flatten.length : Nat)) (fun _ v11 => l0.length - (intOf v11).toNat)
  case atStart => exact ⟨0, rfl, by omega, rfl⟩
  case round =>
    obtain ⟨k, rfl, hk, rfl⟩ := hrel
    by_cases hkn : k < l0.length
    · obtain ⟨ad, A, c, hae, hcell, hlc, hin⟩ := concat_at HR0.out k hkn hkn
      cases hae
      clear hin hlc
      have hnext := congrArg List.length (slices_Concat_take l0 k hkn)
      rw [List.length_append] at hnext
      have hle := slices_Concat_le l0 (k + 1)
      obtain ⟨m, hm⟩ : ∃ m, m = l0[k].length := ⟨_, rfl⟩
      obtain ⟨p, hp⟩ : ∃ p, p = (l0.take k).flatten.length := ⟨_, rfl⟩
      rw [← hm] at hcell hnext
      rw [← hp] at hnext ⊢
      have HN := Aside0.mk hnext
      have hw : wrap64 ((p : Int) + (m : Int)) = (p : Int) + (m : Int) := wrap64_id (by omega) (by omega)
      have h0 : decide ((p : Int) + (m : Int) < 0) = false := by simp; omega
      clear hnext hle hp hm
      go_wp2
      exact ⟨⟨k + 1, by push_cast; rfl, by omega, by rw [hw, HN.out]; rfl⟩, by simp [intOf]; omega⟩
    · have : k = l0.length := by omega
      subst this
      rw [List.take_length]
      obtain ⟨n, hn⟩ : ∃ n, n = l0.flatten.length := ⟨_, rfl⟩
      rw [← hn] at hl ⊢
      have HNN := Aside0.mk hn
      clear hn
      go_wp2_with (go_at_call 60; refine (slices_Grow_byte_nil _ hl w).mono ?_; rintro e w1 ⟨v, rfl, ho, hb⟩; obtain ⟨A1, c1, rfl⟩ := Kd.R_slice ho; have HO := Aside0.mk ho; have HB := Aside0.mk hb; clear ho hb)
      go_loopw [6, 27] (fun v6 v27 wr => ∃ k : Nat, v27 = .int .i64 (k : Int) ∧ k ≤ l0.length ∧ Aside0 (Kd.R (Kd.int .u8) 5 wr w.heap.size (fun _ => True) v6 (l0.take k).flatten) ∧ Aside0 (Below w.heap.size w wr)) (fun _ v27 _ => l0.length - (intOf v27).toNat)
      case atStart => exact ⟨0, rfl, by omega, HO, HB⟩
      case round =>
        obtain ⟨k, rfl, hk, HO2, HB2⟩ := hrel
        clear HO HB
        obtain ⟨A2, c2, rfl⟩ := Kd.R_slice HO2.out
        by_cases hkn : k < l0.length
        · obtain ⟨ad, A, c, hae, hcell, hlc, hin⟩ := concat_at (Kd.C_below HR0.out HB2.out) k hkn hkn
          cases hae
          have HIN := Aside0.mk hin
          clear hin hlc
          have HN := Aside0.mk (slices_Concat_take l0 k hkn)
          have HLE := Aside0.mk (slices_Concat_le l0 (k + 1))
          obtain ⟨x, hx⟩ : ∃ x, x = l0[k] := ⟨_, rfl⟩
          obtain ⟨p, hp⟩ : ∃ p, p = (l0.take k).flatten := ⟨_, rfl⟩
          rw [← hx] at hcell HIN HN
          rw [← hp] at HN HO2 ⊢
          have HBD := Aside0.mk (show p.length + x.length ≤ 140737488355328 by have h1 := HLE.out; have h2 := HNN.out; rw [HN.out, List.length_append] at h1; omega)
          clear hx hp HLE
          go_wp2_with (first | ((with_reducible refine gate_builtin (b := .append) (xs := #[.tmp 31, .tmp 32]) rfl ?_); at_builtin; refine Kd.R_append_rows (Kd.int .u8) (w0 := w) w.heap.size rfl (.tmp 31) (.tmp 32) 22 5 (.int .u8 0) 1 rfl Try.underlying22 HI.out rfl (by decide) (by omega) _ p x _ _ _ (fun _ => True) (fun _ => False) rfl rfl HO2.out HIN.out (fun _ _ h => h) (fun _ h => h.elim) (fun _ _ => trivial) HB2.out (below_size HB2.out) ?aL ?_; (case aL => have := HBD.out; omega); intro v157 w3 ho hb hg hat; have HOb := Aside0.mk hb; have HO3 := Aside0.mk ho; clear ho hb hg hat))
          go_roundw
          case rel => exact ⟨k + 1, by push_cast; rfl, by omega, ⟨by rw [HN.out]; exact HO3.out⟩, HOb⟩
          case measure => simp [intOf]; omega
        · have : k = l0.length := by omega
          subst this
          go_wp2
          go_ret
          refine ⟨_, rfl, ?_, HB2.out⟩
          have := HO2.out
          rw [List.take_length] at this ⊢
          exact this


end Go.Proofs.Ythphelbkfgbejaa.Q
