-- Laid by this session's own program (wip/tools) out of the translation; Lean checks it.
import Derived.Test.YthphelbkfgbejaaQ0
import Derived.Test.YthphelbkfgbejaaQ5
import Derived.Test.YthphelbkfgbejaaQ6
import Derived.Test.YthphelbkfgbejaaQ7
namespace Go.Proofs.Ythphelbkfgbejaa.Q
open Go.RowKit Go.Proofs.YthphelbkfgbejaaW.PrintWords Go.Proofs.YthphelbkfgbejaaW.PrintLast Go.Proofs.YthphelbkfgbejaaW.PrintMore
attribute [local go_sem] max2_int min2_int max_two min_two max_three min_three max_four min_four   -- for this text's walks alone
set_option linter.unusedVariables false
set_option linter.unusedSimpArgs false

/-! ### octets_Turn: function 22 (by hand) -/
/-- the loop of slices.Reverse, from both ends -/
theorem reverse_loop (l : List Int) (hn : l.length ≤ 140737488355328) : ∀ (d k : Nat) (cur : List Int) (i : Nat) (j : Int), cur.length = l.length → (i : Int) + j = (l.length : Int) - 1 → (d : Int) = l.length - i → d < k → (i ≤ l.length) →
    (∀ p (hp : p < l.length) (hc : p < cur.length), cur[p] = if p < i ∨ j < p then l[l.length - 1 - p]'(by omega) else l[p]) →
    slices_Reverse_byte_byte.l0 k cur (i : Int) j = some l.reverse := by
  intro d
  induction d with
  | zero =>
    intro k cur i j hc hij hd hk hi hp
    obtain ⟨k, rfl⟩ : ∃ m, k = m + 1 := ⟨k - 1, by omega⟩
    simp only [slices_Reverse_byte_byte.l0]
    rw [if_neg (by omega)]
    congr 1
    apply List.ext_getElem (by simp [hc])
    intro p h1 h2
    rw [hp p (by omega) h1, List.getElem_reverse, if_pos (by omega)]
  | succ d ih =>
    intro k cur i j hc hij hd hk hi hp
    obtain ⟨k, rfl⟩ : ∃ m, k = m + 1 := ⟨k - 1, by omega⟩
    simp only [slices_Reverse_byte_byte.l0]
    by_cases hlt : (i : Int) < j
    · obtain ⟨jn, rfl⟩ : ∃ jn : Nat, j = (jn : Int) := ⟨j.toNat, by omega⟩
      rw [if_pos hlt, if_pos (by omega), if_pos (by omega), if_pos (by omega), if_pos (by omega)]
      rw [wrap64_id (by omega) (by omega), wrap64_id (by omega) (by omega)]
      have ei : rd cur (i : Int) = l[i] := by rw [rd_nat cur i (by omega), hp i (by omega) (by omega), if_neg (by omega)]
      have ej : rd cur (jn : Int) = l[jn] := by rw [rd_nat cur jn (by omega), hp jn (by omega) (by omega), if_neg (by omega)]
      rw [ei, ej]
      refine ih k _ (i + 1) ((jn : Int) - 1) (by simp [hc]) (by push_cast; omega) (by push_cast; omega) (by omega) (by omega) ?_
      intro p hp1 hp2
      simp only [Int.toNat_natCast, List.getElem_set]
      have hcp : p < cur.length := by omega
      by_cases h1 : jn = p
      · subst h1
        rw [if_pos rfl, if_pos (by omega)]
        congr 1
        omega
      · rw [if_neg h1]
        by_cases h2 : i = p
        · subst h2
          rw [if_pos rfl, if_pos (by omega)]
          congr 1
          omega
        · rw [if_neg h2, hp p hp1 hcp]
          by_cases h3 : p < i ∨ (jn : Int) < p
          · rw [if_pos h3, if_pos (by omega)]
          · rw [if_neg h3, if_neg (by omega)]
    · rw [if_neg hlt]
      congr 1
      apply List.ext_getElem (by simp [hc])
      intro p h1 h2
      rw [hp p (by omega) h1, List.getElem_reverse]
      split
      · rfl
      · congr 1
        omega
theorem reverse_ends (l : List Int) (hn : l.length ≤ 140737488355328) : slices_Reverse_byte_byte.f (l.length + 1) l = some l.reverse := by
  unfold slices_Reverse_byte_byte.f
  rw [wrap64_id (by omega) (by omega)]
  exact reverse_loop l hn l.length _ l 0 _ rfl (by omega) (by omega) (by omega) (by omega) (fun p hp hc => by rw [if_neg (by omega)])
def revOf (x : Int) : Int := (bits_Reverse8.f x).getD 0
set_option maxRecDepth 100000 in
theorem rev8_some (x : Int) (h0 : 0 ≤ x) (h1 : x < 256) : bits_Reverse8.f x = some (revOf x) := by
  unfold revOf bits_Reverse8.f
  rw [if_pos h0, if_pos h1]; simp only [Option.getD_some]
def turnAt (l : List Int) (k : Nat) : List Int := (l.take k).map revOf ++ l.drop k
theorem turnAt_len (l : List Int) (k : Nat) : (turnAt l k).length = l.length := by simp [turnAt]; omega
theorem turnAt_rd (l : List Int) (k : Nat) (h : k < l.length) : rd (turnAt l k) (k : Int) = l[k] := by
  unfold rd turnAt
  rw [show ((k : Int)).toNat = k from by omega, List.getD_eq_getElem?_getD, List.getElem?_append_right (by simp; omega)]
  simp [Nat.min_eq_left (Nat.le_of_lt h), List.getElem?_eq_getElem h]
theorem turnAt_set (l : List Int) (k : Nat) (h : k < l.length) : (turnAt l k).set k (revOf l[k]) = turnAt l (k + 1) := by
  unfold turnAt
  have hk : ((l.take k).map revOf).length = k := by simp; omega
  rw [List.set_append_right _ _ (by omega), hk, Nat.sub_self]
  rw [List.drop_eq_getElem_cons h, List.take_succ_eq_append_getElem h, List.set_cons_zero, List.map_append, List.append_assoc]
  rfl
theorem turnAt_full (l : List Int) : turnAt l l.length = l.map revOf := by simp [turnAt]
def octets_Turn.f (l0 : List Int) : Option (List Int) := if l0.length ≤ 140737488355327 ∧ ∀ x ∈ l0, 0 ≤ x ∧ x < 256 then some (l0.reverse.map revOf) else none
set_option maxHeartbeats 1600000 in
set_option maxRecDepth 100000 in
theorem octets_Turn.calls (A0 : Option Addr) (c0 : Nat) (l0 : List Int) (r : List Int) (w : World) (hr0 : Kd.C (Kd.int .u8) w A0 l0.length l0) (hc0 : l0.length ≤ c0) (h : octets_Turn.f l0 = some r) : Calls Try.prog 22 #[.slice A0 l0.length c0] w fun e w' => ∃ v0_ : Value, e = .returned (v0_) ∧ Kd.R (Kd.int .u8) 5 w' w.heap.size (fun _ => True) v0_ r ∧ Below w.heap.size w w' := by
  unfold octets_Turn.f at h
  by_cases hl : l0.length ≤ 140737488355327 ∧ ∀ x ∈ l0, 0 ≤ x ∧ x < 256
  case neg => rw [if_neg hl] at h; cases h
  rw [if_pos hl] at h
  cases h
  obtain ⟨hl, hx⟩ := hl
  have HX := Aside0.mk hx
  clear hx
  have HR0 := Aside0.mk hr0
  have hcl : bytes_Clone.f l0 = some l0 := by unfold bytes_Clone.f; rw [if_pos hl]
  have HCL := Aside0.mk hcl
  have HREV := Aside0.mk (reverse_ends l0 (by omega))
  have HC0 := Aside0.mk hc0
  clear hcl hr0 hc0
  go_enter Try.func22, Try.ntmps22
  go_wp2_with (first
    | (go_at_call 46; refine (bytes_Clone.calls A0 c0 l0 l0 _ HR0.out HC0.out HCL.out).mono ?_; rintro e w1 ⟨v0, rfl, ho, hb⟩; obtain ⟨A1, c1, rfl⟩ := Kd.R_slice ho; have HO := Aside0.mk ho; have HB := Aside0.mk hb; clear ho hb)
    | (go_at_call 47; refine (slices_Reverse_byte_byte.calls (l0.length + 1) (fun _ => True) _ l0 l0.reverse w _ HB.out HO.out HREV.out).mono ?_; rintro e w2 ⟨rfl, ho2, hb2, _⟩; clear HB HO; have HO2 := Aside0.mk (Kd.R_mono (ok' := fun _ => True) ho2 (fun _ _ => trivial)); have HB2 := Aside0.mk hb2; clear ho2 hb2))
  go_loopw [12] (fun v12 wr => ∃ (k : Nat), v12 = .int .i64 (k : Int) ∧ k ≤ l0.length ∧ Aside0 (Kd.R (Kd.int .u8) 5 wr w.heap.size (fun _ => True) (.slice A1 l0.length c1) (turnAt l0.reverse k)) ∧ Aside0 (Below w.heap.size w wr)) (fun v12 _ => l0.length - (intOf v12).toNat)
  case atStart => exact ⟨0, rfl, Nat.zero_le _, ⟨by simpa [turnAt] using HO2.out⟩, HB2⟩
  case round =>
    obtain ⟨k, rfl, hk, HO, HB⟩ := hrel
    clear HO2 HB2
    by_cases hlt : k < l0.length
    · have hlr : k < l0.reverse.length := by simpa using hlt
      have ho := Kd.own_of_R HO.out
      rw [turnAt_len, List.length_reverse] at ho
      obtain ⟨g, cap, he, hg1, hg2⟩ := ho.form (by omega)
      injection he with he1 _ he3
      subst he1; subst he3
      obtain ⟨hcell, hfroz⟩ := own_at (k := .u8) ho (k : Int) (by omega) (by omega)
      rw [turnAt_rd _ _ hlr] at hcell
      have hst := own_store (k := .u8) ho (k : Int) (revOf (l0.reverse[k]))
      simp only [Int.toNat_natCast] at hcell hfroz hst
      rw [turnAt_set _ _ hlr] at hst
      have HS := Aside0.mk hst
      clear hst ho
      have hxk := HX.out (l0.reverse[k]) (List.mem_reverse.mp (List.getElem_mem hlr))
      obtain ⟨x, hxe⟩ : ∃ x, x = l0.reverse[k] := ⟨_, rfl⟩
      rw [← hxe] at hcell hxk HS
      have HRV := Aside0.mk (rev8_some x hxk.1 hxk.2)
      clear hxe hxk
      go_wp2_with (go_at_call 48; refine (bits_Reverse8.calls x (revOf x) _ HRV.out).mono ?_; rintro e w' ⟨rfl, ⟨nd, rfl⟩⟩)
      go_roundw
      case rel => exact ⟨k + 1, by push_cast; rfl, by omega, ⟨Kd.R_of_own (by rw [turnAt_len, List.length_reverse]; exact HS.out.1) (fun _ _ => trivial)⟩, ⟨(pw_below_drewN HB.out nd).setCell hg1 _⟩⟩
      case measure => simp [intOf]; omega
    · have : k = l0.length := by omega
      subst this
      go_wp2
      go_ret
      exact ⟨_, rfl, by have := HO.out; rw [show l0.length = l0.reverse.length from (List.length_reverse).symm, turnAt_full] at this; rw [List.length_reverse] at this; exact this, HB.out⟩


end Go.Proofs.Ythphelbkfgbejaa.Q
