-- (thinned for this claim by wip/tools/shake.py: what the claim doesn't use is left out)
-- Laid by this session's own program (wip/tools) out of the translation; Lean checks it.
import Derived.Test.YtooabchnbmnchaaQ0
namespace Go.Proofs.Ytooabchnbmnchaa.Q
open Go.RowKit Go.Proofs.YtooabchnbmnchaaW.PrintWords Go.Proofs.YtooabchnbmnchaaW.PrintLast Go.Proofs.YtooabchnbmnchaaW.PrintMore
attribute [local go_sem] max2_int min2_int max_two min_two max_three min_three max_four min_four binOp_string_leq binOp_string_geq binOp_string_gtr   -- for this text's walks alone
set_option linter.unusedVariables false
set_option linter.unusedSimpArgs false
def szk (l : List ByteArray) (a : Int) : Int := l.foldl (fun s k => wrap64 (s + wrap64 (1 + (k.size : Int)))) a
def szv (l : List ByteArray) (a : Int) : Int := l.foldl (fun s k => wrap64 (s + (k.size : Int))) a
theorem szk_snoc (l : List ByteArray) (a : Int) (x : ByteArray) : szk (l ++ [x]) a = wrap64 (szk l a + wrap64 (1 + (x.size : Int))) := by simp [szk, List.foldl_append]
theorem szv_snoc (l : List ByteArray) (a : Int) (x : ByteArray) : szv (l ++ [x]) a = wrap64 (szv l a + (x.size : Int)) := by simp [szv, List.foldl_append]
def node_Size.v (a : Bool) (l1 l2 : List ByteArray) (l3 : List Int) : Int := if a = true then szv (l2.take l1.length) (wrap64 (szk l1 2 + (l1.length : Int))) else wrap64 (szk l1 2 + wrap64 (4 * (l3.length : Int)))
def node_Size.f (a0_0 : Bool) (l0_1 l0_2 : List ByteArray) (l0_3 : List Int) : Option Int := some (node_Size.v a0_0 l0_1 l0_2 l0_3)
theorem rdOf_nat (l : List ByteArray) (k : Nat) (h : k < l.length) : rdOf ByteArray.empty l (k : Int) = l[k] := by
 unfold rdOf; rw [Int.toNat_natCast, List.getD_eq_getElem?_getD, List.getElem?_eq_getElem h]; rfl
set_option maxHeartbeats 4000000 in
set_option maxRecDepth 100000 in
theorem node_Size.calls (a0_0 : Bool) (A0_1 : Option Addr) (c0_1 : Nat) (l0_1 : List ByteArray) (A0_2 : Option Addr) (c0_2 : Nat) (l0_2 : List ByteArray) (A0_3 : Option Addr) (c0_3 : Nat) (l0_3 : List Int) (r : Int) (w : World) (hr0_1 : Kd.C Kd.string w A0_1 l0_1.length l0_1) (hc0_1 : l0_1.length ≤ c0_1)
  (hr0_2 : Kd.C Kd.string w A0_2 l0_2.length l0_2) (hc0_2 : l0_2.length ≤ c0_2) (hr0_3 : Kd.C (Kd.int .i64) w A0_3 l0_3.length l0_3) (hc0_3 : l0_3.length ≤ c0_3) (h : node_Size.f a0_0 l0_1 l0_2 l0_3 = some r) :
  Calls Try.prog 28 #[.agg #[.bool a0_0, .slice A0_1 l0_1.length c0_1, .slice A0_2 l0_2.length c0_2, .slice A0_3 l0_3.length c0_3]] w fun e w' => e = .returned (.int .i64 r) ∧ Below w.heap.size w w' := by
 unfold node_Size.f at h
 injection h with h
 have HV := Aside0.mk h
 clear h
 have hm1 := Kd.C_max hr0_1
 have hm2 := Kd.C_max hr0_2
 have HR1 := Aside0.mk (Kd.C_alloc hr0_1 (.cells #[.bool a0_0, .slice A0_1 l0_1.length c0_1, .slice A0_2 l0_2.length c0_2, .slice A0_3 l0_3.length c0_3] 31))
 have HR2 := Aside0.mk (Kd.C_alloc hr0_2 (.cells #[.bool a0_0, .slice A0_1 l0_1.length c0_1, .slice A0_2 l0_2.length c0_2, .slice A0_3 l0_3.length c0_3] 31))
 have HB := Aside0.mk (below_alloc (Below.refl w.heap.size w) (.cells #[.bool a0_0, .slice A0_1 l0_1.length c0_1, .slice A0_2 l0_2.length c0_2, .slice A0_3 l0_3.length c0_3] 31))
 have hinfo : (Try.prog.info? 9).map (fun i => (i.zero, i.size, i.bytes)) = some (some (.string ByteArray.empty), 1, 16) := by kernel_rfl
 obtain ⟨i0, hi, _, hsz, _⟩ := info_parts hinfo
 -- the cut of the values
 obtain ⟨m, hm⟩ : ∃ m : Nat, m = min l0_2.length l0_1.length := ⟨_, rfl⟩
 obtain ⟨hcut, hA2, hC2⟩ := print_take_of (P := Try.prog) Value.string (⟨#[]⟩ : ByteArray) 22 9 .i64 Try.underlying22 hi hsz A0_2 c0_2 l0_2 (m : Int) (by omega) (by omega) hc0_2
 have HRT := Aside0.mk (Kd.C_of_reads (h1 := fun _ => rfl) (hA2 _ (Kd.reads_of_C HR2.out)))
 rw [Int.toNat_natCast] at hcut HRT
 have htl : (l0_2.take m).length = m := by rw [List.length_take]; omega
 rw [htl] at hcut
 have htk : l0_2.take l0_1.length = l0_2.take m := by
  by_cases h : l0_1.length ≤ l0_2.length
  ·rw [show m = l0_1.length by omega]
  ·rw [show m = l0_2.length by omega, List.take_of_length_le (by omega), List.take_of_length_le (by omega)]
 have HTK := Aside0.mk htk
 have HTL := Aside0.mk htl
 have hml : m ≤ l0_2.length := by omega
 have hmin : (if (l0_1.length : Int) < (l0_2.length : Int) then (l0_1.length : Int) else (l0_2.length : Int)) = (m : Int) := by split <;> omega
 have hmin' : (if l0_1.length < l0_2.length then (l0_1.length : Int) else (l0_2.length : Int)) = (m : Int) := by split <;> omega
 clear hr0_1 hr0_2 hr0_3 hc0_1 hc0_2 hc0_3 hinfo hi hsz hA2 hC2 hm htk htl
 cases a0_0 with
 | false =>
  clear hcut hmin hmin'
  go_enter Try.func28, Try.ntmps28
  go_wp2
  go_loop [3, 11] (fun s i => ∃ k : Nat, k ≤ l0_1.length ∧ i = .int .i64 k ∧ s = .int .i64 (szk (l0_1.take k) 2)) (fun _ i => l0_1.length - (intOf i).toNat)
  case atStart => exact ⟨0, Nat.zero_le _, rfl, rfl⟩
  case round =>
   obtain ⟨k, hk, rfl, rfl⟩ := hrel
   by_cases hlt : k < l0_1.length
   ·obtain ⟨ad, rfl, hcell⟩ := Kd.at_string HR1.out (k : Int) (by omega) (by omega)
    rw [rdOf_nat l0_1 k hlt, Int.toNat_natCast] at hcell
    have HS := Aside0.mk (show szk (l0_1.take (k + 1)) 2 = wrap64 (szk (l0_1.take k) 2 + wrap64 (1 + (l0_1[k].size : Int))) by rw [List.take_succ_eq_append_getElem hlt, szk_snoc])
    go_wp2
    go_round
    case rel => exact ⟨k + 1, by omega, by go_num, by rw [HS.out]⟩
    case measure => simp [intOf]; omega
   ·go_wp2
    go_ret
    refine ⟨?_, HB.out⟩
    rw [← HV.out]
    unfold node_Size.v
    rw [if_neg (by decide), show szk (l0_1.take k) 2 = szk l0_1 2 by rw [List.take_of_length_le (by omega)]]
    rfl
 | true =>
  go_enter Try.func28, Try.ntmps28
  go_wp2
  go_loop [3, 11] (fun s i => ∃ k : Nat, k ≤ l0_1.length ∧ i = .int .i64 k ∧ s = .int .i64 (szk (l0_1.take k) 2)) (fun _ i => l0_1.length - (intOf i).toNat)
  case atStart => exact ⟨0, Nat.zero_le _, rfl, rfl⟩
  case round =>
   obtain ⟨k, hk, rfl, rfl⟩ := hrel
   by_cases hlt : k < l0_1.length
   ·clear hcut hmin hmin'
    obtain ⟨ad, rfl, hcell⟩ := Kd.at_string HR1.out (k : Int) (by omega) (by omega)
    rw [rdOf_nat l0_1 k hlt, Int.toNat_natCast] at hcell
    have HS := Aside0.mk (show szk (l0_1.take (k + 1)) 2 = wrap64 (szk (l0_1.take k) 2 + wrap64 (1 + (l0_1[k].size : Int))) by rw [List.take_succ_eq_append_getElem hlt, szk_snoc])
    go_wp2
    go_round
    case rel => exact ⟨k + 1, by omega, by go_num, by rw [HS.out]⟩
    case measure => simp [intOf]; omega
   ·have HK := Aside0.mk (show szk (l0_1.take k) 2 = szk l0_1 2 by rw [List.take_of_length_le (by omega)])
    go_wp2
    go_loop [3, 46] (fun s i => ∃ j : Nat, j ≤ m ∧ i = .int .i64 j ∧ s = .int .i64 (szv (l0_2.take j) (wrap64 (szk l0_1 2 + (l0_1.length : Int))))) (fun _ i => m - (intOf i).toNat)
    case atStart => exact ⟨0, Nat.zero_le _, rfl, by rw [← HK.out]; rfl⟩
    case round =>
     obtain ⟨j, hj, rfl, rfl⟩ := hrel
     clear hcut hmin hmin'
     by_cases hjl : j < m
     ·have hj2 : j < l0_2.length := by omega
      obtain ⟨ad, rfl, hcell⟩ := Kd.at_string HR2.out (j : Int) (by omega) (by omega)
      rw [rdOf_nat l0_2 j hj2, Int.toNat_natCast] at hcell
      have HS := Aside0.mk (show ∀ z, szv (l0_2.take (j + 1)) z = wrap64 (szv (l0_2.take j) z + (l0_2[j].size : Int)) from fun z => by rw [List.take_succ_eq_append_getElem hj2, szv_snoc])
      go_wp2
      go_round
      case rel => exact ⟨j + 1, by omega, by go_num, by rw [HS.out]⟩
      case measure => simp [intOf]; omega
     ·go_wp2
      go_ret
      refine ⟨?_, HB.out⟩
      rw [← HV.out]
      unfold node_Size.v
      rw [if_pos rfl, HTK.out, show j = m by omega]
      rfl
end Go.Proofs.Ytooabchnbmnchaa.Q
