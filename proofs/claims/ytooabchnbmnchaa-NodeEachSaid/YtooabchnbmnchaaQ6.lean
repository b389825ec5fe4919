-- (thinned for this claim by wip/tools/shake.py: what the claim doesn't use is left out)
-- Laid by this session's own program (wip/tools) out of the translation; Lean checks it.
import Derived.Test.YtooabchnbmnchaaQ0
namespace Go.Proofs.Ytooabchnbmnchaa.Q
open Go.RowKit Go.Proofs.YtooabchnbmnchaaW.PrintWords Go.Proofs.YtooabchnbmnchaaW.PrintLast Go.Proofs.YtooabchnbmnchaaW.PrintMore
attribute [local go_sem] max2_int min2_int max_two min_two max_three min_three max_four min_four binOp_string_leq binOp_string_geq binOp_string_gtr   -- for this text's walks alone
set_option linter.unusedVariables false
set_option linter.unusedSimpArgs false
def slices_ContainsFunc_int_int.Gives (g : Nat) (p : Int → Bool) : Prop := ∀ (v : Int) (W : World), Calls Try.prog g #[.int .i64 v] W fun e w' => e = .returned (.bool (p v)) ∧ Below W.heap.size W w'
def slices_ContainsFunc_int_int.p (g : Nat) : Option (Int → Bool) := if g = 60 then some (fun v => decide (v < 1 ∨ 65536 < v)) else none
def slices_ContainsFunc_int_int.f (l0 : List Int) (g : Nat) : Option Bool := (slices_ContainsFunc_int_int.p g).bind fun p => some (l0.any p)
theorem slices_ContainsFunc_int_int.gives_transeptnodeCheck2 : slices_ContainsFunc_int_int.Gives 60 (fun v => decide (v < 1 ∨ 65536 < v)) := by
 intro v W
 by_cases h1 : v < 1
 ·go_enter Try.func60, Try.ntmps60
  go_wp2
  go_ret
  exact ⟨by simp [h1], Below.refl _ _⟩
 ·by_cases h2 : v > 65536
  ·go_enter Try.func60, Try.ntmps60
   go_wp2
   go_ret
   exact ⟨by simp [h1, h2], Below.refl _ _⟩
  ·go_enter Try.func60, Try.ntmps60
   go_wp2
   go_ret
   exact ⟨by simp [h1, h2], Below.refl _ _⟩
theorem slices_ContainsFunc_int_int.gives {g : Nat} {p : Int → Bool} (h : slices_ContainsFunc_int_int.p g = some p) : slices_ContainsFunc_int_int.Gives g p ∧ (∀ args w, (callFunc g args).run Try.prog w = .ok (.enter g args) w) := by
 unfold slices_ContainsFunc_int_int.p at h
 by_cases c0 : g = 60
 ·rw [if_pos c0] at h; cases h; subst c0; exact ⟨slices_ContainsFunc_int_int.gives_transeptnodeCheck2, enters_of Try.func60 (by kernel_rfl) rfl⟩
 rw [if_neg c0] at h
 cases h
set_option maxHeartbeats 800000 in
theorem slices_ContainsFunc_int_int.idx {g : Nat} {p : Int → Bool} (hp : slices_ContainsFunc_int_int.Gives g p) (eg : ∀ args w, (callFunc g args).run Try.prog w = .ok (.enter g args) w) (A0 : Option Addr) (c0 : Nat) (l0 : List Int) (w : World) (hr0 : Kd.C (Kd.int .i64) w A0 l0.length l0) (hc0 : l0.length ≤ c0) :
  Calls Try.prog 85 #[.slice A0 l0.length c0, .func (.func g) #[] #[]] w fun e w' => ∃ i : Int, e = .returned (.int .i64 i) ∧ decide (0 ≤ i) = l0.any p ∧ Below w.heap.size w w' := by
 have hm := Kd.C_max hr0
 have HR0 := Aside0.mk hr0
 have HC0 := Aside0.mk hc0
 have HP := Aside0.mk hp
 clear hr0 hc0 hp
 go_enter Try.func85, Try.ntmps85
 go_wp2
 go_loopg [5, 8] l0.length (fun gg _ s8 wr => ∃ kk : Nat, kk ≤ l0.length ∧ l0.length - kk ≤ gg ∧ s8 = .int .i64 kk ∧ Aside0 (Below w.heap.size w wr) ∧ Aside0 ((l0.take kk).any p = false))
 case atStart => exact ⟨0, Nat.zero_le _, by omega, rfl, ⟨Below.refl _ w⟩, ⟨by simp⟩⟩
 case round =>
  obtain ⟨kk, hkk, hg, rfl, BW, A⟩ := hrel
  by_cases hlt : kk < l0.length
  ·have hltz : (kk : Int) < (l0.length : Int) := by omega
   obtain ⟨ad, rfl, hcell⟩ := Kd.at_int HR0.out (kk : Int) (by omega) hltz
   rw [rd_nat l0 kk hlt, Int.toNat_natCast] at hcell
   have hcell' := (BW.out.cell (World.block_lt_of_cell? w _ hcell)).trans hcell
   clear hcell
   have hcall := HP.out l0[kk] wr
   cases hq : p l0[kk] with
   | true =>
    rw [hq] at hcall
    have HQ := Aside0.mk hq
    clear hq
    go_wp2_with (go_at_fn g; refine hcall.mono ?_; rintro e w' ⟨rfl, hb'⟩)
    go_ret
    refine ⟨_, rfl, ?_, BW.out.trans (hb'.mono BW.out.size)⟩
    rw [decide_eq_true (by omega)]
    exact (List.any_eq_true.2 ⟨_, List.getElem_mem hlt, HQ.out⟩).symm
   | false =>
    rw [hq] at hcall
    have HQ := Aside0.mk hq
    clear hq
    go_wp2_with (go_at_fn g; refine hcall.mono ?_; rintro e w' ⟨rfl, hb'⟩)
    go_roundg (l0.length - (kk + 1))
    case measure => omega
    case rel =>
     refine ⟨kk + 1, by omega, by omega, by go_num, ⟨BW.out.trans (hb'.mono BW.out.size)⟩, ⟨?_⟩⟩
     rw [List.take_succ_eq_append_getElem hlt, List.any_append, A.out]
     simp [HQ.out]
  ·have hltz : ¬ (kk : Int) < (l0.length : Int) := by omega
   have : kk = l0.length := by omega
   subst this
   go_wp2
   go_ret
   refine ⟨_, rfl, ?_, BW.out⟩
   rw [List.take_length] at A
   rw [A.out]
   decide
set_option maxHeartbeats 800000 in
theorem slices_ContainsFunc_int_int.calls (A0 : Option Addr) (c0 : Nat) (l0 : List Int) (g : Nat) (r : Bool) (w : World) (hr0 : Kd.C (Kd.int .i64) w A0 l0.length l0) (hc0 : l0.length ≤ c0) (h : slices_ContainsFunc_int_int.f l0 g = some r) :
  Calls Try.prog 59 #[.slice A0 l0.length c0, .func (.func g) #[] #[]] w fun e w' => e = .returned (.bool r) ∧ Below w.heap.size w w' := by
 unfold slices_ContainsFunc_int_int.f at h
 obtain ⟨p, hp, h⟩ := Option.bind_eq_some_iff.1 h
 cases h
 obtain ⟨hg, eg⟩ := slices_ContainsFunc_int_int.gives hp
 have hcall := slices_ContainsFunc_int_int.idx hg eg A0 c0 l0 w hr0 hc0
 clear hr0 hc0 hp hg eg
 go_enter Try.func59, Try.ntmps59
 go_wp2_with (go_at_call 85; refine hcall.mono ?_; rintro e w' ⟨i, rfl, hi, hb⟩)
 go_ret
 exact ⟨rfl, hb⟩
end Go.Proofs.Ytooabchnbmnchaa.Q
