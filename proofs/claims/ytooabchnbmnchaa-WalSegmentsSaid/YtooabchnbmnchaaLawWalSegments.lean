-- (thinned for this claim by wip/tools/shake.py: what the claim doesn't use is left out)
/- The row of the law WalSegments: for every input it returns true, and each argument reads as it read before. Conditions: none. -/
import Derived.Test.YtooabchnbmnchaaRows
import Derived.Test.YtooabchnbmnchaaOpz
import Derived.Test.YtooabchnbmnchaaPureWalSegments
import Derived.WalkKit
import Derived.ProofKit
import Derived.OpenShut
import Derived.ShutString
import Derived.ChangeOld
import Derived.Below
import Derived.SizedLaws
import Derived.JoinedCond
import Derived.Test.YtooabchnbmnchaaWSized
namespace Go.Proofs.Ytooabchnbmnchaa.walSegments
open Go.ChangeShapes Go.WideShapes Go.ChangeAt Go.RowKit Go.Proofs.Ytooabchnbmnchaa.Q Go.Proofs.YtooabchnbmnchaaW.PrintWords Go.Proofs.YtooabchnbmnchaaW.PrintLast
open Go.ChangeMaps (open_string shut_string)
set_option linter.unusedVariables false
theorem own : ownKnob Try.prog.godebug = none := by kernel_rfl
theorem laidOut : laidOutB Try.prog = true := by kernel_rfl
set_option maxRecDepth 100000 in
set_option maxHeartbeats 1000000 in
theorem contract (H : Type) (enc : TypeId × Value → H) (W : World) (base : Nat) (args : Array Value) (ds gs : List (DataW H)) (before : List MemPlace)
    (hval : ∀ (j : Nat) t v, Try.f9.params[j]? = some t → args[j]? = some v → Value.okWide Try.prog W .any base t v)
    (hW : DataW.Whole enc Try.prog Try.f9.params.toList Rows.walSegmentsSpec.vars false W args.toList ds gs before) (hsz : (DataW.weightsEach Try.prog (Try.f9.params.toList ++ Rows.walSegmentsSpec.plain.varTypes Try.prog) (ds ++ gs)).all (· ≤ reachBytes) = true) :
    Calls Try.prog 9 args W fun e W' => ∃ v, e = .returned v ∧ Rows.walSegmentsSpec.post enc Try.prog Try.f9 false true false false W args v W' := by
  have hW' := hW
  obtain ⟨p, q, hA0, hV, rfl, hfz, hnd⟩ := hW
  have hA : DataW.TrodAll enc Try.prog W 0 (fun _ => true) true Try.f9.params.toList args.toList ds p := hA0
  rw [Try.params9] at hA hval hsz
  obtain ⟨v0, vs0, d0, ds0, p0, q0, hargs, rfl, rfl, h0, r0⟩ := trodAll_cons hA
  obtain ⟨v1, vs1, d1, ds1, p1, q1, rfl, rfl, rfl, h1, r1⟩ := trodAll_cons r0
  obtain ⟨rfl, rfl, rfl⟩ := trodAll_nil r1
  obtain rfl : args = #[v0, v1] := by cases args; simp_all
  obtain ⟨rfl, rfl⟩ := trodVars_none hV
  have k0 := h0
  have lt0 : ∀ x ∈ p0, x.block < W.heap.size := by obtain ⟨m, hm⟩ := k0; exact DataW.trod_lt m _ _ _ hm
  obtain ⟨a0, len0, cap0, rfl⟩ := okWide_slice Try.underlying73 (hval 0 73 v0 rfl rfl)
  obtain ⟨l0, A0, c0, hr0, hc0, wf0, mu0, z0, e0⟩ : ∃ (l : List (List (List (Int)))) (A : Option Addr) (c : Nat), Kd.C (Kd.slice 26 (Kd.slice 5 (Kd.int .u8))) W A l.length l ∧ l.length ≤ c ∧ (l.length ≤ maxLen ∧ ∀ x ∈ l, (x.length ≤ maxLen ∧ ∀ y ∈ x, (y.length ≤ maxLen ∧ ∀ z ∈ y, (Lit.int .u8 z).wf = true))) ∧ (1 + (l.map (fun x => (1 + (x.map (fun y => (1 + (y.map (fun z => 1)).sum))).sum))).sum) ≤ Rows.uptoBulk d0 ∧ ((∀ q ∈ DataW.weights Try.prog 73 d0, q ≤ reachBytes) → (l.length * 24 ≤ 140737488351232 ∧ ∀ x ∈ l, (x.length * 24 ≤ 140737488351232 ∧ ∀ y ∈ x, (y.length * 1 ≤ 140737488351232 ∧ ∀ z ∈ y, True)))) ∧ (Value.slice a0 len0 cap0 = Value.slice A l.length c) := by
    obtain ⟨fuel, hf⟩ := h0
    obtain ⟨l, ⟨A, c, hcs, hlc, hC⟩, hwf, hmu, hz⟩ := (@Opz.slice _ ⟨[]⟩ _ _ _ _ _ _ _ _ (@Opz.slice _ ⟨[]⟩ _ _ _ _ _ _ _ _ (@Opz.slice _ ⟨0⟩ _ _ _ _ _ _ _ _ (Opz.int Try.underlying5) Try.underlying26 (by kernel_rfl) (by kernel_rfl : _ = 1)) Try.underlying56 (by kernel_rfl) (by kernel_rfl : _ = 24)) Try.underlying73 (by kernel_rfl) (by kernel_rfl : _ = 24)).op hf
    exact ⟨l, A, c, hC, hlc, hwf, hmu, hz, by simpa [Value.cells] using hcs⟩
  injection e0 with e0_1 e0_2 e0_3
  subst e0_1 e0_2 e0_3
  have Z0 := z0 (weights_each hsz (j := 0) (t := 73) (d := d0) rfl rfl)
  obtain ⟨a1, rfl, rfl, rfl, w1⟩ := open_int Try.underlying3 (hval 1 3 v1 rfl rfl) h1
  refine (Pure.WalSegments W a0 cap0 l0 a1 hr0 hc0 wf0 w1 Z0).mono fun e W' ⟨he, bel⟩ => ?_
  subst he
  exact ⟨_, rfl, _, _, _, [], _, [], hW', trodAll_mk1 (shut_bool Try.underlying4 _), (trodAll_cons_mk (Below.trod laidOut (by kernel_rfl) (of_decide_eq_true (by kernel_rfl)) k0 bel lt0) (trodAll_cons_mk (shut_int Try.underlying3 w1) trodAll_mk0)), rfl, bel.frame _, fun h => by cases h⟩
set_option maxRecDepth 100000 in
theorem lifted (os : Os) (started : os.Started) (H : Type) (enc : TypeId × Value → H) :
    ReturnsInHanded {} Try.checked os 9 .any (Rows.walSegmentsSpec.pre6 enc Try.prog Try.f9 Rows.walSegmentsRow.domain false) (Rows.walSegmentsSpec.post enc Try.prog Try.f9 false true false false) := by
  refine returnsInHanded_of_change_sized (C := Try.checked) own started (by kernel_rfl) Try.func9
    (ChangeSpec.witness6 (enc := enc) (C := Try.checked) false ⟨#[], #[.slice none 0 0, .int .i64 0], []⟩ 8 (by kernel_rfl) (by kernel_rfl) (by kernel_rfl) (by kernel_rfl)) ?_
  intro W base args ds gs before hval hW hcnd hsz _
  exact contract H enc W base args ds gs before hval hW hsz
theorem proved : Rows.WalSegmentsSaid :=
  OpenClaim.holds_of_wide 9 Try.f9 rfl rfl rfl rfl rfl rfl rfl ⟨rfl, rfl, rfl, rfl, rfl⟩ rfl rfl rfl rfl rfl (by kernel_rfl) Try.func9 (by kernel_rfl)
    (of_decide_eq_true (by kernel_rfl)) (by unfold Func.isWrapper; first | (rw [if_pos (by decide +kernel)]; kernel_rfl) | (rw [if_neg (by decide +kernel)]; exact ⟨rfl, rfl⟩))
    (fun os started H enc _ => lifted os started H enc)
#print axioms proved
end Go.Proofs.Ytooabchnbmnchaa.walSegments
namespace Go.Proofs.Ytooabchnbmnchaa
theorem walSegments_holds : Rows.WalSegmentsSaid := walSegments.proved
end Go.Proofs.Ytooabchnbmnchaa
