-- (thinned for this claim by wip/tools/shake.py: what the claim doesn't use is left out)
/- The row of the law NodeFinds: for every input it returns true, and each argument reads as it read before. Conditions: none. -/
import Derived.Test.YtooabchnbmnchaaRows
import Derived.Test.YtooabchnbmnchaaOpz
import Derived.Test.YtooabchnbmnchaaPureNodeFinds
import Derived.Test.YtooabchnbmnchaaQ43
import Derived.WalkKit
import Derived.ProofKit
import Derived.OpenShut
import Derived.ShutString
import Derived.ChangeOld
import Derived.Below
import Derived.SizedLaws
import Derived.JoinedCond
import Derived.Test.YtooabchnbmnchaaWSized
namespace Go.Proofs.Ytooabchnbmnchaa.nodeFinds
open Go.ChangeShapes Go.WideShapes Go.ChangeAt Go.RowKit Go.Proofs.Ytooabchnbmnchaa.Q Go.Proofs.YtooabchnbmnchaaW.PrintWords Go.Proofs.YtooabchnbmnchaaW.PrintLast
open Go.ChangeMaps (open_string shut_string)
set_option linter.unusedVariables false
theorem own : ownKnob Try.prog.godebug = none := by kernel_rfl
theorem laidOut : laidOutB Try.prog = true := by kernel_rfl
set_option maxRecDepth 100000 in
set_option maxHeartbeats 1000000 in
theorem contract (H : Type) (enc : TypeId × Value → H) (W : World) (base : Nat) (args : Array Value) (ds gs : List (DataW H)) (before : List MemPlace)
    (hval : ∀ (j : Nat) t v, Try.f7.params[j]? = some t → args[j]? = some v → Value.okWide Try.prog W .any base t v)
    (hW : DataW.Whole enc Try.prog Try.f7.params.toList Rows.nodeFindsSpec.vars false W args.toList ds gs before) (hsz : (DataW.weightsEach Try.prog (Try.f7.params.toList ++ Rows.nodeFindsSpec.plain.varTypes Try.prog) (ds ++ gs)).all (· ≤ reachBytes) = true) :
    Calls Try.prog 7 args W fun e W' => ∃ v, e = .returned v ∧ Rows.nodeFindsSpec.post enc Try.prog Try.f7 false true false false W args v W' := by
  have hW' := hW
  obtain ⟨p, q, hA0, hV, rfl, hfz, hnd⟩ := hW
  have hA : DataW.TrodAll enc Try.prog W 0 (fun _ => true) true Try.f7.params.toList args.toList ds p := hA0
  rw [Try.params7] at hA hval hsz
  obtain ⟨v0, vs0, d0, ds0, p0, q0, hargs, rfl, rfl, h0, r0⟩ := trodAll_cons hA
  obtain ⟨v1, vs1, d1, ds1, p1, q1, rfl, rfl, rfl, h1, r1⟩ := trodAll_cons r0
  obtain ⟨rfl, rfl, rfl⟩ := trodAll_nil r1
  obtain rfl : args = #[v0, v1] := by cases args; simp_all
  obtain ⟨rfl, rfl⟩ := trodVars_none hV
  have k0 := h0
  have lt0 : ∀ x ∈ p0, x.block < W.heap.size := by obtain ⟨m, hm⟩ := k0; exact DataW.trod_lt m _ _ _ hm
  obtain ⟨ag0, rfl, _⟩ := okWide_struct Try.underlying25 (hval 0 25 v0 rfl rfl)
  obtain ⟨a0_0, l0_1, A0_1, c0_1, l0_2, A0_2, c0_2, l0_3, A0_3, c0_3, hr0_1, hc0_1, hr0_2, hc0_2, hr0_3, hc0_3, wf0, mu0, z0, e0⟩ : ∃ (a0_0 : Bool) (l0_1 : List (ByteArray)) (A0_1 : Option Addr) (c0_1 : Nat) (l0_2 : List (ByteArray)) (A0_2 : Option Addr) (c0_2 : Nat) (l0_3 : List (Int)) (A0_3 : Option Addr) (c0_3 : Nat), Kd.C Kd.string W A0_1 l0_1.length l0_1 ∧ l0_1.length ≤ c0_1 ∧ Kd.C Kd.string W A0_2 l0_2.length l0_2 ∧ l0_2.length ≤ c0_2 ∧ Kd.C (Kd.int .i64) W A0_3 l0_3.length l0_3 ∧ l0_3.length ≤ c0_3 ∧ (True ∧ (l0_1.length ≤ maxLen ∧ ∀ x ∈ l0_1, x.size ≤ maxLen) ∧ (l0_2.length ≤ maxLen ∧ ∀ x ∈ l0_2, x.size ≤ maxLen) ∧ (l0_3.length ≤ maxLen ∧ ∀ x ∈ l0_3, (Lit.int .i64 x).wf = true)) ∧ (1 + (1 + ((1 + (l0_1.map (fun x => (x.size + 1))).sum) + ((1 + (l0_2.map (fun x => (x.size + 1))).sum) + (1 + (l0_3.map (fun x => 1)).sum))))) ≤ Rows.uptoBulk d0 ∧ ((∀ q ∈ DataW.weights Try.prog 25 d0, q ≤ reachBytes) → (True ∧ (l0_1.length * 16 ≤ 140737488351232 ∧ ∀ x ∈ l0_1, x.size ≤ 140737488351232) ∧ (l0_2.length * 16 ≤ 140737488351232 ∧ ∀ x ∈ l0_2, x.size ≤ 140737488351232) ∧ (l0_3.length * 8 ≤ 140737488351232 ∧ ∀ x ∈ l0_3, True))) ∧ (Value.agg ag0 = Value.agg #[.bool a0_0, .slice A0_1 l0_1.length c0_1, .slice A0_2 l0_2.length c0_2, .slice A0_3 l0_3.length c0_3]) := by
    obtain ⟨fuel, hf⟩ := h0
    obtain ⟨x, hK, hwf, hmu, hz⟩ := (Opz.struct (OpzFs.cons (Opz.bool Try.underlying4) rfl (by kernel_rfl) (OpzFs.cons (@Opz.slice _ ⟨ByteArray.empty⟩ _ _ _ _ _ _ _ _ (Opz.string Try.underlying9) Try.underlying22 (by kernel_rfl) (by kernel_rfl : _ = 16)) rfl (by kernel_rfl) (OpzFs.cons (@Opz.slice _ ⟨ByteArray.empty⟩ _ _ _ _ _ _ _ _ (Opz.string Try.underlying9) Try.underlying22 (by kernel_rfl) (by kernel_rfl : _ = 16)) rfl (by kernel_rfl) (OpzFs.one (@Opz.slice _ ⟨0⟩ _ _ _ _ _ _ _ _ (Opz.int Try.underlying3) Try.underlying23 (by kernel_rfl) (by kernel_rfl : _ = 8)) rfl (by kernel_rfl))))) Try.underlying25 id id (fun _ => rfl)).op hf
    obtain ⟨_, _, hq0, rfl, ⟨_, _, hq1, ⟨A0_1, c0_1, rfl, g0_1, G0_1⟩, ⟨_, _, hq2, ⟨A0_2, c0_2, rfl, g0_2, G0_2⟩, ⟨A0_3, c0_3, rfl, g0_3, G0_3⟩⟩⟩⟩ := hK
    subst hq2 hq1
    refine ⟨x.1, _, A0_1, c0_1, _, A0_2, c0_2, _, A0_3, c0_3, G0_1, g0_1, G0_2, g0_2, G0_3, g0_3, hwf, hmu, hz, ?_⟩
    have hh : ag0.toList = _ := hq0
    congr 1
    exact Array.toList_inj.mp (by simpa using hh)
  injection e0 with e0
  subst e0
  have Z0 := z0 (weights_each hsz (j := 0) (t := 25) (d := d0) rfl rfl)
  obtain ⟨a1, rfl, rfl, rfl, y1⟩ := open_string Try.underlying9 (hval 1 9 v1 rfl rfl) h1
  have w1 : a1.size ≤ 140737488351232 := by
    have z := sized_string hsz (j := 1) (t := 9) rfl rfl
    rw [Array.length_toList] at z
    exact z
  obtain ⟨k, h⟩ := Pure.NodeFinds a0_0 l0_1 l0_2 l0_3 a1 wf0 y1 Z0 w1
  refine (transeptlaw09_NodeFinds.calls k a0_0 A0_1 c0_1 l0_1 A0_2 c0_2 l0_2 A0_3 c0_3 l0_3 a1 true W hr0_1 hc0_1 hr0_2 hc0_2 hr0_3 hc0_3 h).mono fun e W' ⟨he, bel⟩ => ?_
  subst he
  exact ⟨_, rfl, _, _, _, [], _, [], hW', trodAll_mk1 (shut_bool Try.underlying4 _), (trodAll_cons_mk (Below.trod laidOut (by kernel_rfl) (of_decide_eq_true (by kernel_rfl)) k0 bel lt0) (trodAll_cons_mk (shut_string Try.underlying9 y1) trodAll_mk0)), rfl, bel.frame _, fun h => by cases h⟩
set_option maxRecDepth 100000 in
theorem lifted (os : Os) (started : os.Started) (H : Type) (enc : TypeId × Value → H) :
    ReturnsInHanded {} Try.checked os 7 .any (Rows.nodeFindsSpec.pre6 enc Try.prog Try.f7 Rows.nodeFindsRow.domain false) (Rows.nodeFindsSpec.post enc Try.prog Try.f7 false true false false) := by
  refine returnsInHanded_of_change_sized (C := Try.checked) own started (by kernel_rfl) Try.func7
    (ChangeSpec.witness6 (enc := enc) (C := Try.checked) false ⟨#[], #[.agg #[.bool false, .slice none 0 0, .slice none 0 0, .slice none 0 0], .string ByteArray.empty], []⟩ 8 (by kernel_rfl) (by kernel_rfl) (by kernel_rfl) (by kernel_rfl)) ?_
  intro W base args ds gs before hval hW hcnd hsz _
  exact contract H enc W base args ds gs before hval hW hsz
theorem proved : Rows.NodeFindsSaid :=
  OpenClaim.holds_of_wide 7 Try.f7 rfl rfl rfl rfl rfl rfl rfl ⟨rfl, rfl, rfl, rfl, rfl⟩ rfl rfl rfl rfl rfl (by kernel_rfl) Try.func7 (by kernel_rfl)
    (of_decide_eq_true (by kernel_rfl)) (by unfold Func.isWrapper; first | (rw [if_pos (by decide +kernel)]; kernel_rfl) | (rw [if_neg (by decide +kernel)]; exact ⟨rfl, rfl⟩))
    (fun os started H enc _ => lifted os started H enc)
#print axioms proved
end Go.Proofs.Ytooabchnbmnchaa.nodeFinds
namespace Go.Proofs.Ytooabchnbmnchaa
theorem nodeFinds_holds : Rows.NodeFindsSaid := nodeFinds.proved
end Go.Proofs.Ytooabchnbmnchaa
