/- The row of the law FramesTorn: for every input of bulk at most 1048576 it returns true, and each argument reads as it read before. Conditions: the bound on the bulk. -/
import Derived.Test.YthphelbkfgbejaaRows
import Derived.Test.YthphelbkfgbejaaOpz
import Derived.Test.YthphelbkfgbejaaPureFramesTorn
import Derived.Test.YthphelbkfgbejaaQ33
import Derived.WalkKit
import Derived.ProofKit
import Derived.OpenShut
import Derived.ShutString
import Derived.ChangeOld
import Derived.Below
import Derived.SizedLaws
import Derived.JoinedCond
import Derived.Test.YthphelbkfgbejaaWSized
namespace Go.Proofs.Ythphelbkfgbejaa.framesTorn
open Go.ChangeShapes Go.WideShapes Go.ChangeAt Go.RowKit Go.Proofs.Ythphelbkfgbejaa.Q Go.Proofs.YthphelbkfgbejaaW.PrintWords Go.Proofs.YthphelbkfgbejaaW.PrintLast
open Go.ChangeMaps (open_string shut_string)
set_option linter.unusedVariables false
theorem own : ownKnob Try.prog.godebug = none := by kernel_rfl
theorem laidOut : laidOutB Try.prog = true := by kernel_rfl
set_option maxHeartbeats 1000000 in
theorem contract (H : Type) (enc : TypeId × Value → H) (W : World) (base : Nat) (args : Array Value) (ds gs : List (DataW H)) (before : List MemPlace)
    (hval : ∀ (j : Nat) t v, Try.f13.params[j]? = some t → args[j]? = some v → Value.okWide Try.prog W .any base t v)
    (hW : DataW.Whole enc Try.prog Try.f13.params.toList Rows.framesTornSpec.vars false W args.toList ds gs before) (hk : Rows.uptoSmall H (ds ++ gs) = true) :
    Calls Try.prog 13 args W fun e W' => ∃ v, e = .returned v ∧ Rows.framesTornSpec.post enc Try.prog Try.f13 false true false false W args v W' := by
  have hW' := hW
  obtain ⟨p, q, hA0, hV, rfl, hfz, hnd⟩ := hW
  have hA : DataW.TrodAll enc Try.prog W 0 (fun _ => true) true Try.f13.params.toList args.toList ds p := hA0
  rw [Try.params13] at hA hval
  obtain ⟨v0, vs0, d0, ds0, p0, q0, hargs, rfl, rfl, h0, r0⟩ := trodAll_cons hA
  obtain ⟨v1, vs1, d1, ds1, p1, q1, rfl, rfl, rfl, h1, r1⟩ := trodAll_cons r0
  obtain ⟨rfl, rfl, rfl⟩ := trodAll_nil r1
  obtain rfl : args = #[v0, v1] := by cases args; simp_all
  obtain ⟨rfl, rfl⟩ := trodVars_none hV
  have k0 := h0
  have lt0 : ∀ x ∈ p0, x.block < W.heap.size := by obtain ⟨m, hm⟩ := k0; exact DataW.trod_lt m _ _ _ hm
  obtain ⟨a0, len0, cap0, rfl⟩ := okWide_slice Try.underlying70 (hval 0 70 v0 rfl rfl)
  obtain ⟨l0, A0, c0, hr0, hc0, wf0, mu0, z0, e0⟩ : ∃ (l : List (S56)) (A : Option Addr) (c : Nat), Kd.C k56 W A l.length l ∧ l.length ≤ c ∧ (l.length ≤ maxLen ∧ ∀ x ∈ l, ((Lit.int .u8 x.f0).wf = true ∧ (x.f1.length ≤ maxLen ∧ ∀ y ∈ x.f1, (Lit.int .u8 y).wf = true))) ∧ (1 + (l.map (fun x => (1 + (1 + (1 + (x.f1.map (fun y => 1)).sum))))).sum) ≤ Rows.uptoBulk d0 ∧ ((∀ q ∈ DataW.weights Try.prog 70 d0, q ≤ reachBytes) → (l.length * 32 ≤ 140737488351232 ∧ ∀ x ∈ l, (True ∧ (x.f1.length * 1 ≤ 140737488351232 ∧ ∀ y ∈ x.f1, True)))) ∧ (Value.slice a0 len0 cap0 = Value.slice A l.length c) := by
    obtain ⟨fuel, hf⟩ := h0
    obtain ⟨l, ⟨A, c, hcs, hlc, hC⟩, hwf, hmu, hz⟩ := (@Opz.slice _ ⟨z56⟩ _ _ _ _ _ _ _ _ (Opz.struct (OpzFs.cons (Opz.int Try.underlying5) rfl (by kernel_rfl) (OpzFs.one (@Opz.slice _ ⟨0⟩ _ _ _ _ _ _ _ _ (Opz.int Try.underlying5) Try.underlying22 (by kernel_rfl) (by kernel_rfl : _ = 1)) rfl (by kernel_rfl))) Try.underlying56 (fun x : S56 => (x.f0, x.f1)) (fun a => ⟨a.1, a.2⟩) (fun _ => rfl)) Try.underlying70 (by kernel_rfl) (by kernel_rfl : _ = 32)).op hf
    exact ⟨l, A, c, hC, hlc, hwf, hmu, hz, by simpa [Value.cells] using hcs⟩
  injection e0 with e0_1 e0_2 e0_3
  subst e0_1 e0_2 e0_3
  obtain ⟨a1, rfl, rfl, rfl, w1⟩ := open_int Try.underlying3 (hval 1 3 v1 rfl rfl) h1
  have hb : Rows.uptoBulkAll (d0 :: (DataW.lit (H := H) (.int .i64 a1)) :: []) ≤ 1048576 := by
    have := of_decide_eq_true hk
    simpa using this
  simp only [Rows.uptoBulkAll, Rows.uptoBulk] at hb
  have hmu : (1 + (l0.map (fun x => (1 + (1 + (1 + (x.f1.map (fun y => 1)).sum))))).sum) + 1 ≤ 1048576 := by omega
  obtain ⟨k, h⟩ := Pure.FramesTorn l0 a1 wf0 w1 hmu
  refine (transeptlaw03_FramesTorn.calls k a0 cap0 l0 a1 true W hr0 hc0 h).mono fun e W' ⟨he, bel⟩ => ?_
  subst he
  exact ⟨_, rfl, _, _, _, [], _, [], hW', trodAll_mk1 (shut_bool Try.underlying4 _), (trodAll_cons_mk (Below.trod laidOut (by kernel_rfl) (of_decide_eq_true (by kernel_rfl)) k0 bel lt0) (trodAll_cons_mk (shut_int Try.underlying3 w1) trodAll_mk0)), rfl, bel.frame _, fun h => by cases h⟩
set_option maxRecDepth 100000 in
theorem lifted (os : Os) (started : os.Started) (H : Type) (enc : TypeId × Value → H) (F : Stop.Interp) :
    ReturnsInHanded {} Try.checked os 13 .any ((Rows.OpenSpec.upto Rows.framesTornSpec).pre6 enc Try.prog Try.f13 Rows.framesTornUptoRow.domain false) (((Rows.OpenSpec.upto Rows.framesTornSpec).at F).post enc Try.prog Try.f13 false true false false) := by
  refine returnsInHanded_of_cond (C := Try.checked) (s := Rows.OpenSpec.upto Rows.framesTornSpec) (k := Rows.uptoSmall) rfl own started (by kernel_rfl) Try.func13
    (OpenSpec.witness (enc := enc) (C := Try.checked) (s := Rows.OpenSpec.upto Rows.framesTornSpec) (k := Rows.uptoSmall) rfl false ⟨#[], #[.slice none 0 0, .int .i64 0], []⟩ 8 (by kernel_rfl) (by kernel_rfl) (by kernel_rfl)
      (x := ([.nil, .lit (.int .i64 0)], [], [])) (by kernel_rfl) rfl (by kernel_rfl)) ?_
  intro W base args ds gs before hval hW _ hk _
  exact contract H enc W base args ds gs before hval hW hk
theorem proved : Rows.FramesTornUptoSaid :=
  OpenClaim.holds_of_cond 13 Try.f13 rfl rfl rfl rfl rfl rfl rfl ⟨rfl, rfl, rfl, rfl, rfl⟩ rfl rfl rfl rfl rfl (by kernel_rfl) Try.func13 (by kernel_rfl)
    (of_decide_eq_true (by kernel_rfl)) (by unfold Func.isWrapper; first | (rw [if_pos (by decide +kernel)]; kernel_rfl) | (rw [if_neg (by decide +kernel)]; exact ⟨rfl, rfl⟩))
    (fun os started H enc _ F => lifted os started H enc F)
#print axioms proved
end Go.Proofs.Ythphelbkfgbejaa.framesTorn
namespace Go.Proofs.Ythphelbkfgbejaa
/-- The row, under a short name, for the claim. -/
theorem framesTorn_holds : Rows.FramesTornUptoSaid := framesTorn.proved
end Go.Proofs.Ythphelbkfgbejaa
