-- (thinned for this claim by wip/tools/shake.py: what the claim doesn't use is left out)
/- The row of the law WalRecovers: for every input of bulk at most 1048576 it returns true, and each argument reads as it read before. Conditions: the bound on the bulk. -/
import Derived.Test.YtooabchnbmnchaaRows
import Derived.Test.YtooabchnbmnchaaOpz
import Derived.Test.YtooabchnbmnchaaPureWalRecovers
import Derived.Test.YtooabchnbmnchaaQ56
import Derived.WalkKit
import Derived.ProofKit
import Derived.OpenShut
import Derived.ShutString
import Derived.ChangeOld
import Derived.Below
import Derived.SizedLaws
import Derived.JoinedCond
import Derived.Test.YtooabchnbmnchaaWSized
namespace Go.Proofs.Ytooabchnbmnchaa.walRecovers
open Go.ChangeShapes Go.WideShapes Go.ChangeAt Go.RowKit Go.Proofs.Ytooabchnbmnchaa.Q Go.Proofs.YtooabchnbmnchaaW.PrintWords Go.Proofs.YtooabchnbmnchaaW.PrintLast
open Go.ChangeMaps (open_string shut_string)
set_option linter.unusedVariables false
theorem own : ownKnob Try.prog.godebug = none := by kernel_rfl
theorem laidOut : laidOutB Try.prog = true := by kernel_rfl
set_option maxRecDepth 100000 in
set_option maxHeartbeats 1000000 in
theorem contract (H : Type) (enc : TypeId × Value → H) (W : World) (base : Nat) (args : Array Value) (ds gs : List (DataW H)) (before : List MemPlace)
    (hval : ∀ (j : Nat) t v, Try.f11.params[j]? = some t → args[j]? = some v → Value.okWide Try.prog W .any base t v)
    (hW : DataW.Whole enc Try.prog Try.f11.params.toList Rows.walRecoversSpec.vars false W args.toList ds gs before) (hk : Rows.uptoSmall H (ds ++ gs) = true) :
    Calls Try.prog 11 args W fun e W' => ∃ v, e = .returned v ∧ Rows.walRecoversSpec.post enc Try.prog Try.f11 false true false false W args v W' := by
  have hW' := hW
  obtain ⟨p, q, hA0, hV, rfl, hfz, hnd⟩ := hW
  have hA : DataW.TrodAll enc Try.prog W 0 (fun _ => true) true Try.f11.params.toList args.toList ds p := hA0
  rw [Try.params11] at hA hval
  obtain ⟨v0, vs0, d0, ds0, p0, q0, hargs, rfl, rfl, h0, r0⟩ := trodAll_cons hA
  obtain ⟨rfl, rfl, rfl⟩ := trodAll_nil r0
  obtain rfl : args = #[v0] := by cases args; simp_all
  obtain ⟨rfl, rfl⟩ := trodVars_none hV
  have k0 := h0
  have lt0 : ∀ x ∈ p0, x.block < W.heap.size := by obtain ⟨m, hm⟩ := k0; exact DataW.trod_lt m _ _ _ hm
  obtain ⟨a0, len0, cap0, rfl⟩ := okWide_slice Try.underlying55 (hval 0 55 v0 rfl rfl)
  obtain ⟨l0, A0, c0, hr0, hc0, wf0, mu0, z0, e0⟩ : ∃ (l : List (S87)) (A : Option Addr) (c : Nat), Kd.C k87 W A l.length l ∧ l.length ≤ c ∧ (l.length ≤ maxLen ∧ ∀ x ∈ l, ((Lit.int .i64 x.f0).wf = true ∧ (x.f1.length ≤ maxLen ∧ ∀ y ∈ x.f1, (Lit.int .u8 y).wf = true))) ∧ (1 + (l.map (fun x => (1 + (1 + (1 + (x.f1.map (fun y => 1)).sum))))).sum) ≤ Rows.uptoBulk d0 ∧ ((∀ q ∈ DataW.weights Try.prog 55 d0, q ≤ reachBytes) → (l.length * 32 ≤ 140737488351232 ∧ ∀ x ∈ l, (True ∧ (x.f1.length * 1 ≤ 140737488351232 ∧ ∀ y ∈ x.f1, True)))) ∧ (Value.slice a0 len0 cap0 = Value.slice A l.length c) := by
    obtain ⟨fuel, hf⟩ := h0
    obtain ⟨l, ⟨A, c, hcs, hlc, hC⟩, hwf, hmu, hz⟩ := (@Opz.slice _ ⟨z87⟩ _ _ _ _ _ _ _ _ (Opz.struct (OpzFs.cons (Opz.int Try.underlying3) rfl (by kernel_rfl) (OpzFs.one (@Opz.slice _ ⟨0⟩ _ _ _ _ _ _ _ _ (Opz.int Try.underlying5) Try.underlying26 (by kernel_rfl) (by kernel_rfl : _ = 1)) rfl (by kernel_rfl))) Try.underlying87 (fun x : S87 => (x.f0, x.f1)) (fun a => ⟨a.1, a.2⟩) (fun _ => rfl)) Try.underlying55 (by kernel_rfl) (by kernel_rfl : _ = 32)).op hf
    exact ⟨l, A, c, hC, hlc, hwf, hmu, hz, by simpa [Value.cells] using hcs⟩
  injection e0 with e0_1 e0_2 e0_3
  subst e0_1 e0_2 e0_3
  have hb : Rows.uptoBulkAll (d0 :: []) ≤ 1048576 := by
    have := of_decide_eq_true hk
    simpa using this
  simp only [Rows.uptoBulkAll, Rows.uptoBulk] at hb
  have hmu : (1 + (l0.map (fun x => (1 + (1 + (1 + (x.f1.map (fun y => 1)).sum))))).sum) ≤ 1048576 := by omega
  obtain ⟨k, h⟩ := Pure.WalRecovers l0 wf0 hmu
  refine (transeptlaw08_WalRecovers.calls k a0 cap0 l0 true W hr0 hc0 h).mono fun e W' ⟨he, bel⟩ => ?_
  subst he
  exact ⟨_, rfl, _, _, _, [], _, [], hW', trodAll_mk1 (shut_bool Try.underlying4 _), (trodAll_cons_mk (Below.trod laidOut (by kernel_rfl) (of_decide_eq_true (by kernel_rfl)) k0 bel lt0) trodAll_mk0), rfl, bel.frame _, fun h => by cases h⟩
set_option maxRecDepth 100000 in
theorem lifted (os : Os) (started : os.Started) (H : Type) (enc : TypeId × Value → H) (F : Stop.Interp) :
    ReturnsInHanded {} Try.checked os 11 .any ((Rows.OpenSpec.upto Rows.walRecoversSpec).pre6 enc Try.prog Try.f11 Rows.walRecoversUptoRow.domain false) (((Rows.OpenSpec.upto Rows.walRecoversSpec).at F).post enc Try.prog Try.f11 false true false false) := by
  refine returnsInHanded_of_cond (C := Try.checked) (s := Rows.OpenSpec.upto Rows.walRecoversSpec) (k := Rows.uptoSmall) rfl own started (by kernel_rfl) Try.func11
    (OpenSpec.witness (enc := enc) (C := Try.checked) (s := Rows.OpenSpec.upto Rows.walRecoversSpec) (k := Rows.uptoSmall) rfl false ⟨#[], #[.slice none 0 0], []⟩ 8 (by kernel_rfl) (by kernel_rfl) (by kernel_rfl)
      (x := ([.nil], [], [])) (by kernel_rfl) rfl (by kernel_rfl)) ?_
  intro W base args ds gs before hval hW _ hk _
  exact contract H enc W base args ds gs before hval hW hk
theorem proved : Rows.WalRecoversUptoSaid :=
  OpenClaim.holds_of_cond 11 Try.f11 rfl rfl rfl rfl rfl rfl rfl ⟨rfl, rfl, rfl, rfl, rfl⟩ rfl rfl rfl rfl rfl (by kernel_rfl) Try.func11 (by kernel_rfl)
    (of_decide_eq_true (by kernel_rfl)) (by unfold Func.isWrapper; first | (rw [if_pos (by decide +kernel)]; kernel_rfl) | (rw [if_neg (by decide +kernel)]; exact ⟨rfl, rfl⟩))
    (fun os started H enc _ F => lifted os started H enc F)
#print axioms proved
end Go.Proofs.Ytooabchnbmnchaa.walRecovers
namespace Go.Proofs.Ytooabchnbmnchaa
theorem walRecovers_holds : Rows.WalRecoversUptoSaid := walRecovers.proved
end Go.Proofs.Ytooabchnbmnchaa
