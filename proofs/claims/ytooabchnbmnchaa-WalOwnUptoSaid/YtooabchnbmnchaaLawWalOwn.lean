-- (thinned for this claim by wip/tools/shake.py: what the claim doesn't use is left out)
/- The row of the law WalOwn: for every input of bulk at most 1048576 it returns true, and each argument reads as it read before. Conditions: the bound on the bulk. -/
import Derived.Test.YtooabchnbmnchaaRows
import Derived.Test.YtooabchnbmnchaaOpz
import Derived.Test.YtooabchnbmnchaaPureWalOwn
import Derived.WalkKit
import Derived.ProofKit
import Derived.OpenShut
import Derived.ShutString
import Derived.ChangeOld
import Derived.Below
import Derived.SizedLaws
import Derived.JoinedCond
import Derived.Test.YtooabchnbmnchaaWSized
namespace Go.Proofs.Ytooabchnbmnchaa.walOwn
open Go.ChangeShapes Go.WideShapes Go.ChangeAt Go.RowKit Go.Proofs.Ytooabchnbmnchaa.Q Go.Proofs.YtooabchnbmnchaaW.PrintWords Go.Proofs.YtooabchnbmnchaaW.PrintLast
open Go.ChangeMaps (open_string shut_string)
set_option linter.unusedVariables false
theorem own : ownKnob Try.prog.godebug = none := by kernel_rfl
theorem laidOut : laidOutB Try.prog = true := by kernel_rfl
set_option maxRecDepth 100000 in
set_option maxHeartbeats 1000000 in
theorem contract (H : Type) (enc : TypeId × Value → H) (W : World) (base : Nat) (args : Array Value) (ds gs : List (DataW H)) (before : List MemPlace)
    (hval : ∀ (j : Nat) t v, Try.f8.params[j]? = some t → args[j]? = some v → Value.okWide Try.prog W .any base t v)
    (hW : DataW.Whole enc Try.prog Try.f8.params.toList Rows.walOwnSpec.vars false W args.toList ds gs before) (hk : Rows.uptoSmall H (ds ++ gs) = true) :
    Calls Try.prog 8 args W fun e W' => ∃ v, e = .returned v ∧ Rows.walOwnSpec.post enc Try.prog Try.f8 false true false false W args v W' := by
  have hW' := hW
  obtain ⟨p, q, hA0, hV, rfl, hfz, hnd⟩ := hW
  have hA : DataW.TrodAll enc Try.prog W 0 (fun _ => true) true Try.f8.params.toList args.toList ds p := hA0
  rw [Try.params8] at hA hval
  obtain ⟨v0, vs0, d0, ds0, p0, q0, hargs, rfl, rfl, h0, r0⟩ := trodAll_cons hA
  obtain ⟨v1, vs1, d1, ds1, p1, q1, rfl, rfl, rfl, h1, r1⟩ := trodAll_cons r0
  obtain ⟨rfl, rfl, rfl⟩ := trodAll_nil r1
  obtain rfl : args = #[v0, v1] := by cases args; simp_all
  obtain ⟨rfl, rfl⟩ := trodVars_none hV
  have k0 := h0
  have lt0 : ∀ x ∈ p0, x.block < W.heap.size := by obtain ⟨m, hm⟩ := k0; exact DataW.trod_lt m _ _ _ hm
  obtain ⟨ag0, rfl, _⟩ := okWide_struct Try.underlying58 (hval 0 58 v0 rfl rfl)
  obtain ⟨l0_0, A0_0, c0_0, a0_1, l0_2, A0_2, c0_2, hr0_0, hc0_0, hr0_2, hc0_2, wf0, mu0, z0, e0⟩ : ∃ (l0_0 : List (S87)) (A0_0 : Option Addr) (c0_0 : Nat) (a0_1 : Int) (l0_2 : List (List (Int))) (A0_2 : Option Addr) (c0_2 : Nat), Kd.C k87 W A0_0 l0_0.length l0_0 ∧ l0_0.length ≤ c0_0 ∧ Kd.C (Kd.slice 5 (Kd.int .u8)) W A0_2 l0_2.length l0_2 ∧ l0_2.length ≤ c0_2 ∧ ((l0_0.length ≤ maxLen ∧ ∀ x ∈ l0_0, ((Lit.int .i64 x.f0).wf = true ∧ (x.f1.length ≤ maxLen ∧ ∀ y ∈ x.f1, (Lit.int .u8 y).wf = true))) ∧ (Lit.int .i64 a0_1).wf = true ∧ (l0_2.length ≤ maxLen ∧ ∀ x ∈ l0_2, (x.length ≤ maxLen ∧ ∀ y ∈ x, (Lit.int .u8 y).wf = true))) ∧ (1 + ((1 + (l0_0.map (fun x => (1 + (1 + (1 + (x.f1.map (fun y => 1)).sum))))).sum) + (1 + (1 + (l0_2.map (fun x => (1 + (x.map (fun y => 1)).sum))).sum)))) ≤ Rows.uptoBulk d0 ∧ ((∀ q ∈ DataW.weights Try.prog 58 d0, q ≤ reachBytes) → ((l0_0.length * 32 ≤ 140737488351232 ∧ ∀ x ∈ l0_0, (True ∧ (x.f1.length * 1 ≤ 140737488351232 ∧ ∀ y ∈ x.f1, True))) ∧ True ∧ (l0_2.length * 24 ≤ 140737488351232 ∧ ∀ x ∈ l0_2, (x.length * 1 ≤ 140737488351232 ∧ ∀ y ∈ x, True)))) ∧ (Value.agg ag0 = Value.agg #[.slice A0_0 l0_0.length c0_0, .int .i64 a0_1, .slice A0_2 l0_2.length c0_2]) := by
    obtain ⟨fuel, hf⟩ := h0
    obtain ⟨x, hK, hwf, hmu, hz⟩ := (Opz.struct (OpzFs.cons (@Opz.slice _ ⟨z87⟩ _ _ _ _ _ _ _ _ (Opz.struct (OpzFs.cons (Opz.int Try.underlying3) rfl (by kernel_rfl) (OpzFs.one (@Opz.slice _ ⟨0⟩ _ _ _ _ _ _ _ _ (Opz.int Try.underlying5) Try.underlying26 (by kernel_rfl) (by kernel_rfl : _ = 1)) rfl (by kernel_rfl))) Try.underlying87 (fun x : S87 => (x.f0, x.f1)) (fun a => ⟨a.1, a.2⟩) (fun _ => rfl)) Try.underlying55 (by kernel_rfl) (by kernel_rfl : _ = 32)) rfl (by kernel_rfl) (OpzFs.cons (Opz.int Try.underlying3) rfl (by kernel_rfl) (OpzFs.one (@Opz.slice _ ⟨[]⟩ _ _ _ _ _ _ _ _ (@Opz.slice _ ⟨0⟩ _ _ _ _ _ _ _ _ (Opz.int Try.underlying5) Try.underlying26 (by kernel_rfl) (by kernel_rfl : _ = 1)) Try.underlying56 (by kernel_rfl) (by kernel_rfl : _ = 24)) rfl (by kernel_rfl)))) Try.underlying58 id id (fun _ => rfl)).op hf
    obtain ⟨_, _, hq0, ⟨A0_0, c0_0, rfl, g0_0, G0_0⟩, ⟨_, _, hq1, rfl, ⟨A0_2, c0_2, rfl, g0_2, G0_2⟩⟩⟩ := hK
    subst hq1
    refine ⟨_, A0_0, c0_0, x.2.1, _, A0_2, c0_2, G0_0, g0_0, G0_2, g0_2, hwf, hmu, hz, ?_⟩
    have hh : ag0.toList = _ := hq0
    congr 1
    exact Array.toList_inj.mp (by simpa using hh)
  injection e0 with e0
  subst e0
  have k1 := h1
  have lt1 : ∀ x ∈ p1, x.block < W.heap.size := by obtain ⟨m, hm⟩ := k1; exact DataW.trod_lt m _ _ _ hm
  obtain ⟨a1, len1, cap1, rfl⟩ := okWide_slice Try.underlying56 (hval 1 56 v1 rfl rfl)
  obtain ⟨l1, A1, c1, hr1, hc1, wf1, mu1, z1, e1⟩ : ∃ (l : List (List (Int))) (A : Option Addr) (c : Nat), Kd.C (Kd.slice 5 (Kd.int .u8)) W A l.length l ∧ l.length ≤ c ∧ (l.length ≤ maxLen ∧ ∀ x ∈ l, (x.length ≤ maxLen ∧ ∀ y ∈ x, (Lit.int .u8 y).wf = true)) ∧ (1 + (l.map (fun x => (1 + (x.map (fun y => 1)).sum))).sum) ≤ Rows.uptoBulk d1 ∧ ((∀ q ∈ DataW.weights Try.prog 56 d1, q ≤ reachBytes) → (l.length * 24 ≤ 140737488351232 ∧ ∀ x ∈ l, (x.length * 1 ≤ 140737488351232 ∧ ∀ y ∈ x, True))) ∧ (Value.slice a1 len1 cap1 = Value.slice A l.length c) := by
    obtain ⟨fuel, hf⟩ := h1
    obtain ⟨l, ⟨A, c, hcs, hlc, hC⟩, hwf, hmu, hz⟩ := (@Opz.slice _ ⟨[]⟩ _ _ _ _ _ _ _ _ (@Opz.slice _ ⟨0⟩ _ _ _ _ _ _ _ _ (Opz.int Try.underlying5) Try.underlying26 (by kernel_rfl) (by kernel_rfl : _ = 1)) Try.underlying56 (by kernel_rfl) (by kernel_rfl : _ = 24)).op hf
    exact ⟨l, A, c, hC, hlc, hwf, hmu, hz, by simpa [Value.cells] using hcs⟩
  injection e1 with e1_1 e1_2 e1_3
  subst e1_1 e1_2 e1_3
  have hb : Rows.uptoBulkAll (d0 :: d1 :: []) ≤ 1048576 := by
    have := of_decide_eq_true hk
    simpa using this
  simp only [Rows.uptoBulkAll, Rows.uptoBulk] at hb
  have hmu : (1 + ((1 + (l0_0.map (fun x => (1 + (1 + (1 + (x.f1.map (fun y => 1)).sum))))).sum) + (1 + (1 + (l0_2.map (fun x => (1 + (x.map (fun y => 1)).sum))).sum)))) + (1 + (l1.map (fun x => (1 + (x.map (fun y => 1)).sum))).sum) ≤ 1048576 := by omega
  refine (Pure.WalOwn W A0_0 c0_0 l0_0 a0_1 A0_2 c0_2 l0_2 a1 cap1 l1 hr0_0 hc0_0 hr0_2 hc0_2 hr1 hc1 wf0 wf1 hmu).mono fun e W' ⟨he, bel⟩ => ?_
  subst he
  exact ⟨_, rfl, _, _, _, [], _, [], hW', trodAll_mk1 (shut_bool Try.underlying4 _), (trodAll_cons_mk (Below.trod laidOut (by kernel_rfl) (of_decide_eq_true (by kernel_rfl)) k0 bel lt0) (trodAll_cons_mk (Below.trod laidOut (by kernel_rfl) (of_decide_eq_true (by kernel_rfl)) k1 bel lt1) trodAll_mk0)), rfl, bel.frame _, fun h => by cases h⟩
set_option maxRecDepth 100000 in
theorem lifted (os : Os) (started : os.Started) (H : Type) (enc : TypeId × Value → H) (F : Stop.Interp) :
    ReturnsInHanded {} Try.checked os 8 .any ((Rows.OpenSpec.upto Rows.walOwnSpec).pre6 enc Try.prog Try.f8 Rows.walOwnUptoRow.domain false) (((Rows.OpenSpec.upto Rows.walOwnSpec).at F).post enc Try.prog Try.f8 false true false false) := by
  refine returnsInHanded_of_cond (C := Try.checked) (s := Rows.OpenSpec.upto Rows.walOwnSpec) (k := Rows.uptoSmall) rfl own started (by kernel_rfl) Try.func8
    (OpenSpec.witness (enc := enc) (C := Try.checked) (s := Rows.OpenSpec.upto Rows.walOwnSpec) (k := Rows.uptoSmall) rfl false ⟨#[], #[.agg #[.slice none 0 0, .int .i64 0, .slice none 0 0], .slice none 0 0], []⟩ 8 (by kernel_rfl) (by kernel_rfl) (by kernel_rfl)
      (x := ([.agg [.nil, .lit (.int .i64 0), .nil], .nil], [], [])) (by kernel_rfl) rfl (by kernel_rfl)) ?_
  intro W base args ds gs before hval hW _ hk _
  exact contract H enc W base args ds gs before hval hW hk
theorem proved : Rows.WalOwnUptoSaid :=
  OpenClaim.holds_of_cond 8 Try.f8 rfl rfl rfl rfl rfl rfl rfl ⟨rfl, rfl, rfl, rfl, rfl⟩ rfl rfl rfl rfl rfl (by kernel_rfl) Try.func8 (by kernel_rfl)
    (of_decide_eq_true (by kernel_rfl)) (by unfold Func.isWrapper; first | (rw [if_pos (by decide +kernel)]; kernel_rfl) | (rw [if_neg (by decide +kernel)]; exact ⟨rfl, rfl⟩))
    (fun os started H enc _ F => lifted os started H enc F)
#print axioms proved
end Go.Proofs.Ytooabchnbmnchaa.walOwn
namespace Go.Proofs.Ytooabchnbmnchaa
theorem walOwn_holds : Rows.WalOwnUptoSaid := walOwn.proved
end Go.Proofs.Ytooabchnbmnchaa
