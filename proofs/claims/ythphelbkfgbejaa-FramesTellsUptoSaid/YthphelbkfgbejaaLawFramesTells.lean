/- The row of the law FramesTells: for every input of bulk at most 1048576 it returns true, and each argument reads as it read before. Conditions: the bound on the bulk. -/
import Derived.Test.YthphelbkfgbejaaRows
import Derived.Test.YthphelbkfgbejaaOpz
import Derived.Test.YthphelbkfgbejaaPureFramesTells
import Derived.Test.YthphelbkfgbejaaQ30
import Derived.WalkKit
import Derived.ProofKit
import Derived.OpenShut
import Derived.ShutString
import Derived.ChangeOld
import Derived.Below
import Derived.SizedLaws
import Derived.JoinedCond
import Derived.Test.YthphelbkfgbejaaWSized
namespace Go.Proofs.Ythphelbkfgbejaa.framesTells
open Go.ChangeShapes Go.WideShapes Go.ChangeAt Go.RowKit Go.Proofs.Ythphelbkfgbejaa.Q Go.Proofs.YthphelbkfgbejaaW.PrintWords Go.Proofs.YthphelbkfgbejaaW.PrintLast
open Go.ChangeMaps (open_string shut_string)
set_option linter.unusedVariables false
theorem own : ownKnob Try.prog.godebug = none := by kernel_rfl
theorem laidOut : laidOutB Try.prog = true := by kernel_rfl
set_option maxHeartbeats 1000000 in
theorem contract (H : Type) (enc : TypeId × Value → H) (W : World) (base : Nat) (args : Array Value) (ds gs : List (DataW H)) (before : List MemPlace)
    (hval : ∀ (j : Nat) t v, Try.f11.params[j]? = some t → args[j]? = some v → Value.okWide Try.prog W .any base t v)
    (hW : DataW.Whole enc Try.prog Try.f11.params.toList Rows.framesTellsSpec.vars false W args.toList ds gs before) (hk : Rows.uptoSmall H (ds ++ gs) = true) :
    Calls Try.prog 11 args W fun e W' => ∃ v, e = .returned v ∧ Rows.framesTellsSpec.post enc Try.prog Try.f11 false true false false W args v W' := by
  have hW' := hW
  obtain ⟨p, q, hA0, hV, rfl, hfz, hnd⟩ := hW
  have hA : DataW.TrodAll enc Try.prog W 0 (fun _ => true) true Try.f11.params.toList args.toList ds p := hA0
  rw [Try.params11] at hA hval
  obtain ⟨v0, vs0, d0, ds0, p0, q0, hargs, rfl, rfl, h0, r0⟩ := trodAll_cons hA
  obtain ⟨v1, vs1, d1, ds1, p1, q1, rfl, rfl, rfl, h1, r1⟩ := trodAll_cons r0
  obtain ⟨rfl, rfl, rfl⟩ := trodAll_nil r1
  obtain rfl : args = #[v0, v1] := by cases args; simp_all
  obtain ⟨rfl, rfl⟩ := trodVars_none hV
  have k0 := h0
  have lt0 : ∀ x ∈ p0, x.block < W.heap.size := by obtain ⟨m, hm⟩ := k0; exact DataW.trod_lt m _ _ _ hm
  obtain ⟨ag0, rfl, _⟩ := okWide_struct Try.underlying56 (hval 0 56 v0 rfl rfl)
  obtain ⟨a0_0, l0_1, A0_1, c0_1, hr0_1, hc0_1, wf0, mu0, z0, e0⟩ : ∃ (a0_0 : Int) (l0_1 : List (Int)) (A0_1 : Option Addr) (c0_1 : Nat), Kd.C (Kd.int .u8) W A0_1 l0_1.length l0_1 ∧ l0_1.length ≤ c0_1 ∧ ((Lit.int .u8 a0_0).wf = true ∧ (l0_1.length ≤ maxLen ∧ ∀ x ∈ l0_1, (Lit.int .u8 x).wf = true)) ∧ (1 + (1 + (1 + (l0_1.map (fun x => 1)).sum))) ≤ Rows.uptoBulk d0 ∧ ((∀ q ∈ DataW.weights Try.prog 56 d0, q ≤ reachBytes) → (True ∧ (l0_1.length * 1 ≤ 140737488351232 ∧ ∀ x ∈ l0_1, True))) ∧ (Value.agg ag0 = Value.agg #[.int .u8 a0_0, .slice A0_1 l0_1.length c0_1]) := by
    obtain ⟨fuel, hf⟩ := h0
    obtain ⟨x, hK, hwf, hmu, hz⟩ := (Opz.struct (OpzFs.cons (Opz.int Try.underlying5) rfl (by kernel_rfl) (OpzFs.one (@Opz.slice _ ⟨0⟩ _ _ _ _ _ _ _ _ (Opz.int Try.underlying5) Try.underlying22 (by kernel_rfl) (by kernel_rfl : _ = 1)) rfl (by kernel_rfl))) Try.underlying56 id id (fun _ => rfl)).op hf
    obtain ⟨_, _, hq0, rfl, ⟨A0_1, c0_1, rfl, g0_1, G0_1⟩⟩ := hK
    refine ⟨_, _, A0_1, c0_1, G0_1, g0_1, hwf, hmu, hz, ?_⟩
    have hh : ag0.toList = _ := hq0
    congr 1
    exact Array.toList_inj.mp (by simpa using hh)
  injection e0 with e0
  subst e0
  have k1 := h1
  have lt1 : ∀ x ∈ p1, x.block < W.heap.size := by obtain ⟨m, hm⟩ := k1; exact DataW.trod_lt m _ _ _ hm
  obtain ⟨a1, len1, cap1, rfl⟩ := okWide_slice Try.underlying22 (hval 1 22 v1 rfl rfl)
  obtain ⟨l1, A1, c1, hr1, hc1, wf1, mu1, z1, e1⟩ : ∃ (l : List (Int)) (A : Option Addr) (c : Nat), Kd.C (Kd.int .u8) W A l.length l ∧ l.length ≤ c ∧ (l.length ≤ maxLen ∧ ∀ x ∈ l, (Lit.int .u8 x).wf = true) ∧ (1 + (l.map (fun x => 1)).sum) ≤ Rows.uptoBulk d1 ∧ ((∀ q ∈ DataW.weights Try.prog 22 d1, q ≤ reachBytes) → (l.length * 1 ≤ 140737488351232 ∧ ∀ x ∈ l, True)) ∧ (Value.slice a1 len1 cap1 = Value.slice A l.length c) := by
    obtain ⟨fuel, hf⟩ := h1
    obtain ⟨l, ⟨A, c, hcs, hlc, hC⟩, hwf, hmu, hz⟩ := (@Opz.slice _ ⟨0⟩ _ _ _ _ _ _ _ _ (Opz.int Try.underlying5) Try.underlying22 (by kernel_rfl) (by kernel_rfl : _ = 1)).op hf
    exact ⟨l, A, c, hC, hlc, hwf, hmu, hz, by simpa [Value.cells] using hcs⟩
  injection e1 with e1_1 e1_2 e1_3
  subst e1_1 e1_2 e1_3
  have hb : Rows.uptoBulkAll (d0 :: d1 :: []) ≤ 1048576 := by
    have := of_decide_eq_true hk
    simpa using this
  simp only [Rows.uptoBulkAll, Rows.uptoBulk] at hb
  have hmu : (1 + (1 + (1 + (l0_1.map (fun x => 1)).sum))) + (1 + (l1.map (fun x => 1)).sum) ≤ 1048576 := by omega
  obtain ⟨k, h⟩ := Pure.FramesTells a0_0 l0_1 l1 wf0 wf1 hmu
  refine (transeptlaw03_FramesTells.calls k a0_0 A0_1 c0_1 l0_1 a1 cap1 l1 true W hr0_1 hc0_1 hr1 hc1 h).mono fun e W' ⟨he, bel⟩ => ?_
  subst he
  exact ⟨_, rfl, _, _, _, [], _, [], hW', trodAll_mk1 (shut_bool Try.underlying4 _), (trodAll_cons_mk (Below.trod laidOut (by kernel_rfl) (of_decide_eq_true (by kernel_rfl)) k0 bel lt0) (trodAll_cons_mk (Below.trod laidOut (by kernel_rfl) (of_decide_eq_true (by kernel_rfl)) k1 bel lt1) trodAll_mk0)), rfl, bel.frame _, fun h => by cases h⟩
set_option maxRecDepth 100000 in
theorem lifted (os : Os) (started : os.Started) (H : Type) (enc : TypeId × Value → H) (F : Stop.Interp) :
    ReturnsInHanded {} Try.checked os 11 .any ((Rows.OpenSpec.upto Rows.framesTellsSpec).pre6 enc Try.prog Try.f11 Rows.framesTellsUptoRow.domain false) (((Rows.OpenSpec.upto Rows.framesTellsSpec).at F).post enc Try.prog Try.f11 false true false false) := by
  refine returnsInHanded_of_cond (C := Try.checked) (s := Rows.OpenSpec.upto Rows.framesTellsSpec) (k := Rows.uptoSmall) rfl own started (by kernel_rfl) Try.func11
    (OpenSpec.witness (enc := enc) (C := Try.checked) (s := Rows.OpenSpec.upto Rows.framesTellsSpec) (k := Rows.uptoSmall) rfl false ⟨#[], #[.agg #[.int .u8 0, .slice none 0 0], .slice none 0 0], []⟩ 8 (by kernel_rfl) (by kernel_rfl) (by kernel_rfl)
      (x := ([.agg [.lit (.int .u8 0), .nil], .nil], [], [])) (by kernel_rfl) rfl (by kernel_rfl)) ?_
  intro W base args ds gs before hval hW _ hk _
  exact contract H enc W base args ds gs before hval hW hk
theorem proved : Rows.FramesTellsUptoSaid :=
  OpenClaim.holds_of_cond 11 Try.f11 rfl rfl rfl rfl rfl rfl rfl ⟨rfl, rfl, rfl, rfl, rfl⟩ rfl rfl rfl rfl rfl (by kernel_rfl) Try.func11 (by kernel_rfl)
    (of_decide_eq_true (by kernel_rfl)) (by unfold Func.isWrapper; first | (rw [if_pos (by decide +kernel)]; kernel_rfl) | (rw [if_neg (by decide +kernel)]; exact ⟨rfl, rfl⟩))
    (fun os started H enc _ F => lifted os started H enc F)
#print axioms proved
end Go.Proofs.Ythphelbkfgbejaa.framesTells
namespace Go.Proofs.Ythphelbkfgbejaa
/-- The row, under a short name, for the claim. -/
theorem framesTells_holds : Rows.FramesTellsUptoSaid := framesTells.proved
end Go.Proofs.Ythphelbkfgbejaa
