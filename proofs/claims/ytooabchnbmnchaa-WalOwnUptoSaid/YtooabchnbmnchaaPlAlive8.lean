-- (thinned for this claim by wip/tools/shake.py: what the claim doesn't use is left out)
import Derived.Test.YtooabchnbmnchaaQ26
import Derived.Test.YtooabchnbmnchaaKit
import Derived.Test.YtooabchnbmnchaaPlNum
import Derived.Test.YtooabchnbmnchaaPlCrc
import Derived.Test.YtooabchnbmnchaaPlScan
import Derived.Test.YtooabchnbmnchaaPlWal
import Derived.Test.YtooabchnbmnchaaPlWalF
namespace Go.Proofs.Ytooabchnbmnchaa.Q
open Go.RowKit Go.Proofs.YtooabchnbmnchaaW.PrintWords Go.Proofs.YtooabchnbmnchaaW.PrintLast Go.Proofs.YtooabchnbmnchaaW.PrintMore
set_option linter.unusedVariables false
set_option linter.unusedSimpArgs false
theorem flush_start (limit : Int) (hl1 : 1 ≤ limit) (hl2 : limit ≤ 1048576) (a : Nat) (ha : a ≤ 1000000) (bs : List (List Int)) (gs : List (List (List Int))) (hb : ∀ d ∈ bs, Rec d) (hg : GoodG gs) (hn : NE gs) (ht : gs.flatten.length + bs.length ≤ 4096) (k : Nat) (hk : 30000000 < k) :
    wal_Flush.f k (segsOf a gs) ((a + gs.flatten.length : Nat) : Int) bs limit = wal_Flush.l0 bs limit (segsOf a gs) ((a + gs.flatten.length : Nat) : Int) := by
  have hlen := NE_len gs hn
  unfold wal_Flush.f
  rw [own_is a gs hg (by omega) ha (by omega) bs (fun d hd => (hb d hd).1) (by omega) k hk, Option.bind_some]
  simp only
  rw [if_pos trivial, if_neg (by omega), if_neg (by omega)]
def gsA : List (List (List Int)) := [[[97], [98]]]
def gsB : List (List (List Int)) := [[[97], [98]], [[99]]]
set_option maxRecDepth 100000 in
theorem flushA : wal_Flush.l0 [[97], [98]] 10 (segsOf 0 []) ((0 + ([] : List (List (List Int))).flatten.length : Nat) : Int) = some (segsOf 0 gsA, ((0 + gsA.flatten.length : Nat) : Int), [], 0) := by kernel_rfl
set_option maxRecDepth 100000 in
theorem flushB : wal_Flush.l0 [[99]] 10 (segsOf 0 gsA) ((0 + gsA.flatten.length : Nat) : Int) = some (segsOf 0 gsB, ((0 + gsB.flatten.length : Nat) : Int), [], 0) := by kernel_rfl
theorem rec1 (x : Int) (h : 0 ≤ x ∧ x < 256) : Rec [x] := ⟨by simp, fun y hy => by rw [List.mem_singleton] at hy; subst hy; exact h⟩
theorem alive08_is (k : Nat) (hk : 30000000 < k) : transeptlaw08_alive.f k = some true := by
  have rA : ∀ d ∈ ([[97], [98]] : List (List Int)), Rec d := by
    intro d hd
    rcases List.mem_cons.1 hd with rfl | hd
    · exact rec1 97 (by omega)
    · rw [List.mem_singleton] at hd; subst hd; exact rec1 98 (by omega)
  have rB : ∀ d ∈ ([[99]] : List (List Int)), Rec d := by
    intro d hd
    rw [List.mem_singleton] at hd; subst hd; exact rec1 99 (by omega)
  have g0 : GoodG [] := fun g hg => by cases hg
  have n0 : NE [] := fun g hg => by cases hg
  have gA : GoodG gsA := by
    intro g hg
    rw [gsA, List.mem_singleton] at hg; subst hg; exact rA
  have nA : NE gsA := by
    intro g hg
    rw [gsA, List.mem_singleton] at hg; subst hg; simp
  have lA : gsA.flatten.length = 2 := rfl
  have h1 : wal_Append.f k [] 0 [] [[97], [98]] = some (segsOf 0 [], ((0 + ([] : List (List (List Int))).flatten.length : Nat) : Int), [[97], [98]], 0) := append_is 0 (by omega) [[97], [98]] [] rA g0 n0 (by simp) k hk
  have h2 := flush_start 10 (by omega) (by omega) 0 (by omega) [[97], [98]] [] rA g0 n0 (by simp) k hk
  have h3 := append_is 0 (by omega) [[99]] gsA rB gA nA (by rw [lA]; simp) k hk
  have h4 := flush_start 10 (by omega) (by omega) 0 (by omega) [[99]] gsA rB gA nA (by rw [lA]; simp) k hk
  rw [flushA] at h2
  rw [flushB] at h4
  unfold transeptlaw08_alive.f
  rw [h1, Option.bind_some]
  dsimp only
  rw [h2, Option.bind_some]
  dsimp only
  rw [h3, Option.bind_some]
  dsimp only
  rw [h4, Option.bind_some]
  exact if_pos ⟨rfl, rfl, rfl, rfl, rfl, rfl, rfl, rfl⟩
end Go.Proofs.Ytooabchnbmnchaa.Q
