-- Laid by this session's own program (wip/tools) out of the translation; Lean checks it.
import Derived.Test.YthphelbkfgbejaaQ0
import Derived.Test.YthphelbkfgbejaaQ12
import Derived.Test.YthphelbkfgbejaaQ16
namespace Go.Proofs.Ythphelbkfgbejaa.Q
open Go.RowKit Go.Proofs.YthphelbkfgbejaaW.PrintWords Go.Proofs.YthphelbkfgbejaaW.PrintLast Go.Proofs.YthphelbkfgbejaaW.PrintMore
attribute [local go_sem] max2_int min2_int max_two min_two max_three min_three max_four min_four   -- for this text's walks alone
set_option linter.unusedVariables false
set_option linter.unusedSimpArgs false

/-! ### transeptlaw03_alive: function 35 (by hand) -/
theorem conv_bytes (W : World) (b n : Nat) (cs : Array Value) (hb : W.heap[b]? = some (.cells cs 5 (0, 0))) : Sem.run Try.prog (convert 22 22 (.slice (some ⟨b, 0, none⟩) n n)) W = .ok (.slice (some ⟨b, 0, none⟩) n n) (W.freeze ⟨b, cs.size, none⟩ 1) := by
  have h := Try.underlying22
  have h5 := Try.underlying5
  have hs : W.shape? b = some (5, cs.size) := by unfold World.shape?; rw [hb]
  simp [convert, h, h5, hs, go_sem, markStringish, shape, freeze, Functor.map]
  simp [Bind.bind, Sem.bind, Pure.pure, go_sem, Sem.run, hs]
def sealed03 : List Int := [167, 1, 0, 1, 97, 197, 68, 58, 212]
def transeptlaw03_alive.f : Option Bool := if frames_Seal.f 1 [97] = some (sealed03, 0) ∧ frames_Open.f 20 sealed03 = some (1, [97], 9, 0) then some true else none
theorem alive03_some {w : World} {b : Nat} {ok : Nat → Prop} {A : Option Addr} {c : Nat} (h : Kd.R (Kd.int .u8) 5 w b ok (.slice A sealed03.length c) sealed03) : ∃ ad, A = some ad := by
  obtain ⟨ad, h1, _⟩ := Kd.at_int (Kd.R_reads' h).2.2 0 (by decide) (by decide)
  exact ⟨ad, h1⟩
theorem alive03_cells {w3 w4 : World} {A3 A4 : Option Addr} {c3 c4 b b' : Nat} {ok ok' : Nat → Prop} (h4 : Kd.R (Kd.int .u8) 5 w4 b' ok' (.slice A4 ([97] : List Int).length c4) [97]) (hb : Below w3.heap.size w3 w4) (h3 : Kd.R (Kd.int .u8) 5 w3 b ok (.slice A3 sealed03.length c3) sealed03) :
    (∀ ad, A3 = some ad → (w4.alloc (.cells #[.int .u8 1, .slice A4 1 c4] 58)).cell? (ad.add 0) = some (.int .u8 167)) ∧ (∀ ad, A3 = some ad → (w4.alloc (.cells #[.int .u8 1, .slice A4 1 c4] 58)).cell? (ad.add 3) = some (.int .u8 1)) ∧
    Sem.run Try.prog (convert 22 9 (.slice A4 1 c4)) (w4.alloc (.cells #[.int .u8 1, .slice A4 1 c4] 58)) = .ok (.string (strOfNums [97])) (w4.alloc (.cells #[.int .u8 1, .slice A4 1 c4] 58)) := by
  have h := Kd.R_alloc (Kd.R_below h3 hb) (.cells #[.int .u8 1, .slice A4 1 c4] 58)
  refine ⟨?_, ?_, Kd.C_string Try.underlying22 Try.underlying5 Try.underlying9 (Kd.R_reads' (Kd.R_alloc h4 _)).2.2⟩
  · rintro ad rfl
    obtain ⟨ad2, h1, h2⟩ := Kd.at_int (Kd.R_reads' h).2.2 0 (by decide) (by decide)
    cases h1
    exact h2
  · rintro ad rfl
    obtain ⟨ad2, h1, h2⟩ := Kd.at_int (Kd.R_reads' h).2.2 3 (by decide) (by decide)
    cases h1
    exact h2
set_option maxHeartbeats 1600000 in
set_option maxRecDepth 100000 in
theorem transeptlaw03_alive.calls (r : Bool) (w : World) (h : transeptlaw03_alive.f = some r) : Calls Try.prog 35 #[] w fun e w' => e = .returned (.bool r) ∧ Below w.heap.size w w' := by
  unfold transeptlaw03_alive.f at h
  by_cases hh : frames_Seal.f 1 [97] = some (sealed03, 0) ∧ frames_Open.f 20 sealed03 = some (1, [97], 9, 0)
  case neg => rw [if_neg hh] at h; cases h
  rw [if_pos hh] at h
  cases h
  have HS := Aside0.mk hh.1
  have HO := Aside0.mk hh.2
  clear hh
  go_enter Try.func35, Try.ntmps35
  have hb0 := World.alloc_heap_new w (.cells #[.int .u8 97] 5)
  have hcv := conv_bytes (w.alloc (.cells #[.int .u8 97] 5)) w.heap.size 1 _ hb0
  obtain ⟨W2, hW2⟩ : ∃ W2, W2 = (w.alloc (.cells #[.int .u8 97] 5)).freeze ⟨w.heap.size, (#[Value.int .u8 97] : Array Value).size, none⟩ 1 := ⟨_, rfl⟩
  have hB2 : Below w.heap.size w W2 := by
    subst hW2
    refine (below_alloc (Below.refl w.heap.size w) (.cells #[.int .u8 97] 5)).trans ⟨rfl, rfl, rfl, ?_, fun k hk => ?_⟩
    · simp [World.freeze]
    · simp only [World.freeze]
      rw [if_neg (by decide)]
      simp only [Array.getElem?_modify]
      rw [if_neg (by omega)]
  have hc2 : W2.cell? ⟨w.heap.size, 0, none⟩ = some (.int .u8 97) := by
    subst hW2
    unfold World.cell? World.freeze
    rw [if_neg (by decide)]
    simp only [Array.getElem?_modify, hb0]
    simp
  have hC2 : Kd.C (Kd.int .u8) W2 (some ⟨w.heap.size, 0, none⟩) ([97] : List Int).length [97] := by
    refine ⟨rfl, by decide, fun _ => ⟨_, rfl, fun j p hj => ?_⟩⟩
    have hj0 : j = 0 := by
      have := (List.getElem?_eq_some_iff.1 hj).1
      simp at this
      exact this
    subst hj0
    obtain rfl : 97 = p := by simpa using hj
    refine ⟨[.int .u8 97], rfl, rfl, fun i u hu => ?_⟩
    have hi0 : i = 0 := by
      have := (List.getElem?_eq_some_iff.1 hu).1
      simp at this
      exact this
    subst hi0
    obtain rfl : Value.int .u8 97 = u := by simpa using hu
    exact hc2
  rw [← hW2] at hcv
  have HB2 := Aside0.mk hB2
  have HV := Aside0.mk (Kd.V_mk (e := 5) (base := W2.heap.size) (c := 1) (Nat.le_refl _) (Kd.C_F (Kd.heap_int .u8) hC2))
  clear hW2 hB2 hc2 hC2 hb0
  go_wp2_with (first
    | (go_at_call 36; refine (frames_Seal.calls 1 (fun k => k < W2.heap.size) (some ⟨w.heap.size, 0, none⟩) 1 [97] sealed03 0 W2 HV.out HS.out).mono ?_; rintro e w3 ⟨v3, rfl, ho3, hb3⟩; obtain ⟨A3, c3, rfl⟩ := Kd.R_slice ho3; have HO3 := Aside0.mk ho3; have HB3 := Aside0.mk (HB2.out.trans (Below.mono hb3 HB2.out.size)); clear ho3 hb3)
    | (go_at_call 38; refine (frames_Open.calls 20 A3 c3 sealed03 1 [97] 9 0 _ (Kd.R_reads' HO3.out).2.2 (Kd.R_reads' HO3.out).2.1 HO.out).mono ?_; rintro e w4 ⟨v4, rfl, ho4, hb4⟩; obtain ⟨A4, c4, rfl⟩ := Kd.R_slice ho4; have HP := Aside0.mk (alive03_cells ho4 hb4 HO3.out); obtain ⟨g0, g3, gs⟩ := HP.out; have HB4 := Aside0.mk (HB3.out.trans (Below.mono hb4 HB3.out.size)); clear ho4 hb4; obtain ⟨ad3, hA3⟩ := (alive03_some HO3.out); subst hA3; replace g0 := g0 ad3 rfl; replace g3 := g3 ad3 rfl; rw [show ad3.add 0 = ad3 from rfl] at g0; rw [show ad3.add 3 = ⟨ad3.block, ad3.off + 3, none⟩ from rfl] at g3)
    | go_in)
  go_ret
  exact ⟨by rw [show ((strOfNums [97]).toList == [97]) = true from by decide +kernel]; rfl, below_alloc HB4.out _⟩


end Go.Proofs.Ythphelbkfgbejaa.Q
