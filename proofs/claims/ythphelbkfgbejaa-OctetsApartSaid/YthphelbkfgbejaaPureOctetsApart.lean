/- What is proved: the walk of OctetsApart: a distance: none of the same octets alone, as great both ways, no greater than by a third; from zeros it is the weight. Conditions: none beyond the kinds' bounds. -/
import Derived.Test.YthphelbkfgbejaaQ2
import Derived.Test.YthphelbkfgbejaaQ12
import Derived.Test.YthphelbkfgbejaaQ13
import Derived.Test.YthphelbkfgbejaaQ4
import Derived.Test.YthphelbkfgbejaaQ3
import Derived.Test.YthphelbkfgbejaaKit
import Derived.Test.YthphelbkfgbejaaPlSame
import Derived.Test.YthphelbkfgbejaaPlOct
import Derived.Test.YthphelbkfgbejaaPlOctB
import Derived.Test.YthphelbkfgbejaaPlApart
namespace Go.Proofs.Ythphelbkfgbejaa.Pure
open Go.RowKit Go.Proofs.Ythphelbkfgbejaa.Q Go.Proofs.YthphelbkfgbejaaW.PrintWords Go.Proofs.YthphelbkfgbejaaW.PrintLast Go.Proofs.YthphelbkfgbejaaW.PrintMore
attribute [local go_sem] max2_int min2_int max_two min_two max_three min_three max_four min_four
set_option linter.unusedVariables false
set_option linter.unusedSimpArgs false
theorem num_is (w : World) (x : Int) : Calls Try.prog 17 #[.int .i64 x] w fun e w' => e = .returned (.int .i64 x) ∧ Drawn0 w w' := transeptlaw01_num.calls x x w rfl
theorem apart_at {W : World} {k N : Nat} {A B : Option Addr} {c c' : Nat} {a b : List Int} {x : Int} (ha : a.length = N) (hb : b.length = N) (hra : Kd.C (Kd.int .u8) W A a.length a) (hca : a.length ≤ c) (hrb : Kd.C (Kd.int .u8) W B b.length b) (hcb : b.length ≤ c') (h : octets_Apart.f k a b = some (x, 0)) :
    Calls Try.prog 16 #[.slice A N c, .slice B N c'] W fun e w' => e = .returned (.tuple #[.int .i64 x, .int .i64 0]) ∧ Drawn0 W w' := by
  have := octets_Apart.calls k A c a B c' b x 0 W hra hca hrb hcb h
  rw [ha, hb] at this
  exact this
theorem weight_at {W : World} {k N : Nat} {A : Option Addr} {c : Nat} {a : List Int} {x : Int} (ha : a.length = N) (hra : Kd.C (Kd.int .u8) W A a.length a) (hca : a.length ≤ c) (h : octets_Weight.f k a = some x) :
    Calls Try.prog 19 #[.slice A N c] W fun e w' => e = .returned (.int .i64 x) ∧ Drawn0 W w' := by
  have := octets_Weight.calls k A c a x W hra hca h
  rw [ha] at this
  exact this
theorem same_at {W : World} {k N : Nat} {A B : Option Addr} {c c' : Nat} {a b : List Int} {x : Bool} (ha : a.length = N) (hb : b.length = N) (hra : Kd.C (Kd.int .u8) W A a.length a) (hca : a.length ≤ c) (hrb : Kd.C (Kd.int .u8) W B b.length b) (hcb : b.length ≤ c') (h : transeptplain_SameBytes.f k a b = some x) :
    Calls Try.prog 18 #[.slice A N c, .slice B N c'] W fun e w' => e = .returned (.bool x) ∧ Drawn0 W w' := by
  have := transeptplain_SameBytes.calls k A c a B c' b x W hra hca hrb hcb h
  rw [ha, hb] at this
  exact this
theorem zeros_at (W : World) (n : Nat) (hn : n ≤ 140737488351232) : Kd.C (Kd.int .u8) (W.alloc (.cells (madeCells #[.int .u8 0] n) 5)) (some ⟨W.heap.size, 0, none⟩) (List.replicate n (0 : Int)).length (List.replicate n 0) := by
  have h := own_made W W.heap.size 5 .u8 n (Nat.le_refl _) (by omega)
  have h2 : Kd.R (Kd.int .u8) 5 (W.alloc (.cells (madeCells #[.int .u8 0] n) 5)) W.heap.size (fun _ => True) (.slice (some ⟨W.heap.size, 0, none⟩) n n) (List.replicate n 0) := Kd.R_of_own (by rw [List.length_replicate]; exact h) (fun _ _ => trivial)
  exact (Kd.R_reads' h2).2.2
set_option maxHeartbeats 4000000 in
set_option maxRecDepth 100000 in
theorem OctetsApart (w : World) (A0 : Option Addr) (c0 : Nat) (l0 : List Int) (hr0 : Kd.C (Kd.int .u8) w A0 l0.length l0) (hc0 : l0.length ≤ c0) (A1 : Option Addr) (c1 : Nat) (l1 : List Int) (hr1 : Kd.C (Kd.int .u8) w A1 l1.length l1) (hc1 : l1.length ≤ c1) (A2 : Option Addr) (c2 : Nat) (l2 : List Int) (hr2 : Kd.C (Kd.int .u8) w A2 l2.length l2) (hc2 : l2.length ≤ c2)
    (wf0 : l0.length ≤ maxLen ∧ ∀ x ∈ l0, (Lit.int .u8 x).wf = true) (z0 : l0.length * 1 ≤ 140737488351232) (wf1 : l1.length ≤ maxLen ∧ ∀ x ∈ l1, (Lit.int .u8 x).wf = true) (z1 : l1.length * 1 ≤ 140737488351232) (wf2 : l2.length ≤ maxLen ∧ ∀ x ∈ l2, (Lit.int .u8 x).wf = true) (z2 : l2.length * 1 ≤ 140737488351232) :
    Calls Try.prog 3 #[.slice A0 l0.length c0, .slice A1 l1.length c1, .slice A2 l2.length c2] w fun e w' => e = .returned (.bool true) ∧ Below w.heap.size w w' := by
  have o0 := octs_wf wf0.2
  have o1 := octs_wf wf1.2
  have o2 := octs_wf wf2.2
  obtain ⟨n, hn⟩ : ∃ n : Nat, n = min (min l0.length l1.length) l2.length := ⟨_, rfl⟩
  have hn0 : n ≤ l0.length := by omega
  have hn1 : n ≤ l1.length := by omega
  have hn2 : n ≤ l2.length := by omega
  have hcases : (l1.length < l0.length ∧ l2.length < l1.length ∧ n = l2.length) ∨ (l1.length < l0.length ∧ ¬ l2.length < l1.length ∧ n = l1.length) ∨ (¬ l1.length < l0.length ∧ l2.length < l0.length ∧ n = l2.length) ∨ (¬ l1.length < l0.length ∧ ¬ l2.length < l0.length ∧ n = l0.length) := by omega
  have hinfo : (Try.prog.info? 5).map (fun i => (i.zero, i.size, i.bytes)) = some (some (.int .u8 0), 1, 1) := by kernel_rfl
  obtain ⟨i0, hi0, hzi, hsz, hby⟩ := info_parts hinfo
  obtain ⟨k0, f0, g0⟩ := print_take_of (P := Try.prog) (Value.int .u8) 0 22 5 .i64 Try.underlying22 hi0 hsz A0 c0 l0 (n : Int) (by omega) (by omega) hc0
  obtain ⟨k1, f1, g1⟩ := print_take_of (P := Try.prog) (Value.int .u8) 0 22 5 .i64 Try.underlying22 hi0 hsz A1 c1 l1 (n : Int) (by omega) (by omega) hc1
  obtain ⟨k2, f2, g2⟩ := print_take_of (P := Try.prog) (Value.int .u8) 0 22 5 .i64 Try.underlying22 hi0 hsz A2 c2 l2 (n : Int) (by omega) (by omega) hc2
  simp only [Int.toNat_natCast] at k0 f0 g0 k1 f1 g1 k2 f2 g2
  have la : (l0.take n).length = n := by simp; omega
  have lb : (l1.take n).length = n := by simp; omega
  have lc : (l2.take n).length = n := by simp; omega
  have R0 : ∀ W, Below w.heap.size w W → Kd.C (Kd.int .u8) W A0 (l0.take n).length (l0.take n) := fun W hb => Kd.C_below (Kd.C_of_reads (h1 := fun _ => rfl) (f0 _ (Kd.reads_of_C hr0))) hb
  have R1 : ∀ W, Below w.heap.size w W → Kd.C (Kd.int .u8) W A1 (l1.take n).length (l1.take n) := fun W hb => Kd.C_below (Kd.C_of_reads (h1 := fun _ => rfl) (f1 _ (Kd.reads_of_C hr1))) hb
  have R2 : ∀ W, Below w.heap.size w W → Kd.C (Kd.int .u8) W A2 (l2.take n).length (l2.take n) := fun W hb => Kd.C_below (Kd.C_of_reads (h1 := fun _ => rfl) (f2 _ (Kd.reads_of_C hr2))) hb
  have ot0 := o0.take n
  have ot1 := o1.take n
  have ot2 := o2.take n
  have oz : Octs (List.replicate n 0) := fun x hx => by rw [List.eq_of_mem_replicate hx]; omega
  obtain ⟨k, hk⟩ : ∃ k, k = n + 20 := ⟨_, rfl⟩
  have P1 := apart_is _ _ ot0 ot1 (by omega) (by omega) k (by omega)
  have P2 := apart_is _ _ ot1 ot0 (by omega) (by omega) k (by omega)
  have P3 := apart_is _ _ ot1 ot2 (by omega) (by omega) k (by omega)
  have P4 := apart_is _ _ ot0 ot2 (by omega) (by omega) k (by omega)
  have P5 := apart_is _ _ ot0 oz (by simp; omega) (by omega) k (by omega)
  have P6 := weight_is _ ot0 (by omega) k (by omega)
  have P7 := same_is (l0.take n) (l1.take n) (by omega) k (by omega)
  have tri := dist_tri _ _ _ ot0 ot1 ot2 (by omega) (by omega)
  have bX := dist_bound _ (l1.take n) ot0 ot1
  have bZ := dist_bound _ (l2.take n) ot1 ot2
  have bW := dist_bound _ (l2.take n) ot0 ot2
  have zer := dist_zero _ _ ot0 ot1 (by omega)
  have dz := dist_zeros _ ot0
  rw [la] at dz bX bW
  rw [lb] at bZ
  rw [dist_comm _ _ ot1 ot0] at P2
  rw [dz] at P5
  generalize dist (l0.take n) (l1.take n) = X at *
  generalize dist (l1.take n) (l2.take n) = Z at *
  generalize dist (l0.take n) (l2.take n) = Y at *
  generalize wt (l0.take n) = V at *
  have HMK := print_make (P := Try.prog) 22 5 .u8 1 Try.underlying22 hinfo (by decide) n (by omega)
  have ALV := Aside0.mk (alive01 k (by omega))
  have Q1 := Aside0.mk P1
  have Q2 := Aside0.mk P2
  have Q3 := Aside0.mk P3
  have Q4 := Aside0.mk P4
  have Q5 := Aside0.mk P5
  have Q6 := Aside0.mk P6
  have Q7 := Aside0.mk P7
  have RR0 := Aside0.mk R0
  have RR1 := Aside0.mk R1
  have RR2 := Aside0.mk R2
  have G0 := Aside0.mk g0
  have G1 := Aside0.mk g1
  have G2 := Aside0.mk g2
  have HB := Aside0.mk (Below.refl w.heap.size w)
  have LA := Aside0.mk la
  have LB := Aside0.mk lb
  have LC := Aside0.mk lc
  have LZ := Aside0.mk (List.length_replicate (n := n) (a := (0 : Int)))
  have hY : decide (Y ≤ X + Z) = true := by simpa using tri
  have HN := Aside0.mk (show n ≤ 140737488351232 by omega)
  clear P1 P2 P3 P4 P5 P6 P7 R0 R1 R2 g0 g1 g2 f0 f1 f2 hr0 hr1 hr2 wf0 wf1 wf2 o0 o1 o2 ot0 ot1 ot2 oz dz tri hinfo hi0 hzi hsz hby i0 hk hn la lb lc hc0 hc1 hc2
  have hX0 : 0 ≤ X := bX.1
  have hX1 : X ≤ 1125899906842624 := by have := HN.out; omega
  have hZ0 : 0 ≤ Z := bZ.1
  have hZ1 : Z ≤ 1125899906842624 := by have := HN.out; omega
  clear bX bZ bW
  by_cases he : l0.take n = l1.take n
  case' pos =>
    have hX : X = 0 := zer.mpr he
    have hXb : (X == 0) = true := by simpa using hX
    have hs : decide (l0.take n = l1.take n) = true := by simpa using he
  case' neg =>
    have hX : ¬ (X = 0) := fun h => he (zer.mp h)
    have hXb : (X == 0) = false := by simpa using hX
    have hs : decide (l0.take n = l1.take n) = false := by simpa using he
  all_goals
    rw [hs] at Q7
    clear he hX hs zer
    rcases hcases with ⟨d1, d2, rfl⟩ | ⟨d1, d2, rfl⟩ | ⟨d1, d2, rfl⟩ | ⟨d1, d2, rfl⟩
    all_goals
      have e1 := d1
      have e2 := d2
      try simp only [Nat.not_lt] at e1 e2
      go_enter Try.func3, Try.ntmps3
      go_wp2_with (go_at_call 15; refine (transeptlaw01_alive.calls k true _ ALV.out).mono ?_; rintro e w1 ⟨rfl, hb⟩; have HB1 := Aside0.mk hb; clear HB hb)
      go_region
      go_wp2_with fail
      refine (apart_at LA.out LB.out (RR0.out _ (by repeat (first | exact HB1.out | apply pw_below_drewN | apply below_drew1 | apply below_alloc))) G0.out (RR1.out _ (by repeat (first | exact HB1.out | apply pw_below_drewN | apply below_drew1 | apply below_alloc))) G1.out Q1.out).mono ?_
      rintro e w' ⟨rfl, ⟨nd1, rfl⟩⟩
      go_wp2_with fail
      refine (apart_at LB.out LA.out (RR1.out _ (by repeat (first | exact HB1.out | apply pw_below_drewN | apply below_drew1 | apply below_alloc))) G1.out (RR0.out _ (by repeat (first | exact HB1.out | apply pw_below_drewN | apply below_drew1 | apply below_alloc))) G0.out Q2.out).mono ?_
      rintro e w' ⟨rfl, ⟨nd2, rfl⟩⟩
      go_wp2_with fail
      refine (apart_at LB.out LC.out (RR1.out _ (by repeat (first | exact HB1.out | apply pw_below_drewN | apply below_drew1 | apply below_alloc))) G1.out (RR2.out _ (by repeat (first | exact HB1.out | apply pw_below_drewN | apply below_drew1 | apply below_alloc))) G2.out Q3.out).mono ?_
      rintro e w' ⟨rfl, ⟨nd3, rfl⟩⟩
      go_wp2_with fail
      refine (apart_at LA.out LC.out (RR0.out _ (by repeat (first | exact HB1.out | apply pw_below_drewN | apply below_drew1 | apply below_alloc))) G0.out (RR2.out _ (by repeat (first | exact HB1.out | apply pw_below_drewN | apply below_drew1 | apply below_alloc))) G2.out Q4.out).mono ?_
      rintro e w' ⟨rfl, ⟨nd4, rfl⟩⟩
      go_wp2_with fail
      refine (apart_at LA.out LZ.out (RR0.out _ (by repeat (first | exact HB1.out | apply pw_below_drewN | apply below_drew1 | apply below_alloc))) G0.out (by (with_reducible repeat (first | apply Kd.C_drewN | apply Kd.C_drew)); exact zeros_at _ _ HN.out) (by simp) Q5.out).mono ?_
      rintro e w' ⟨rfl, ⟨nd5, rfl⟩⟩
      go_wp2_with (first
        | (go_at_call 17; refine (num_is _ _).mono ?_; rintro e w' ⟨rfl, ⟨nd, rfl⟩⟩)
        | (go_at_call 18; refine (same_at LA.out LB.out (RR0.out _ (by repeat (first | exact HB1.out | apply pw_below_drewN | apply below_drew1 | apply below_alloc))) G0.out (RR1.out _ (by repeat (first | exact HB1.out | apply pw_below_drewN | apply below_drew1 | apply below_alloc))) G1.out Q7.out).mono ?_; rintro e w' ⟨rfl, ⟨nd, rfl⟩⟩)
        | (go_at_call 19; refine (weight_at LA.out (RR0.out _ (by repeat (first | exact HB1.out | apply pw_below_drewN | apply below_drew1 | apply below_alloc))) G0.out Q6.out).mono ?_; rintro e w' ⟨rfl, ⟨nd, rfl⟩⟩))
      go_ret
      exact ⟨rfl, (by repeat (first | exact HB1.out | apply pw_below_drewN | apply below_drew1 | apply below_alloc))⟩
end Go.Proofs.Ythphelbkfgbejaa.Pure
