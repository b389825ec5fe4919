/- What is proved: the plain half of FramesFinds: a frame with one bit turned is not opened. Conditions: none beyond the kinds' bounds. -/
import Derived.Test.YthphelbkfgbejaaQ16
import Derived.Test.YthphelbkfgbejaaKit
import Derived.Test.YthphelbkfgbejaaPlNum
import Derived.Test.YthphelbkfgbejaaPlCrc
import Derived.Test.YthphelbkfgbejaaPlLin
namespace Go.Proofs.Ythphelbkfgbejaa.Pure
open Go.RowKit Go.Proofs.Ythphelbkfgbejaa.Q Go.Proofs.YthphelbkfgbejaaW.PrintWords Go.Proofs.YthphelbkfgbejaaW.PrintLast
set_option maxRecDepth 100000 in
theorem alive03_a : frames_Seal.f 1 [97] = some (sealed03, 0) := by decide +kernel
set_option maxRecDepth 100000 in
theorem alive03_b : frames_Open.f 20 sealed03 = some (1, [97], 9, 0) := by decide +kernel
theorem alive03 : transeptlaw03_alive.f = some true := by
  unfold transeptlaw03_alive.f
  rw [if_pos ⟨alive03_a, alive03_b⟩]
theorem bit_is (q : Nat) (hq : q < 8) : ∃ m : Nat, shl .u8 1 (q : Int) = (m : Int) ∧ 0 < m ∧ m < 256 := by
  have : ∀ q : Fin 8, ∃ m : Fin 256, shl .u8 1 ((q.val : Nat) : Int) = ((m.val : Nat) : Int) ∧ 0 < m.val := by decide +kernel
  obtain ⟨m, h1, h2⟩ := this ⟨q, hq⟩
  exact ⟨m.val, h1, h2, m.isLt⟩
/-- an octet with one bit turned is another octet -/
theorem turned (x : Int) (hx : 0 ≤ x ∧ x < 256) (q : Nat) (hq : q < 8) : 0 ≤ Go.bits .xor .u8 x (shl .u8 1 (q : Int)) ∧ Go.bits .xor .u8 x (shl .u8 1 (q : Int)) < 256 ∧ Go.bits .xor .u8 x (shl .u8 1 (q : Int)) ≠ x := by
  obtain ⟨m, h1, h2, h3⟩ := bit_is q hq
  obtain ⟨a, rfl⟩ := Int.eq_ofNat_of_zero_le hx.1
  rw [h1, Go.Proofs.Ythphelbkfgbejaa.Q.u8_xor a m (by omega) h3]
  have hlt : a ^^^ m < 2 ^ 8 := Nat.xor_lt_two_pow (show a < 2 ^ 8 by omega) (show m < 2 ^ 8 from h3)
  refine ⟨by omega, by omega, fun h => ?_⟩
  have h' : a ^^^ m = a := by omega
  have := congrArg (a ^^^ ·) h'
  simp [← Nat.xor_assoc] at this
  omega
theorem set_take {l : List Int} {p n : Nat} {v : Int} (h : n ≤ p) : (l.set p v).take n = l.take n := by
  rw [List.take_set, List.set_eq_of_length_le]
  simp; omega
theorem getD_set_ne {l : List Int} {p i : Nat} {v : Int} (h : p ≠ i) : (l.set p v).getD i 0 = l.getD i 0 := by
  rw [List.getD_eq_getElem?_getD, List.getElem?_set_ne h, List.getD_eq_getElem?_getD]
/-- a sealed frame of which one octet is another one is not opened -/
theorem spoilt (kind : Int) (hk : 0 ≤ kind ∧ kind < 256) (l : List Int) (hl : Octs l) (hn : l.length ≤ 4096) (p : Nat) (hp : p < l.length + 8) (h2 : p ≠ 2) (h3 : p ≠ 3) (v : Int) (hv : 0 ≤ v ∧ v < 256)
    (hne : v ≠ (sealOf kind l)[p]'(by rw [sealOf_length]; exact hp)) :
    ∃ e, openOf ((sealOf kind l).set p v) = (0, [], 0, e) ∧ e ≠ 0 := by
  have hlen := sealOf_length kind l
  have hh := headOf_length kind l
  have hb2 := beOf_len (l.length : Int) 2
  obtain ⟨B2, hB2⟩ : ∃ B2, B2 = beOf (l.length : Int) (shiftsOf 2) := ⟨_, rfl⟩
  obtain ⟨B4, hB4⟩ : ∃ B4, B4 = beOf ((crcSum (headOf kind l) : Nat) : Int) (shiftsOf 4) := ⟨_, rfl⟩
  have hb4 : B4.length = 4 := by rw [hB4]; exact beOf_len _ 4
  rw [← hB2] at hb2
  have hhead : headOf kind l = [167, kind] ++ B2 ++ l := by rw [hB2]; rfl
  have hseal : sealOf kind l = headOf kind l ++ B4 := by rw [hB4]; rfl
  have ho4 : Octs B4 := by rw [hB4]; exact be_octs _ _
  obtain ⟨x, y, rfl⟩ : ∃ x y, B2 = [x, y] := by
    match B2, hb2 with
    | [x, y], _ => exact ⟨x, y, rfl⟩
  have hbv : bv [x, y] = (l.length : Int) := by rw [hB2]; exact bv_be2 _ (by omega)
  have hform : sealOf kind l = 167 :: kind :: x :: y :: (l ++ B4) := by rw [hseal, hhead]; simp
  have hlen' : ((sealOf kind l).set p v).length = l.length + 8 := by simp [hlen]
  obtain ⟨b, hb⟩ : ∃ b, b = (sealOf kind l).set p v := ⟨_, rfl⟩
  have hg : ∀ i, i ≠ p → b.getD i 0 = (sealOf kind l).getD i 0 := fun i hi => by rw [hb]; exact getD_set_ne (fun h => hi h.symm)
  have t4 : (b.take 4).drop 2 = [x, y] := by
    have e : (b.take 4).drop 2 = ((sealOf kind l).take 4).drop 2 := by
      apply List.ext_getElem
      · rw [hb]; simp
      · intro i h1 h2'
        have hi : i < 2 := by simp at h1; omega
        simp only [List.getElem_drop, List.getElem_take, hb]
        rw [List.getElem_set_ne (by omega)]
    rw [e, hform]; rfl
  have hbl : b.length = l.length + 8 := by rw [hb]; exact hlen'
  unfold openOf
  rw [← hb, t4, hbv, Int.toNat_natCast]
  rw [if_neg (by omega)]
  by_cases hp0 : p = 0
  · subst hp0
    refine ⟨22, ?_, by decide⟩
    have e0 : b.getD 0 0 = v := by rw [hb, List.getD_eq_getElem?_getD, List.getElem?_set_self (by omega)]; rfl
    have e1 : (sealOf kind l)[0]'(by omega) = 167 := by simp only [hform, List.getElem_cons_zero]
    rw [e1] at hne
    rw [e0, if_pos hne]
  · have e0 : b.getD 0 0 = 167 := by rw [hg 0 (by omega), hform]; rfl
    rw [e0, if_neg (by decide), if_neg (by omega), if_neg (by omega)]
    refine ⟨21, ?_, by decide⟩
    rw [if_pos ?_]
    by_cases hpn : p < l.length + 4
    · -- the sum is another one
      have th : b.take (l.length + 4) = (headOf kind l).set p v := by
        rw [hb, hseal, List.set_append_left _ _ (by omega), List.take_append_of_le_length (by simp; omega), List.take_of_length_le (by simp; omega)]
      have ts : (b.take (l.length + 8)).drop (l.length + 4) = B4 := by
        rw [List.take_of_length_le (by omega), hb, hseal, List.set_append_left _ _ (by omega), List.drop_append_of_le_length (by simp; omega), List.drop_of_length_le (by simp; omega), List.nil_append]
      have hne' : v ≠ (headOf kind l)[p]'(by omega) := by
        have e : (sealOf kind l)[p]'(by omega) = (headOf kind l)[p]'(by omega) := by simp only [hseal]; rw [List.getElem_append_left (by omega)]
        rwa [e] at hne
      have hs := crcSum_set (headOf kind l) (headOf_octs kind hk l hl) p (by omega) v hv hne'
      have hc : bv B4 = ((crcSum (headOf kind l) : Nat) : Int) := by rw [hB4]; exact bv_be4 _ (crcSum_lt _)
      rw [th, ts, hc]
      intro h
      exact hs (by omega)
    · -- the sum that was laid is another one
      have th : b.take (l.length + 4) = headOf kind l := by
        rw [hb, set_take (by omega), hseal, List.take_append_of_le_length (by omega), List.take_of_length_le (by omega)]
      have ts : (b.take (l.length + 8)).drop (l.length + 4) = B4.set (p - (l.length + 4)) v := by
        rw [List.take_of_length_le (by omega), hb, hseal, List.set_append_right _ _ (by omega), List.drop_append_of_le_length (by omega), List.drop_of_length_le (by omega), List.nil_append, hh]
      have hi : p - (l.length + 4) < B4.length := by omega
      have hne' : v ≠ B4[p - (l.length + 4)] := by
        have e : (sealOf kind l)[p]'(by omega) = B4[p - (l.length + 4)] := by simp only [hseal]; rw [List.getElem_append_right (by omega)]; simp only [hh]
        rwa [e] at hne
      have hc : bv B4 = ((crcSum (headOf kind l) : Nat) : Int) := by rw [hB4]; exact bv_be4 _ (crcSum_lt _)
      rw [th, ts, ← hc]
      intro h
      have ho4' : Octs (B4.set (p - (l.length + 4)) v) := by
        intro z hz
        rcases List.mem_or_eq_of_mem_set hz with hz | rfl
        · exact ho4 z hz
        · exact hv
      have := bv_inj 4 _ _ (by simp [hb4]) hb4 ho4' ho4 h
      have h5 := congrArg (fun t => t[p - (l.length + 4)]?) this
      simp only [List.getElem?_set_self hi, List.getElem?_eq_getElem hi] at h5
      exact hne' (by simpa using h5)
theorem FramesFinds (a0 : Int) (l1 : List Int) (a1 : Int) (wf0 : (Lit.int .u8 a0).wf = true ∧ l1.length ≤ maxLen ∧ ∀ x ∈ l1, (Lit.int .u8 x).wf = true) (wf1 : (Lit.int .i64 a1).wf = true) (z0 : True ∧ l1.length * 1 ≤ 140737488351232 ∧ ∀ x ∈ l1, True) :
    ∃ k, transeptlaw03_FramesFinds.f k a0 l1 a1 = some true := by
  have hk := octs_wf (l := [a0]) (by simpa using wf0.1) a0 (by simp)
  have hl := octs_wf wf0.2.2
  refine ⟨20, ?_⟩
  unfold transeptlaw03_FramesFinds.f
  rw [alive03, Option.bind_some, if_pos rfl]
  unfold transeptlaw03_num.f
  by_cases h : l1.length ≤ 4096
  · rw [seal_is a0 hk l1 hl h, Option.bind_some, Option.bind_some, if_pos rfl]
    have hlen := sealOf_length a0 l1
    obtain ⟨B, hB⟩ : ∃ B, B = sealOf a0 l1 := ⟨_, rfl⟩
    have hBo : Octs B := by rw [hB]; exact sealOf_octs a0 hk l1 hl
    rw [← hB] at hlen ⊢
    simp only
    rw [wrap64_id (x := 8 * (B.length : Int)) (by omega) (by omega), if_neg (by omega)]
    obtain ⟨n, hn⟩ : ∃ n : Nat, n = 8 * B.length := ⟨_, rfl⟩
    have e1 : 8 * (B.length : Int) = (n : Int) := by omega
    rw [e1]
    have ht : -(n : Int) < Int.tmod a1 (n : Int) ∧ Int.tmod a1 (n : Int) < (n : Int) := by
      have h1 := Int.tmod_lt_of_pos a1 (show (0 : Int) < (n : Int) by omega)
      have h2 : -(n : Int) < Int.tmod a1 (n : Int) := by
        rcases Int.le_total 0 a1 with h0 | h0
        · have := Int.tmod_nonneg (n : Int) h0; omega
        · have h3 := Int.tmod_lt_of_pos (-a1) (show (0 : Int) < (n : Int) by omega)
          rw [Int.neg_tmod] at h3
          omega
      omega
    rw [wrap64_id (x := Int.tmod a1 (n : Int) + (n : Int)) (by omega) (by omega)]
    obtain ⟨s, hs⟩ : ∃ s : Nat, Int.tmod a1 (n : Int) + (n : Int) = (s : Int) := ⟨(Int.tmod a1 (n : Int) + (n : Int)).toNat, by omega⟩
    rw [hs]
    have e2 : Int.tmod (s : Int) (n : Int) = ((s % n : Nat) : Int) := rfl
    rw [e2]
    obtain ⟨i, hi⟩ : ∃ i : Nat, i = s % n := ⟨_, rfl⟩
    have hin : i < n := by rw [hi]; exact Nat.mod_lt _ (by omega)
    rw [← hi]
    have e3 : Int.tdiv (i : Int) 8 = ((i / 8 : Nat) : Int) := rfl
    have e4 : Int.tmod (i : Int) 8 = ((i % 8 : Nat) : Int) := rfl
    rw [e3, wrap64_id (x := ((i / 8 : Nat) : Int)) (by omega) (by omega)]
    have hj : ∀ c : Bool, transeptlaw03_FramesFinds.j0 20 (i : Int) B c = if c = true then some true else
        (frames_Open.f 19 (B.set (i / 8) (Go.bits .xor .u8 (rd B ((i / 8 : Nat) : Int)) (shl .u8 1 ((i % 8 : Nat) : Int))))).bind fun b => if b.2.2.2 = 0 then some false else if b.2.2.1 = 0 then some ((b.2.1.length : Int) == 0) else some false := by
      intro c
      simp only [transeptlaw03_FramesFinds.j0, transeptlaw03_num.f]
      rw [e3, e4, wrap64_id (x := ((i / 8 : Nat) : Int)) (by omega) (by omega), if_pos (show (0 : Int) ≤ ((i / 8 : Nat) : Int) by omega), if_pos (show ((i / 8 : Nat) : Int) < (B.length : Int) by omega), if_pos (show (0 : Int) ≤ ((i % 8 : Nat) : Int) by omega), Int.toNat_natCast]
      simp only [Option.bind_some]
    rw [hj, hj]
    by_cases h2 : i / 8 = 2
    · rw [if_pos (by omega), if_pos rfl]
    rw [if_neg (by omega)]
    by_cases h3 : i / 8 = 3
    · rw [if_pos (by simp [h3])]
    rw [if_neg (by simp; omega)]
    have hp : i / 8 < B.length := by omega
    rw [rd_nat B (i / 8) hp]
    have htn := turned B[i / 8] (hBo _ (List.getElem_mem hp)) (i % 8) (by omega)
    obtain ⟨v, hv⟩ : ∃ v, v = Go.bits .xor .u8 B[i / 8] (shl .u8 1 ((i % 8 : Nat) : Int)) := ⟨_, rfl⟩
    rw [← hv] at htn ⊢
    have hoc : Octs (B.set (i / 8) v) := by
      intro z hz
      rcases List.mem_or_eq_of_mem_set hz with hz | rfl
      · exact hBo z hz
      · exact ⟨htn.1, htn.2.1⟩
    rw [open_is _ hoc (by simp; omega) 19 (by omega), Option.bind_some]
    subst hB
    obtain ⟨e, he, hne⟩ := spoilt a0 hk l1 hl h (i / 8) (by omega) h2 h3 v ⟨htn.1, htn.2.1⟩ htn.2.2
    rw [he]
    simp only
    rw [if_neg hne, if_pos trivial]
    rfl
  · rw [seal_long a0 l1 (by omega), Option.bind_some, Option.bind_some, if_neg (by decide)]
    rfl
end Go.Proofs.Ythphelbkfgbejaa.Pure
