-- Laid by this session's own program (wip/tools) out of the translation; Lean checks it.
import Derived.Test.YthphelbkfgbejaaQ0
namespace Go.Proofs.Ythphelbkfgbejaa.Q
open Go.RowKit Go.Proofs.YthphelbkfgbejaaW.PrintWords Go.Proofs.YthphelbkfgbejaaW.PrintLast Go.Proofs.YthphelbkfgbejaaW.PrintMore
attribute [local go_sem] max2_int min2_int max_two min_two max_three min_three max_four min_four   -- for this text's walks alone
set_option linter.unusedVariables false
set_option linter.unusedSimpArgs false

/-! ### crc_Sum: function 55 (by hand) -/
/-- one bit of a register -/
def crcBit (c : Nat) : Nat := (c >>> 1) ^^^ (if c % 2 = 1 then 0x82f63b78 else 0)
def crcBits : Nat → Nat → Nat
  | 0, c => c
  | t + 1, c => crcBit (crcBits t c)
theorem crcBit_lt (c : Nat) (h : c < 4294967296) : crcBit c < 4294967296 := by
  unfold crcBit
  have h1 : c >>> 1 < 2 ^ 32 := by rw [Nat.shiftRight_eq_div_pow]; omega
  have h2 : (if c % 2 = 1 then 0x82f63b78 else 0 : Nat) < 2 ^ 32 := by split <;> omega
  simpa using Nat.xor_lt_two_pow h1 h2
theorem crcBits_lt (t c : Nat) (h : c < 4294967296) : crcBits t c < 4294967296 := by
  induction t with
  | zero => exact h
  | succ t ih => exact crcBit_lt _ ih
theorem u32_xor (a b : Nat) (ha : a < 4294967296) (hb : b < 4294967296) : Go.bits .xor .u32 (a : Int) (b : Int) = ((a ^^^ b : Nat) : Int) ∧ a ^^^ b < 4294967296 := by
  have hx : a ^^^ b < 2 ^ 32 := Nat.xor_lt_two_pow (show a < 2 ^ 32 from ha) (show b < 2 ^ 32 from hb)
  refine ⟨?_, hx⟩
  have ha' : a % 2 ^ IntKind.u32.bits = a := Nat.mod_eq_of_lt (by rw [show (2 : Nat) ^ IntKind.u32.bits = 4294967296 from rfl]; exact ha)
  have hb' : b % 2 ^ IntKind.u32.bits = b := Nat.mod_eq_of_lt (by rw [show (2 : Nat) ^ IntKind.u32.bits = 4294967296 from rfl]; exact hb)
  simp only [bits, BitVec.ofInt_natCast, BitVec.toNat_xor, BitVec.toNat_ofNat, ha', hb']
  have h3 : a ^^^ b < 4294967296 := hx
  simp [IntKind.wrap, IntKind.bits, IntKind.signed]
  omega
theorem u32_wrap (a : Nat) (ha : a < 4294967296) : IntKind.u32.wrap (a : Int) = (a : Int) := by
  simp [IntKind.wrap, IntKind.bits, IntKind.signed]; omega
theorem u32_and (a b : Nat) (ha : a < 4294967296) (hb : b < 4294967296) : Go.bits .and .u32 (a : Int) (b : Int) = ((a &&& b : Nat) : Int) := by
  have hx : a &&& b ≤ a := Nat.and_le_left
  have ha' : a % 2 ^ IntKind.u32.bits = a := Nat.mod_eq_of_lt (by rw [show (2 : Nat) ^ IntKind.u32.bits = 4294967296 from rfl]; exact ha)
  have hb' : b % 2 ^ IntKind.u32.bits = b := Nat.mod_eq_of_lt (by rw [show (2 : Nat) ^ IntKind.u32.bits = 4294967296 from rfl]; exact hb)
  simp only [bits, BitVec.ofInt_natCast, BitVec.toNat_and, BitVec.toNat_ofNat, ha', hb']
  exact u32_wrap _ (by omega)
theorem crc_bit (c : Nat) (h : c < 4294967296) : Go.bits .xor .u32 ((c : Int) / 2) (Go.bits .and .u32 2197175160 ((-(Go.bits .and .u32 (c : Int) 1)) % 4294967296)) = (crcBit c : Nat) := by
  have e1 : (c : Int) / (2 : Int) = ((c >>> 1 : Nat) : Int) := by
    rw [Nat.shiftRight_eq_div_pow]; omega
  have e2 : Go.bits .and .u32 (c : Int) 1 = ((c % 2 : Nat) : Int) := by
    rw [show (1 : Int) = ((1 : Nat) : Int) from rfl, u32_and c 1 h (by omega), Nat.and_one_is_mod]
  have h1 : c >>> 1 < 4294967296 := by rw [Nat.shiftRight_eq_div_pow]; omega
  rw [e1, e2]
  unfold crcBit
  by_cases hc : c % 2 = 1
  · rw [if_pos hc, hc, show (-((1 : Nat) : Int)) % 4294967296 = ((4294967295 : Nat) : Int) from by decide]
    rw [show (2197175160 : Int) = ((2197175160 : Nat) : Int) from rfl, u32_and _ _ (by omega) (by omega)]
    rw [show 2197175160 &&& 4294967295 = 2197175160 from by decide]
    exact (u32_xor _ _ h1 (by omega)).1
  · have h0 : c % 2 = 0 := by omega
    rw [if_neg hc, h0, show (-((0 : Nat) : Int)) % 4294967296 = ((0 : Nat) : Int) from by decide]
    rw [show (2197175160 : Int) = ((2197175160 : Nat) : Int) from rfl, u32_and _ _ (by omega) (by omega)]
    rw [show 2197175160 &&& 0 = 0 from by decide]
    exact (u32_xor _ _ h1 (by omega)).1
/-- the table's cells when k of them are laid -/
def tabC (k : Nat) : Array Value := ((List.range 256).map fun i => Value.int .u32 (if i < k then (crcBits 8 i : Nat) else 0)).toArray
theorem tabC_size (k : Nat) : (tabC k).size = 256 := by simp [tabC]
theorem tabC_get (k i : Nat) (h : i < 256) : (tabC k)[i]? = some (Value.int .u32 (if i < k then (crcBits 8 i : Nat) else 0)) := by
  simp [tabC, h]
theorem tabC_set (k : Nat) (h : k < 256) : (tabC k).setIfInBounds k (.int .u32 (crcBits 8 k : Nat)) = tabC (k + 1) := by
  apply Array.ext (by simp [tabC_size])
  intro i h1 h2
  rw [tabC_size] at h2
  have a := tabC_get k i h2
  have b := tabC_get (k + 1) i h2
  rw [Array.getElem?_eq_getElem (by rw [tabC_size]; exact h2)] at a b
  rw [Array.getElem_setIfInBounds (by rw [tabC_size]; exact h2)]
  injection a with a; injection b with b
  rw [a, b]
  by_cases hk : k = i
  · subst hk; rw [if_pos rfl, if_pos (by omega)]
  · rw [if_neg hk]
    by_cases hl : i < k
    · rw [if_pos hl, if_pos (by omega)]
    · rw [if_neg hl, if_neg (by omega)]
theorem laid_cell {w : World} {b : Nat} {c : Array Value} {t : TypeId} (h : w.heap[b]? = some (.cells c t (0, 0))) (i : Nat) : w.cell? ⟨b, i, none⟩ = c[i]? ∧ w.frozen? ⟨b, i, none⟩ = false := by
  unfold World.cell? World.frozen?
  simp only [h]
  exact ⟨rfl, by simp⟩
theorem laid_set {w : World} {b : Nat} {c : Array Value} {t : TypeId} (h : w.heap[b]? = some (.cells c t (0, 0))) (i : Nat) (v : Value) : (w.setCell ⟨b, i, none⟩ v).heap[b]? = some (.cells (c.setIfInBounds i v) t (0, 0)) := by
  unfold World.setCell
  simp only [Array.getElem?_modify, h]
  simp
set_option maxHeartbeats 800000 in
set_option maxRecDepth 100000 in
theorem crc_table.calls (w : World) : Calls Try.prog 66 #[] w fun e w' => e = .returned (.pointer (some ⟨w.heap.size, 0, none⟩)) ∧ (∀ i : Nat, i < 256 → w'.cell? ⟨w.heap.size, i, none⟩ = some (.int .u32 (crcBits 8 i : Nat))) ∧ Below w.heap.size w w' := by
  have hz : Try.zeroCells100 = tabC 0 := by kernel_rfl
  go_enter Try.func66, Try.ntmps66
  go_wp2
  have HH := Aside0.mk (show (w.alloc (Obj.cells Try.zeroCells100 100)).heap[w.heap.size]? = some (.cells (tabC 0) 100 (0, 0)) by rw [← hz]; exact World.alloc_heap_new _ _)
  have HB := Aside0.mk (below_alloc (Below.refl w.heap.size w) (Obj.cells Try.zeroCells100 100))
  clear hz
  go_loopw [4] (fun v4 wr => ∃ k : Nat, v4 = .int .i64 (k : Int) ∧ k ≤ 256 ∧ Aside0 (wr.heap[w.heap.size]? = some (.cells (tabC k) 100 (0, 0))) ∧ Aside0 (Below w.heap.size w wr)) (fun v4 _ => 256 - (intOf v4).toNat)
  case atStart => exact ⟨0, rfl, by omega, HH, HB⟩
  case round =>
    obtain ⟨k, rfl, hk, H, B⟩ := hrel
    clear HH HB
    by_cases hlt : k < 256
    · go_wp2
      go_loop [3, 9] (fun v3 v9 => ∃ j : Nat, v9 = .int .i64 (j : Int) ∧ j ≤ 8 ∧ v3 = .int .u32 (crcBits j k : Nat)) (fun _ v9 => 8 - (intOf v9).toNat)
      case atStart => exact ⟨0, rfl, by omega, rfl⟩
      case round =>
        obtain ⟨j, rfl, hj, rfl⟩ := hrel
        have hc := crcBits_lt j k (by omega)
        have hcb := crc_bit _ hc
        obtain ⟨c, hce⟩ : ∃ c, c = crcBits j k := ⟨_, rfl⟩
        rw [← hce] at hc hcb
        by_cases hj8 : j < 8
        · have C := Aside0.mk hcb
          clear hcb
          go_wp2
          go_roundw
          case rel => exact ⟨j + 1, by push_cast; rfl, by omega, by rw [← hce, C.out, hce]; rfl⟩
          case measure => simp [intOf]; omega
        · have : j = 8 := by omega
          subst this
          have hcell := (laid_cell H.out k).1
          rw [tabC_get k k hlt] at hcell
          have hfroz := (laid_cell H.out k).2
          have HS := Aside0.mk (laid_set H.out k (.int .u32 (crcBits 8 k : Nat)))
          rw [hce] at *
          go_wp2
          go_roundw
          case rel => exact ⟨k + 1, by push_cast; rfl, by omega, ⟨by rw [← tabC_set k hlt]; exact HS.out⟩, ⟨B.out.setCell (Nat.le_refl _) _⟩⟩
          case measure => simp [intOf]; omega
    · have : k = 256 := by omega
      subst this
      go_wp2
      go_ret
      exact ⟨rfl, fun i hi => by rw [(laid_cell H.out i).1, tabC_get 256 i hi, if_pos hi], B.out⟩
/-- an octet through a register, by the table -/
def crcStep (c x : Nat) : Nat := (c >>> 8) ^^^ crcBits 8 ((c % 256) ^^^ x)
def crcRun (c : Nat) (l : List Int) : Nat := l.foldl (fun c x => crcStep c x.toNat) c
theorem octet_xor_lt (c x : Nat) (hx : x < 256) : (c % 256) ^^^ x < 256 := by
  have := Nat.xor_lt_two_pow (x := c % 256) (y := x) (n := 8) (by show c % 256 < 256; omega) hx
  exact this
theorem crcStep_lt (c x : Nat) (h : c < 4294967296) (hx : x < 256) : crcStep c x < 4294967296 := by
  unfold crcStep
  have h1 : c >>> 8 < 2 ^ 32 := by rw [Nat.shiftRight_eq_div_pow]; omega
  have h2 : crcBits 8 ((c % 256) ^^^ x) < 2 ^ 32 := crcBits_lt 8 _ (by have := octet_xor_lt c x hx; omega)
  exact Nat.xor_lt_two_pow h1 h2
theorem crcRun_snoc (c : Nat) (l : List Int) (x : Int) : crcRun c (l ++ [x]) = crcStep (crcRun c l) x.toNat := by simp [crcRun, List.foldl_append]
theorem crcRun_lt (l : List Int) : ∀ (c : Nat), c < 4294967296 → (∀ x ∈ l, 0 ≤ x ∧ x < 256) → crcRun c l < 4294967296 := by
  induction l with
  | nil => intro c h _; exact h
  | cons x l ih =>
    intro c h hx
    exact ih _ (crcStep_lt c x.toNat h (by have := hx x (by simp); omega)) (fun y hy => hx y (by simp [hy]))
theorem u8_xor (a b : Nat) (ha : a < 256) (hb : b < 256) : Go.bits .xor .u8 (a : Int) (b : Int) = ((a ^^^ b : Nat) : Int) := by
  have hx : a ^^^ b < 2 ^ 8 := Nat.xor_lt_two_pow (show a < 2 ^ 8 from ha) (show b < 2 ^ 8 from hb)
  have ha' : a % 2 ^ IntKind.u8.bits = a := Nat.mod_eq_of_lt (by rw [show (2 : Nat) ^ IntKind.u8.bits = 256 from rfl]; exact ha)
  have hb' : b % 2 ^ IntKind.u8.bits = b := Nat.mod_eq_of_lt (by rw [show (2 : Nat) ^ IntKind.u8.bits = 256 from rfl]; exact hb)
  simp only [bits, BitVec.ofInt_natCast, BitVec.toNat_xor, BitVec.toNat_ofNat, ha', hb']
  have h3 : a ^^^ b < 256 := hx
  simp [IntKind.wrap, IntKind.bits, IntKind.signed]
  omega
set_option maxHeartbeats 800000 in
set_option maxRecDepth 100000 in
theorem crc_run.calls (c : Nat) (hcl : c < 4294967296) (A0 : Option Addr) (c0 : Nat) (l0 : List Int) (w : World) (hr0 : Kd.C (Kd.int .u8) w A0 l0.length l0) (hc0 : l0.length ≤ c0) (hx : ∀ x ∈ l0, 0 ≤ x ∧ x < 256) (hl : l0.length ≤ 140737488355328) : Calls Try.prog 64 #[.int .u32 (c : Nat), .slice A0 l0.length c0] w fun e w' => e = .returned (.int .u32 (crcRun c l0 : Nat)) ∧ Below w.heap.size w w' := by
  have HX := Aside0.mk hx
  have HR0 := Aside0.mk hr0
  clear hx hr0 hc0
  by_cases he : l0.length = 0
  · have : l0 = [] := List.eq_nil_of_length_eq_zero he
    subst this
    go_enter Try.func64, Try.ntmps64
    go_wp2
    go_ret
    exact ⟨rfl, Below.refl _ _⟩
  · go_enter Try.func64, Try.ntmps64
    go_wp2_with (go_at_call 66; refine (crc_table.calls _).mono ?_; rintro e w1 ⟨rfl, ht, hb⟩; have HT := Aside0.mk ht; have HB := Aside0.mk hb; clear ht hb)
    have HR1 := Aside0.mk (Kd.C_below HR0.out HB.out)
    go_loop [0, 15] (fun v0 v15 => ∃ k : Nat, v15 = .int .i64 (k : Int) ∧ k ≤ l0.length ∧ v0 = .int .u32 (crcRun c (l0.take k) : Nat)) (fun _ v15 => l0.length - (intOf v15).toNat)
    case atStart => exact ⟨0, rfl, by omega, rfl⟩
    case round =>
      obtain ⟨k, rfl, hk, rfl⟩ := hrel
      have hlt := crcRun_lt (l0.take k) c hcl (fun x hx => HX.out x (List.mem_of_mem_take hx))
      obtain ⟨q, hq⟩ : ∃ q, q = crcRun c (l0.take k) := ⟨_, rfl⟩
      rw [← hq] at hlt ⊢
      by_cases hkn : k < l0.length
      · obtain ⟨x, hxe⟩ : ∃ x : Nat, l0[k] = (x : Int) := ⟨l0[k].toNat, by have := HX.out _ (List.getElem_mem hkn); omega⟩
        have hxb : x < 256 := by have := HX.out _ (List.getElem_mem hkn); omega
        have hnext : crcRun c (l0.take (k + 1)) = crcStep q x := by
          rw [List.take_succ_eq_append_getElem hkn, crcRun_snoc, ← hq, hxe, Int.toNat_natCast]
        obtain ⟨ad, hae, hcell⟩ := Kd.at_int HR1.out (k : Int) (by omega) (by omega)
        cases hae
        rw [rd_nat l0 k hkn, hxe, Int.toNat_natCast] at hcell
        have htx := HT.out ((q % 256) ^^^ x) (octet_xor_lt q x hxb)
        have hxor : Go.bits .xor .u8 ((q : Int) % 256) (x : Int) = (((q % 256) ^^^ x : Nat) : Int) := by
          rw [← u8_xor (q % 256) x (by omega) hxb]; congr 1
        have hlx := octet_xor_lt q x hxb
        obtain ⟨y, hy⟩ : ∃ y, y = (q % 256) ^^^ x := ⟨_, rfl⟩
        rw [← hy] at htx hxor hlx
        have hstep : Go.bits .xor .u32 ((q : Int) / 256) ((crcBits 8 y : Nat) : Int) = (crcStep q x : Nat) := by
          have h1 : q >>> 8 < 4294967296 := by rw [Nat.shiftRight_eq_div_pow]; omega
          have := (u32_xor (q >>> 8) (crcBits 8 y) h1 (crcBits_lt 8 _ (by omega))).1
          rw [show ((q >>> 8 : Nat) : Int) = (q : Int) / 256 by rw [Nat.shiftRight_eq_div_pow]; omega] at this
          rw [this, hy]; rfl
        have HN := Aside0.mk hnext
        clear hnext hq hxe hy
        have HST := Aside0.mk hstep
        clear hstep
        go_wp2
        exact ⟨⟨k + 1, by push_cast; rfl, by omega, by rw [HST.out, HN.out]⟩, by simp [intOf]; omega⟩
      · have : k = l0.length := by omega
        subst this
        go_wp2
        go_ret
        exact ⟨rfl, HB.out⟩

theorem u32_not (q : Nat) (h : q < 4294967296) : Go.bits .xor .u32 IntKind.u32.max (q : Int) = ((4294967295 - q : Nat) : Int) := by
  rw [show IntKind.u32.max = ((4294967295 : Nat) : Int) from by decide, (u32_xor 4294967295 q (by omega) h).1]
  have : (4294967295 ^^^ q : Nat) = 4294967295 - q := by
    have h1 := congrArg BitVec.toNat (show (BitVec.allOnes 32) ^^^ (BitVec.ofNat 32 q) = ~~~ (BitVec.ofNat 32 q) from BitVec.allOnes_xor)
    rw [BitVec.toNat_xor, BitVec.toNat_not, BitVec.toNat_allOnes, BitVec.toNat_ofNat, Nat.mod_eq_of_lt (show q < 2 ^ 32 from h)] at h1
    have e : (2 : Nat) ^ 32 - 1 = 4294967295 := by decide
    rw [e] at h1
    exact h1
  rw [this]
def crcSum (l : List Int) : Nat := 4294967295 - crcRun 4294967295 l
def crc_Sum.f (l0 : List Int) : Option Int := if (∀ x ∈ l0, 0 ≤ x ∧ x < 256) ∧ l0.length ≤ 140737488355328 then some ((crcSum l0 : Nat) : Int) else none
set_option maxHeartbeats 800000 in
set_option maxRecDepth 100000 in
theorem crc_Sum.calls (A0 : Option Addr) (c0 : Nat) (l0 : List Int) (r : Int) (w : World) (hr0 : Kd.C (Kd.int .u8) w A0 l0.length l0) (hc0 : l0.length ≤ c0) (h : crc_Sum.f l0 = some r) : Calls Try.prog 55 #[.slice A0 l0.length c0] w fun e w' => e = .returned (.int .u32 r) ∧ Below w.heap.size w w' := by
  unfold crc_Sum.f at h
  by_cases hx : (∀ x ∈ l0, 0 ≤ x ∧ x < 256) ∧ l0.length ≤ 140737488355328
  case neg => rw [if_neg hx] at h; cases h
  rw [if_pos hx] at h
  cases h
  have hr := crcRun_lt l0 4294967295 (by omega) hx.1
  have HP := Aside0.mk (crc_run.calls 4294967295 (by omega) A0 c0 l0 w hr0 hc0 hx.1 hx.2)
  clear hx hr0 hc0
  have HN := Aside0.mk (u32_not (crcRun 4294967295 l0) hr)
  clear hr
  unfold crcSum
  go_enter Try.func55, Try.ntmps55
  go_wp2_with (first | (go_at_call 64; refine HP.out.mono ?_; rintro e w1 ⟨rfl, hb⟩) | go_in)
  go_ret
  exact ⟨by rw [HN.out]; rfl, hb⟩


end Go.Proofs.Ythphelbkfgbejaa.Q
