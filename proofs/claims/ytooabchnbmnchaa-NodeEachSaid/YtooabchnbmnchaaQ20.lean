-- (thinned for this claim by wip/tools/shake.py: what the claim doesn't use is left out)
-- Laid by this session's own program (wip/tools) out of the translation; Lean checks it.
import Derived.Test.YtooabchnbmnchaaQ0
import Derived.Test.YtooabchnbmnchaaQ7
import Derived.Test.YtooabchnbmnchaaQ17
namespace Go.Proofs.Ytooabchnbmnchaa.Q
open Go.RowKit Go.Proofs.YtooabchnbmnchaaW.PrintWords Go.Proofs.YtooabchnbmnchaaW.PrintLast Go.Proofs.YtooabchnbmnchaaW.PrintMore
attribute [local go_sem] max2_int min2_int max_two min_two max_three min_three max_four min_four binOp_string_leq binOp_string_geq binOp_string_gtr   -- for this text's walks alone
set_option linter.unusedVariables false
set_option linter.unusedSimpArgs false
def Scn (w : World) (z Bs : Nat) (l : List Int) (bad : Bool) : Prop :=
 ∃ (A : Option Addr) (c : Nat), w.heap[Bs]? = some (.cells #[.slice A l.length c, .bool bad] 95 (0, 0)) ∧ (∀ W', Below z w W' → Kd.C (Kd.int .u8) W' A l.length l) ∧ l.length ≤ c ∧ z ≤ Bs
def tkv (l : List Int) (n : Nat) : List Int := if l.length < n then List.replicate n 0 else l.take n
def tkr (l : List Int) (n : Nat) : List Int := if l.length < n then [] else l.drop n
def tkb (l : List Int) (bad : Bool) (n : Nat) : Bool := if l.length < n then true else bad
theorem tkv_length (l : List Int) (n : Nat) : (tkv l n).length = n := by unfold tkv; split <;> simp; omega
theorem Scn.kept {w w' : World} {z Bs : Nat} {l : List Int} {bad : Bool} (h : Scn w z Bs l bad) (hb : w'.heap[Bs]? = w.heap[Bs]?) (hk : Below z w w') : Scn w' z Bs l bad := by
 obtain ⟨A, c, h1, h2, h3, h4⟩ := h
 exact ⟨A, c, hb.trans h1, fun W' hk' => h2 W' (hk.trans hk'), h3, h4⟩
theorem grown_set (W : World) (b j : Nat) (v : Value) : W.grownBy (W.setCell ⟨b, j, none⟩ v) (some b) :=
 ⟨rfl, rfl, rfl, by simp, fun k _ hk => Below.heap_setCell W _ _ k (fun e => hk (by rw [e]))⟩
theorem Scn.lt {w : World} {z Bs : Nat} {l : List Int} {bad : Bool} (h : Scn w z Bs l bad) : Bs < w.heap.size := by
 obtain ⟨A, c, h1, _⟩ := h
 exact (Array.getElem?_eq_some_iff.1 h1).1
set_option maxHeartbeats 1600000 in
set_option maxRecDepth 100000 in
theorem scan_take (z Bs : Nat) (l : List Int) (bad : Bool) (n : Nat) (hn : n ≤ 1048576) (w : World) (hs : Scn w z Bs l bad) :
  Calls Try.prog 82 #[.pointer (some ⟨Bs, 0, none⟩), .int .i64 n] w fun e w' => ∃ (A : Option Addr) (c : Nat), e = .returned (.slice A n c) ∧ n ≤ c ∧ Kd.C (Kd.int .u8) w' A n (tkv l n) ∧ Scn w' z Bs (tkr l n) (tkb l bad n) ∧ w.grownBy w' (some Bs) := by
 have hlt := hs.lt
 obtain ⟨A, c, h1, h2, h3, h4⟩ := hs
 have hm := Kd.C_max (h2 w (Below.refl _ _))
 have hc0 : w.cell? ⟨Bs, 0, none⟩ = some (.slice A l.length c) := (blk_cell h1 0).trans rfl
 have hc1 : w.cell? ⟨Bs, 1, none⟩ = some (.bool bad) := (blk_cell h1 1).trans rfl
 have hf0 : w.frozen? ⟨Bs, 0, none⟩ = false := blk_frozen h1 0
 have hf1 : w.frozen? ⟨Bs, 1, none⟩ = false := blk_frozen h1 1
 have hinfo : (Try.prog.info? 5).map (fun i => (i.zero, i.size, i.bytes)) = some (some (.int .u8 0), 1, 1) := by kernel_rfl
 obtain ⟨i0, hi, hz0, hz1, hz2⟩ := info_parts hinfo
 by_cases hlen : l.length < n
 ·have hlen' : (l.length : Int) < (n : Int) := by omega
  have H1 := Aside0.mk h1
  clear h1 h2 h3
  have hmk : ∀ W : World, (Instr.makeSlice 26 (.int .i64 (n : Int)) (.int .i64 (n : Int))).run Try.prog W = .ok (.slice (some ⟨W.heap.size, 0, none⟩) n n) (W.alloc (.cells (madeCells #[.int .u8 0] n) 5)) := by
   intro W
   have := run_make W 26 5 i0 (.int .u8 0) Try.underlying26 hi hz0 .i64 .i64 (n : Int) (n : Int) (by omega) (by omega) (by rw [hz2]; omega) (by omega)
   rw [hz1, Nat.mul_one, Int.toNat_natCast] at this
   exact this
  clear hinfo hi hz0 hz1 hz2
  go_enter Try.func82, Try.ntmps82
  go_wp2
  obtain ⟨X, hX⟩ : ∃ X, X = (w.setCell ⟨Bs, 0, none⟩ (.slice none 0 0)).setCell ⟨Bs, 1, none⟩ (.bool true) := ⟨_, rfl⟩
  have hXb : X.heap[Bs]? = some (.cells #[.slice none 0 0, .bool true] 95 (0, 0)) := by rw [hX]; exact blk_put (blk_put H1.out 0 (.slice none 0 0) rfl) 1 (.bool true) rfl
  have hXg : w.grownBy X (some Bs) := by rw [hX]; exact (grown_set w Bs 0 _).trans (grown_set _ Bs 1 _)
  have hXs : X.heap.size = w.heap.size := by rw [hX]; simp
  rw [← hX]
  clear hX
  have hO := own_made X X.heap.size 5 .u8 n (Nat.le_refl _) (by omega)
  have hC : Kd.C (Kd.int .u8) (X.alloc (.cells (madeCells #[.int .u8 0] n) 5)) (some ⟨X.heap.size, 0, none⟩) n (List.replicate n 0) := by
   have hR : (Kd.int .u8).R 5 (X.alloc (.cells (madeCells #[.int .u8 0] n) 5)) X.heap.size (fun _ => True) (.slice (some ⟨X.heap.size, 0, none⟩) n n) (List.replicate n 0) := Kd.R_of_own (by rw [List.length_replicate]; exact hO) (fun _ _ => trivial)
   have := (Kd.R_reads' hR).2.2
   simpa using this
  rw [← hXs]
  go_ret
  refine ⟨some ⟨X.heap.size, 0, none⟩, n, rfl, Nat.le_refl _, ?_, ⟨none, 0, ?_, fun W' _ => ?_, ?_, h4⟩, hXg.trans (World.grownBy_alloc X _ _)⟩
  ·unfold tkv; rw [if_pos hlen]
   exact hC
  ·unfold tkr tkb; rw [if_pos hlen, if_pos hlen]
   exact blk_alloc hXb _
  ·unfold tkr; rw [if_pos hlen]; exact Kd.C_nil _ _
  ·unfold tkr; rw [if_pos hlen]; exact Nat.le_refl _
 ·have hlen' : ¬ ((l.length : Int) < (n : Int)) := by omega
  obtain ⟨hcut1, hA1, hC1⟩ := print_take_of (P := Try.prog) (Value.int .u8) 0 26 5 .i64 Try.underlying26 hi hz1 A c l (n : Int) (by omega) (by omega) h3
  obtain ⟨A2, hcut2, hA2, hC2⟩ := print_drop_of (P := Try.prog) (Value.int .u8) 0 26 5 .i64 Try.underlying26 hi hz1 A c l (n : Int) (by omega) (by omega) h3
  simp only [Int.toNat_natCast] at hcut1 hA1 hC1 hcut2 hA2 hC2
  have htl : (l.take n).length = n := by rw [List.length_take]; omega
  rw [htl] at hcut1
  have H1 := Aside0.mk h1
  have H2 := Aside0.mk h2
  have HA1 := Aside0.mk hA1
  have HA2 := Aside0.mk hA2
  have HL := Aside0.mk (And.intro h3 htl)
  have hdl : (l.drop n).length = l.length - n := List.length_drop
  obtain ⟨dn, hdn⟩ : ∃ dn, dn = l.drop n := ⟨_, rfl⟩
  rw [← hdn] at hcut2 hC2 hdl
  have HD := Aside0.mk hdn
  have HC2 := Aside0.mk hC2
  have HDL := Aside0.mk hdl
  clear h1 h2 h3 hA1 hA2 hC1 hC2 hinfo hi hz0 hz1 hz2 htl hdn hdl
  go_enter Try.func82, Try.ntmps82
  go_wp2
  go_ret
  have hk1 : Below z w (w.setCell ⟨Bs, 0, none⟩ (.slice A2 dn.length (c - n))) := (Below.refl z w).setCell (p := ⟨Bs, 0, none⟩) h4 _
  refine ⟨A, c, rfl, by have := HL.out; omega, ?_, ⟨A2, c - n, ?_, fun W' hk => ?_, ?_, h4⟩, grown_set _ _ _ _⟩
  ·unfold tkv; rw [if_neg hlen]
   have := Kd.C_of_reads (h1 := fun _ => rfl) (HA1.out _ (Kd.reads_of_C (H2.out _ hk1)))
   rwa [HL.out.2] at this
  ·unfold tkr tkb; rw [if_neg hlen, if_neg hlen, ← HD.out]
   exact blk_put H1.out 0 _ rfl
  ·unfold tkr; rw [if_neg hlen]
   exact Kd.C_of_reads (h1 := fun _ => rfl) (HA2.out W' (Kd.reads_of_C (H2.out W' (hk1.trans hk))))
  ·unfold tkr; rw [if_neg hlen, ← HD.out]
   exact HC2.out
def oct (l : List Int) : Int := rd (tkv l 1) 0
set_option maxHeartbeats 800000 in
theorem scan_octet (z Bs : Nat) (l : List Int) (bad : Bool) (w : World) (hs : Scn w z Bs l bad) (hl : ∀ x ∈ l, 0 ≤ x ∧ x < 256) :
  Calls Try.prog 51 #[.pointer (some ⟨Bs, 0, none⟩)] w fun e w' => e = .returned (.int .i64 (oct l)) ∧ Scn w' z Bs (tkr l 1) (tkb l bad 1) ∧ w.grownBy w' (some Bs) := by
 have hc := scan_take z Bs l bad 1 (by omega) w hs
 have ho : 0 ≤ oct l ∧ oct l < 256 := by
  unfold oct tkv
  rcases l with _ | ⟨x, l⟩
  ·decide
  ·have := hl x (by simp)
   simpa [rd] using this
 clear hs
 go_enter Try.func51, Try.ntmps51
 go_wp2_with (go_at_call 82; refine hc.mono ?_; rintro e w1 ⟨A, c, rfl, hnc, hC, hS, hg⟩; obtain ⟨ad, rfl, hcell⟩ := Kd.at_int hC 0 (by decide) (by decide); rw [show rd (tkv l 1) 0 = oct l from rfl, show ((0 : Int)).toNat = 0 from rfl, show ad.add 0 = ad from rfl] at hcell; have HS := Aside0.mk hS; have HG := Aside0.mk hg; clear hC hS hg hnc hc)
 go_ret
 exact ⟨rfl, HS.out, HG.out⟩
def txtS (l : List Int) : ByteArray := strOfNums (tkv (tkr l 1) (oct l).toNat)
def txtR (l : List Int) : List Int := tkr (tkr l 1) (oct l).toNat
def txtB (l : List Int) (bad : Bool) : Bool := tkb (tkr l 1) (tkb l bad 1) (oct l).toNat
theorem tkr_sub (l : List Int) (n : Nat) : ∀ x ∈ tkr l n, x ∈ l := by
 unfold tkr; split
 ·intro x h; cases h
 ·intro x h; exact List.mem_of_mem_drop h
theorem oct_bound (l : List Int) (hl : ∀ x ∈ l, 0 ≤ x ∧ x < 256) : 0 ≤ oct l ∧ oct l < 256 := by
 unfold oct tkv
 rcases l with _ | ⟨x, l⟩
 ·decide
 ·have := hl x (by simp)
  simpa [rd] using this
theorem scan_conv {w2 : World} {A : Option Addr} {q : Nat} {l : List Int} (h : Kd.C (Kd.int .u8) w2 A q (tkv l q)) (c : Nat) : Sem.run Try.prog (convert 26 9 (.slice A q c)) w2 = .ok (.string (strOfNums (tkv l q))) w2 :=
 Kd.C_string Try.underlying26 Try.underlying5 Try.underlying9 h
set_option maxHeartbeats 800000 in
theorem scan_text (z Bs : Nat) (l : List Int) (bad : Bool) (w : World) (hs : Scn w z Bs l bad) (hl : ∀ x ∈ l, 0 ≤ x ∧ x < 256) :
  Calls Try.prog 53 #[.pointer (some ⟨Bs, 0, none⟩)] w fun e w' => e = .returned (.string (txtS l)) ∧ Scn w' z Bs (txtR l) (txtB l bad) ∧ w.grownBy w' (some Bs) := by
 have hc := scan_octet z Bs l bad w hs hl
 obtain ⟨q, hq⟩ := Int.eq_ofNat_of_zero_le (oct_bound l hl).1
 have hq2 := (oct_bound l hl).2
 have HT := Aside0.mk (show (oct l).toNat = q by omega)
 have hqb : q ≤ 1048576 := by omega
 rw [hq] at hc
 clear hs hq
 go_enter Try.func53, Try.ntmps53
 go_wp2_with (first | (go_at_call 51; refine hc.mono ?_; rintro e w1 ⟨rfl, hS, hg⟩; have hcall := scan_take z Bs (tkr l 1) (tkb l bad 1) q hqb w1 hS; have HG := Aside0.mk hg; clear hS hg hc) | (go_at_call 82; go_loud (refine hcall.mono ?_; rintro e w2 ⟨A, c, rfl, hnc, hC, hS, hg⟩; have hconv := scan_conv hC c; have HS := Aside0.mk hS; have HG2 := Aside0.mk hg; clear hC hS hg hnc hcall)))
 go_ret
 refine ⟨?_, ?_, HG.out.trans HG2.out⟩
 ·unfold txtS; rw [HT.out]; rfl
 ·unfold txtR txtB; rw [HT.out]; exact HS.out
def kidV (k : Nat) (l : List Int) : Option Int := (octets_Get.f k (tkv l 4)).bind fun b => some (wrap64 b.1)
set_option maxHeartbeats 800000 in
theorem scan_kid (k : Nat) (z Bs : Nat) (l : List Int) (bad : Bool) (r : Int) (w : World) (hs : Scn w z Bs l bad) (h : kidV k l = some r) :
  Calls Try.prog 52 #[.pointer (some ⟨Bs, 0, none⟩)] w fun e w' => e = .returned (.int .i64 r) ∧ Scn w' z Bs (tkr l 4) (tkb l bad 4) ∧ w.grownBy w' (some Bs) := by
 have hc := scan_take z Bs l bad 4 (by omega) w hs
 unfold kidV at h
 obtain ⟨⟨b1, b2⟩, hb, h⟩ := Option.bind_eq_some_iff.1 h
 injection h with h
 simp only at h
 subst h
 have HBG := Aside0.mk hb
 clear hs hb
 go_enter Try.func52, Try.ntmps52
 go_wp2_with (first | (go_at_call 82; refine hc.mono ?_; rintro e w1 ⟨A, c, rfl, hnc, hC, hS, hg⟩; have hcall := octets_Get.calls k A c (tkv l 4) b1 b2 w1 (by rw [tkv_length]; exact hC) (by rw [tkv_length]; exact hnc) HBG.out; rw [tkv_length] at hcall; have HS := Aside0.mk hS; have HG := Aside0.mk hg; clear hC hS hg hnc hc) | (go_at_call 83; refine hcall.mono ?_; rintro e w2 ⟨rfl, ⟨nq, rfl⟩⟩; clear hcall))
 go_ret
 exact ⟨rfl, HS.out.kept rfl (pw_below_drewN (Below.refl _ _) _), ⟨HG.out.os, HG.out.tape, HG.out.output, HG.out.size, HG.out.block⟩⟩
def jumpsN (P : Program) (c : Code) (Q : Exit → Act → World → Prop) : Nat → Exit → Act → World → Prop
 | 0, .goto _, _, _ => False
 | n + 1, .goto l, a, w => ∃ rest, findLabel c l = some rest ∧ rest.wp P (jumpsN P c Q n) a w
 | _, e, a, w => Q e a w
theorem jumpsN_goto {P : Program} {c : Code} {Q : Exit → Act → World → Prop} {n l : Nat} {a : Act} {w : World} {rest : Code} (hf : findLabel c l = some rest) (h : rest.wp P (jumpsN P c Q n) a w) : jumpsN P c Q (n + 1) (.goto l) a w := ⟨rest, hf, h⟩
theorem jumpsN_ret {P : Program} {c : Code} {Q : Exit → Act → World → Prop} {n : Nat} {a : Act} {w : World} (h : Q .ret a w) : jumpsN P c Q n .ret a w := by
 cases n <;> exact h
theorem wp_scope_jumpsN {P : Program} {a : Act} {w : World} {Q : Exit → Act → World → Prop} {c : Code} (n : Nat) (first : c.wp P (jumpsN P c Q n) a w) : (Code.scope c).wp P Q a w := by
 intro b k cs
 have hg : ∀ l rest, findLabel c l = some rest → gotoIn l (.inScope c :: k) = some (.code rest :: .inScope c :: k) := fun l rest hf => by simp [gotoIn, hf]
 have key : ∀ n (rest : Code) a w, rest.wp P (jumpsN P c Q n) a w → ∃ e a' w', Q e a' w' ∧ Arrives P (lone (b.at a (.code rest :: .inScope c :: k)) cs w) b k cs e a' w' := by
  intro n
  induction n with
  | zero =>
   intro rest a w h
   obtain ⟨e, a₁, w₁, hq, harr⟩ := h b (.inScope c :: k) cs
   cases e with
   | normal => exact ⟨.normal, a₁, w₁, hq, Steps.trans harr (.one step_inScope)⟩
   | exit id => exact ⟨.exit id, a₁, w₁, hq, fun k' hk => harr k' (by simp [exitTo, hk])⟩
   | goto l' => exact hq.elim
   | ret => exact ⟨_, a₁, w₁, hq, harr⟩
   | panic ch => exact ⟨_, a₁, w₁, hq, harr⟩
   | outgrown => exact ⟨_, a₁, w₁, hq, harr⟩
  | succ n ih =>
   intro rest a w h
   obtain ⟨e, a₁, w₁, hq, harr⟩ := h b (.inScope c :: k) cs
   cases e with
   | normal => exact ⟨.normal, a₁, w₁, hq, Steps.trans harr (.one step_inScope)⟩
   | exit id => exact ⟨.exit id, a₁, w₁, hq, fun k' hk => harr k' (by simp [exitTo, hk])⟩
   | goto l' =>
    obtain ⟨rest', hf, hq'⟩ := hq
    obtain ⟨e₂, a₂, w₂, hq₂, harr₂⟩ := ih rest' a₁ w₁ hq'
    exact ⟨e₂, a₂, w₂, hq₂, .of_steps (harr _ (hg _ _ hf)) harr₂⟩
   | ret => exact ⟨_, a₁, w₁, hq, harr⟩
   | panic ch => exact ⟨_, a₁, w₁, hq, harr⟩
   | outgrown => exact ⟨_, a₁, w₁, hq, harr⟩
 obtain ⟨e, a₁, w₁, hq, harr⟩ := key n c a w first
 exact ⟨e, a₁, w₁, hq, Arrives.of_steps (.one step_scope) harr⟩
structure Dec (w W : World) (z : Nat) (leaf : Bool) (v1 v2 v3 : Value) (ks vs : List ByteArray) (ss : List Int) (l : List Int) (bad : Bool) : Prop where
 blk : W.heap[z]? = some (.cells #[.bool leaf, v1, v2, v3] 31 (0, 0))
 scn : Scn W z (z + 1) l bad
 far : Below z w W
 siz : z + 2 ≤ W.heap.size
 r1 : Kd.R Kd.string 9 W (z + 2) (fun k => some k ≠ v2.ownBlock) v1 ks
 r2 : Kd.R Kd.string 9 W (z + 2) (fun k => some k ≠ v1.ownBlock) v2 vs
 r3 : Kd.R (Kd.int .i64) 3 W (z + 2) (fun _ => True) v3 ss
theorem Dec.drew {w W : World} {z : Nat} {leaf : Bool} {v1 v2 v3 : Value} {ks vs : List ByteArray} {ss l : List Int} {bad : Bool} (h : Dec w W z leaf v1 v2 v3 ks vs ss l bad) : Dec w W.drew z leaf v1 v2 v3 ks vs ss l bad :=
 ⟨h.blk, h.scn.kept rfl (below_drew (Below.refl _ _)), below_drew h.far, h.siz, Kd.R_drew h.r1, Kd.R_drew h.r2, Kd.R_drew h.r3⟩
theorem Dec.call {w W Wa : World} {z : Nat} {leaf : Bool} {v1 v2 v3 : Value} {ks vs : List ByteArray} {ss l l' : List Int} {bad bad' : Bool} (h : Dec w W z leaf v1 v2 v3 ks vs ss l bad) (hs : Scn Wa z (z + 1) l' bad') (hg : W.grownBy Wa (some (z + 1))) : Dec w Wa z leaf v1 v2 v3 ks vs ss l' bad' := by
 have hne : ∀ {k : Nat}, z + 2 ≤ k → some k ≠ some (z + 1) := fun hk e => by injection e with e; omega
 refine ⟨blk_grown h.blk hg (by simp), hs, h.far.grown hg (by have := h.siz; omega) (fun k e => by cases e; omega), by have := hg.size; have := h.siz; omega, ?_, ?_, ?_⟩
 ·exact Kd.R_mono (Kd.R_grown (Kd.R_bound h.r1) hg (fun k hk => hne hk.2.1)) (fun _ hk => hk.1)
 ·exact Kd.R_mono (Kd.R_grown (Kd.R_bound h.r2) hg (fun k hk => hne hk.2.1)) (fun _ hk => hk.1)
 ·exact Kd.R_mono (Kd.R_grown (Kd.R_bound h.r3) hg (fun k hk => hne hk.2.1)) (fun _ hk => hk.1)
theorem Dec.below {w W W6 : World} {z : Nat} {leaf : Bool} {v1 v2 v3 : Value} {ks vs : List ByteArray} {ss l : List Int} {bad : Bool} (h : Dec w W z leaf v1 v2 v3 ks vs ss l bad) (hb : Below W.heap.size W W6) : Dec w W6 z leaf v1 v2 v3 ks vs ss l bad :=
 ⟨blk_below h.blk hb, h.scn.kept (hb.block _ (by have := h.siz; omega)) (hb.mono (by have := h.siz; omega)), h.far.trans (hb.mono (by have := h.siz; omega)), Nat.le_trans h.siz hb.size, Kd.R_below h.r1 hb, Kd.R_below h.r2 hb, Kd.R_below h.r3 hb⟩
theorem Dec.ne {w W : World} {z : Nat} {leaf : Bool} {v1 v2 v3 : Value} {ks vs : List ByteArray} {ss l : List Int} {bad : Bool} (h : Dec w W z leaf v1 v2 v3 ks vs ss l bad) : some z ≠ v1.ownBlock ∧ some z ≠ v2.ownBlock ∧ some z ≠ v3.ownBlock := by
 refine ⟨fun e => ?_, fun e => ?_, fun e => ?_⟩
 ·have := Kd.R_base h.r1 z e.symm; omega
 ·have := Kd.R_base h.r2 z e.symm; omega
 ·have := Kd.R_base h.r3 z e.symm; omega
theorem Dec.scn_row {w W w2 : World} {z : Nat} {leaf : Bool} {v1 v2 v3 v : Value} {ks vs : List ByteArray} {ss l : List Int} {bad : Bool} (h : Dec w W z leaf v1 v2 v3 ks vs ss l bad) (hv : ∀ k, v.ownBlock = some k → z + 2 ≤ k) (hg : W.grownBy w2 v.ownBlock) (j : Nat) (u : Value) :
  Scn (w2.setCell ⟨z, j, none⟩ u) z (z + 1) l bad ∧ Below z w (w2.setCell ⟨z, j, none⟩ u) ∧ z + 2 ≤ (w2.setCell ⟨z, j, none⟩ u).heap.size := by
 have hb : Below z W w2 := (Below.refl z W).grown hg (by have := h.siz; omega) (fun k e => by have := hv k e; omega)
 have hs : W.heap.size ≤ w2.heap.size := hg.size
 have h2 : Scn w2 z (z + 1) l bad := h.scn.kept (hg.block _ (by have := h.siz; omega) (fun e => by have := hv _ e.symm; omega)) hb
 have hb4 : Below z w2 (w2.setCell ⟨z, j, none⟩ u) := (Below.refl z _).setCell (p := ⟨z, j, none⟩) (Nat.le_refl _) _
 refine ⟨h2.kept (Below.heap_setCell _ _ _ _ (by show z + 1 ≠ z; omega)) hb4, (h.far.trans hb).trans hb4, ?_⟩
 have := h.siz
 simp; omega
theorem Dec.keys {w W w2 : World} {z : Nat} {leaf : Bool} {v1 v2 v3 v : Value} {ks vs ks' : List ByteArray} {ss l : List Int} {bad : Bool} (h : Dec w W z leaf v1 v2 v3 ks vs ss l bad)
  (hr : Kd.R Kd.string 9 w2 (z + 2) (fun k => some k ≠ v2.ownBlock) v ks') (hg : W.grownBy w2 v1.ownBlock) (hat : v.ownBlock = v1.ownBlock ∨ ∃ b, v.ownBlock = some b ∧ W.heap.size ≤ b) :
  Dec w (w2.setCell ⟨z, 1, none⟩ v) z leaf v v2 v3 ks' vs ss l bad := by
 obtain ⟨s1, s2, s3⟩ := h.scn_row (Kd.R_base h.r1) hg 1 v
 have hz : ∀ {k : Nat}, z + 2 ≤ k → k ≠ z := fun hk e => by omega
 refine ⟨blk_put (blk_grown h.blk hg h.ne.1) 1 v rfl, s1, s2, s3, ?_, ?_, ?_⟩
 ·exact Kd.R_mono (Kd.R_far (p := ⟨z, 1, none⟩) (Kd.R_bound hr) (fun k hk => hz hk.2.1) v) (fun _ hk => hk.1)
 ·have h2 := Kd.R_grown (Kd.R_bound h.r2) hg (fun k hk => hk.1)
  refine Kd.R_mono (Kd.R_far (p := ⟨z, 1, none⟩) h2 (fun k hk => hz hk.2.1) v) (fun k hk => ?_)
  rcases hat with e | ⟨b, e, hb⟩
  ·rw [e]; exact hk.1
  ·rw [e]; intro e2; injection e2 with e2; have := hk.2.2.1; omega
 ·exact Kd.R_mono (Kd.R_far (p := ⟨z, 1, none⟩) (Kd.R_bound (Kd.R_over h.r3 h.r1 (by decide) hg)) (fun k hk => hz hk.2.1) v) (fun _ hk => hk.1)
theorem Dec.vals {w W w2 : World} {z : Nat} {leaf : Bool} {v1 v2 v3 v : Value} {ks vs vs' : List ByteArray} {ss l : List Int} {bad : Bool} (h : Dec w W z leaf v1 v2 v3 ks vs ss l bad)
  (hr : Kd.R Kd.string 9 w2 (z + 2) (fun k => some k ≠ v1.ownBlock) v vs') (hg : W.grownBy w2 v2.ownBlock) (hat : v.ownBlock = v2.ownBlock ∨ ∃ b, v.ownBlock = some b ∧ W.heap.size ≤ b) :
  Dec w (w2.setCell ⟨z, 2, none⟩ v) z leaf v1 v v3 ks vs' ss l bad := by
 obtain ⟨s1, s2, s3⟩ := h.scn_row (Kd.R_base h.r2) hg 2 v
 have hz : ∀ {k : Nat}, z + 2 ≤ k → k ≠ z := fun hk e => by omega
 refine ⟨blk_put (blk_grown h.blk hg h.ne.2.1) 2 v rfl, s1, s2, s3, ?_, ?_, ?_⟩
 ·have h2 := Kd.R_grown (Kd.R_bound h.r1) hg (fun k hk => hk.1)
  refine Kd.R_mono (Kd.R_far (p := ⟨z, 2, none⟩) h2 (fun k hk => hz hk.2.1) v) (fun k hk => ?_)
  rcases hat with e | ⟨b, e, hb⟩
  ·rw [e]; exact hk.1
  ·rw [e]; intro e2; injection e2 with e2; have := hk.2.2.1; omega
 ·exact Kd.R_mono (Kd.R_far (p := ⟨z, 2, none⟩) (Kd.R_bound hr) (fun k hk => hz hk.2.1) v) (fun _ hk => hk.1)
 ·exact Kd.R_mono (Kd.R_far (p := ⟨z, 2, none⟩) (Kd.R_bound (Kd.R_over h.r3 h.r2 (by decide) hg)) (fun k hk => hz hk.2.1) v) (fun _ hk => hk.1)
theorem Dec.kids {w W w2 : World} {z : Nat} {leaf : Bool} {v1 v2 v3 v : Value} {ks vs : List ByteArray} {ss ss' l : List Int} {bad : Bool} (h : Dec w W z leaf v1 v2 v3 ks vs ss l bad)
  (hr : Kd.R (Kd.int .i64) 3 w2 (z + 2) (fun _ => True) v ss') (hg : W.grownBy w2 v3.ownBlock) :
  Dec w (w2.setCell ⟨z, 3, none⟩ v) z leaf v1 v2 v ks vs ss' l bad := by
 obtain ⟨s1, s2, s3⟩ := h.scn_row (Kd.R_base h.r3) hg 3 v
 have hz : ∀ {k : Nat}, z + 2 ≤ k → k ≠ z := fun hk e => by omega
 refine ⟨blk_put (blk_grown h.blk hg h.ne.2.2) 3 v rfl, s1, s2, s3, ?_, ?_, ?_⟩
 ·exact Kd.R_mono (Kd.R_far (p := ⟨z, 3, none⟩) (Kd.R_bound (Kd.R_over h.r1 h.r3 (by decide) hg)) (fun k hk => hz hk.2.1) v) (fun _ hk => hk.1)
 ·exact Kd.R_mono (Kd.R_far (p := ⟨z, 3, none⟩) (Kd.R_bound (Kd.R_over h.r2 h.r3 (by decide) hg)) (fun k hk => hz hk.2.1) v) (fun _ hk => hk.1)
 ·exact Kd.R_mono (Kd.R_far (p := ⟨z, 3, none⟩) (Kd.R_bound hr) (fun k hk => hz hk.2.1) v) (fun _ hk => hk.1)
def decRun (k : Nat) (leaf : Bool) : Nat → List Int → Bool → List ByteArray → List ByteArray → List Int → Option (List Int × Bool × List ByteArray × List ByteArray × List Int)
 | 0, l, bad, ks, vs, ss => some (l, bad, ks, vs, ss)
 | m + 1, l, bad, ks, vs, ss =>
  if bad = true then some (l, bad, ks, vs, ss)
  else if leaf = true then decRun k leaf m (txtR (txtR l)) (txtB (txtR l) (txtB l bad)) (ks ++ [txtS l]) (vs ++ [txtS (txtR l)]) ss
  else (kidV k (txtR l)).bind fun r => decRun k leaf m (tkr (txtR l) 4) (tkb (txtR l) (txtB l bad) 4) (ks ++ [txtS l]) vs (ss ++ [r])
def decEnd (k : Nat) (leaf : Bool) (l : List Int) (bad : Bool) (ks vs : List ByteArray) (ss : List Int) : Option (Bool × List ByteArray × List ByteArray × List Int × Int) :=
 if bad = true then some (false, [], [], [], 8) else if l.length > 0 then some (false, [], [], [], 23)
 else (node_Check.f k leaf ks vs ss).bind fun e => if e = 0 then some (leaf, ks, vs, ss, 0) else some (false, [], [], [], e)
def Shape (z : Nat) (mi : Int) (a : Act) : Prop :=
 a.tmps.size = 82 ∧ a.tmps[2]? = some (.pointer (some ⟨z, 0, none⟩)) ∧ a.tmps[4]? = some (.pointer (some ⟨z + 1, 0, none⟩)) ∧ a.tmps[5]? = some (.int .i64 mi) ∧ a.defers = []
theorem list_ts (L : List Value) : L = (List.range L.length).map (fun i => L.getD i undef) := by
 apply List.ext_getElem
 ·simp
 ·intro i h1 h2
  simp [List.getD_eq_getElem?_getD, List.getElem?_eq_getElem h1]
theorem Shape.out {z : Nat} {mi : Int} {a : Act} (h : Shape z mi a) : ∃ ts : Nat → Value, a = ⟨#[ts 0, ts 1, .pointer (some ⟨z, 0, none⟩), ts 3, .pointer (some ⟨z + 1, 0, none⟩), .int .i64 mi, ts 6, ts 7, ts 8, ts 9, ts 10, ts 11, ts 12, ts 13, ts 14, ts 15, ts 16, ts 17, ts 18, ts 19, ts 20, ts 21, ts 22, ts 23, ts 24, ts 25, ts 26, ts 27, ts 28, ts 29, ts 30, ts 31, ts 32, ts 33, ts 34, ts 35, ts 36, ts 37, ts 38, ts 39, ts 40, ts 41, ts 42, ts 43, ts 44, ts 45, ts 46, ts 47, ts 48, ts 49, ts 50, ts 51, ts 52, ts 53, ts 54, ts 55, ts 56, ts 57, ts 58, ts 59, ts 60, ts 61, ts 62, ts 63, ts 64, ts 65, ts 66, ts 67, ts 68, ts 69, ts 70, ts 71, ts 72, ts 73, ts 74, ts 75, ts 76, ts 77, ts 78, ts 79, ts 80, ts 81], []⟩ := by
 obtain ⟨⟨L⟩, d⟩ := a
 obtain ⟨h0, h2, h4, h5, h6⟩ := h
 refine ⟨fun i => L.getD i undef, ?_⟩
 have hL := list_ts L
 have h0' : L.length = 82 := h0
 rw [h0'] at hL
 have e2 : L.getD 2 undef = .pointer (some ⟨z, 0, none⟩) := by
  have : L[2]? = some (.pointer (some ⟨z, 0, none⟩)) := by simpa using h2
  rw [List.getD_eq_getElem?_getD, this]; rfl
 have e4 : L.getD 4 undef = .pointer (some ⟨z + 1, 0, none⟩) := by
  have : L[4]? = some (.pointer (some ⟨z + 1, 0, none⟩)) := by simpa using h4
  rw [List.getD_eq_getElem?_getD, this]; rfl
 have e5 : L.getD 5 undef = .int .i64 mi := by
  have : L[5]? = some (.int .i64 mi) := by simpa using h5
  rw [List.getD_eq_getElem?_getD, this]; rfl
 obtain rfl : d = [] := h6
 generalize hts : (fun i => L.getD i undef) = ts at *
 have g2 : ts 2 = .pointer (some ⟨z, 0, none⟩) := by rw [← hts]; exact e2
 have g4 : ts 4 = .pointer (some ⟨z + 1, 0, none⟩) := by rw [← hts]; exact e4
 have g5 : ts 5 = .int .i64 mi := by rw [← hts]; exact e5
 rw [← g2, ← g4, ← g5, hL]
 rfl
theorem loop_dec {P : Program} {c rest : Code} {Q : Exit → Act → World → Prop} {w : World} {z k : Nat} {leaf : Bool} {res : List Int × Bool × List ByteArray × List ByteArray × List Int}
  (step : ∀ m, (∀ m0, m0 + 1 = m → ∀ (a : Act) (W : World) (l : List Int) (bad : Bool) (ks vs : List ByteArray) (ss : List Int) (v1 v2 v3 : Value) (mi : Int), Shape z mi a → Dec w W z leaf v1 v2 v3 ks vs ss l bad → (∀ x ∈ l, 0 ≤ x ∧ x < 256) → (ks.length + m0 ≤ 255 ∧ vs.length + m0 ≤ 255 ∧ ss.length + m0 ≤ 256) → mi = (m0 : Int) → decRun k leaf m0 l bad ks vs ss = some res → rest.wp P (jumpsN P c Q (m0 + 1)) a W) →
   ∀ (ts : Nat → Value) (W : World) (l : List Int) (bad : Bool) (ks vs : List ByteArray) (ss : List Int) (v1 v2 v3 : Value) (mi : Int), Dec w W z leaf v1 v2 v3 ks vs ss l bad → (∀ x ∈ l, 0 ≤ x ∧ x < 256) → (ks.length + m ≤ 255 ∧ vs.length + m ≤ 255 ∧ ss.length + m ≤ 256) → mi = (m : Int) → decRun k leaf m l bad ks vs ss = some res → rest.wp P (jumpsN P c Q (m + 1)) ⟨#[ts 0, ts 1, .pointer (some ⟨z, 0, none⟩), ts 3, .pointer (some ⟨z + 1, 0, none⟩), .int .i64 mi, ts 6, ts 7, ts 8, ts 9, ts 10, ts 11, ts 12, ts 13, ts 14, ts 15, ts 16, ts 17, ts 18, ts 19, ts 20, ts 21, ts 22, ts 23, ts 24, ts 25, ts 26, ts 27, ts 28, ts 29, ts 30, ts 31, ts 32, ts 33, ts 34, ts 35, ts 36, ts 37, ts 38, ts 39, ts 40, ts 41, ts 42, ts 43, ts 44, ts 45, ts 46, ts 47, ts 48, ts 49, ts 50, ts 51, ts 52, ts 53, ts 54, ts 55, ts 56, ts 57, ts 58, ts 59, ts 60, ts 61, ts 62, ts 63, ts 64, ts 65, ts 66, ts 67, ts 68, ts 69, ts 70, ts 71, ts 72, ts 73, ts 74, ts 75, ts 76, ts 77, ts 78, ts 79, ts 80, ts 81], []⟩ W)
  (m : Nat) : ∀ (a : Act) (W : World) (l : List Int) (bad : Bool) (ks vs : List ByteArray) (ss : List Int) (v1 v2 v3 : Value) (mi : Int), Shape z mi a → Dec w W z leaf v1 v2 v3 ks vs ss l bad → (∀ x ∈ l, 0 ≤ x ∧ x < 256) → (ks.length + m ≤ 255 ∧ vs.length + m ≤ 255 ∧ ss.length + m ≤ 256) → mi = (m : Int) → decRun k leaf m l bad ks vs ss = some res → rest.wp P (jumpsN P c Q (m + 1)) a W := by
 induction m with
 | zero =>
  intro a W l bad ks vs ss v1 v2 v3 mi hs h1 h2 h3 h4 h5
  obtain ⟨ts, rfl⟩ := hs.out
  exact step 0 (fun m' e => by omega) ts W l bad ks vs ss v1 v2 v3 mi h1 h2 h3 h4 h5
 | succ m ih =>
  intro a W l bad ks vs ss v1 v2 v3 mi hs h1 h2 h3 h4 h5
  obtain ⟨ts, rfl⟩ := hs.out
  exact step (m + 1) (fun m0 e => by cases e; exact ih) ts W l bad ks vs ss v1 v2 v3 mi h1 h2 h3 h4 h5
theorem wp_scope_jumpsC {P : Program} {a : Act} {w : World} {Q : Exit → Act → World → Prop} {C : Code} (n : Nat) (first : ∀ c, c = C → C.wp P (jumpsN P c Q n) a w) : (Code.scope C).wp P Q a w := wp_scope_jumpsN n (first C rfl)
set_option maxHeartbeats 8000000 in
set_option maxRecDepth 100000 in
theorem dec_walk_true (k : Nat) (A0 : Option Addr) (c0 : Nat) (l0 : List Int) (w : World) (hr0 : Kd.C (Kd.int .u8) w A0 l0.length l0) (hc0 : l0.length ≤ c0) (hoct : ∀ x ∈ l0, 0 ≤ x ∧ x < 256) (ho1 : oct l0 = 1)
  (l2 : List Int) (b2 : Bool) (m : Nat) (hl2 : tkr (tkr l0 1) 1 = l2) (hb2 : tkb (tkr l0 1) (tkb l0 false 1) 1 = b2) (hm : oct (tkr l0 1) = (m : Int))
  (lE : List Int) (bE : Bool) (kE vE : List ByteArray) (sE : List Int) (hrun : decRun k true m l2 b2 [] [] [] = some (lE, bE, kE, vE, sE)) (r1 : Bool) (r2 r3 : List ByteArray) (r4 : List Int) (r5 : Int) (hend : decEnd k true lE bE kE vE sE = some (r1, r2, r3, r4, r5)) :
  Calls Try.prog 19 #[.slice A0 l0.length c0] w fun e w' => ∃ v1_ v2_ v3_ : Value, e = .returned (.tuple #[.agg #[.bool r1, v1_, v2_, v3_], .int .i64 r5]) ∧ Kd.R Kd.string 9 w' w.heap.size (fun k_ => some k_ ≠ (v2_ : Value).ownBlock) v1_ r2 ∧ Kd.R Kd.string 9 w' w.heap.size (fun k_ => some k_ ≠ (v1_ : Value).ownBlock) v2_ r3 ∧ Kd.R (Kd.int .i64) 3 w' w.heap.size (fun _ => True) v3_ r4 ∧ Below w.heap.size w w' := by
 have hu31 := Try.underlying31
 have hu95 := Try.underlying95
 have hinfo : (Try.prog.info? 9).map (fun i => (i.zero, i.size, i.bytes)) = some (some (.string ByteArray.empty), 1, 16) := by kernel_rfl
 have HINF := Aside0.mk hinfo
 have hinfi : (Try.prog.info? 3).map (fun i => (i.zero, i.size, i.bytes)) = some (some (.int .i64 0), 1, 8) := by kernel_rfl
 have HINI := Aside0.mk hinfi
 have hb95 : ∀ (w : World) (A : Option Addr) (n c : Nat), (Instr.build 95 #[(0, .slice A n c)]).run Try.prog w = .ok (.agg #[.slice A n c, .bool false]) w := fun w A n c => run_build w 95 #[(0, .slice A n c)] #[.slice A n c, .bool false] (by kernel_rfl)
 have hb31 : ∀ (w : World), (Instr.build 31 #[]).run Try.prog w = .ok (.agg #[.bool false, .slice none 0 0, .slice none 0 0, .slice none 0 0]) w := fun w => run_build w 31 #[] #[.bool false, .slice none 0 0, .slice none 0 0, .slice none 0 0] (by kernel_rfl)
 have HO := Aside0.mk hoct
 have HO1 := Aside0.mk (fun x hx => hoct x (tkr_sub _ _ x hx) : ∀ x ∈ tkr l0 1, 0 ≤ x ∧ x < 256)
 have HO2 := Aside0.mk (fun x hx => HO1.out x (tkr_sub _ _ x (by rw [hl2]; exact hx)) : ∀ x ∈ l2, 0 ≤ x ∧ x < 256)
 have HM := Aside0.mk (show m ≤ 255 by have := (oct_bound _ HO1.out).2; omega)
 obtain ⟨z, hz⟩ : ∃ z, z = w.heap.size := ⟨_, rfl⟩
 have HZ := Aside0.mk hz
 obtain ⟨W0, hW0⟩ : ∃ W0, W0 = ((w.alloc (.cells #[.bool false, .slice none 0 0, .slice none 0 0, .slice none 0 0] 31)).alloc (.cells #[.slice A0 l0.length c0, .bool false] 95)) := ⟨_, rfl⟩
 have HS : Aside0 (Scn W0 z (z + 1) l0 false) := by
  refine ⟨A0, c0, ?_, fun W' hk => ?_, hc0, by omega⟩
  ·rw [hz, hW0, show w.heap.size + 1 = (w.alloc (.cells #[.bool false, .slice none 0 0, .slice none 0 0, .slice none 0 0] 31)).heap.size by simp]
   exact World.alloc_heap_new _ _
  ·refine Kd.C_below hr0 ?_
   rw [hz] at hk
   exact (show Below w.heap.size w W0 by rw [hW0]; exact below_alloc (below_alloc (Below.refl _ _) _) _).trans hk
 have HD : Aside0 (Dec w W0 z false (.slice none 0 0) (.slice none 0 0) (.slice none 0 0) [] [] [] l0 false) := by
  refine ⟨⟨?_, HS.out, ?_, ?_, Kd.R_nil _ _ _ _ _, Kd.R_nil _ _ _ _ _, Kd.R_nil _ _ _ _ _⟩⟩
  ·rw [hW0, hz]; exact blk_alloc (blk_new w _) _
  ·rw [hW0, hz]; exact below_alloc (below_alloc (Below.refl _ _) _) _
  ·rw [hW0, hz]; simp
 have HW0 := Aside0.mk hW0
 have H1 := Aside0.mk (And.intro ho1 (And.intro hl2 (And.intro hb2 hm)))
 have HRUN := Aside0.mk hrun
 have HEND := Aside0.mk hend
 clear hr0 hc0 hz hW0 hoct ho1 hl2 hb2 hm hrun hend hinfo hinfi
 go_enter Try.func19, Try.ntmps19
 go_wp2
 refine wp_scope_jumpsC (m + 1) (fun c hc => ?_)
 have HF := Aside0.mk hc
 clear hc
 go_wp2_with (first | (go_at_call 51; rw [← HZ.out, ← HW0.out]; refine (scan_octet z (z + 1) l0 false W0 HS.out HO.out).mono ?_; rintro e W1 ⟨rfl, hS, hg⟩; rw [H1.out.1]; have HD1 := Aside0.mk (HD.out.call hS hg); clear hS hg HD HS) | (go_at_call 51; refine (scan_octet z (z + 1) (tkr l0 1) (tkb l0 false 1) W1 HD1.out.scn HO1.out).mono ?_; rintro e W2 ⟨rfl, hS, hg⟩; rw [H1.out.2.2.2]; rw [H1.out.2.1, H1.out.2.2.1] at hS; have HD2 := Aside0.mk (HD1.out.call hS hg); have hz0 := (blk_cell HD2.out.blk 0).trans rfl; have hzf := blk_frozen HD2.out.blk 0; clear hS hg HD1))
 go_step3
 rename_i K1 hK1
 obtain ⟨W3, hW3⟩ : ∃ W3, W3 = W2.setCell ⟨z, 0, none⟩ (.bool true) := ⟨_, rfl⟩
 have HD3 : Aside0 (Dec w W3 z true (.slice none 0 0) (.slice none 0 0) (.slice none 0 0) [] [] [] l2 b2) := by
  have hs := HD2.out.scn_row (v := .slice none 0 0) (fun k e => by cases e) (w2 := W2) ⟨rfl, rfl, rfl, Nat.le_refl _, fun _ _ _ => rfl⟩ 0 (.bool true)
  rw [hW3]; exact ⟨⟨blk_put HD2.out.blk 0 _ rfl, hs.1, hs.2.1, hs.2.2, Kd.R_nil _ _ _ _ _, Kd.R_nil _ _ _ _ _, Kd.R_nil _ _ _ _ _⟩⟩
 obtain ⟨As, cs, hs1, -, -, -⟩ := HD3.out.scn
 have hbad := (blk_cell hs1 1).trans rfl
 have HC := (blk_cell HD3.out.blk 1).trans rfl
 rw [← hW3]
 clear hW3 hz0 hzf hs1 HD2
 refine hK1 _ _ ?_
 clear hK1 K1
 clear hbad HC
 refine loop_dec (w := w) (z := z) (k := k) (leaf := true) (res := (lE, bE, kE, vE, sE)) ?_ m _ _ _ _ _ _ _ _ _ _ _ ⟨rfl, rfl, rfl, rfl, rfl⟩ HD3.out HO2.out ⟨by simpa using HM.out, by simpa using HM.out, by have := HM.out; simp; omega⟩ rfl HRUN.out
 clear HRUN H1 HO HO1 HO2 HM hb95 hu95 HW0
 intro m' IH ts W l bad ks vs ss v1 v2 v3 mi hD hl hlen hmi hrun
 have HD := Aside0.mk hD
 have HL := Aside0.mk hl
 have HLEN := Aside0.mk hlen
 have hu95 := Try.underlying95
 clear hD hl hlen
 cases m' with
 | zero =>
  obtain rfl : mi = 0 := hmi
  clear IH
  unfold decRun at hrun
  cases hrun
  go_wp2
  go_step3
  refine jumpsN_goto (rest := _) (by rw [HF.out]; rfl) ?_
  obtain ⟨As, cs, hs1, -, -, -⟩ := HD.out.scn
  have hbad := (blk_cell hs1 1).trans rfl
  have hrest := (blk_cell hs1 0).trans rfl
  have hend := HEND.out
  unfold decEnd at hend
  clear hs1
  cases bE with
  | true =>
   rw [if_pos rfl] at hend
   cases hend
   have HBX := Aside0.mk HD.out.blk
   have HFX := Aside0.mk HD.out.far
   have hn0 := (blk_cell HBX.out 0).trans rfl
   have hn1 := (blk_cell HBX.out 1).trans rfl
   have hn2 := (blk_cell HBX.out 2).trans rfl
   have hn3 := (blk_cell HBX.out 3).trans rfl
   have hf0 := blk_frozen HBX.out 0
   have hf1 := blk_frozen HBX.out 1
   have hf2 := blk_frozen HBX.out 2
   have hf3 := blk_frozen HBX.out 3
   go_wp2
   have HBK7 := blk_put (cs' := #[.bool false, .slice none 0 0, .slice none 0 0, .slice none 0 0]) (blk_put (blk_put (blk_put HBX.out 0 (.bool false) rfl) 1 (.slice none 0 0) rfl) 2 (.slice none 0 0) rfl) 3 (.slice none 0 0) rfl
   have hfin : Below w.heap.size w ((((W.setCell ⟨z, 0, none⟩ (.bool false)).setCell ⟨z, 1, none⟩ (.slice none 0 0)).setCell ⟨z, 2, none⟩ (.slice none 0 0)).setCell ⟨z, 3, none⟩ (.slice none 0 0)) := by
    rw [← HZ.out]
    exact HFX.out.trans (((((Below.refl z W).setCell (p := ⟨z, 0, none⟩) (Nat.le_refl _) _).setCell (p := ⟨z, 1, none⟩) (Nat.le_refl _) _).setCell (p := ⟨z, 2, none⟩) (Nat.le_refl _) _).setCell (p := ⟨z, 3, none⟩) (Nat.le_refl _) _)
   refine jumpsN_ret ?_
   exact bodyPost_ret (results_ct rfl _ _ z _ _ (0, 0) _ rfl HBK7 Try.underlying31 rfl (by kernel_rfl)) rfl ⟨_, _, _, rfl, Kd.R_nil _ _ _ _ _, Kd.R_nil _ _ _ _ _, Kd.R_nil _ _ _ _ _, hfin⟩
  | false =>
   rw [if_neg (by simp)] at hend
   by_cases hpos : (lE.length : Int) > 0
   ·rw [if_pos (by omega)] at hend
    cases hend
    have HBX := Aside0.mk HD.out.blk
    have HFX := Aside0.mk HD.out.far
    have hn0 := (blk_cell HBX.out 0).trans rfl
    have hn1 := (blk_cell HBX.out 1).trans rfl
    have hn2 := (blk_cell HBX.out 2).trans rfl
    have hn3 := (blk_cell HBX.out 3).trans rfl
    have hf0 := blk_frozen HBX.out 0
    have hf1 := blk_frozen HBX.out 1
    have hf2 := blk_frozen HBX.out 2
    have hf3 := blk_frozen HBX.out 3
    go_wp2
    have HBK7 := blk_put (cs' := #[.bool false, .slice none 0 0, .slice none 0 0, .slice none 0 0]) (blk_put (blk_put (blk_put HBX.out 0 (.bool false) rfl) 1 (.slice none 0 0) rfl) 2 (.slice none 0 0) rfl) 3 (.slice none 0 0) rfl
    have hfin : Below w.heap.size w ((((W.setCell ⟨z, 0, none⟩ (.bool false)).setCell ⟨z, 1, none⟩ (.slice none 0 0)).setCell ⟨z, 2, none⟩ (.slice none 0 0)).setCell ⟨z, 3, none⟩ (.slice none 0 0)) := by
     rw [← HZ.out]
     exact HFX.out.trans (((((Below.refl z W).setCell (p := ⟨z, 0, none⟩) (Nat.le_refl _) _).setCell (p := ⟨z, 1, none⟩) (Nat.le_refl _) _).setCell (p := ⟨z, 2, none⟩) (Nat.le_refl _) _).setCell (p := ⟨z, 3, none⟩) (Nat.le_refl _) _)
    refine jumpsN_ret ?_
    exact bodyPost_ret (results_ct rfl _ _ z _ _ (0, 0) _ rfl HBK7 Try.underlying31 rfl (by kernel_rfl)) rfl ⟨_, _, _, rfl, Kd.R_nil _ _ _ _ _, Kd.R_nil _ _ _ _ _, Kd.R_nil _ _ _ _ _, hfin⟩
   ·rw [if_neg (by omega)] at hend
    obtain ⟨e5, hck, hend⟩ := Option.bind_eq_some_iff.1 hend
    obtain ⟨A1, c1, rfl⟩ := Kd.R_slice HD.out.r1
    obtain ⟨A2, c2, rfl⟩ := Kd.R_slice HD.out.r2
    obtain ⟨A3, c3, rfl⟩ := Kd.R_slice HD.out.r3
    have HBX := Aside0.mk HD.out.blk
    have hn0 := (blk_cell HBX.out 0).trans rfl
    have hn1 := (blk_cell HBX.out 1).trans rfl
    have hn2 := (blk_cell HBX.out 2).trans rfl
    have hn3 := (blk_cell HBX.out 3).trans rfl
    have hchk := node_Check.calls k true A1 c1 kE A2 c2 vE A3 c3 sE e5 W (Kd.R_reads' HD.out.r1).2.2 (Kd.R_reads' HD.out.r1).2.1 (Kd.R_reads' HD.out.r2).2.2 (Kd.R_reads' HD.out.r2).2.1 (Kd.R_reads' HD.out.r3).2.2 (Kd.R_reads' HD.out.r3).2.1 hck
    clear hck
    have HE := Aside0.mk hend
    clear hend
    have HQ : ∀ W6, Below W.heap.size W W6 → Aside0 (Dec w W6 z true (.slice A1 kE.length c1) (.slice A2 vE.length c2) (.slice A3 sE.length c3) kE vE sE lE false) := fun W6 hb => ⟨HD.out.below hb⟩
    by_cases hz5 : e5 = 0
    ·subst hz5
     go_wp2_with (go_at_call 25; refine hchk.mono ?_; rintro e W6 ⟨rfl, hb6⟩; have HD6 := HQ W6 hb6; have HBK6 := Aside0.mk HD6.out.blk; have hm0 := (blk_cell HBK6.out 0).trans rfl; have hm1 := (blk_cell HBK6.out 1).trans rfl; have hm2 := (blk_cell HBK6.out 2).trans rfl; have hm3 := (blk_cell HBK6.out 3).trans rfl; have hg0 := blk_frozen HBK6.out 0; have hg1 := blk_frozen HBK6.out 1; have hg2' := blk_frozen HBK6.out 2; have hg3 := blk_frozen HBK6.out 3; clear hb6 hchk)
     refine jumpsN_ret ?_
     have hend := HE.out
     rw [if_pos (by trivial)] at hend
     cases hend
     have hz : ∀ {k : Nat}, z + 2 ≤ k → k ≠ z := fun hk e => by omega
     have hfar : ∀ {α : Type} {d : Kd α} {q : Nat} {ok : Nat → Prop} {v : Value} {xs : List α}, d.R q W6 (z + 2) ok v xs → d.R q ((((W6.setCell ⟨z, 0, none⟩ (.bool true)).setCell ⟨z, 1, none⟩ (.slice A1 kE.length c1)).setCell ⟨z, 2, none⟩ (.slice A2 vE.length c2)).setCell ⟨z, 3, none⟩ (.slice A3 sE.length c3)) w.heap.size ok v xs := by
      intro α d q ok v xs h
      have hk : ∀ k, (ok k ∧ z + 2 ≤ k) → k ≠ z := fun k hk => hz hk.2
      exact Kd.R_lower (Kd.R_mono (Kd.R_far (Kd.R_far (Kd.R_far (Kd.R_far (Kd.R_mono (Kd.R_bound h) (fun k hk => (⟨hk.1, hk.2.1⟩ : ok k ∧ z + 2 ≤ k))) (p := ⟨z, 0, none⟩) hk _) (p := ⟨z, 1, none⟩) hk _) (p := ⟨z, 2, none⟩) hk _) (p := ⟨z, 3, none⟩) hk _) (fun _ hk => hk.1)) (by have := HZ.out; omega)
     have hfin : Below w.heap.size w ((((W6.setCell ⟨z, 0, none⟩ (.bool true)).setCell ⟨z, 1, none⟩ (.slice A1 kE.length c1)).setCell ⟨z, 2, none⟩ (.slice A2 vE.length c2)).setCell ⟨z, 3, none⟩ (.slice A3 sE.length c3)) := by
      rw [← HZ.out]
      exact HD6.out.far.trans (((((Below.refl z W6).setCell (p := ⟨z, 0, none⟩) (Nat.le_refl _) _).setCell (p := ⟨z, 1, none⟩) (Nat.le_refl _) _).setCell (p := ⟨z, 2, none⟩) (Nat.le_refl _) _).setCell (p := ⟨z, 3, none⟩) (Nat.le_refl _) _)
     have HBK7 := blk_put (cs' := #[.bool true, .slice A1 kE.length c1, .slice A2 vE.length c2, .slice A3 sE.length c3]) (blk_put (blk_put (blk_put HBK6.out 0 (.bool true) rfl) 1 (.slice A1 kE.length c1) rfl) 2 (.slice A2 vE.length c2) rfl) 3 (.slice A3 sE.length c3) rfl
     exact bodyPost_ret (results_ct rfl _ _ z _ _ (0, 0) _ rfl HBK7 Try.underlying31 rfl (by kernel_rfl)) rfl ⟨_, _, _, rfl, hfar HD6.out.r1, hfar HD6.out.r2, hfar HD6.out.r3, hfin⟩
    ·have hz5b : (e5 == 0) = false := beq_eq_false_iff_ne.mpr hz5
     have hz5c : (e5 != 0) = true := bne_iff_ne.mpr hz5
     have hend := HE.out
     rw [if_neg hz5] at hend
     cases hend
     go_wp2_with (go_at_call 25; refine hchk.mono ?_; rintro e W6 ⟨rfl, hb6⟩; have HD6 := HQ W6 hb6; have HBK6 := Aside0.mk HD6.out.blk; have hm0 := (blk_cell HBK6.out 0).trans rfl; have hm1 := (blk_cell HBK6.out 1).trans rfl; have hm2 := (blk_cell HBK6.out 2).trans rfl; have hm3 := (blk_cell HBK6.out 3).trans rfl; have hg0 := blk_frozen HBK6.out 0; have hg1 := blk_frozen HBK6.out 1; have hg2' := blk_frozen HBK6.out 2; have hg3 := blk_frozen HBK6.out 3; clear hb6 hchk)
     have HBX := HBK6
     have HFX := Aside0.mk HD6.out.far
     have HBK7 := blk_put (cs' := #[.bool false, .slice none 0 0, .slice none 0 0, .slice none 0 0]) (blk_put (blk_put (blk_put HBX.out 0 (.bool false) rfl) 1 (.slice none 0 0) rfl) 2 (.slice none 0 0) rfl) 3 (.slice none 0 0) rfl
     have hfin : Below w.heap.size w ((((W6.setCell ⟨z, 0, none⟩ (.bool false)).setCell ⟨z, 1, none⟩ (.slice none 0 0)).setCell ⟨z, 2, none⟩ (.slice none 0 0)).setCell ⟨z, 3, none⟩ (.slice none 0 0)) := by
      rw [← HZ.out]
      exact HFX.out.trans (((((Below.refl z W6).setCell (p := ⟨z, 0, none⟩) (Nat.le_refl _) _).setCell (p := ⟨z, 1, none⟩) (Nat.le_refl _) _).setCell (p := ⟨z, 2, none⟩) (Nat.le_refl _) _).setCell (p := ⟨z, 3, none⟩) (Nat.le_refl _) _)
     refine jumpsN_ret ?_
     exact bodyPost_ret (results_ct rfl _ _ z _ _ (0, 0) _ rfl HBK7 Try.underlying31 rfl (by kernel_rfl)) rfl ⟨_, _, _, rfl, Kd.R_nil _ _ _ _ _, Kd.R_nil _ _ _ _ _, Kd.R_nil _ _ _ _ _, hfin⟩
 | succ m' =>
  have h0 : (mi == 0) = false := beq_eq_false_iff_ne.mpr (by omega)
  have h0' : ¬ mi = 0 := by omega
  have HMI := Aside0.mk hmi
  clear hmi
  obtain ⟨As, cs, hs1, -, -, -⟩ := HD.out.scn
  have hbad := (blk_cell hs1 1).trans rfl
  have hrest := (blk_cell hs1 0).trans rfl
  unfold decRun at hrun
  clear hs1
  cases bad with
  | true =>
   rw [if_pos rfl] at hrun
   cases hrun
   go_wp2
   go_step3
   refine jumpsN_goto (rest := _) (by rw [HF.out]; rfl) ?_
   have hend := HEND.out
   unfold decEnd at hend
   rw [if_pos rfl] at hend
   cases hend
   have HBX := Aside0.mk HD.out.blk
   have HFX := Aside0.mk HD.out.far
   have hn0 := (blk_cell HBX.out 0).trans rfl
   have hn1 := (blk_cell HBX.out 1).trans rfl
   have hn2 := (blk_cell HBX.out 2).trans rfl
   have hn3 := (blk_cell HBX.out 3).trans rfl
   have hf0 := blk_frozen HBX.out 0
   have hf1 := blk_frozen HBX.out 1
   have hf2 := blk_frozen HBX.out 2
   have hf3 := blk_frozen HBX.out 3
   go_wp2
   have HBK7 := blk_put (cs' := #[.bool false, .slice none 0 0, .slice none 0 0, .slice none 0 0]) (blk_put (blk_put (blk_put HBX.out 0 (.bool false) rfl) 1 (.slice none 0 0) rfl) 2 (.slice none 0 0) rfl) 3 (.slice none 0 0) rfl
   have hfin : Below w.heap.size w ((((W.setCell ⟨z, 0, none⟩ (.bool false)).setCell ⟨z, 1, none⟩ (.slice none 0 0)).setCell ⟨z, 2, none⟩ (.slice none 0 0)).setCell ⟨z, 3, none⟩ (.slice none 0 0)) := by
    rw [← HZ.out]
    exact HFX.out.trans (((((Below.refl z W).setCell (p := ⟨z, 0, none⟩) (Nat.le_refl _) _).setCell (p := ⟨z, 1, none⟩) (Nat.le_refl _) _).setCell (p := ⟨z, 2, none⟩) (Nat.le_refl _) _).setCell (p := ⟨z, 3, none⟩) (Nat.le_refl _) _)
   refine jumpsN_ret ?_
   exact bodyPost_ret (results_ct rfl _ _ z _ _ (0, 0) _ rfl HBK7 Try.underlying31 rfl (by kernel_rfl)) rfl ⟨_, _, _, rfl, Kd.R_nil _ _ _ _ _, Kd.R_nil _ _ _ _ _, Kd.R_nil _ _ _ _ _, hfin⟩
  | false =>
   rw [if_neg (by simp), if_pos rfl] at hrun
   have HRUN := Aside0.mk hrun
   clear hrun
   have HC := (blk_cell HD.out.blk 1).trans rfl
   go_wp2
   refine start_ (n := 8) (S := fun w' => w'.cell? ⟨z, 1, none⟩ = some v1) (ds := [7]) #[false, false, false, false, false, false, false, false] (by kernel_rfl) rfl rfl (HC) (fun hHeld => ?_)
   refine pure_ (i := 0) (N := some 40) (v := ?_) (a' := ?_) #[true, false, false, false, false, false, false, false] rfl rfl (by kernel_rfl) (fun _ _ _ h => h) (Or.inl ⟨by rfl, ?_⟩) ?_ ?_
   rotate_left
   ·intro w'
    go_simp
    with_reducible rfl
   rotate_left
   ·simp only [Act.put, List.setIfInBounds_toArray, List.set_cons_zero, List.set_cons_succ, i64_w, i32_w]
    rfl
   refine pure_ (i := 2) (N := some 42) (v := ?_) (a' := ?_) #[true, false, true, false, false, false, false, false] rfl rfl (by kernel_rfl) (fun _ _ _ h => h) (Or.inl ⟨by rfl, ?_⟩) ?_ ?_
   rotate_left
   ·intro w'
    go_simp
    with_reducible rfl
   rotate_left
   ·simp only [Act.put, List.setIfInBounds_toArray, List.set_cons_zero, List.set_cons_succ, i64_w, i32_w]
    rfl
   refine take_ (i := 1) (N := some 41) (v := ?_) (a' := ?_) #[true, true, true, false, false, false, false, false] rfl rfl (by kernel_rfl) (fun _ _ _ h => h) (Or.inl ⟨by rfl, ?_⟩) hHeld ?_ ?_
   rotate_left
   ·intro w' s0
    go_simp
    with_reducible rfl
   rotate_left
   ·simp only [Act.put, List.setIfInBounds_toArray, List.set_cons_zero, List.set_cons_succ, i64_w, i32_w]
    rfl
   refine one_ (i := 3) (N := some 43) #[true, true, true, true, false, false, false, false] rfl rfl (by kernel_rfl) (by decide) (fun K hK => ?_)
   refine goes_ Try.func53 (by kernel_rfl) rfl #[.pointer (some ⟨z + 1, 0, none⟩)] (by rfl) rfl rfl (by simp only [List.map_toArray, List.map_cons, List.map_nil]; rfl) ?_
   refine (scan_text z (z + 1) l false W.drew HD.out.drew.scn HL.out).mono ?_
   rintro e Wa ⟨rfl, hS, hg⟩
   refine ⟨_, rfl, ?_⟩
   have HDa := Aside0.mk (HD.out.drew.call hS hg)
   have HC1 := Aside0.mk (cell_grown hg hHeld (by show some z ≠ some (z + 1); simp))
   refine hK.out _ _ ((cell_grown hg hHeld (by show some z ≠ some (z + 1); simp))) (fun hHeld => ?_)
   clear hS hg
   clear hK K
   refine norm_ (a' := ?_) ?_ ?_
   rotate_left
   ·show Act.put _ (some 43) _ = _
    simp only [Act.put, List.setIfInBounds_toArray, List.set_cons_zero, List.set_cons_succ, i64_w, i32_w]
    rfl
   refine one_ (i := 4) (N := some 44) #[true, true, true, true, true, false, false, false] rfl rfl (by kernel_rfl) (by decide) (fun K hK => ?_)
   refine value_ (w1 := ?_) (v := ?_) (by rfl) rfl ?_ ?_
   rotate_left 2
   ·go_simp
    constructor
    ·rfl
    ·rfl
   refine hK.out _ _ (((World.cell?_alloc_lt _ _ _ (World.block_lt_of_cell? _ _ hHeld)).trans hHeld)) (fun hHeld => ?_)
   clear hK K
   refine norm_ (a' := ?_) ?_ ?_
   rotate_left
   ·show Act.put _ (some 44) _ = _
    simp only [Act.put, List.setIfInBounds_toArray, List.set_cons_zero, List.set_cons_succ, i64_w, i32_w]
    rfl
   refine one_ (i := 5) (N := some 45) #[true, true, true, true, true, true, false, false] rfl rfl (by kernel_rfl) (by decide) (fun K hK => ?_)
   refine Kd.R_append_step Kd.string (w0 := Wa) (z + 2) (by rfl) (.tmp 41) (.tmp 44) 22 9 (.string ByteArray.empty) 16 rfl Try.underlying22 HINF.out rfl (by decide) (by omega) v1 ks (txtS l) [.string (txtS l)] (fun k => some k ≠ v2.ownBlock) (fun _ => False) rfl rfl rfl (fun _ hk => hk.elim) (fun k hk e => by have := Kd.R_lt HDa.out.r2 k e.symm; omega) HDa.out.r1 (Below.refl _ _) HDa.out.siz (by have := HLEN.out; omega) ?_
   intro vn w2 ho hb hg2 hat
   replace ho : Kd.R Kd.string 9 w2 (z + 2) (fun k => some k ≠ v2.ownBlock) vn (ks ++ [(txtS l)]) := ho
   obtain ⟨Av, nv, cv, rfl⟩ : ∃ A n c, vn = .slice A n c := by obtain ⟨A, c, rfl⟩ := Kd.R_slice ho; exact ⟨A, _, c, rfl⟩
   have HRn := Aside0.mk ho
   have HG2 := Aside0.mk hg2
   have HAT := Aside0.mk hat
   have hfz := blk_frozen (blk_grown HDa.out.blk HG2.out HDa.out.ne.1) 1
   refine hK.out _ _ ((cell_grown hg2 HC1.out HDa.out.ne.1)) (fun hHeld => ?_)
   clear ho hb hg2 hat
   clear hK K
   refine norm_ (a' := ?_) ?_ ?_
   rotate_left
   ·show Act.put _ (some 45) _ = _
    simp only [Act.put, List.setIfInBounds_toArray, List.set_cons_zero, List.set_cons_succ, i64_w, i32_w]
    rfl
   refine pure_ (i := 6) (N := some 46) (v := ?_) (a' := ?_) #[true, true, true, true, true, true, true, false] rfl rfl (by kernel_rfl) (fun _ _ _ h => h) (Or.inl ⟨by rfl, ?_⟩) ?_ ?_
   rotate_left
   ·intro w'
    go_simp
    with_reducible rfl
   rotate_left
   ·simp only [Act.put, List.setIfInBounds_toArray, List.set_cons_zero, List.set_cons_succ, i64_w, i32_w]
    rfl
   refine last_ (i := 7) (N := none) #[true, true, true, true, true, true, true, true] rfl rfl (by kernel_rfl) (by decide) (fun K hK => ?_)
   refine skip_ (w1 := ?_) (by rfl) rfl ?_ ?_
   rotate_left
   ·go_simp
    rfl
   refine hK.out _ _ ?_
   clear hK K
   refine done_ (by kernel_rfl) ?_
   obtain ⟨W4, hW4⟩ : ∃ W, W = w2.setCell ⟨z, 1, none⟩ (.slice Av nv cv) := ⟨_, rfl⟩
   have HD4 := Aside0.mk (HDa.out.keys HRn.out HG2.out HAT.out)
   rw [← hW4] at HD4 ⊢
   clear hW4 HDa HC1 HRn HG2 HAT hfz hHeld HC hbad hrest
   have hleaf := (blk_cell HD4.out.blk 0).trans rfl
   have HC := (blk_cell HD4.out.blk 2).trans rfl
   go_wp2
   refine start_ (n := 8) (S := fun w' => w'.cell? ⟨z, 2, none⟩ = some v2) (ds := [7]) #[false, false, false, false, false, false, false, false] (by kernel_rfl) rfl rfl (HC) (fun hHeld => ?_)
   refine pure_ (i := 0) (N := some 49) (v := ?_) (a' := ?_) #[true, false, false, false, false, false, false, false] rfl rfl (by kernel_rfl) (fun _ _ _ h => h) (Or.inl ⟨by rfl, ?_⟩) ?_ ?_
   rotate_left
   ·intro w'
    go_simp
    with_reducible rfl
   rotate_left
   ·simp only [Act.put, List.setIfInBounds_toArray, List.set_cons_zero, List.set_cons_succ, i64_w, i32_w]
    rfl
   refine pure_ (i := 2) (N := some 51) (v := ?_) (a' := ?_) #[true, false, true, false, false, false, false, false] rfl rfl (by kernel_rfl) (fun _ _ _ h => h) (Or.inl ⟨by rfl, ?_⟩) ?_ ?_
   rotate_left
   ·intro w'
    go_simp
    with_reducible rfl
   rotate_left
   ·simp only [Act.put, List.setIfInBounds_toArray, List.set_cons_zero, List.set_cons_succ, i64_w, i32_w]
    rfl
   refine take_ (i := 1) (N := some 50) (v := ?_) (a' := ?_) #[true, true, true, false, false, false, false, false] rfl rfl (by kernel_rfl) (fun _ _ _ h => h) (Or.inl ⟨by rfl, ?_⟩) hHeld ?_ ?_
   rotate_left
   ·intro w' s0
    go_simp
    with_reducible rfl
   rotate_left
   ·simp only [Act.put, List.setIfInBounds_toArray, List.set_cons_zero, List.set_cons_succ, i64_w, i32_w]
    rfl
   refine one_ (i := 3) (N := some 52) #[true, true, true, true, false, false, false, false] rfl rfl (by kernel_rfl) (by decide) (fun K hK => ?_)
   refine goes_ Try.func53 (by kernel_rfl) rfl #[.pointer (some ⟨z + 1, 0, none⟩)] (by rfl) rfl rfl (by simp only [List.map_toArray, List.map_cons, List.map_nil]; rfl) ?_
   refine (scan_text z (z + 1) (txtR l) (txtB l false) W4.drew HD4.out.drew.scn (fun x hx => HL.out x (tkr_sub _ _ x (tkr_sub _ _ x hx)))).mono ?_
   rintro e Wa ⟨rfl, hS, hg⟩
   refine ⟨_, rfl, ?_⟩
   have HDb := Aside0.mk (HD4.out.drew.call hS hg)
   have HC1 := Aside0.mk (cell_grown hg hHeld (by show some z ≠ some (z + 1); simp))
   refine hK.out _ _ ((cell_grown hg hHeld (by show some z ≠ some (z + 1); simp))) (fun hHeld => ?_)
   clear hS hg
   clear hK K
   refine norm_ (a' := ?_) ?_ ?_
   rotate_left
   ·show Act.put _ (some 52) _ = _
    simp only [Act.put, List.setIfInBounds_toArray, List.set_cons_zero, List.set_cons_succ, i64_w, i32_w]
    rfl
   refine one_ (i := 4) (N := some 53) #[true, true, true, true, true, false, false, false] rfl rfl (by kernel_rfl) (by decide) (fun K hK => ?_)
   refine value_ (w1 := ?_) (v := ?_) (by rfl) rfl ?_ ?_
   rotate_left 2
   ·go_simp
    constructor
    ·rfl
    ·rfl
   refine hK.out _ _ (((World.cell?_alloc_lt _ _ _ (World.block_lt_of_cell? _ _ hHeld)).trans hHeld)) (fun hHeld => ?_)
   clear hK K
   refine norm_ (a' := ?_) ?_ ?_
   rotate_left
   ·show Act.put _ (some 53) _ = _
    simp only [Act.put, List.setIfInBounds_toArray, List.set_cons_zero, List.set_cons_succ, i64_w, i32_w]
    rfl
   refine one_ (i := 5) (N := some 54) #[true, true, true, true, true, true, false, false] rfl rfl (by kernel_rfl) (by decide) (fun K hK => ?_)
   refine Kd.R_append_step Kd.string (w0 := Wa) (z + 2) (by rfl) (.tmp 50) (.tmp 53) 22 9 (.string ByteArray.empty) 16 rfl Try.underlying22 HINF.out rfl (by decide) (by omega) v2 vs (txtS (txtR l)) [.string (txtS (txtR l))] (fun k => some k ≠ (Value.slice Av nv cv).ownBlock) (fun _ => False) rfl rfl rfl (fun _ hk => hk.elim) (fun k hk e => by have := Kd.R_lt HDb.out.r1 k e.symm; omega) HDb.out.r2 (Below.refl _ _) HDb.out.siz (by have := HLEN.out; omega) ?_
   intro vn w2 ho hb hg2 hat
   replace ho : Kd.R Kd.string 9 w2 (z + 2) (fun k => some k ≠ (Value.slice Av nv cv).ownBlock) vn (vs ++ [(txtS (txtR l))]) := ho
   obtain ⟨Bv, mv, dv, rfl⟩ : ∃ A n c, vn = .slice A n c := by obtain ⟨A, c, rfl⟩ := Kd.R_slice ho; exact ⟨A, _, c, rfl⟩
   have HRn := Aside0.mk ho
   have HG2 := Aside0.mk hg2
   have HAT := Aside0.mk hat
   have hfz := blk_frozen (blk_grown HDb.out.blk HG2.out HDb.out.ne.2.1) 2
   refine hK.out _ _ ((cell_grown hg2 HC1.out HDb.out.ne.2.1)) (fun hHeld => ?_)
   clear ho hb hg2 hat
   clear hK K
   refine norm_ (a' := ?_) ?_ ?_
   rotate_left
   ·show Act.put _ (some 54) _ = _
    simp only [Act.put, List.setIfInBounds_toArray, List.set_cons_zero, List.set_cons_succ, i64_w, i32_w]
    rfl
   refine pure_ (i := 6) (N := some 55) (v := ?_) (a' := ?_) #[true, true, true, true, true, true, true, false] rfl rfl (by kernel_rfl) (fun _ _ _ h => h) (Or.inl ⟨by rfl, ?_⟩) ?_ ?_
   rotate_left
   ·intro w'
    go_simp
    with_reducible rfl
   rotate_left
   ·simp only [Act.put, List.setIfInBounds_toArray, List.set_cons_zero, List.set_cons_succ, i64_w, i32_w]
    rfl
   refine last_ (i := 7) (N := none) #[true, true, true, true, true, true, true, true] rfl rfl (by kernel_rfl) (by decide) (fun K hK => ?_)
   refine skip_ (w1 := ?_) (by rfl) rfl ?_ ?_
   rotate_left
   ·go_simp
    rfl
   refine hK.out _ _ ?_
   clear hK K
   refine done_ (by kernel_rfl) ?_
   obtain ⟨W5, hW5⟩ : ∃ W, W = w2.setCell ⟨z, 2, none⟩ (.slice Bv mv dv) := ⟨_, rfl⟩
   have HD5 := Aside0.mk (HDb.out.vals HRn.out HG2.out HAT.out)
   rw [← hW5] at HD5 ⊢
   clear hW5 HDb HC1 HRn HG2 HAT hfz hHeld HC hleaf HD4
   go_wp2
   go_step3
   refine jumpsN_goto (rest := _) (by rw [HF.out]; rfl) ?_
   refine wp_seq_k (fun K2 hK2 => ?_)
   refine wp_skip ?_
   refine hK2 _ _ ?_
   clear hK2 K2
   refine IH m' rfl _ _ _ _ _ _ _ _ _ _ (wrap64 (mi - 1)) ?_ HD5.out ?_ ?_ ?_ HRUN.out
   ·exact ⟨rfl, rfl, rfl, rfl, rfl⟩
   ·exact (fun x hx => HL.out x (tkr_sub _ _ x (tkr_sub _ _ x (tkr_sub _ _ x (tkr_sub _ _ x hx)))))
   ·have := HLEN.out; simp only [List.length_append, List.length_cons, List.length_nil]; omega
   ·have := HMI.out; have := HLEN.out; rw [wrap64_id (by omega) (by omega)]; omega
set_option maxHeartbeats 8000000 in
set_option maxRecDepth 100000 in
theorem dec_walk_false (k : Nat) (A0 : Option Addr) (c0 : Nat) (l0 : List Int) (w : World) (hr0 : Kd.C (Kd.int .u8) w A0 l0.length l0) (hc0 : l0.length ≤ c0) (hoct : ∀ x ∈ l0, 0 ≤ x ∧ x < 256) (ho1 : oct l0 = 0)
  (l2 : List Int) (b2 : Bool) (m : Nat) (hl2 : tkr (tkr l0 1) 1 = l2) (hb2 : tkb (tkr l0 1) (tkb l0 false 1) 1 = b2) (hm : oct (tkr l0 1) = (m : Int))
  (l3 : List Int) (b3 : Bool) (r0 : Int) (hl3 : tkr l2 4 = l3) (hb3 : tkb l2 b2 4 = b3) (hr3 : kidV k l2 = some r0)
  (lE : List Int) (bE : Bool) (kE vE : List ByteArray) (sE : List Int) (hrun : decRun k false m l3 b3 [] [] [r0] = some (lE, bE, kE, vE, sE)) (r1 : Bool) (r2 r3 : List ByteArray) (r4 : List Int) (r5 : Int) (hend : decEnd k false lE bE kE vE sE = some (r1, r2, r3, r4, r5)) :
  Calls Try.prog 19 #[.slice A0 l0.length c0] w fun e w' => ∃ v1_ v2_ v3_ : Value, e = .returned (.tuple #[.agg #[.bool r1, v1_, v2_, v3_], .int .i64 r5]) ∧ Kd.R Kd.string 9 w' w.heap.size (fun k_ => some k_ ≠ (v2_ : Value).ownBlock) v1_ r2 ∧ Kd.R Kd.string 9 w' w.heap.size (fun k_ => some k_ ≠ (v1_ : Value).ownBlock) v2_ r3 ∧ Kd.R (Kd.int .i64) 3 w' w.heap.size (fun _ => True) v3_ r4 ∧ Below w.heap.size w w' := by
 have hu31 := Try.underlying31
 have hu95 := Try.underlying95
 have hinfo : (Try.prog.info? 9).map (fun i => (i.zero, i.size, i.bytes)) = some (some (.string ByteArray.empty), 1, 16) := by kernel_rfl
 have HINF := Aside0.mk hinfo
 have hinfi : (Try.prog.info? 3).map (fun i => (i.zero, i.size, i.bytes)) = some (some (.int .i64 0), 1, 8) := by kernel_rfl
 have HINI := Aside0.mk hinfi
 have hb95 : ∀ (w : World) (A : Option Addr) (n c : Nat), (Instr.build 95 #[(0, .slice A n c)]).run Try.prog w = .ok (.agg #[.slice A n c, .bool false]) w := fun w A n c => run_build w 95 #[(0, .slice A n c)] #[.slice A n c, .bool false] (by kernel_rfl)
 have hb31 : ∀ (w : World), (Instr.build 31 #[]).run Try.prog w = .ok (.agg #[.bool false, .slice none 0 0, .slice none 0 0, .slice none 0 0]) w := fun w => run_build w 31 #[] #[.bool false, .slice none 0 0, .slice none 0 0, .slice none 0 0] (by kernel_rfl)
 have HO := Aside0.mk hoct
 have HO1 := Aside0.mk (fun x hx => hoct x (tkr_sub _ _ x hx) : ∀ x ∈ tkr l0 1, 0 ≤ x ∧ x < 256)
 have HO2 := Aside0.mk (fun x hx => HO1.out x (tkr_sub _ _ x (by rw [hl2]; exact hx)) : ∀ x ∈ l2, 0 ≤ x ∧ x < 256)
 have HM := Aside0.mk (show m ≤ 255 by have := (oct_bound _ HO1.out).2; omega)
 obtain ⟨z, hz⟩ : ∃ z, z = w.heap.size := ⟨_, rfl⟩
 have HZ := Aside0.mk hz
 obtain ⟨W0, hW0⟩ : ∃ W0, W0 = ((w.alloc (.cells #[.bool false, .slice none 0 0, .slice none 0 0, .slice none 0 0] 31)).alloc (.cells #[.slice A0 l0.length c0, .bool false] 95)) := ⟨_, rfl⟩
 have HS : Aside0 (Scn W0 z (z + 1) l0 false) := by
  refine ⟨A0, c0, ?_, fun W' hk => ?_, hc0, by omega⟩
  ·rw [hz, hW0, show w.heap.size + 1 = (w.alloc (.cells #[.bool false, .slice none 0 0, .slice none 0 0, .slice none 0 0] 31)).heap.size by simp]
   exact World.alloc_heap_new _ _
  ·refine Kd.C_below hr0 ?_
   rw [hz] at hk
   exact (show Below w.heap.size w W0 by rw [hW0]; exact below_alloc (below_alloc (Below.refl _ _) _) _).trans hk
 have HD : Aside0 (Dec w W0 z false (.slice none 0 0) (.slice none 0 0) (.slice none 0 0) [] [] [] l0 false) := by
  refine ⟨⟨?_, HS.out, ?_, ?_, Kd.R_nil _ _ _ _ _, Kd.R_nil _ _ _ _ _, Kd.R_nil _ _ _ _ _⟩⟩
  ·rw [hW0, hz]; exact blk_alloc (blk_new w _) _
  ·rw [hW0, hz]; exact below_alloc (below_alloc (Below.refl _ _) _) _
  ·rw [hW0, hz]; simp
 have HW0 := Aside0.mk hW0
 have H1 := Aside0.mk (And.intro ho1 (And.intro hl2 (And.intro hb2 hm)))
 have H3 := Aside0.mk (And.intro hl3 (And.intro hb3 hr3))
 have HRUN := Aside0.mk hrun
 have HEND := Aside0.mk hend
 clear hr0 hc0 hz hW0 hoct ho1 hl2 hb2 hm hrun hend hinfo hinfi hl3 hb3 hr3
 go_enter Try.func19, Try.ntmps19
 go_wp2
 refine wp_scope_jumpsC (m + 1) (fun c hc => ?_)
 have HF := Aside0.mk hc
 clear hc
 go_wp2_with (first | (go_at_call 51; rw [← HZ.out, ← HW0.out]; refine (scan_octet z (z + 1) l0 false W0 HS.out HO.out).mono ?_; rintro e W1 ⟨rfl, hS, hg⟩; rw [H1.out.1]; have HD1 := Aside0.mk (HD.out.call hS hg); clear hS hg HD HS) | (go_at_call 51; refine (scan_octet z (z + 1) (tkr l0 1) (tkb l0 false 1) W1 HD1.out.scn HO1.out).mono ?_; rintro e W2 ⟨rfl, hS, hg⟩; rw [H1.out.2.2.2]; rw [H1.out.2.1, H1.out.2.2.1] at hS; have HD2 := Aside0.mk (HD1.out.call hS hg); have hz0 := (blk_cell HD2.out.blk 0).trans rfl; have hzf := blk_frozen HD2.out.blk 0; clear hS hg HD1))
 obtain ⟨W3, hW3⟩ : ∃ W3, W3 = W2.setCell ⟨z, 0, none⟩ (.bool false) := ⟨_, rfl⟩
 have HD3 : Aside0 (Dec w W3 z false (.slice none 0 0) (.slice none 0 0) (.slice none 0 0) [] [] [] l2 b2) := by
  have hs := HD2.out.scn_row (v := .slice none 0 0) (fun k e => by cases e) (w2 := W2) ⟨rfl, rfl, rfl, Nat.le_refl _, fun _ _ _ => rfl⟩ 0 (.bool false)
  rw [hW3]; exact ⟨⟨blk_put HD2.out.blk 0 _ rfl, hs.1, hs.2.1, hs.2.2, Kd.R_nil _ _ _ _ _, Kd.R_nil _ _ _ _ _, Kd.R_nil _ _ _ _ _⟩⟩
 obtain ⟨As, cs, hs1, -, -, -⟩ := HD3.out.scn
 have hbad := (blk_cell hs1 1).trans rfl
 have HC := (blk_cell HD3.out.blk 3).trans rfl
 rw [← hW3]
 clear hW3 hz0 hzf hs1 HD2
 have HLEN := Aside0.mk (show ([] : List Int).length ≤ 256 by simp)
 go_wp2
 refine start_ (n := 8) (S := fun w' => w'.cell? ⟨z, 3, none⟩ = some (.slice none 0 0)) (ds := [7]) #[false, false, false, false, false, false, false, false] (by kernel_rfl) rfl rfl (HC) (fun hHeld => ?_)
 refine pure_ (i := 0) (N := some 23) (v := ?_) (a' := ?_) #[true, false, false, false, false, false, false, false] rfl rfl (by kernel_rfl) (fun _ _ _ h => h) (Or.inl ⟨by rfl, ?_⟩) ?_ ?_
 rotate_left
 ·intro w'
  go_simp
  with_reducible rfl
 rotate_left
 ·simp only [Act.put, List.setIfInBounds_toArray, List.set_cons_zero, List.set_cons_succ, i64_w, i32_w]
  rfl
 refine pure_ (i := 2) (N := some 25) (v := ?_) (a' := ?_) #[true, false, true, false, false, false, false, false] rfl rfl (by kernel_rfl) (fun _ _ _ h => h) (Or.inl ⟨by rfl, ?_⟩) ?_ ?_
 rotate_left
 ·intro w'
  go_simp
  with_reducible rfl
 rotate_left
 ·simp only [Act.put, List.setIfInBounds_toArray, List.set_cons_zero, List.set_cons_succ, i64_w, i32_w]
  rfl
 refine take_ (i := 1) (N := some 24) (v := ?_) (a' := ?_) #[true, true, true, false, false, false, false, false] rfl rfl (by kernel_rfl) (fun _ _ _ h => h) (Or.inl ⟨by rfl, ?_⟩) hHeld ?_ ?_
 rotate_left
 ·intro w' s0
  go_simp
  with_reducible rfl
 rotate_left
 ·simp only [Act.put, List.setIfInBounds_toArray, List.set_cons_zero, List.set_cons_succ, i64_w, i32_w]
  rfl
 refine one_ (i := 3) (N := some 26) #[true, true, true, true, false, false, false, false] rfl rfl (by kernel_rfl) (by decide) (fun K hK => ?_)
 refine goes_ Try.func52 (by kernel_rfl) rfl #[.pointer (some ⟨z + 1, 0, none⟩)] (by rfl) rfl rfl (by simp only [List.map_toArray, List.map_cons, List.map_nil]; rfl) ?_
 refine (scan_kid k z (z + 1) l2 b2 r0 W3.drew HD3.out.drew.scn H3.out.2.2).mono ?_
 rintro e Wa ⟨rfl, hS, hg⟩
 refine ⟨_, rfl, ?_⟩
 have HDa := Aside0.mk (HD3.out.drew.call hS hg)
 have HC1 := Aside0.mk (cell_grown hg hHeld (by show some z ≠ some (z + 1); simp))
 refine hK.out _ _ ((cell_grown hg hHeld (by show some z ≠ some (z + 1); simp))) (fun hHeld => ?_)
 clear hS hg
 clear hK K
 refine norm_ (a' := ?_) ?_ ?_
 rotate_left
 ·show Act.put _ (some 26) _ = _
  simp only [Act.put, List.setIfInBounds_toArray, List.set_cons_zero, List.set_cons_succ, i64_w, i32_w]
  rfl
 refine one_ (i := 4) (N := some 27) #[true, true, true, true, true, false, false, false] rfl rfl (by kernel_rfl) (by decide) (fun K hK => ?_)
 refine value_ (w1 := ?_) (v := ?_) (by rfl) rfl ?_ ?_
 rotate_left 2
 ·go_simp
  constructor
  ·rfl
  ·rfl
 refine hK.out _ _ (((World.cell?_alloc_lt _ _ _ (World.block_lt_of_cell? _ _ hHeld)).trans hHeld)) (fun hHeld => ?_)
 clear hK K
 refine norm_ (a' := ?_) ?_ ?_
 rotate_left
 ·show Act.put _ (some 27) _ = _
  simp only [Act.put, List.setIfInBounds_toArray, List.set_cons_zero, List.set_cons_succ, i64_w, i32_w]
  rfl
 refine one_ (i := 5) (N := some 28) #[true, true, true, true, true, true, false, false] rfl rfl (by kernel_rfl) (by decide) (fun K hK => ?_)
 refine Kd.R_append_step (Kd.int .i64) (w0 := Wa) (z + 2) (by rfl) (.tmp 24) (.tmp 27) 23 3 (.int .i64 0) 8 rfl Try.underlying23 HINI.out rfl (by decide) (by omega) (.slice none 0 0) [] r0 [.int .i64 r0] (fun _ => True) (fun _ => False) rfl rfl rfl (fun _ hk => hk.elim) (fun _ _ => trivial) HDa.out.r3 (Below.refl _ _) HDa.out.siz (by have := HLEN.out; omega) ?_
 intro vn w2 ho hb hg2 hat
 replace ho : Kd.R (Kd.int .i64) 3 w2 (z + 2) (fun _ => True) vn ([] ++ [r0]) := ho
 obtain ⟨Av, nv, cv, rfl⟩ : ∃ A n c, vn = .slice A n c := by obtain ⟨A, c, rfl⟩ := Kd.R_slice ho; exact ⟨A, _, c, rfl⟩
 have HRn := Aside0.mk ho
 have HG2 := Aside0.mk hg2
 have HAT := Aside0.mk hat
 have hfz := blk_frozen (blk_grown HDa.out.blk HG2.out HDa.out.ne.2.2) 3
 refine hK.out _ _ ((cell_grown hg2 HC1.out HDa.out.ne.2.2)) (fun hHeld => ?_)
 clear ho hb hg2 hat
 clear hK K
 refine norm_ (a' := ?_) ?_ ?_
 rotate_left
 ·show Act.put _ (some 28) _ = _
  simp only [Act.put, List.setIfInBounds_toArray, List.set_cons_zero, List.set_cons_succ, i64_w, i32_w]
  rfl
 refine pure_ (i := 6) (N := some 29) (v := ?_) (a' := ?_) #[true, true, true, true, true, true, true, false] rfl rfl (by kernel_rfl) (fun _ _ _ h => h) (Or.inl ⟨by rfl, ?_⟩) ?_ ?_
 rotate_left
 ·intro w'
  go_simp
  with_reducible rfl
 rotate_left
 ·simp only [Act.put, List.setIfInBounds_toArray, List.set_cons_zero, List.set_cons_succ, i64_w, i32_w]
  rfl
 refine last_ (i := 7) (N := none) #[true, true, true, true, true, true, true, true] rfl rfl (by kernel_rfl) (by decide) (fun K hK => ?_)
 refine skip_ (w1 := ?_) (by rfl) rfl ?_ ?_
 rotate_left
 ·go_simp
  rfl
 refine hK.out _ _ ?_
 clear hK K
 refine done_ (by kernel_rfl) ?_
 obtain ⟨W4, hW4⟩ : ∃ W, W = w2.setCell ⟨z, 3, none⟩ (.slice Av nv cv) := ⟨_, rfl⟩
 have HD4 : Aside0 (Dec w W4 z false (.slice none 0 0) (.slice none 0 0) (.slice Av nv cv) [] [] [r0] l3 b3) := by
  have := HDa.out.kids HRn.out HG2.out
  rw [H3.out.1, H3.out.2.1] at this
  rw [hW4]; exact ⟨this⟩
 rw [← hW4]
 clear hW4 HDa HC1 HRn HG2 HAT hfz hHeld HC HLEN
 go_wp2
 go_step3
 rename_i K1 hK1
 refine hK1 _ _ ?_
 clear hK1 K1
 clear hbad
 refine loop_dec (w := w) (z := z) (k := k) (leaf := false) (res := (lE, bE, kE, vE, sE)) ?_ m _ _ _ _ _ _ _ _ _ _ _ ⟨rfl, rfl, rfl, rfl, rfl⟩ HD4.out (fun x hx => HO2.out x (tkr_sub _ _ x (by rw [H3.out.1]; exact hx))) ⟨by simpa using HM.out, by simpa using HM.out, by have := HM.out; simp; omega⟩ rfl HRUN.out
 clear HRUN H1 HO HO1 HO2 HM hb95 hu95 HW0
 intro m' IH ts W l bad ks vs ss v1 v2 v3 mi hD hl hlen hmi hrun
 have HD := Aside0.mk hD
 have HL := Aside0.mk hl
 have HLEN := Aside0.mk hlen
 have hu95 := Try.underlying95
 clear hD hl hlen
 cases m' with
 | zero =>
  obtain rfl : mi = 0 := hmi
  clear IH
  unfold decRun at hrun
  cases hrun
  go_wp2
  go_step3
  refine jumpsN_goto (rest := _) (by rw [HF.out]; rfl) ?_
  obtain ⟨As, cs, hs1, -, -, -⟩ := HD.out.scn
  have hbad := (blk_cell hs1 1).trans rfl
  have hrest := (blk_cell hs1 0).trans rfl
  have hend := HEND.out
  unfold decEnd at hend
  clear hs1
  cases bE with
  | true =>
   rw [if_pos rfl] at hend
   cases hend
   have HBX := Aside0.mk HD.out.blk
   have HFX := Aside0.mk HD.out.far
   have hn0 := (blk_cell HBX.out 0).trans rfl
   have hn1 := (blk_cell HBX.out 1).trans rfl
   have hn2 := (blk_cell HBX.out 2).trans rfl
   have hn3 := (blk_cell HBX.out 3).trans rfl
   have hf0 := blk_frozen HBX.out 0
   have hf1 := blk_frozen HBX.out 1
   have hf2 := blk_frozen HBX.out 2
   have hf3 := blk_frozen HBX.out 3
   go_wp2
   have HBK7 := blk_put (cs' := #[.bool false, .slice none 0 0, .slice none 0 0, .slice none 0 0]) (blk_put (blk_put (blk_put HBX.out 0 (.bool false) rfl) 1 (.slice none 0 0) rfl) 2 (.slice none 0 0) rfl) 3 (.slice none 0 0) rfl
   have hfin : Below w.heap.size w ((((W.setCell ⟨z, 0, none⟩ (.bool false)).setCell ⟨z, 1, none⟩ (.slice none 0 0)).setCell ⟨z, 2, none⟩ (.slice none 0 0)).setCell ⟨z, 3, none⟩ (.slice none 0 0)) := by
    rw [← HZ.out]
    exact HFX.out.trans (((((Below.refl z W).setCell (p := ⟨z, 0, none⟩) (Nat.le_refl _) _).setCell (p := ⟨z, 1, none⟩) (Nat.le_refl _) _).setCell (p := ⟨z, 2, none⟩) (Nat.le_refl _) _).setCell (p := ⟨z, 3, none⟩) (Nat.le_refl _) _)
   refine jumpsN_ret ?_
   exact bodyPost_ret (results_ct rfl _ _ z _ _ (0, 0) _ rfl HBK7 Try.underlying31 rfl (by kernel_rfl)) rfl ⟨_, _, _, rfl, Kd.R_nil _ _ _ _ _, Kd.R_nil _ _ _ _ _, Kd.R_nil _ _ _ _ _, hfin⟩
  | false =>
   rw [if_neg (by simp)] at hend
   by_cases hpos : (lE.length : Int) > 0
   ·rw [if_pos (by omega)] at hend
    cases hend
    have HBX := Aside0.mk HD.out.blk
    have HFX := Aside0.mk HD.out.far
    have hn0 := (blk_cell HBX.out 0).trans rfl
    have hn1 := (blk_cell HBX.out 1).trans rfl
    have hn2 := (blk_cell HBX.out 2).trans rfl
    have hn3 := (blk_cell HBX.out 3).trans rfl
    have hf0 := blk_frozen HBX.out 0
    have hf1 := blk_frozen HBX.out 1
    have hf2 := blk_frozen HBX.out 2
    have hf3 := blk_frozen HBX.out 3
    go_wp2
    have HBK7 := blk_put (cs' := #[.bool false, .slice none 0 0, .slice none 0 0, .slice none 0 0]) (blk_put (blk_put (blk_put HBX.out 0 (.bool false) rfl) 1 (.slice none 0 0) rfl) 2 (.slice none 0 0) rfl) 3 (.slice none 0 0) rfl
    have hfin : Below w.heap.size w ((((W.setCell ⟨z, 0, none⟩ (.bool false)).setCell ⟨z, 1, none⟩ (.slice none 0 0)).setCell ⟨z, 2, none⟩ (.slice none 0 0)).setCell ⟨z, 3, none⟩ (.slice none 0 0)) := by
     rw [← HZ.out]
     exact HFX.out.trans (((((Below.refl z W).setCell (p := ⟨z, 0, none⟩) (Nat.le_refl _) _).setCell (p := ⟨z, 1, none⟩) (Nat.le_refl _) _).setCell (p := ⟨z, 2, none⟩) (Nat.le_refl _) _).setCell (p := ⟨z, 3, none⟩) (Nat.le_refl _) _)
    refine jumpsN_ret ?_
    exact bodyPost_ret (results_ct rfl _ _ z _ _ (0, 0) _ rfl HBK7 Try.underlying31 rfl (by kernel_rfl)) rfl ⟨_, _, _, rfl, Kd.R_nil _ _ _ _ _, Kd.R_nil _ _ _ _ _, Kd.R_nil _ _ _ _ _, hfin⟩
   ·rw [if_neg (by omega)] at hend
    obtain ⟨e5, hck, hend⟩ := Option.bind_eq_some_iff.1 hend
    obtain ⟨A1, c1, rfl⟩ := Kd.R_slice HD.out.r1
    obtain ⟨A2, c2, rfl⟩ := Kd.R_slice HD.out.r2
    obtain ⟨A3, c3, rfl⟩ := Kd.R_slice HD.out.r3
    have HBX := Aside0.mk HD.out.blk
    have hn0 := (blk_cell HBX.out 0).trans rfl
    have hn1 := (blk_cell HBX.out 1).trans rfl
    have hn2 := (blk_cell HBX.out 2).trans rfl
    have hn3 := (blk_cell HBX.out 3).trans rfl
    have hchk := node_Check.calls k false A1 c1 kE A2 c2 vE A3 c3 sE e5 W (Kd.R_reads' HD.out.r1).2.2 (Kd.R_reads' HD.out.r1).2.1 (Kd.R_reads' HD.out.r2).2.2 (Kd.R_reads' HD.out.r2).2.1 (Kd.R_reads' HD.out.r3).2.2 (Kd.R_reads' HD.out.r3).2.1 hck
    clear hck
    have HE := Aside0.mk hend
    clear hend
    have HQ : ∀ W6, Below W.heap.size W W6 → Aside0 (Dec w W6 z false (.slice A1 kE.length c1) (.slice A2 vE.length c2) (.slice A3 sE.length c3) kE vE sE lE false) := fun W6 hb => ⟨HD.out.below hb⟩
    by_cases hz5 : e5 = 0
    ·subst hz5
     go_wp2_with (go_at_call 25; refine hchk.mono ?_; rintro e W6 ⟨rfl, hb6⟩; have HD6 := HQ W6 hb6; have HBK6 := Aside0.mk HD6.out.blk; have hm0 := (blk_cell HBK6.out 0).trans rfl; have hm1 := (blk_cell HBK6.out 1).trans rfl; have hm2 := (blk_cell HBK6.out 2).trans rfl; have hm3 := (blk_cell HBK6.out 3).trans rfl; have hg0 := blk_frozen HBK6.out 0; have hg1 := blk_frozen HBK6.out 1; have hg2' := blk_frozen HBK6.out 2; have hg3 := blk_frozen HBK6.out 3; clear hb6 hchk)
     refine jumpsN_ret ?_
     have hend := HE.out
     rw [if_pos (by trivial)] at hend
     cases hend
     have hz : ∀ {k : Nat}, z + 2 ≤ k → k ≠ z := fun hk e => by omega
     have hfar : ∀ {α : Type} {d : Kd α} {q : Nat} {ok : Nat → Prop} {v : Value} {xs : List α}, d.R q W6 (z + 2) ok v xs → d.R q ((((W6.setCell ⟨z, 0, none⟩ (.bool false)).setCell ⟨z, 1, none⟩ (.slice A1 kE.length c1)).setCell ⟨z, 2, none⟩ (.slice A2 vE.length c2)).setCell ⟨z, 3, none⟩ (.slice A3 sE.length c3)) w.heap.size ok v xs := by
      intro α d q ok v xs h
      have hk : ∀ k, (ok k ∧ z + 2 ≤ k) → k ≠ z := fun k hk => hz hk.2
      exact Kd.R_lower (Kd.R_mono (Kd.R_far (Kd.R_far (Kd.R_far (Kd.R_far (Kd.R_mono (Kd.R_bound h) (fun k hk => (⟨hk.1, hk.2.1⟩ : ok k ∧ z + 2 ≤ k))) (p := ⟨z, 0, none⟩) hk _) (p := ⟨z, 1, none⟩) hk _) (p := ⟨z, 2, none⟩) hk _) (p := ⟨z, 3, none⟩) hk _) (fun _ hk => hk.1)) (by have := HZ.out; omega)
     have hfin : Below w.heap.size w ((((W6.setCell ⟨z, 0, none⟩ (.bool false)).setCell ⟨z, 1, none⟩ (.slice A1 kE.length c1)).setCell ⟨z, 2, none⟩ (.slice A2 vE.length c2)).setCell ⟨z, 3, none⟩ (.slice A3 sE.length c3)) := by
      rw [← HZ.out]
      exact HD6.out.far.trans (((((Below.refl z W6).setCell (p := ⟨z, 0, none⟩) (Nat.le_refl _) _).setCell (p := ⟨z, 1, none⟩) (Nat.le_refl _) _).setCell (p := ⟨z, 2, none⟩) (Nat.le_refl _) _).setCell (p := ⟨z, 3, none⟩) (Nat.le_refl _) _)
     have HBK7 := blk_put (cs' := #[.bool false, .slice A1 kE.length c1, .slice A2 vE.length c2, .slice A3 sE.length c3]) (blk_put (blk_put (blk_put HBK6.out 0 (.bool false) rfl) 1 (.slice A1 kE.length c1) rfl) 2 (.slice A2 vE.length c2) rfl) 3 (.slice A3 sE.length c3) rfl
     exact bodyPost_ret (results_ct rfl _ _ z _ _ (0, 0) _ rfl HBK7 Try.underlying31 rfl (by kernel_rfl)) rfl ⟨_, _, _, rfl, hfar HD6.out.r1, hfar HD6.out.r2, hfar HD6.out.r3, hfin⟩
    ·have hz5b : (e5 == 0) = false := beq_eq_false_iff_ne.mpr hz5
     have hz5c : (e5 != 0) = true := bne_iff_ne.mpr hz5
     have hend := HE.out
     rw [if_neg hz5] at hend
     cases hend
     go_wp2_with (go_at_call 25; refine hchk.mono ?_; rintro e W6 ⟨rfl, hb6⟩; have HD6 := HQ W6 hb6; have HBK6 := Aside0.mk HD6.out.blk; have hm0 := (blk_cell HBK6.out 0).trans rfl; have hm1 := (blk_cell HBK6.out 1).trans rfl; have hm2 := (blk_cell HBK6.out 2).trans rfl; have hm3 := (blk_cell HBK6.out 3).trans rfl; have hg0 := blk_frozen HBK6.out 0; have hg1 := blk_frozen HBK6.out 1; have hg2' := blk_frozen HBK6.out 2; have hg3 := blk_frozen HBK6.out 3; clear hb6 hchk)
     have HBX := HBK6
     have HFX := Aside0.mk HD6.out.far
     have HBK7 := blk_put (cs' := #[.bool false, .slice none 0 0, .slice none 0 0, .slice none 0 0]) (blk_put (blk_put (blk_put HBX.out 0 (.bool false) rfl) 1 (.slice none 0 0) rfl) 2 (.slice none 0 0) rfl) 3 (.slice none 0 0) rfl
     have hfin : Below w.heap.size w ((((W6.setCell ⟨z, 0, none⟩ (.bool false)).setCell ⟨z, 1, none⟩ (.slice none 0 0)).setCell ⟨z, 2, none⟩ (.slice none 0 0)).setCell ⟨z, 3, none⟩ (.slice none 0 0)) := by
      rw [← HZ.out]
      exact HFX.out.trans (((((Below.refl z W6).setCell (p := ⟨z, 0, none⟩) (Nat.le_refl _) _).setCell (p := ⟨z, 1, none⟩) (Nat.le_refl _) _).setCell (p := ⟨z, 2, none⟩) (Nat.le_refl _) _).setCell (p := ⟨z, 3, none⟩) (Nat.le_refl _) _)
     refine jumpsN_ret ?_
     exact bodyPost_ret (results_ct rfl _ _ z _ _ (0, 0) _ rfl HBK7 Try.underlying31 rfl (by kernel_rfl)) rfl ⟨_, _, _, rfl, Kd.R_nil _ _ _ _ _, Kd.R_nil _ _ _ _ _, Kd.R_nil _ _ _ _ _, hfin⟩
 | succ m' =>
  have h0 : (mi == 0) = false := beq_eq_false_iff_ne.mpr (by omega)
  have h0' : ¬ mi = 0 := by omega
  have HMI := Aside0.mk hmi
  clear hmi
  obtain ⟨As, cs, hs1, -, -, -⟩ := HD.out.scn
  have hbad := (blk_cell hs1 1).trans rfl
  have hrest := (blk_cell hs1 0).trans rfl
  unfold decRun at hrun
  clear hs1
  cases bad with
  | true =>
   rw [if_pos rfl] at hrun
   cases hrun
   go_wp2
   go_step3
   refine jumpsN_goto (rest := _) (by rw [HF.out]; rfl) ?_
   have hend := HEND.out
   unfold decEnd at hend
   rw [if_pos rfl] at hend
   cases hend
   have HBX := Aside0.mk HD.out.blk
   have HFX := Aside0.mk HD.out.far
   have hn0 := (blk_cell HBX.out 0).trans rfl
   have hn1 := (blk_cell HBX.out 1).trans rfl
   have hn2 := (blk_cell HBX.out 2).trans rfl
   have hn3 := (blk_cell HBX.out 3).trans rfl
   have hf0 := blk_frozen HBX.out 0
   have hf1 := blk_frozen HBX.out 1
   have hf2 := blk_frozen HBX.out 2
   have hf3 := blk_frozen HBX.out 3
   go_wp2
   have HBK7 := blk_put (cs' := #[.bool false, .slice none 0 0, .slice none 0 0, .slice none 0 0]) (blk_put (blk_put (blk_put HBX.out 0 (.bool false) rfl) 1 (.slice none 0 0) rfl) 2 (.slice none 0 0) rfl) 3 (.slice none 0 0) rfl
   have hfin : Below w.heap.size w ((((W.setCell ⟨z, 0, none⟩ (.bool false)).setCell ⟨z, 1, none⟩ (.slice none 0 0)).setCell ⟨z, 2, none⟩ (.slice none 0 0)).setCell ⟨z, 3, none⟩ (.slice none 0 0)) := by
    rw [← HZ.out]
    exact HFX.out.trans (((((Below.refl z W).setCell (p := ⟨z, 0, none⟩) (Nat.le_refl _) _).setCell (p := ⟨z, 1, none⟩) (Nat.le_refl _) _).setCell (p := ⟨z, 2, none⟩) (Nat.le_refl _) _).setCell (p := ⟨z, 3, none⟩) (Nat.le_refl _) _)
   refine jumpsN_ret ?_
   exact bodyPost_ret (results_ct rfl _ _ z _ _ (0, 0) _ rfl HBK7 Try.underlying31 rfl (by kernel_rfl)) rfl ⟨_, _, _, rfl, Kd.R_nil _ _ _ _ _, Kd.R_nil _ _ _ _ _, Kd.R_nil _ _ _ _ _, hfin⟩
  | false =>
   rw [if_neg (by simp), if_neg (by simp)] at hrun
   obtain ⟨rk, hrk, hrun⟩ := Option.bind_eq_some_iff.1 hrun
   have HRK := Aside0.mk hrk
   have HRUN := Aside0.mk hrun
   clear hrk
   clear hrun
   have HC := (blk_cell HD.out.blk 1).trans rfl
   go_wp2
   refine start_ (n := 8) (S := fun w' => w'.cell? ⟨z, 1, none⟩ = some v1) (ds := [7]) #[false, false, false, false, false, false, false, false] (by kernel_rfl) rfl rfl (HC) (fun hHeld => ?_)
   refine pure_ (i := 0) (N := some 40) (v := ?_) (a' := ?_) #[true, false, false, false, false, false, false, false] rfl rfl (by kernel_rfl) (fun _ _ _ h => h) (Or.inl ⟨by rfl, ?_⟩) ?_ ?_
   rotate_left
   ·intro w'
    go_simp
    with_reducible rfl
   rotate_left
   ·simp only [Act.put, List.setIfInBounds_toArray, List.set_cons_zero, List.set_cons_succ, i64_w, i32_w]
    rfl
   refine pure_ (i := 2) (N := some 42) (v := ?_) (a' := ?_) #[true, false, true, false, false, false, false, false] rfl rfl (by kernel_rfl) (fun _ _ _ h => h) (Or.inl ⟨by rfl, ?_⟩) ?_ ?_
   rotate_left
   ·intro w'
    go_simp
    with_reducible rfl
   rotate_left
   ·simp only [Act.put, List.setIfInBounds_toArray, List.set_cons_zero, List.set_cons_succ, i64_w, i32_w]
    rfl
   refine take_ (i := 1) (N := some 41) (v := ?_) (a' := ?_) #[true, true, true, false, false, false, false, false] rfl rfl (by kernel_rfl) (fun _ _ _ h => h) (Or.inl ⟨by rfl, ?_⟩) hHeld ?_ ?_
   rotate_left
   ·intro w' s0
    go_simp
    with_reducible rfl
   rotate_left
   ·simp only [Act.put, List.setIfInBounds_toArray, List.set_cons_zero, List.set_cons_succ, i64_w, i32_w]
    rfl
   refine one_ (i := 3) (N := some 43) #[true, true, true, true, false, false, false, false] rfl rfl (by kernel_rfl) (by decide) (fun K hK => ?_)
   refine goes_ Try.func53 (by kernel_rfl) rfl #[.pointer (some ⟨z + 1, 0, none⟩)] (by rfl) rfl rfl (by simp only [List.map_toArray, List.map_cons, List.map_nil]; rfl) ?_
   refine (scan_text z (z + 1) l false W.drew HD.out.drew.scn HL.out).mono ?_
   rintro e Wa ⟨rfl, hS, hg⟩
   refine ⟨_, rfl, ?_⟩
   have HDa := Aside0.mk (HD.out.drew.call hS hg)
   have HC1 := Aside0.mk (cell_grown hg hHeld (by show some z ≠ some (z + 1); simp))
   refine hK.out _ _ ((cell_grown hg hHeld (by show some z ≠ some (z + 1); simp))) (fun hHeld => ?_)
   clear hS hg
   clear hK K
   refine norm_ (a' := ?_) ?_ ?_
   rotate_left
   ·show Act.put _ (some 43) _ = _
    simp only [Act.put, List.setIfInBounds_toArray, List.set_cons_zero, List.set_cons_succ, i64_w, i32_w]
    rfl
   refine one_ (i := 4) (N := some 44) #[true, true, true, true, true, false, false, false] rfl rfl (by kernel_rfl) (by decide) (fun K hK => ?_)
   refine value_ (w1 := ?_) (v := ?_) (by rfl) rfl ?_ ?_
   rotate_left 2
   ·go_simp
    constructor
    ·rfl
    ·rfl
   refine hK.out _ _ (((World.cell?_alloc_lt _ _ _ (World.block_lt_of_cell? _ _ hHeld)).trans hHeld)) (fun hHeld => ?_)
   clear hK K
   refine norm_ (a' := ?_) ?_ ?_
   rotate_left
   ·show Act.put _ (some 44) _ = _
    simp only [Act.put, List.setIfInBounds_toArray, List.set_cons_zero, List.set_cons_succ, i64_w, i32_w]
    rfl
   refine one_ (i := 5) (N := some 45) #[true, true, true, true, true, true, false, false] rfl rfl (by kernel_rfl) (by decide) (fun K hK => ?_)
   refine Kd.R_append_step Kd.string (w0 := Wa) (z + 2) (by rfl) (.tmp 41) (.tmp 44) 22 9 (.string ByteArray.empty) 16 rfl Try.underlying22 HINF.out rfl (by decide) (by omega) v1 ks (txtS l) [.string (txtS l)] (fun k => some k ≠ v2.ownBlock) (fun _ => False) rfl rfl rfl (fun _ hk => hk.elim) (fun k hk e => by have := Kd.R_lt HDa.out.r2 k e.symm; omega) HDa.out.r1 (Below.refl _ _) HDa.out.siz (by have := HLEN.out; omega) ?_
   intro vn w2 ho hb hg2 hat
   replace ho : Kd.R Kd.string 9 w2 (z + 2) (fun k => some k ≠ v2.ownBlock) vn (ks ++ [(txtS l)]) := ho
   obtain ⟨Av, nv, cv, rfl⟩ : ∃ A n c, vn = .slice A n c := by obtain ⟨A, c, rfl⟩ := Kd.R_slice ho; exact ⟨A, _, c, rfl⟩
   have HRn := Aside0.mk ho
   have HG2 := Aside0.mk hg2
   have HAT := Aside0.mk hat
   have hfz := blk_frozen (blk_grown HDa.out.blk HG2.out HDa.out.ne.1) 1
   refine hK.out _ _ ((cell_grown hg2 HC1.out HDa.out.ne.1)) (fun hHeld => ?_)
   clear ho hb hg2 hat
   clear hK K
   refine norm_ (a' := ?_) ?_ ?_
   rotate_left
   ·show Act.put _ (some 45) _ = _
    simp only [Act.put, List.setIfInBounds_toArray, List.set_cons_zero, List.set_cons_succ, i64_w, i32_w]
    rfl
   refine pure_ (i := 6) (N := some 46) (v := ?_) (a' := ?_) #[true, true, true, true, true, true, true, false] rfl rfl (by kernel_rfl) (fun _ _ _ h => h) (Or.inl ⟨by rfl, ?_⟩) ?_ ?_
   rotate_left
   ·intro w'
    go_simp
    with_reducible rfl
   rotate_left
   ·simp only [Act.put, List.setIfInBounds_toArray, List.set_cons_zero, List.set_cons_succ, i64_w, i32_w]
    rfl
   refine last_ (i := 7) (N := none) #[true, true, true, true, true, true, true, true] rfl rfl (by kernel_rfl) (by decide) (fun K hK => ?_)
   refine skip_ (w1 := ?_) (by rfl) rfl ?_ ?_
   rotate_left
   ·go_simp
    rfl
   refine hK.out _ _ ?_
   clear hK K
   refine done_ (by kernel_rfl) ?_
   obtain ⟨W4, hW4⟩ : ∃ W, W = w2.setCell ⟨z, 1, none⟩ (.slice Av nv cv) := ⟨_, rfl⟩
   have HD4 := Aside0.mk (HDa.out.keys HRn.out HG2.out HAT.out)
   rw [← hW4] at HD4 ⊢
   clear hW4 HDa HC1 HRn HG2 HAT hfz hHeld HC hbad hrest
   have hleaf := (blk_cell HD4.out.blk 0).trans rfl
   have HC := (blk_cell HD4.out.blk 3).trans rfl
   go_wp2
   refine start_ (n := 8) (S := fun w' => w'.cell? ⟨z, 3, none⟩ = some v3) (ds := [7]) #[false, false, false, false, false, false, false, false] (by kernel_rfl) rfl rfl (HC) (fun hHeld => ?_)
   refine pure_ (i := 0) (N := some 56) (v := ?_) (a' := ?_) #[true, false, false, false, false, false, false, false] rfl rfl (by kernel_rfl) (fun _ _ _ h => h) (Or.inl ⟨by rfl, ?_⟩) ?_ ?_
   rotate_left
   ·intro w'
    go_simp
    with_reducible rfl
   rotate_left
   ·simp only [Act.put, List.setIfInBounds_toArray, List.set_cons_zero, List.set_cons_succ, i64_w, i32_w]
    rfl
   refine pure_ (i := 2) (N := some 58) (v := ?_) (a' := ?_) #[true, false, true, false, false, false, false, false] rfl rfl (by kernel_rfl) (fun _ _ _ h => h) (Or.inl ⟨by rfl, ?_⟩) ?_ ?_
   rotate_left
   ·intro w'
    go_simp
    with_reducible rfl
   rotate_left
   ·simp only [Act.put, List.setIfInBounds_toArray, List.set_cons_zero, List.set_cons_succ, i64_w, i32_w]
    rfl
   refine take_ (i := 1) (N := some 57) (v := ?_) (a' := ?_) #[true, true, true, false, false, false, false, false] rfl rfl (by kernel_rfl) (fun _ _ _ h => h) (Or.inl ⟨by rfl, ?_⟩) hHeld ?_ ?_
   rotate_left
   ·intro w' s0
    go_simp
    with_reducible rfl
   rotate_left
   ·simp only [Act.put, List.setIfInBounds_toArray, List.set_cons_zero, List.set_cons_succ, i64_w, i32_w]
    rfl
   refine one_ (i := 3) (N := some 59) #[true, true, true, true, false, false, false, false] rfl rfl (by kernel_rfl) (by decide) (fun K hK => ?_)
   refine goes_ Try.func52 (by kernel_rfl) rfl #[.pointer (some ⟨z + 1, 0, none⟩)] (by rfl) rfl rfl (by simp only [List.map_toArray, List.map_cons, List.map_nil]; rfl) ?_
   refine (scan_kid k z (z + 1) (txtR l) (txtB l false) rk W4.drew HD4.out.drew.scn HRK.out).mono ?_
   rintro e Wa ⟨rfl, hS, hg⟩
   refine ⟨_, rfl, ?_⟩
   have HDb := Aside0.mk (HD4.out.drew.call hS hg)
   have HC1 := Aside0.mk (cell_grown hg hHeld (by show some z ≠ some (z + 1); simp))
   refine hK.out _ _ ((cell_grown hg hHeld (by show some z ≠ some (z + 1); simp))) (fun hHeld => ?_)
   clear hS hg
   clear hK K
   refine norm_ (a' := ?_) ?_ ?_
   rotate_left
   ·show Act.put _ (some 59) _ = _
    simp only [Act.put, List.setIfInBounds_toArray, List.set_cons_zero, List.set_cons_succ, i64_w, i32_w]
    rfl
   refine one_ (i := 4) (N := some 60) #[true, true, true, true, true, false, false, false] rfl rfl (by kernel_rfl) (by decide) (fun K hK => ?_)
   refine value_ (w1 := ?_) (v := ?_) (by rfl) rfl ?_ ?_
   rotate_left 2
   ·go_simp
    constructor
    ·rfl
    ·rfl
   refine hK.out _ _ (((World.cell?_alloc_lt _ _ _ (World.block_lt_of_cell? _ _ hHeld)).trans hHeld)) (fun hHeld => ?_)
   clear hK K
   refine norm_ (a' := ?_) ?_ ?_
   rotate_left
   ·show Act.put _ (some 60) _ = _
    simp only [Act.put, List.setIfInBounds_toArray, List.set_cons_zero, List.set_cons_succ, i64_w, i32_w]
    rfl
   refine one_ (i := 5) (N := some 61) #[true, true, true, true, true, true, false, false] rfl rfl (by kernel_rfl) (by decide) (fun K hK => ?_)
   refine Kd.R_append_step (Kd.int .i64) (w0 := Wa) (z + 2) (by rfl) (.tmp 57) (.tmp 60) 23 3 (.int .i64 0) 8 rfl Try.underlying23 HINI.out rfl (by decide) (by omega) v3 ss rk [.int .i64 rk] (fun _ => True) (fun _ => False) rfl rfl rfl (fun _ hk => hk.elim) (fun _ _ => trivial) HDb.out.r3 (Below.refl _ _) HDb.out.siz (by have := HLEN.out; omega) ?_
   intro vn w2 ho hb hg2 hat
   replace ho : Kd.R (Kd.int .i64) 3 w2 (z + 2) (fun _ => True) vn (ss ++ [rk]) := ho
   obtain ⟨Bv, mv, dv, rfl⟩ : ∃ A n c, vn = .slice A n c := by obtain ⟨A, c, rfl⟩ := Kd.R_slice ho; exact ⟨A, _, c, rfl⟩
   have HRn := Aside0.mk ho
   have HG2 := Aside0.mk hg2
   have HAT := Aside0.mk hat
   have hfz := blk_frozen (blk_grown HDb.out.blk HG2.out HDb.out.ne.2.2) 3
   refine hK.out _ _ ((cell_grown hg2 HC1.out HDb.out.ne.2.2)) (fun hHeld => ?_)
   clear ho hb hg2 hat
   clear hK K
   refine norm_ (a' := ?_) ?_ ?_
   rotate_left
   ·show Act.put _ (some 61) _ = _
    simp only [Act.put, List.setIfInBounds_toArray, List.set_cons_zero, List.set_cons_succ, i64_w, i32_w]
    rfl
   refine pure_ (i := 6) (N := some 62) (v := ?_) (a' := ?_) #[true, true, true, true, true, true, true, false] rfl rfl (by kernel_rfl) (fun _ _ _ h => h) (Or.inl ⟨by rfl, ?_⟩) ?_ ?_
   rotate_left
   ·intro w'
    go_simp
    with_reducible rfl
   rotate_left
   ·simp only [Act.put, List.setIfInBounds_toArray, List.set_cons_zero, List.set_cons_succ, i64_w, i32_w]
    rfl
   refine last_ (i := 7) (N := none) #[true, true, true, true, true, true, true, true] rfl rfl (by kernel_rfl) (by decide) (fun K hK => ?_)
   refine skip_ (w1 := ?_) (by rfl) rfl ?_ ?_
   rotate_left
   ·go_simp
    rfl
   refine hK.out _ _ ?_
   clear hK K
   refine done_ (by kernel_rfl) ?_
   obtain ⟨W5, hW5⟩ : ∃ W, W = w2.setCell ⟨z, 3, none⟩ (.slice Bv mv dv) := ⟨_, rfl⟩
   have HD5 := Aside0.mk (HDb.out.kids HRn.out HG2.out)
   rw [← hW5] at HD5 ⊢
   clear hW5 HDb HC1 HRn HG2 HAT hfz hHeld HC hleaf HD4
   go_wp2
   go_step3
   refine jumpsN_goto (rest := _) (by rw [HF.out]; rfl) ?_
   refine wp_seq_k (fun K2 hK2 => ?_)
   refine wp_skip ?_
   refine hK2 _ _ ?_
   clear hK2 K2
   refine IH m' rfl _ _ _ _ _ _ _ _ _ _ (wrap64 (mi - 1)) ?_ HD5.out ?_ ?_ ?_ HRUN.out
   ·exact ⟨rfl, rfl, rfl, rfl, rfl⟩
   ·exact (fun x hx => HL.out x (tkr_sub _ _ x (tkr_sub _ _ x (tkr_sub _ _ x hx))))
   ·have := HLEN.out; simp only [List.length_append, List.length_cons, List.length_nil]; omega
   ·have := HMI.out; have := HLEN.out; rw [wrap64_id (by omega) (by omega)]; omega
set_option maxHeartbeats 8000000 in
set_option maxRecDepth 100000 in
theorem dec_walk_kind (A0 : Option Addr) (c0 : Nat) (l0 : List Int) (w : World) (hr0 : Kd.C (Kd.int .u8) w A0 l0.length l0) (hc0 : l0.length ≤ c0) (hoct : ∀ x ∈ l0, 0 ≤ x ∧ x < 256) (ho1 : oct l0 > 1) :
  Calls Try.prog 19 #[.slice A0 l0.length c0] w fun e w' => ∃ v1_ v2_ v3_ : Value, e = .returned (.tuple #[.agg #[.bool false, v1_, v2_, v3_], .int .i64 22]) ∧ Kd.R Kd.string 9 w' w.heap.size (fun k_ => some k_ ≠ (v2_ : Value).ownBlock) v1_ [] ∧ Kd.R Kd.string 9 w' w.heap.size (fun k_ => some k_ ≠ (v1_ : Value).ownBlock) v2_ [] ∧ Kd.R (Kd.int .i64) 3 w' w.heap.size (fun _ => True) v3_ [] ∧ Below w.heap.size w w' := by
 have hu31 := Try.underlying31
 have hu95 := Try.underlying95
 have hb95 : ∀ (w : World) (A : Option Addr) (n c : Nat), (Instr.build 95 #[(0, .slice A n c)]).run Try.prog w = .ok (.agg #[.slice A n c, .bool false]) w := fun w A n c => run_build w 95 #[(0, .slice A n c)] #[.slice A n c, .bool false] (by kernel_rfl)
 have hb31 : ∀ (w : World), (Instr.build 31 #[]).run Try.prog w = .ok (.agg #[.bool false, .slice none 0 0, .slice none 0 0, .slice none 0 0]) w := fun w => run_build w 31 #[] #[.bool false, .slice none 0 0, .slice none 0 0, .slice none 0 0] (by kernel_rfl)
 have HO := Aside0.mk hoct
 obtain ⟨z, hz⟩ : ∃ z, z = w.heap.size := ⟨_, rfl⟩
 have HZ := Aside0.mk hz
 obtain ⟨W0, hW0⟩ : ∃ W0, W0 = ((w.alloc (.cells #[.bool false, .slice none 0 0, .slice none 0 0, .slice none 0 0] 31)).alloc (.cells #[.slice A0 l0.length c0, .bool false] 95)) := ⟨_, rfl⟩
 have HS : Aside0 (Scn W0 z (z + 1) l0 false) := by
  refine ⟨A0, c0, ?_, fun W' hk => ?_, hc0, by omega⟩
  ·rw [hz, hW0, show w.heap.size + 1 = (w.alloc (.cells #[.bool false, .slice none 0 0, .slice none 0 0, .slice none 0 0] 31)).heap.size by simp]
   exact World.alloc_heap_new _ _
  ·refine Kd.C_below hr0 ?_
   rw [hz] at hk
   exact (show Below w.heap.size w W0 by rw [hW0]; exact below_alloc (below_alloc (Below.refl _ _) _) _).trans hk
 have HD : Aside0 (Dec w W0 z false (.slice none 0 0) (.slice none 0 0) (.slice none 0 0) [] [] [] l0 false) := by
  refine ⟨⟨?_, HS.out, ?_, ?_, Kd.R_nil _ _ _ _ _, Kd.R_nil _ _ _ _ _, Kd.R_nil _ _ _ _ _⟩⟩
  ·rw [hW0, hz]; exact blk_alloc (blk_new w _) _
  ·rw [hW0, hz]; exact below_alloc (below_alloc (Below.refl _ _) _) _
  ·rw [hW0, hz]; simp
 have HW0 := Aside0.mk hW0
 clear hr0 hc0 hz hW0 hoct
 go_enter Try.func19, Try.ntmps19
 go_wp2
 refine wp_scope_jumpsC 0 (fun c hc => ?_)
 clear hc
 go_wp2_with (go_at_call 51; rw [← HZ.out, ← HW0.out]; refine (scan_octet z (z + 1) l0 false W0 HS.out HO.out).mono ?_; rintro e W1 ⟨rfl, hS, hg⟩; have HD1 := Aside0.mk (HD.out.call hS hg); have HBX := Aside0.mk HD1.out.blk; have HFX := Aside0.mk HD1.out.far; have hn0 := (blk_cell HBX.out 0).trans rfl; have hn1 := (blk_cell HBX.out 1).trans rfl; have hn2 := (blk_cell HBX.out 2).trans rfl; have hn3 := (blk_cell HBX.out 3).trans rfl; have hf0 := blk_frozen HBX.out 0; have hf1 := blk_frozen HBX.out 1; have hf2 := blk_frozen HBX.out 2; have hf3 := blk_frozen HBX.out 3; clear hS hg HD HS)
 have HBK7 := blk_put (cs' := #[.bool false, .slice none 0 0, .slice none 0 0, .slice none 0 0]) (blk_put (blk_put (blk_put HBX.out 0 (.bool false) rfl) 1 (.slice none 0 0) rfl) 2 (.slice none 0 0) rfl) 3 (.slice none 0 0) rfl
 have hfin : Below w.heap.size w ((((W1.setCell ⟨z, 0, none⟩ (.bool false)).setCell ⟨z, 1, none⟩ (.slice none 0 0)).setCell ⟨z, 2, none⟩ (.slice none 0 0)).setCell ⟨z, 3, none⟩ (.slice none 0 0)) := by
  rw [← HZ.out]
  exact HFX.out.trans (((((Below.refl z W1).setCell (p := ⟨z, 0, none⟩) (Nat.le_refl _) _).setCell (p := ⟨z, 1, none⟩) (Nat.le_refl _) _).setCell (p := ⟨z, 2, none⟩) (Nat.le_refl _) _).setCell (p := ⟨z, 3, none⟩) (Nat.le_refl _) _)
 refine jumpsN_ret ?_
 exact bodyPost_ret (results_ct rfl _ _ z _ _ (0, 0) _ rfl HBK7 Try.underlying31 rfl (by kernel_rfl)) rfl ⟨_, _, _, rfl, Kd.R_nil _ _ _ _ _, Kd.R_nil _ _ _ _ _, Kd.R_nil _ _ _ _ _, hfin⟩
def decHead (k : Nat) (l0 : List Int) : Option (List Int × Bool × List Int) :=
 if oct l0 = 1 then some (tkr (tkr l0 1) 1, tkb (tkr l0 1) (tkb l0 false 1) 1, [])
 else (kidV k (tkr (tkr l0 1) 1)).bind fun r => some (tkr (tkr (tkr l0 1) 1) 4, tkb (tkr (tkr l0 1) 1) (tkb (tkr l0 1) (tkb l0 false 1) 1) 4, [r])
def node_Decode.f (k : Nat) (l0 : List Int) : Option (Bool × List ByteArray × List ByteArray × List Int × Int) :=
 if ∀ x ∈ l0, 0 ≤ x ∧ x < 256 then
  if oct l0 > 1 then some (false, [], [], [], 22)
  else (decHead k l0).bind fun s => (decRun k (decide (oct l0 = 1)) (oct (tkr l0 1)).toNat s.1 s.2.1 [] [] s.2.2).bind fun q => decEnd k (decide (oct l0 = 1)) q.1 q.2.1 q.2.2.1 q.2.2.2.1 q.2.2.2.2
 else none
theorem kidV_mono (k : Nat) (l : List Int) : LeO (kidV k l) (kidV (k + 1) l) := LeO.bind (octets_Get.mono _ _) (fun _ => LeO.refl _)
theorem decRun_mono (k : Nat) (leaf : Bool) (m : Nat) : ∀ (l : List Int) (bad : Bool) (ks vs : List ByteArray) (ss : List Int), LeO (decRun k leaf m l bad ks vs ss) (decRun (k + 1) leaf m l bad ks vs ss) := by
 induction m with
 | zero => intro l bad ks vs ss; exact LeO.refl _
 | succ m ih =>
  intro l bad ks vs ss
  unfold decRun
  exact LeO.ite (LeO.refl _) (LeO.ite (ih _ _ _ _ _) (LeO.bind (kidV_mono _ _) (fun _ => ih _ _ _ _ _)))
theorem decEnd_mono (k : Nat) (leaf : Bool) (l : List Int) (bad : Bool) (ks vs : List ByteArray) (ss : List Int) : LeO (decEnd k leaf l bad ks vs ss) (decEnd (k + 1) leaf l bad ks vs ss) :=
 LeO.ite (LeO.refl _) (LeO.ite (LeO.refl _) (LeO.bind (node_Check.mono _ _ _ _ _) (fun _ => LeO.refl _)))
theorem node_Decode.mono : ∀ a0 k, LeO (node_Decode.f k a0) (node_Decode.f (k + 1) a0) := fun a0 k =>
 LeO.ite (LeO.ite (LeO.refl _) (LeO.bind (LeO.ite (LeO.refl _) (LeO.bind (kidV_mono _ _) (fun _ => LeO.refl _))) (fun _ => LeO.bind (decRun_mono _ _ _ _ _ _ _ _) (fun _ => decEnd_mono _ _ _ _ _ _ _)))) (LeO.none _)
theorem node_Decode.calls (k : Nat) (A0 : Option Addr) (c0 : Nat) (l0 : List Int) (r1 : Bool) (r2 : List ByteArray) (r3 : List ByteArray) (r4 : List Int) (r5 : Int) (w : World) (hr0 : Kd.C (Kd.int .u8) w A0 l0.length l0) (hc0 : l0.length ≤ c0) (h : node_Decode.f k l0 = some (r1, r2, r3, r4, r5)) :
  Calls Try.prog 19 #[.slice A0 l0.length c0] w fun e w' => ∃ v1_ v2_ v3_ : Value, e = .returned (.tuple #[.agg #[.bool r1, v1_, v2_, v3_], .int .i64 r5]) ∧ Kd.R Kd.string 9 w' w.heap.size (fun k_ => some k_ ≠ (v2_ : Value).ownBlock) v1_ r2 ∧ Kd.R Kd.string 9 w' w.heap.size (fun k_ => some k_ ≠ (v1_ : Value).ownBlock) v2_ r3 ∧ Kd.R (Kd.int .i64) 3 w' w.heap.size (fun _ => True) v3_ r4 ∧ Below w.heap.size w w' := by
 unfold node_Decode.f at h
 by_cases hoct : ∀ x ∈ l0, 0 ≤ x ∧ x < 256
 case neg => rw [if_neg hoct] at h; cases h
 rw [if_pos hoct] at h
 by_cases hk : oct l0 > 1
 ·rw [if_pos hk] at h
  cases h
  exact dec_walk_kind A0 c0 l0 w hr0 hc0 hoct hk
 rw [if_neg hk] at h
 obtain ⟨⟨l3, b3, ss⟩, hh, h⟩ := Option.bind_eq_some_iff.1 h
 obtain ⟨⟨lE, bE, kE, vE, sE⟩, hrun, hend⟩ := Option.bind_eq_some_iff.1 h
 have hb := oct_bound l0 hoct
 have hb1 := oct_bound (tkr l0 1) (fun x hx => hoct x (tkr_sub _ _ x hx))
 unfold decHead at hh
 by_cases h1 : oct l0 = 1
 ·rw [if_pos h1] at hh
  cases hh
  rw [decide_eq_true h1] at hrun hend
  exact dec_walk_true k A0 c0 l0 w hr0 hc0 hoct h1 _ _ (oct (tkr l0 1)).toNat rfl rfl (by omega) lE bE kE vE sE hrun r1 r2 r3 r4 r5 hend
 ·rw [if_neg h1] at hh
  obtain ⟨r0, hr3, hh⟩ := Option.bind_eq_some_iff.1 hh
  cases hh
  rw [decide_eq_false h1] at hrun hend
  exact dec_walk_false k A0 c0 l0 w hr0 hc0 hoct (by omega) _ _ (oct (tkr l0 1)).toNat rfl rfl (by omega) _ _ r0 rfl rfl hr3 lE bE kE vE sE hrun r1 r2 r3 r4 r5 hend
end Go.Proofs.Ytooabchnbmnchaa.Q
