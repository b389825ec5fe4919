-- Laid by this session's own program (wip/tools) out of the translation; Lean checks it. Thinned, shortened and merged for this claim.
import Derived.Test.YtooabchnbmnchaaQ0
import Derived.Test.YtooabchnbmnchaaSq
import Derived.Test.YtooabchnbmnchaaQ1
import Derived.Test.YtooabchnbmnchaaQ13
namespace Go.Proofs.Ytooabchnbmnchaa.Q
open Go.RowKit Go.Proofs.YtooabchnbmnchaaW.PrintWords Go.Proofs.YtooabchnbmnchaaW.PrintLast Go.Proofs.YtooabchnbmnchaaW.PrintMore
attribute [local go_sem] max2_int min2_int max_two min_two max_three min_three max_four min_four binOp_string_leq binOp_string_geq binOp_string_gtr   -- for this text's walks alone
set_option linter.unusedVariables false
set_option linter.unusedSimpArgs false
def Scn (w : World) (z Bs : Nat) (l : List Int) (bad : Bool) : Prop :=
 ∃ (A : Option Addr) (c : Nat), w.heap[Bs]? = some (.cells #[.slice A l.length c, .bool bad] 95 (0, 0)) ∧ (∀ W', Below z w W' → Kd.C (Kd.int .u8) W' A l.length l) ∧ l.length ≤ c ∧ z ≤ Bs
def tkv (l : List Int) (n : Nat) : List Int := if l.length < n then List.replicate n 0 else l.take n
def tkr (l : List Int) (n : Nat) : List Int := if l.length < n then [] else l.drop n
def tkb (l : List Int) (bad : Bool) (n : Nat) : Bool := if l.length < n then true else bad
theorem tkv_length (l : List Int) (n : Nat) : (tkv l n).length = n := by unfold tkv; split <;> simp; omega
theorem Scn.kept {w w' : World} {z Bs : Nat} {l : List Int} {bad : Bool} (h : Scn w z Bs l bad) (hb : w'.heap[Bs]? = w.heap[Bs]?) (hk : Below z w w') : Scn w' z Bs l bad := by
 obtain ⟨A, c, h1, h2, h3, h4⟩ := h
 exact ⟨A, c, hb.trans h1, fun W' hk' => h2 W' (hk.trans hk'), h3, h4⟩
theorem grown_set (W : World) (b j : Nat) (v : Value) : W.grownBy (W.setCell ⟨b, j, none⟩ v) (some b) :=
 ⟨rfl, rfl, rfl, by simp, fun k _ hk => Below.heap_setCell W _ _ k (fun e => hk (by rw [e]))⟩
theorem Scn.lt {w : World} {z Bs : Nat} {l : List Int} {bad : Bool} (h : Scn w z Bs l bad) : Bs < w.heap.size := by
 obtain ⟨A, c, h1, _⟩ := h
 exact (Array.getElem?_eq_some_iff.1 h1).1
set_option maxHeartbeats 1600000 in
set_option maxRecDepth 100000 in
theorem scan_take (z Bs : Nat) (l : List Int) (bad : Bool) (n : Nat) (hn : n ≤ 1048576) (w : World) (hs : Scn w z Bs l bad) :
  Calls Try.prog 82 #[.pointer (some ⟨Bs, 0, none⟩), .int .i64 n] w fun e w' => ∃ (A : Option Addr) (c : Nat), e = .returned (.slice A n c) ∧ n ≤ c ∧ Kd.C (Kd.int .u8) w' A n (tkv l n) ∧ Scn w' z Bs (tkr l n) (tkb l bad n) ∧ w.grownBy w' (some Bs) := by
 have hlt := hs.lt
 obtain ⟨A, c, h1, h2, h3, h4⟩ := hs
 have hm := Kd.C_max (h2 w (Below.refl _ _))
 have hc0 : w.cell? ⟨Bs, 0, none⟩ = some (.slice A l.length c) := (blk_cell h1 0).trans rfl
 have hc1 : w.cell? ⟨Bs, 1, none⟩ = some (.bool bad) := (blk_cell h1 1).trans rfl
 have hf0 : w.frozen? ⟨Bs, 0, none⟩ = false := blk_frozen h1 0
 have hf1 : w.frozen? ⟨Bs, 1, none⟩ = false := blk_frozen h1 1
 have hinfo : (Try.prog.info? 5).map (fun i => (i.zero, i.size, i.bytes)) = some (some (.int .u8 0), 1, 1) := by kernel_rfl
 obtain ⟨i0, hi, hz0, hz1, hz2⟩ := info_parts hinfo
 by_cases hlen : l.length < n
 ·have hlen' : (l.length : Int) < (n : Int) := by omega
  have H1 := Aside0.mk h1
  clear h1 h2 h3
  have hmk : ∀ W : World, (Instr.makeSlice 26 (.int .i64 (n : Int)) (.int .i64 (n : Int))).run Try.prog W = .ok (.slice (some ⟨W.heap.size, 0, none⟩) n n) (W.alloc (.cells (madeCells #[.int .u8 0] n) 5)) := by
   intro W
   have := run_make W 26 5 i0 (.int .u8 0) Try.underlying26 hi hz0 .i64 .i64 (n : Int) (n : Int) (by omega) (by omega) (by rw [hz2]; omega) (by omega)
   rw [hz1, Nat.mul_one, Int.toNat_natCast] at this
   exact this
  clear hinfo hi hz0 hz1 hz2
  go_enter Try.func82, Try.ntmps82
  go_wp2
  obtain ⟨X, hX⟩ : ∃ X, X = (w.setCell ⟨Bs, 0, none⟩ (.slice none 0 0)).setCell ⟨Bs, 1, none⟩ (.bool true) := ⟨_, rfl⟩
  have hXb : X.heap[Bs]? = some (.cells #[.slice none 0 0, .bool true] 95 (0, 0)) := by rw [hX]; exact blk_put (blk_put H1.out 0 (.slice none 0 0) rfl) 1 (.bool true) rfl
  have hXg : w.grownBy X (some Bs) := by rw [hX]; exact (grown_set w Bs 0 _).trans (grown_set _ Bs 1 _)
  have hXs : X.heap.size = w.heap.size := by rw [hX]; simp
  rw [← hX]
  clear hX
  have hO := own_made X X.heap.size 5 .u8 n (Nat.le_refl _) (by omega)
  have hC : Kd.C (Kd.int .u8) (X.alloc (.cells (madeCells #[.int .u8 0] n) 5)) (some ⟨X.heap.size, 0, none⟩) n (List.replicate n 0) := by
   have hR : (Kd.int .u8).R 5 (X.alloc (.cells (madeCells #[.int .u8 0] n) 5)) X.heap.size (fun _ => True) (.slice (some ⟨X.heap.size, 0, none⟩) n n) (List.replicate n 0) := Kd.R_of_own (by rw [List.length_replicate]; exact hO) (fun _ _ => trivial)
   have := (Kd.R_reads' hR).2.2
   simpa using this
  rw [← hXs]
  go_ret
  refine ⟨some ⟨X.heap.size, 0, none⟩, n, rfl, Nat.le_refl _, ?_, ⟨none, 0, ?_, fun W' _ => ?_, ?_, h4⟩, hXg.trans (World.grownBy_alloc X _ _)⟩
  ·unfold tkv; rw [if_pos hlen]
   exact hC
  ·unfold tkr tkb; rw [if_pos hlen, if_pos hlen]
   exact blk_alloc hXb _
  ·unfold tkr; rw [if_pos hlen]; exact Kd.C_nil _ _
  ·unfold tkr; rw [if_pos hlen]; exact Nat.le_refl _
 ·have hlen' : ¬ ((l.length : Int) < (n : Int)) := by omega
  obtain ⟨hcut1, hA1, hC1⟩ := print_take_of (P := Try.prog) (Value.int .u8) 0 26 5 .i64 Try.underlying26 hi hz1 A c l (n : Int) (by omega) (by omega) h3
  obtain ⟨A2, hcut2, hA2, hC2⟩ := print_drop_of (P := Try.prog) (Value.int .u8) 0 26 5 .i64 Try.underlying26 hi hz1 A c l (n : Int) (by omega) (by omega) h3
  simp only [Int.toNat_natCast] at hcut1 hA1 hC1 hcut2 hA2 hC2
  have htl : (l.take n).length = n := by rw [List.length_take]; omega
  rw [htl] at hcut1
  have H1 := Aside0.mk h1
  have H2 := Aside0.mk h2
  have HA1 := Aside0.mk hA1
  have HA2 := Aside0.mk hA2
  have HL := Aside0.mk (And.intro h3 htl)
  have hdl : (l.drop n).length = l.length - n := List.length_drop
  obtain ⟨dn, hdn⟩ : ∃ dn, dn = l.drop n := ⟨_, rfl⟩
  rw [← hdn] at hcut2 hC2 hdl
  have HD := Aside0.mk hdn
  have HC2 := Aside0.mk hC2
  have HDL := Aside0.mk hdl
  clear h1 h2 h3 hA1 hA2 hC1 hC2 hinfo hi hz0 hz1 hz2 htl hdn hdl
  go_enter Try.func82, Try.ntmps82
  go_wp2
  go_ret
  have hk1 : Below z w (w.setCell ⟨Bs, 0, none⟩ (.slice A2 dn.length (c - n))) := (Below.refl z w).setCell (p := ⟨Bs, 0, none⟩) h4 _
  refine ⟨A, c, rfl, by have := HL.out; omega, ?_, ⟨A2, c - n, ?_, fun W' hk => ?_, ?_, h4⟩, grown_set _ _ _ _⟩
  ·unfold tkv; rw [if_neg hlen]
   have := Kd.C_of_reads (h1 := fun _ => rfl) (HA1.out _ (Kd.reads_of_C (H2.out _ hk1)))
   rwa [HL.out.2] at this
  ·unfold tkr tkb; rw [if_neg hlen, if_neg hlen, ← HD.out]
   exact blk_put H1.out 0 _ rfl
  ·unfold tkr; rw [if_neg hlen]
   exact Kd.C_of_reads (h1 := fun _ => rfl) (HA2.out W' (Kd.reads_of_C (H2.out W' (hk1.trans hk))))
  ·unfold tkr; rw [if_neg hlen, ← HD.out]
   exact HC2.out
def oct (l : List Int) : Int := rd (tkv l 1) 0
set_option maxHeartbeats 800000 in
theorem scan_octet (z Bs : Nat) (l : List Int) (bad : Bool) (w : World) (hs : Scn w z Bs l bad) (hl : ∀ x ∈ l, 0 ≤ x ∧ x < 256) :
  Calls Try.prog 51 #[.pointer (some ⟨Bs, 0, none⟩)] w fun e w' => e = .returned (.int .i64 (oct l)) ∧ Scn w' z Bs (tkr l 1) (tkb l bad 1) ∧ w.grownBy w' (some Bs) := by
 have hc := scan_take z Bs l bad 1 (by omega) w hs
 have ho : 0 ≤ oct l ∧ oct l < 256 := by
  unfold oct tkv
  rcases l with _ | ⟨x, l⟩
  ·decide
  ·have := hl x (by simp)
   simpa [rd] using this
 clear hs
 go_enter Try.func51, Try.ntmps51
 go_wp2_with (go_at_call 82; refine hc.mono ?_; rintro e w1 ⟨A, c, rfl, hnc, hC, hS, hg⟩; obtain ⟨ad, rfl, hcell⟩ := Kd.at_int hC 0 (by decide) (by decide); rw [show rd (tkv l 1) 0 = oct l from rfl, show ((0 : Int)).toNat = 0 from rfl, show ad.add 0 = ad from rfl] at hcell; have HS := Aside0.mk hS; have HG := Aside0.mk hg; clear hC hS hg hnc hc)
 go_ret
 exact ⟨rfl, HS.out, HG.out⟩
def txtS (l : List Int) : ByteArray := strOfNums (tkv (tkr l 1) (oct l).toNat)
def txtR (l : List Int) : List Int := tkr (tkr l 1) (oct l).toNat
def txtB (l : List Int) (bad : Bool) : Bool := tkb (tkr l 1) (tkb l bad 1) (oct l).toNat
theorem tkr_sub (l : List Int) (n : Nat) : ∀ x ∈ tkr l n, x ∈ l := by
 unfold tkr; split
 ·intro x h; cases h
 ·intro x h; exact List.mem_of_mem_drop h
theorem oct_bound (l : List Int) (hl : ∀ x ∈ l, 0 ≤ x ∧ x < 256) : 0 ≤ oct l ∧ oct l < 256 := by
 unfold oct tkv
 rcases l with _ | ⟨x, l⟩
 ·decide
 ·have := hl x (by simp)
  simpa [rd] using this
theorem scan_conv {w2 : World} {A : Option Addr} {q : Nat} {l : List Int} (h : Kd.C (Kd.int .u8) w2 A q (tkv l q)) (c : Nat) : Sem.run Try.prog (convert 26 9 (.slice A q c)) w2 = .ok (.string (strOfNums (tkv l q))) w2 :=
 Kd.C_string Try.underlying26 Try.underlying5 Try.underlying9 h
set_option maxHeartbeats 800000 in
theorem scan_text (z Bs : Nat) (l : List Int) (bad : Bool) (w : World) (hs : Scn w z Bs l bad) (hl : ∀ x ∈ l, 0 ≤ x ∧ x < 256) :
  Calls Try.prog 53 #[.pointer (some ⟨Bs, 0, none⟩)] w fun e w' => e = .returned (.string (txtS l)) ∧ Scn w' z Bs (txtR l) (txtB l bad) ∧ w.grownBy w' (some Bs) := by
 have hc := scan_octet z Bs l bad w hs hl
 obtain ⟨q, hq⟩ := Int.eq_ofNat_of_zero_le (oct_bound l hl).1
 have hq2 := (oct_bound l hl).2
 have HT := Aside0.mk (show (oct l).toNat = q by omega)
 have hqb : q ≤ 1048576 := by omega
 rw [hq] at hc
 clear hs hq
 go_enter Try.func53, Try.ntmps53
 go_wp2_with (first | (go_at_call 51; refine hc.mono ?_; rintro e w1 ⟨rfl, hS, hg⟩; have hcall := scan_take z Bs (tkr l 1) (tkb l bad 1) q hqb w1 hS; have HG := Aside0.mk hg; clear hS hg hc) | (go_at_call 82; go_loud (refine hcall.mono ?_; rintro e w2 ⟨A, c, rfl, hnc, hC, hS, hg⟩; have hconv := scan_conv hC c; have HS := Aside0.mk hS; have HG2 := Aside0.mk hg; clear hC hS hg hnc hcall)))
 go_ret
 refine ⟨?_, ?_, HG.out.trans HG2.out⟩
 ·unfold txtS; rw [HT.out]; rfl
 ·unfold txtR txtB; rw [HT.out]; exact HS.out
def kidV (k : Nat) (l : List Int) : Option Int := (octets_Get.f k (tkv l 4)).bind fun b => some (wrap64 b.1)
set_option maxHeartbeats 800000 in
theorem scan_kid (k : Nat) (z Bs : Nat) (l : List Int) (bad : Bool) (r : Int) (w : World) (hs : Scn w z Bs l bad) (h : kidV k l = some r) :
  Calls Try.prog 52 #[.pointer (some ⟨Bs, 0, none⟩)] w fun e w' => e = .returned (.int .i64 r) ∧ Scn w' z Bs (tkr l 4) (tkb l bad 4) ∧ w.grownBy w' (some Bs) := by
 have hc := scan_take z Bs l bad 4 (by omega) w hs
 unfold kidV at h
 obtain ⟨⟨b1, b2⟩, hb, h⟩ := Option.bind_eq_some_iff.1 h
 injection h with h
 simp only at h
 subst h
 have HBG := Aside0.mk hb
 clear hs hb
 go_enter Try.func52, Try.ntmps52
 go_wp2_with (first | (go_at_call 82; refine hc.mono ?_; rintro e w1 ⟨A, c, rfl, hnc, hC, hS, hg⟩; have hcall := octets_Get.calls k A c (tkv l 4) b1 b2 w1 (by rw [tkv_length]; exact hC) (by rw [tkv_length]; exact hnc) HBG.out; rw [tkv_length] at hcall; have HS := Aside0.mk hS; have HG := Aside0.mk hg; clear hC hS hg hnc hc) | (go_at_call 83; refine hcall.mono ?_; rintro e w2 ⟨rfl, ⟨nq, rfl⟩⟩; clear hcall))
 go_ret
 exact ⟨rfl, HS.out.kept rfl (pw_below_drewN (Below.refl _ _) _), ⟨HG.out.os, HG.out.tape, HG.out.output, HG.out.size, HG.out.block⟩⟩
def jumpsN (P : Program) (c : Code) (Q : Exit → Act → World → Prop) : Nat → Exit → Act → World → Prop
 | 0, .goto _, _, _ => False
 | n + 1, .goto l, a, w => ∃ rest, findLabel c l = some rest ∧ rest.wp P (jumpsN P c Q n) a w
 | _, e, a, w => Q e a w
theorem jumpsN_goto {P : Program} {c : Code} {Q : Exit → Act → World → Prop} {n l : Nat} {a : Act} {w : World} {rest : Code} (hf : findLabel c l = some rest) (h : rest.wp P (jumpsN P c Q n) a w) : jumpsN P c Q (n + 1) (.goto l) a w := ⟨rest, hf, h⟩
theorem jumpsN_ret {P : Program} {c : Code} {Q : Exit → Act → World → Prop} {n : Nat} {a : Act} {w : World} (h : Q .ret a w) : jumpsN P c Q n .ret a w := by
 cases n <;> exact h
theorem wp_scope_jumpsN {P : Program} {a : Act} {w : World} {Q : Exit → Act → World → Prop} {c : Code} (n : Nat) (first : c.wp P (jumpsN P c Q n) a w) : (Code.scope c).wp P Q a w := by
 intro b k cs
 have hg : ∀ l rest, findLabel c l = some rest → gotoIn l (.inScope c :: k) = some (.code rest :: .inScope c :: k) := fun l rest hf => by simp [gotoIn, hf]
 have key : ∀ n (rest : Code) a w, rest.wp P (jumpsN P c Q n) a w → ∃ e a' w', Q e a' w' ∧ Arrives P (lone (b.at a (.code rest :: .inScope c :: k)) cs w) b k cs e a' w' := by
  intro n
  induction n with
  | zero =>
   intro rest a w h
   obtain ⟨e, a₁, w₁, hq, harr⟩ := h b (.inScope c :: k) cs
   cases e with
   | normal => exact ⟨.normal, a₁, w₁, hq, Steps.trans harr (.one step_inScope)⟩
   | exit id => exact ⟨.exit id, a₁, w₁, hq, fun k' hk => harr k' (by simp [exitTo, hk])⟩
   | goto l' => exact hq.elim
   | ret => exact ⟨_, a₁, w₁, hq, harr⟩
   | panic ch => exact ⟨_, a₁, w₁, hq, harr⟩
   | outgrown => exact ⟨_, a₁, w₁, hq, harr⟩
  | succ n ih =>
   intro rest a w h
   obtain ⟨e, a₁, w₁, hq, harr⟩ := h b (.inScope c :: k) cs
   cases e with
   | normal => exact ⟨.normal, a₁, w₁, hq, Steps.trans harr (.one step_inScope)⟩
   | exit id => exact ⟨.exit id, a₁, w₁, hq, fun k' hk => harr k' (by simp [exitTo, hk])⟩
   | goto l' =>
    obtain ⟨rest', hf, hq'⟩ := hq
    obtain ⟨e₂, a₂, w₂, hq₂, harr₂⟩ := ih rest' a₁ w₁ hq'
    exact ⟨e₂, a₂, w₂, hq₂, .of_steps (harr _ (hg _ _ hf)) harr₂⟩
   | ret => exact ⟨_, a₁, w₁, hq, harr⟩
   | panic ch => exact ⟨_, a₁, w₁, hq, harr⟩
   | outgrown => exact ⟨_, a₁, w₁, hq, harr⟩
 obtain ⟨e, a₁, w₁, hq, harr⟩ := key n c a w first
 exact ⟨e, a₁, w₁, hq, Arrives.of_steps (.one step_scope) harr⟩
def node_Decode.f (k : Nat) (l0 : List Int) : Option (Bool × List ByteArray × List ByteArray × List Int × Int) :=
 if (∀ x ∈ l0, 0 ≤ x ∧ x < 256) ∧ oct l0 = 1 ∧ oct (tkr l0 1) = 1 ∧ tkb (tkr l0 1) (tkb l0 false 1) 1 = false ∧ txtB (txtR (tkr (tkr l0 1) 1)) (txtB (tkr (tkr l0 1) 1) false) = false ∧ txtR (txtR (tkr (tkr l0 1) 1)) = [] then
  (node_Check.f k true [txtS (tkr (tkr l0 1) 1)] [txtS (txtR (tkr (tkr l0 1) 1))] []).bind fun e => if e = 0 then some (true, [txtS (tkr (tkr l0 1) 1)], [txtS (txtR (tkr (tkr l0 1) 1))], [], 0) else none
 else none
theorem node_Decode.mono : ∀ a0 k, LeO (node_Decode.f k a0) (node_Decode.f (k + 1) a0) := fun a0 k =>
 LeO.ite (LeO.bind (node_Check.mono _ _ _ _ _) (fun _ => LeO.refl _)) (LeO.none _)
set_option maxHeartbeats 8000000 in
set_option maxRecDepth 100000 in
theorem node_Decode.walk (k : Nat) (A0 : Option Addr) (c0 : Nat) (l0 : List Int) (w : World) (hr0 : Kd.C (Kd.int .u8) w A0 l0.length l0) (hc0 : l0.length ≤ c0) (hoct : ∀ x ∈ l0, 0 ≤ x ∧ x < 256) (ho1 : oct l0 = 1) (ho2 : oct (tkr l0 1) = 1)
  (l2 l3 : List Int) (hl2 : tkr (tkr l0 1) 1 = l2) (hb2 : tkb (tkr l0 1) (tkb l0 false 1) 1 = false) (hl3 : txtR l2 = l3) (b3 : Bool) (hb3 : txtB l2 false = b3) (hb4 : txtB l3 b3 = false) (hl4 : txtR l3 = [])
  (x1 x2 : ByteArray) (hx1 : txtS l2 = x1) (hx2 : txtS l3 = x2) (hck : node_Check.f k true [x1] [x2] [] = some 0) :
  Calls Try.prog 19 #[.slice A0 l0.length c0] w fun e w' => ∃ v1_ v2_ v3_ : Value, e = .returned (.tuple #[.agg #[.bool true, v1_, v2_, v3_], .int .i64 0]) ∧ Kd.R Kd.string 9 w' w.heap.size (fun k_ => some k_ ≠ (v2_ : Value).ownBlock) v1_ [x1] ∧ Kd.R Kd.string 9 w' w.heap.size (fun k_ => some k_ ≠ (v1_ : Value).ownBlock) v2_ [x2] ∧ Kd.R (Kd.int .i64) 3 w' w.heap.size (fun _ => True) v3_ [] ∧ Below w.heap.size w w' := by
 have hu31 := Try.underlying31
 have hu95 := Try.underlying95
 have hinfo : (Try.prog.info? 9).map (fun i => (i.zero, i.size, i.bytes)) = some (some (.string ByteArray.empty), 1, 16) := by kernel_rfl
 have HINF := Aside0.mk hinfo
 have hb95 : ∀ (w : World) (A : Option Addr) (n c : Nat), (Instr.build 95 #[(0, .slice A n c)]).run Try.prog w = .ok (.agg #[.slice A n c, .bool false]) w := fun w A n c => run_build w 95 #[(0, .slice A n c)] #[.slice A n c, .bool false] (by kernel_rfl)
 have HO := Aside0.mk hoct
 have HO1 := Aside0.mk (fun x hx => hoct x (tkr_sub _ _ x hx) : ∀ x ∈ tkr l0 1, 0 ≤ x ∧ x < 256)
 have HO2 := Aside0.mk (fun x hx => HO1.out x (tkr_sub _ _ x (by rw [hl2]; exact hx)) : ∀ x ∈ l2, 0 ≤ x ∧ x < 256)
 have HO3 := Aside0.mk (fun x hx => HO2.out x (tkr_sub _ _ x (tkr_sub _ _ x (by unfold txtR at hl3; rw [hl3]; exact hx))) : ∀ x ∈ l3, 0 ≤ x ∧ x < 256)
 obtain ⟨z, hz⟩ : ∃ z, z = w.heap.size := ⟨_, rfl⟩
 have HZ := Aside0.mk hz
 obtain ⟨W0, hW0⟩ : ∃ W0, W0 = ((w.alloc (.cells #[.bool false, .slice none 0 0, .slice none 0 0, .slice none 0 0] 31)).alloc (.cells #[.slice A0 l0.length c0, .bool false] 95)) := ⟨_, rfl⟩
 have HS : Aside0 (Scn W0 z (z + 1) l0 false) := by
  refine ⟨A0, c0, ?_, fun W' hk => ?_, hc0, by omega⟩
  ·rw [hz, hW0, show w.heap.size + 1 = (w.alloc (.cells #[.bool false, .slice none 0 0, .slice none 0 0, .slice none 0 0] 31)).heap.size by simp]
   exact World.alloc_heap_new _ _
  ·refine Kd.C_below hr0 ?_
   rw [hz] at hk
   exact (show Below w.heap.size w W0 by rw [hW0]; exact below_alloc (below_alloc (Below.refl _ _) _) _).trans hk
 have HBK : Aside0 (W0.heap[z]? = some (.cells #[.bool false, .slice none 0 0, .slice none 0 0, .slice none 0 0] 31 (0, 0))) := by
  refine ⟨?_⟩
  rw [hW0, hz]
  exact blk_alloc (blk_new w _) _
 have HB : Aside0 (Below z w W0) := ⟨by rw [hW0, hz]; exact below_alloc (below_alloc (Below.refl _ _) _) _⟩
 have HZ0 : Aside0 (z + 2 ≤ W0.heap.size) := ⟨by rw [hW0, hz]; simp⟩
 have HW0 := Aside0.mk hW0
 have H1 := Aside0.mk (And.intro ho1 (And.intro ho2 (And.intro hl2 (And.intro hb2 (And.intro hl3 (And.intro hb3 (And.intro hb4 (And.intro hl4 (And.intro hx1 (And.intro hx2 hck))))))))))
 have HT1 : Aside0 (∀ W, Scn W z (z + 1) l2 false → Calls Try.prog 53 #[.pointer (some ⟨z + 1, 0, none⟩)] W fun e w' => e = .returned (.string x1) ∧ Scn w' z (z + 1) l3 b3 ∧ W.grownBy w' (some (z + 1))) := ⟨fun W h => by have := scan_text z (z + 1) l2 false W h HO2.out; rwa [hx1, hl3, hb3] at this⟩
 have HT2 : Aside0 (∀ W, Scn W z (z + 1) l3 b3 → Calls Try.prog 53 #[.pointer (some ⟨z + 1, 0, none⟩)] W fun e w' => e = .returned (.string x2) ∧ Scn w' z (z + 1) [] false ∧ W.grownBy w' (some (z + 1))) := ⟨fun W h => by have := scan_text z (z + 1) l3 b3 W h HO3.out; rwa [hx2, hl4, hb4] at this⟩
 clear hr0 hc0 hz hW0 hoct ho1 ho2 hl2 hb2 hl3 hb3 hb4 hl4 hx1 hx2 hck hinfo
 go_enter Try.func19, Try.ntmps19
 go_wp2
 refine wp_scope_jumpsN 2 ?_
 go_wp2_with (first | (go_at_call 51; rw [← HZ.out, ← HW0.out]; refine (scan_octet z (z + 1) l0 false W0 HS.out HO.out).mono ?_; rintro e W1 ⟨rfl, hS, hg⟩; rw [H1.out.1]; have HS1 := Aside0.mk hS; have HG1 := Aside0.mk hg; clear hS hg) | (go_at_call 51; refine (scan_octet z (z + 1) (tkr l0 1) (tkb l0 false 1) W1 HS1.out HO1.out).mono ?_; rintro e W2 ⟨rfl, hS, hg⟩; rw [H1.out.2.1]; rw [H1.out.2.2.1, H1.out.2.2.2.1] at hS; have HS2 := Aside0.mk hS; have HG2 := Aside0.mk hg; have HBK2 := Aside0.mk (blk_grown (blk_grown HBK.out HG1.out (by simp)) hg (by simp)); have hz0 := (blk_cell HBK2.out 0).trans rfl; have hzf := blk_frozen HBK2.out 0; clear hS hg))
 go_step3
 obtain ⟨W3, hW3⟩ : ∃ W3, W3 = W2.setCell ⟨z, 0, none⟩ (.bool true) := ⟨_, rfl⟩
 have HBK3 : Aside0 (W3.heap[z]? = some (.cells #[.bool true, .slice none 0 0, .slice none 0 0, .slice none 0 0] 31 (0, 0))) := ⟨by rw [hW3]; exact blk_put HBK2.out 0 _ rfl⟩
 have HS3 : Aside0 (Scn W3 z (z + 1) l2 false) := ⟨HS2.out.kept (by rw [hW3]; exact Below.heap_setCell _ _ _ _ (by simp)) (by rw [hW3]; exact (Below.refl z _).setCell (p := ⟨z, 0, none⟩) (Nat.le_refl _) _)⟩
 have HG3 : Aside0 (Below z w W3) := ⟨by rw [hW3]; exact (((HB.out.grown HG1.out (by have := HZ0.out; omega) (fun k e => by cases e; omega)).grown HG2.out (by have := HZ0.out; have := HG1.out.size; omega) (fun k e => by cases e; omega))).setCell (p := ⟨z, 0, none⟩) (Nat.le_refl _) _⟩
 have HZ3 : Aside0 (z + 2 ≤ W3.heap.size) := ⟨by rw [hW3]; simp; have := HZ0.out; have := HG1.out.size; have := HG2.out.size; omega⟩
 obtain ⟨As, cs, hs1, _, _, _⟩ := HS3.out
 have hbad := (blk_cell hs1 1).trans rfl
 have HC := (blk_cell HBK3.out 1).trans rfl
 rw [← hW3]
 clear hW3 hz0 hzf hs1
 go_wp2
 refine start_ (n := 8) (S := fun w' => w'.cell? ⟨z, 1, none⟩ = some (.slice none 0 0)) (ds := [7]) #[false, false, false, false, false, false, false, false] (by kernel_rfl) rfl rfl (HC) (fun hHeld => ?_)
 refine pure_ (i := 0) (N := some 40) (v := ?_) (a' := ?_) #[true, false, false, false, false, false, false, false] rfl rfl (by kernel_rfl) (fun _ _ _ h => h) (Or.inl ⟨by rfl, ?_⟩) ?_ ?_
 rotate_left
 ·intro w'
  go_simp
  with_reducible rfl
 rotate_left
 ·simp only [Act.put, List.setIfInBounds_toArray, List.set_cons_zero, List.set_cons_succ, i64_w, i32_w]
  rfl
 refine pure_ (i := 2) (N := some 42) (v := ?_) (a' := ?_) #[true, false, true, false, false, false, false, false] rfl rfl (by kernel_rfl) (fun _ _ _ h => h) (Or.inl ⟨by rfl, ?_⟩) ?_ ?_
 rotate_left
 ·intro w'
  go_simp
  with_reducible rfl
 rotate_left
 ·simp only [Act.put, List.setIfInBounds_toArray, List.set_cons_zero, List.set_cons_succ, i64_w, i32_w]
  rfl
 refine take_ (i := 1) (N := some 41) (v := ?_) (a' := ?_) #[true, true, true, false, false, false, false, false] rfl rfl (by kernel_rfl) (fun _ _ _ h => h) (Or.inl ⟨by rfl, ?_⟩) hHeld ?_ ?_
 rotate_left
 ·intro w' s0
  go_simp
  with_reducible rfl
 rotate_left
 ·simp only [Act.put, List.setIfInBounds_toArray, List.set_cons_zero, List.set_cons_succ, i64_w, i32_w]
  rfl
 refine one_ (i := 3) (N := some 43) #[true, true, true, true, false, false, false, false] rfl rfl (by kernel_rfl) (by decide) (fun K hK => ?_)
 refine goes_ Try.func53 (by kernel_rfl) rfl #[.pointer (some ⟨z + 1, 0, none⟩)] (by rfl) rfl rfl (by simp only [List.map_toArray, List.map_cons, List.map_nil]; rfl) ?_
 refine (HT1.out W3.drew (HS3.out.kept (w' := W3.drew) rfl (below_drew (Below.refl _ _)))).mono ?_
 rintro e Wa ⟨rfl, hS, hg⟩
 refine ⟨_, rfl, ?_⟩
 have HSa := Aside0.mk hS
 have HGa := Aside0.mk hg
 have HC1 := Aside0.mk (cell_grown hg hHeld (by show some z ≠ some (z + 1); simp))
 have HZa : Aside0 (z + 2 ≤ Wa.heap.size) := ⟨by have h1 := hg.size; have h2 := HZ3.out; have h3 : W3.drew.heap.size = W3.heap.size := rfl; omega⟩
 refine hK.out _ _ ((cell_grown hg hHeld (by show some z ≠ some (z + 1); simp))) (fun hHeld => ?_)
 clear hK K
 refine norm_ (a' := ?_) ?_ ?_
 rotate_left
 ·show Act.put _ (some 43) _ = _
  simp only [Act.put, List.setIfInBounds_toArray, List.set_cons_zero, List.set_cons_succ, i64_w, i32_w]
  rfl
 refine one_ (i := 4) (N := some 44) #[true, true, true, true, true, false, false, false] rfl rfl (by kernel_rfl) (by decide) (fun K hK => ?_)
 refine value_ (w1 := ?_) (v := ?_) (by rfl) rfl ?_ ?_
 rotate_left 2
 ·go_simp
  constructor
  ·rfl
  ·rfl
 refine hK.out _ _ (((World.cell?_alloc_lt _ _ _ (World.block_lt_of_cell? _ _ hHeld)).trans hHeld)) (fun hHeld => ?_)
 clear hK K
 refine norm_ (a' := ?_) ?_ ?_
 rotate_left
 ·show Act.put _ (some 44) _ = _
  simp only [Act.put, List.setIfInBounds_toArray, List.set_cons_zero, List.set_cons_succ, i64_w, i32_w]
  rfl
 refine one_ (i := 5) (N := some 45) #[true, true, true, true, true, true, false, false] rfl rfl (by kernel_rfl) (by decide) (fun K hK => ?_)
 refine Kd.R_append_step Kd.string (w0 := Wa) (z + 2) (by rfl) (.tmp 41) (.tmp 44) 22 9 (.string ByteArray.empty) 16 rfl Try.underlying22 HINF.out rfl (by decide) (by omega) (.slice none 0 0) [] x1 [.string x1] (fun _ => True) (fun _ => False) rfl rfl rfl (fun _ hk => hk.elim) (fun _ _ => trivial) (Kd.R_nil _ _ _ _ _) (Below.refl _ _) HZa.out (by simp) ?_
 intro vn w2 ho hb hg2 hat
 replace ho : Kd.R Kd.string 9 w2 (z + 2) (fun _ => True) vn [x1] := ho
 obtain ⟨Av1, cv1, rfl⟩ : ∃ A c, vn = .slice A 1 c := Kd.R_slice ho
 have HRn := Aside0.mk ho
 have HG2 := Aside0.mk hg2
 have HAT := Aside0.mk hat
 have hfz := blk_frozen (blk_grown (blk_grown (blk_drew HBK3.out) HGa.out (by simp)) HG2.out (by simp [Value.ownBlock])) 1
 refine hK.out _ _ ((cell_grown hg2 HC1.out (by simp [Value.ownBlock]))) (fun hHeld => ?_)
 clear hK K
 refine norm_ (a' := ?_) ?_ ?_
 rotate_left
 ·show Act.put _ (some 45) _ = _
  simp only [Act.put, List.setIfInBounds_toArray, List.set_cons_zero, List.set_cons_succ, i64_w, i32_w]
  rfl
 refine pure_ (i := 6) (N := some 46) (v := ?_) (a' := ?_) #[true, true, true, true, true, true, true, false] rfl rfl (by kernel_rfl) (fun _ _ _ h => h) (Or.inl ⟨by rfl, ?_⟩) ?_ ?_
 rotate_left
 ·intro w'
  go_simp
  with_reducible rfl
 rotate_left
 ·simp only [Act.put, List.setIfInBounds_toArray, List.set_cons_zero, List.set_cons_succ, i64_w, i32_w]
  rfl
 refine last_ (i := 7) (N := none) #[true, true, true, true, true, true, true, true] rfl rfl (by kernel_rfl) (by decide) (fun K hK => ?_)
 refine skip_ (w1 := ?_) (by rfl) rfl ?_ ?_
 rotate_left
 ·go_simp
  rfl
 refine hK.out _ _ ?_
 clear hK K
 refine done_ (by kernel_rfl) ?_
 obtain ⟨W4, hW4⟩ : ∃ W, W = w2.setCell ⟨z, 1, none⟩ (.slice Av1 1 cv1) := ⟨_, rfl⟩
 have hGa : W3.grownBy Wa (some (z + 1)) := ⟨HGa.out.os, HGa.out.tape, HGa.out.output, HGa.out.size, HGa.out.block⟩
 have hG2 : Wa.grownBy w2 none := HG2.out
 have HBK4 : Aside0 (W4.heap[z]? = some (.cells #[.bool true, .slice Av1 1 cv1, .slice none 0 0, .slice none 0 0] 31 (0, 0))) := ⟨by rw [hW4]; exact blk_put (blk_grown (blk_grown HBK3.out hGa (by simp)) hG2 (by simp)) 1 _ rfl⟩
 have hb4 : Below z w2 W4 := by rw [hW4]; exact (Below.refl z _).setCell (p := ⟨z, 1, none⟩) (Nat.le_refl _) _
 have hz4 : z + 2 ≤ w2.heap.size := Nat.le_trans HZa.out hG2.size
 have HS4 := Aside0.mk (HSa.out.kept (w' := W4) (by rw [hW4, Below.heap_setCell _ _ _ _ (by show z + 1 ≠ z; omega)]; exact hG2.block _ (by have := HZa.out; omega) (by simp)) (((Below.refl z Wa).grown hG2 (by have := HZa.out; omega) (fun k e => by cases e)).trans hb4))
 have HG4 : Aside0 (Below z w W4) := ⟨((HG3.out.grown hGa (by have := HZ3.out; omega) (fun k e => by cases e; omega)).grown hG2 (by have := HZa.out; omega) (fun k e => by cases e)).trans hb4⟩
 have HZ4 : Aside0 (z + 2 ≤ W4.heap.size) := ⟨by rw [hW4]; simpa using hz4⟩
 have HR4 : Aside0 (Kd.R Kd.string 9 W4 (z + 2) (fun _ => True) (.slice Av1 1 cv1) [x1]) := ⟨by rw [hW4]; exact Kd.R_mono (Kd.R_far (Kd.R_bound HRn.out) (p := ⟨z, 1, none⟩) (fun k hk => by show k ≠ z; have := hk.2.1; omega) _) (fun _ _ => trivial)⟩
 rw [← hW4]
 clear hW4 hGa hG2 hb4 hz4 HBK3 HS3 HG3 HZ3 HSa HGa HC1 HZa HRn HG2 HC hbad hHeld
 have hleaf := (blk_cell HBK4.out 0).trans rfl
 have HC := (blk_cell HBK4.out 2).trans rfl
 go_wp2
 refine start_ (n := 8) (S := fun w' => w'.cell? ⟨z, 2, none⟩ = some (.slice none 0 0)) (ds := [7]) #[false, false, false, false, false, false, false, false] (by kernel_rfl) rfl rfl (HC) (fun hHeld => ?_)
 refine pure_ (i := 0) (N := some 49) (v := ?_) (a' := ?_) #[true, false, false, false, false, false, false, false] rfl rfl (by kernel_rfl) (fun _ _ _ h => h) (Or.inl ⟨by rfl, ?_⟩) ?_ ?_
 rotate_left
 ·intro w'
  go_simp
  with_reducible rfl
 rotate_left
 ·simp only [Act.put, List.setIfInBounds_toArray, List.set_cons_zero, List.set_cons_succ, i64_w, i32_w]
  rfl
 refine pure_ (i := 2) (N := some 51) (v := ?_) (a' := ?_) #[true, false, true, false, false, false, false, false] rfl rfl (by kernel_rfl) (fun _ _ _ h => h) (Or.inl ⟨by rfl, ?_⟩) ?_ ?_
 rotate_left
 ·intro w'
  go_simp
  with_reducible rfl
 rotate_left
 ·simp only [Act.put, List.setIfInBounds_toArray, List.set_cons_zero, List.set_cons_succ, i64_w, i32_w]
  rfl
 refine take_ (i := 1) (N := some 50) (v := ?_) (a' := ?_) #[true, true, true, false, false, false, false, false] rfl rfl (by kernel_rfl) (fun _ _ _ h => h) (Or.inl ⟨by rfl, ?_⟩) hHeld ?_ ?_
 rotate_left
 ·intro w' s0
  go_simp
  with_reducible rfl
 rotate_left
 ·simp only [Act.put, List.setIfInBounds_toArray, List.set_cons_zero, List.set_cons_succ, i64_w, i32_w]
  rfl
 refine one_ (i := 3) (N := some 52) #[true, true, true, true, false, false, false, false] rfl rfl (by kernel_rfl) (by decide) (fun K hK => ?_)
 refine goes_ Try.func53 (by kernel_rfl) rfl #[.pointer (some ⟨z + 1, 0, none⟩)] (by rfl) rfl rfl (by simp only [List.map_toArray, List.map_cons, List.map_nil]; rfl) ?_
 refine (HT2.out W4.drew (HS4.out.kept (w' := W4.drew) rfl (below_drew (Below.refl _ _)))).mono ?_
 rintro e Wa ⟨rfl, hS, hg⟩
 refine ⟨_, rfl, ?_⟩
 have HSa := Aside0.mk hS
 have HGa := Aside0.mk hg
 have HC1 := Aside0.mk (cell_grown hg hHeld (by show some z ≠ some (z + 1); simp))
 have HZa : Aside0 (z + 2 ≤ Wa.heap.size) := ⟨by have h1 := hg.size; have h2 := HZ4.out; have h3 : W4.drew.heap.size = W4.heap.size := rfl; omega⟩
 refine hK.out _ _ ((cell_grown hg hHeld (by show some z ≠ some (z + 1); simp))) (fun hHeld => ?_)
 clear hK K
 refine norm_ (a' := ?_) ?_ ?_
 rotate_left
 ·show Act.put _ (some 52) _ = _
  simp only [Act.put, List.setIfInBounds_toArray, List.set_cons_zero, List.set_cons_succ, i64_w, i32_w]
  rfl
 refine one_ (i := 4) (N := some 53) #[true, true, true, true, true, false, false, false] rfl rfl (by kernel_rfl) (by decide) (fun K hK => ?_)
 refine value_ (w1 := ?_) (v := ?_) (by rfl) rfl ?_ ?_
 rotate_left 2
 ·go_simp
  constructor
  ·rfl
  ·rfl
 refine hK.out _ _ (((World.cell?_alloc_lt _ _ _ (World.block_lt_of_cell? _ _ hHeld)).trans hHeld)) (fun hHeld => ?_)
 clear hK K
 refine norm_ (a' := ?_) ?_ ?_
 rotate_left
 ·show Act.put _ (some 53) _ = _
  simp only [Act.put, List.setIfInBounds_toArray, List.set_cons_zero, List.set_cons_succ, i64_w, i32_w]
  rfl
 refine one_ (i := 5) (N := some 54) #[true, true, true, true, true, true, false, false] rfl rfl (by kernel_rfl) (by decide) (fun K hK => ?_)
 refine Kd.R_append_step Kd.string (w0 := Wa) (z + 2) (by rfl) (.tmp 50) (.tmp 53) 22 9 (.string ByteArray.empty) 16 rfl Try.underlying22 HINF.out rfl (by decide) (by omega) (.slice none 0 0) [] x2 [.string x2] (fun _ => True) (fun _ => False) rfl rfl rfl (fun _ hk => hk.elim) (fun _ _ => trivial) (Kd.R_nil _ _ _ _ _) (Below.refl _ _) HZa.out (by simp) ?_
 intro vn w2 ho hb hg2 hat
 replace ho : Kd.R Kd.string 9 w2 (z + 2) (fun _ => True) vn [x2] := ho
 obtain ⟨Av2, cv2, rfl⟩ : ∃ A c, vn = .slice A 1 c := Kd.R_slice ho
 have HRn := Aside0.mk ho
 have HG2 := Aside0.mk hg2
 have HAT := Aside0.mk hat
 have hfz := blk_frozen (blk_grown (blk_grown (blk_drew HBK4.out) HGa.out (by simp)) HG2.out (by simp [Value.ownBlock])) 2
 refine hK.out _ _ ((cell_grown hg2 HC1.out (by simp [Value.ownBlock]))) (fun hHeld => ?_)
 clear hK K
 refine norm_ (a' := ?_) ?_ ?_
 rotate_left
 ·show Act.put _ (some 54) _ = _
  simp only [Act.put, List.setIfInBounds_toArray, List.set_cons_zero, List.set_cons_succ, i64_w, i32_w]
  rfl
 refine pure_ (i := 6) (N := some 55) (v := ?_) (a' := ?_) #[true, true, true, true, true, true, true, false] rfl rfl (by kernel_rfl) (fun _ _ _ h => h) (Or.inl ⟨by rfl, ?_⟩) ?_ ?_
 rotate_left
 ·intro w'
  go_simp
  with_reducible rfl
 rotate_left
 ·simp only [Act.put, List.setIfInBounds_toArray, List.set_cons_zero, List.set_cons_succ, i64_w, i32_w]
  rfl
 refine last_ (i := 7) (N := none) #[true, true, true, true, true, true, true, true] rfl rfl (by kernel_rfl) (by decide) (fun K hK => ?_)
 refine skip_ (w1 := ?_) (by rfl) rfl ?_ ?_
 rotate_left
 ·go_simp
  rfl
 refine hK.out _ _ ?_
 clear hK K
 refine done_ (by kernel_rfl) ?_
 obtain ⟨W5, hW5⟩ : ∃ W, W = w2.setCell ⟨z, 2, none⟩ (.slice Av2 1 cv2) := ⟨_, rfl⟩
 have hGa : W4.grownBy Wa (some (z + 1)) := ⟨HGa.out.os, HGa.out.tape, HGa.out.output, HGa.out.size, HGa.out.block⟩
 have hG2 : Wa.grownBy w2 none := HG2.out
 have HBK5 : Aside0 (W5.heap[z]? = some (.cells #[.bool true, .slice Av1 1 cv1, .slice Av2 1 cv2, .slice none 0 0] 31 (0, 0))) := ⟨by rw [hW5]; exact blk_put (blk_grown (blk_grown HBK4.out hGa (by simp)) hG2 (by simp)) 2 _ rfl⟩
 have hb5 : Below z w2 W5 := by rw [hW5]; exact (Below.refl z _).setCell (p := ⟨z, 2, none⟩) (Nat.le_refl _) _
 have hz5 : z + 2 ≤ w2.heap.size := Nat.le_trans HZa.out hG2.size
 have HS5 := Aside0.mk (HSa.out.kept (w' := W5) (by rw [hW5, Below.heap_setCell _ _ _ _ (by show z + 1 ≠ z; omega)]; exact hG2.block _ (by have := HZa.out; omega) (by simp)) (((Below.refl z Wa).grown hG2 (by have := HZa.out; omega) (fun k e => by cases e)).trans hb5))
 have HG5 : Aside0 (Below z w W5) := ⟨((HG4.out.grown hGa (by have := HZ4.out; omega) (fun k e => by cases e; omega)).grown hG2 (by have := HZa.out; omega) (fun k e => by cases e)).trans hb5⟩
 have HR5 : Aside0 (Kd.R Kd.string 9 W5 (z + 2) (fun k => some k ≠ (Value.slice Av1 1 cv1).ownBlock) (.slice Av2 1 cv2) [x2]) := by
  refine ⟨?_⟩
  rw [hW5]
  have h1 : Kd.R Kd.string 9 w2 (z + 2) (fun k => some k ≠ (Value.slice Av1 1 cv1).ownBlock ∧ k ≠ z) (.slice Av2 1 cv2) [x2] := by
   refine Kd.R_mono (ok := fun k => k ≠ z ∧ Wa.heap.size ≤ k) ?_ (fun k hk => ⟨fun he => ?_, hk.1⟩)
   ·refine ⟨fun k hk => ?_, ?_⟩
    ·have hlow := (Kd.R_bound HRn.out).1 k hk
     rcases HAT.out with h | ⟨b, h, hb⟩
     ·rw [hk] at h; simp [Value.ownBlock] at h
     ·rw [hk] at h; cases h
      exact ⟨by have := hlow.2.1; omega, hb⟩
    ·exact HRn.out.2.imp_ (fun _ _ hp => hp)
   ·have := Kd.R_lt HR4.out k he.symm
    have := hGa.size
    have := hk.2
    omega
  exact Kd.R_mono (Kd.R_far h1 (p := ⟨z, 2, none⟩) (fun k hk => hk.2) _) (fun _ hk => hk.1)
 have HR4' : Aside0 (Kd.R Kd.string 9 W5 (z + 2) (fun k => some k ≠ (Value.slice Av2 1 cv2).ownBlock) (.slice Av1 1 cv1) [x1]) := by
  refine ⟨?_⟩
  have hne : ∀ k, (Value.slice Av1 1 cv1).ownBlock = some k → some k ≠ (Value.slice Av2 1 cv2).ownBlock := fun k hk he => HR5.out.1 k he.symm (hk.symm)
  have h1 := Kd.R_grown (Kd.R_grown (Kd.R_bound HR4.out) hGa (fun k hk => by have := hk.2.1; simp; omega)) hG2 (fun k hk => by simp)
  rw [hW5]
  refine ⟨hne, ((Kd.R_far h1 (p := ⟨z, 2, none⟩) (fun k hk => by show k ≠ z; have := hk.2.1; omega) _).2).imp_ (fun _ _ hp => hp)⟩
 rw [← hW5]
 clear hW5 hGa hG2 hb5 hz5 HBK4 HS4 HG4 HZ4 HSa HGa HC1 HZa HRn HG2 HC hleaf hHeld HR4 HAT hfz
 go_wp2
 go_step3
 refine jumpsN_goto (rest := _) (by rfl) ?_
 go_wp2
 go_step3
 refine jumpsN_goto (rest := _) (by rfl) ?_
 obtain ⟨As, cs, hs1, _, _, _⟩ := HS5.out
 have hbad := (blk_cell hs1 1).trans rfl
 have hrest := (blk_cell hs1 0).trans rfl
 have hn0 := (blk_cell HBK5.out 0).trans rfl
 have hn1 := (blk_cell HBK5.out 1).trans rfl
 have hn2 := (blk_cell HBK5.out 2).trans rfl
 have hn3 := (blk_cell HBK5.out 3).trans rfl
 have hf0 := blk_frozen HBK5.out 0
 have hf1 := blk_frozen HBK5.out 1
 have hf2 := blk_frozen HBK5.out 2
 have hf3 := blk_frozen HBK5.out 3
 have hchk := node_Check.calls k true Av1 cv1 [x1] Av2 cv2 [x2] none 0 [] 0 W5 (Kd.R_reads' HR4'.out).2.2 (Kd.R_reads' HR4'.out).2.1 (Kd.R_reads' HR5.out).2.2 (Kd.R_reads' HR5.out).2.1 (Kd.C_nil _ _) (Nat.le_refl _) H1.out.2.2.2.2.2.2.2.2.2.2
 clear hs1
 go_wp2_with (go_at_call 25; refine hchk.mono ?_; rintro e W6 ⟨rfl, hb6⟩; have HB6 := Aside0.mk hb6; have HBK6 := Aside0.mk (blk_below HBK5.out hb6); have hm0 := (blk_cell HBK6.out 0).trans rfl; have hm1 := (blk_cell HBK6.out 1).trans rfl; have hm2 := (blk_cell HBK6.out 2).trans rfl; have hm3 := (blk_cell HBK6.out 3).trans rfl; have hg0 := blk_frozen HBK6.out 0; have hg1 := blk_frozen HBK6.out 1; have hg2' := blk_frozen HBK6.out 2; have hg3 := blk_frozen HBK6.out 3; clear hb6 hchk)
 refine jumpsN_ret ?_
 have hfar : ∀ {ok : Nat → Prop} {v : Value} {xs : List ByteArray}, Kd.R Kd.string 9 W5 (z + 2) ok v xs → Kd.R Kd.string 9 ((((W6.setCell ⟨z, 0, none⟩ (.bool true)).setCell ⟨z, 1, none⟩ (.slice Av1 1 cv1)).setCell ⟨z, 2, none⟩ (.slice Av2 1 cv2)).setCell ⟨z, 3, none⟩ (.slice none 0 0)) w.heap.size ok v xs := by
  intro ok v xs h
  have h' : Kd.R Kd.string 9 W5 (z + 2) (fun k => ok k ∧ z + 2 ≤ k) v xs := Kd.R_mono (Kd.R_bound h) (fun k hk => ⟨hk.1, hk.2.1⟩)
  have hk : ∀ k, (ok k ∧ z + 2 ≤ k) → k ≠ z := fun k hk => by have := hk.2; omega
  exact Kd.R_lower (Kd.R_mono (Kd.R_far (Kd.R_far (Kd.R_far (Kd.R_far (Kd.R_below h' HB6.out) (p := ⟨z, 0, none⟩) hk _) (p := ⟨z, 1, none⟩) hk _) (p := ⟨z, 2, none⟩) hk _) (p := ⟨z, 3, none⟩) hk _) (fun _ hk => hk.1)) (by have := HZ.out; omega)
 have hfin : Below w.heap.size w ((((W6.setCell ⟨z, 0, none⟩ (.bool true)).setCell ⟨z, 1, none⟩ (.slice Av1 1 cv1)).setCell ⟨z, 2, none⟩ (.slice Av2 1 cv2)).setCell ⟨z, 3, none⟩ (.slice none 0 0)) := by
  rw [← HZ.out]
  exact (HG5.out.trans (HB6.out.mono (by have := HG5.out.size; have := HZ.out; omega))).trans (((((Below.refl z W6).setCell (p := ⟨z, 0, none⟩) (Nat.le_refl _) _).setCell (p := ⟨z, 1, none⟩) (Nat.le_refl _) _).setCell (p := ⟨z, 2, none⟩) (Nat.le_refl _) _).setCell (p := ⟨z, 3, none⟩) (Nat.le_refl _) _)
 have HBK7 := blk_put (cs' := #[.bool true, .slice Av1 1 cv1, .slice Av2 1 cv2, .slice none 0 0]) (blk_put (cs' := #[.bool true, .slice Av1 1 cv1, .slice Av2 1 cv2, .slice none 0 0]) (blk_put (cs' := #[.bool true, .slice Av1 1 cv1, .slice Av2 1 cv2, .slice none 0 0]) (blk_put (cs' := #[.bool true, .slice Av1 1 cv1, .slice Av2 1 cv2, .slice none 0 0]) HBK6.out 0 (.bool true) rfl) 1 (.slice Av1 1 cv1) rfl) 2 (.slice Av2 1 cv2) rfl) 3 (.slice none 0 0) rfl
 exact bodyPost_ret (results_ct rfl _ _ z _ _ (0, 0) _ rfl HBK7 Try.underlying31 rfl (by kernel_rfl)) rfl ⟨_, _, _, rfl, hfar HR4'.out, hfar HR5.out, Kd.R_nil _ _ _ _ _, hfin⟩
theorem node_Decode.calls (k : Nat) (A0 : Option Addr) (c0 : Nat) (l0 : List Int) (r1 : Bool) (r2 : List ByteArray) (r3 : List ByteArray) (r4 : List Int) (r5 : Int) (w : World) (hr0 : Kd.C (Kd.int .u8) w A0 l0.length l0) (hc0 : l0.length ≤ c0) (h : node_Decode.f k l0 = some (r1, r2, r3, r4, r5)) :
  Calls Try.prog 19 #[.slice A0 l0.length c0] w fun e w' => ∃ v1_ v2_ v3_ : Value, e = .returned (.tuple #[.agg #[.bool r1, v1_, v2_, v3_], .int .i64 r5]) ∧ Kd.R Kd.string 9 w' w.heap.size (fun k_ => some k_ ≠ (v2_ : Value).ownBlock) v1_ r2 ∧ Kd.R Kd.string 9 w' w.heap.size (fun k_ => some k_ ≠ (v1_ : Value).ownBlock) v2_ r3 ∧ Kd.R (Kd.int .i64) 3 w' w.heap.size (fun _ => True) v3_ r4 ∧ Below w.heap.size w w' := by
 unfold node_Decode.f at h
 by_cases hc : (∀ x ∈ l0, 0 ≤ x ∧ x < 256) ∧ oct l0 = 1 ∧ oct (tkr l0 1) = 1 ∧ tkb (tkr l0 1) (tkb l0 false 1) 1 = false ∧ txtB (txtR (tkr (tkr l0 1) 1)) (txtB (tkr (tkr l0 1) 1) false) = false ∧ txtR (txtR (tkr (tkr l0 1) 1)) = []
 case neg => rw [if_neg hc] at h; cases h
 rw [if_pos hc] at h
 obtain ⟨h1, h2, h3, h4, h5, h6⟩ := hc
 obtain ⟨e, he, h⟩ := Option.bind_eq_some_iff.1 h
 by_cases hz : e = 0
 case neg => rw [if_neg hz] at h; cases h
 rw [if_pos hz] at h
 subst hz
 cases h
 exact node_Decode.walk k A0 c0 l0 w hr0 hc0 h1 h2 h3 _ _ rfl h4 rfl _ rfl h5 h6 _ _ rfl rfl he
end Go.Proofs.Ytooabchnbmnchaa.Q
namespace Go.Proofs.Ytooabchnbmnchaa.Q
open Go.RowKit Go.Proofs.YtooabchnbmnchaaW.PrintWords Go.Proofs.YtooabchnbmnchaaW.PrintLast Go.Proofs.YtooabchnbmnchaaW.PrintMore
attribute [local go_sem] max2_int min2_int max_two min_two max_three min_three max_four min_four binOp_string_leq binOp_string_geq binOp_string_gtr   -- for this text's walks alone
set_option linter.unusedVariables false
set_option linter.unusedSimpArgs false
def transeptplain_SameBytes.l0 : Nat → List Int → List Int → Int → Option (Bool)
 | 0, _, _, _ => none
 | k + 1, x0, x1, x5 => if x5 < (x0.length : Int) then (if 0 ≤ x5 then (if x5 < (x1.length : Int) then (if (rd x0 x5) = (rd x1 x5) then (transeptplain_SameBytes.l0 k x0 x1 (wrap64 (x5 + 1))) else (some false)) else (none)) else (none)) else (some true)
def transeptplain_SameBytes.f (k : Nat) (l0 : List Int) (l1 : List Int) : Option (Bool) := if (l0.length : Int) = (l1.length : Int) then (transeptplain_SameBytes.l0 k l0 l1 0) else (some false)
theorem transeptplain_SameBytes.mono_l : ∀ k, (∀ y0 y1 y2, LeO (transeptplain_SameBytes.l0 k y0 y1 y2) (transeptplain_SameBytes.l0 (k + 1) y0 y1 y2))
 | 0 => fun _ _ _ r h => by simp [transeptplain_SameBytes.l0] at h
 | k + 1 => by
  have ih0 := transeptplain_SameBytes.mono_l k
  ·intro y0 y1 y2
   unfold transeptplain_SameBytes.l0
   repeat' first
   | (with_reducible exact ih0 _ _ _)
   | (with_reducible exact LeO.refl _)
   | (with_reducible exact LeO.none _)
   | (with_reducible refine LeO.ite ?_ ?_)
   | (with_reducible refine LeO.bind ?_ (fun _ => ?_))
   | exact ih0 _ _ _
   | exact LeO.none _
   | refine LeO.ite ?_ ?_
   | refine LeO.bind ?_ (fun _ => ?_)
theorem transeptplain_SameBytes.mono : ∀ a0 a1 k, LeO (transeptplain_SameBytes.f k a0 a1) (transeptplain_SameBytes.f (k + 1) a0 a1) := by
 intro a0 a1 k
 have ih0 := transeptplain_SameBytes.mono_l k
 unfold transeptplain_SameBytes.f
 repeat' first
   | (with_reducible exact ih0 _ _ _)
   | (with_reducible exact LeO.refl _)
   | (with_reducible exact LeO.none _)
   | (with_reducible refine LeO.ite ?_ ?_)
   | (with_reducible refine LeO.bind ?_ (fun _ => ?_))
   | exact ih0 _ _ _
   | exact LeO.none _
   | refine LeO.ite ?_ ?_
   | refine LeO.bind ?_ (fun _ => ?_)
set_option maxHeartbeats 8000000 in
set_option maxRecDepth 100000 in
theorem transeptplain_SameBytes.calls (k : Nat) (A0 : Option Addr) (c0 : Nat) (l0 : List Int) (A1 : Option Addr) (c1 : Nat) (l1 : List Int) (r : Bool) (w : World) (hr0 : Kd.C (Kd.int .u8) w A0 l0.length l0) (hc0 : l0.length ≤ c0) (hr1 : Kd.C (Kd.int .u8) w A1 l1.length l1) (hc1 : l1.length ≤ c1) (h : transeptplain_SameBytes.f k l0 l1 = some r) :
  Calls Try.prog 21 #[.slice A0 l0.length c0, .slice A1 l1.length c1] w fun e w' => e = .returned (.bool r) ∧ Drawn0 w w' := by
 have HR0 := Aside0.mk hr0
 have HC0 := Aside0.mk hc0
 clear hr0 hc0
 have HR1 := Aside0.mk hr1
 have HC1 := Aside0.mk hc1
 clear hr1 hc1
 have H : (if (l0.length : Int) = (l1.length : Int) then (transeptplain_SameBytes.l0 k l0 l1 0) else (some false)) = some r := h
 clear h
 by_cases c3 : (l0.length : Int) = (l1.length : Int)
 ·rw [if_pos c3] at H
  have c3b0 : ((l0.length : Int) == (l1.length : Int)) = true := beq_iff_eq.mpr c3
  have c3b1 : ((l0.length : Int) != (l1.length : Int)) = false := bne_eq_false_iff_eq.mpr c3
  have c3b2 : (l0.length == l1.length) = true := by first | simpa using c3 | (simp at c3 ⊢; omega)
  clear c3
  have H' := Aside0.mk H
  clear H
  go_enter Try.func21, Try.ntmps21
  go_wp2
  repeat (go_quiet (fail); try go_wp2)
  go_loopg [5] k (fun kq v5 w' => ∃ (x5_1 : Int), v5 = .int .i64 x5_1 ∧ Aside0 (transeptplain_SameBytes.l0 kq l0 l1 x5_1 = some r) ∧ Aside0 (kq ≤ k) ∧ Drawn0 w w')
  case atStart => exact ⟨(0), (by first | rfl | (simp; done) | (simp [*]; done)), H', ⟨Nat.le_refl _⟩, by repeat (first | exact Drawn0.refl _ | apply Drawn0.step)⟩
  case round =>
   clear H'
   try clear c1
   try clear c2
   try clear p2
   try clear c3
   try clear c3b0
   try clear c3b1
   try clear c3b2
   obtain ⟨x5_1, rfl, HA, HK1, ⟨m1, rfl⟩⟩ := hrel
   cases gk with
   | zero => exact absurd HA.out (by simp [transeptplain_SameBytes.l0])
   | succ k1 =>
    have H := HA.out
    clear HA
    simp only [transeptplain_SameBytes.l0] at H
    by_cases c4 : x5_1 < (l0.length : Int)
    ·rw [if_pos c4] at H
     have c4b0 : decide (x5_1 < (l0.length : Int)) = true := decide_eq_true c4
     clear c4
     by_cases c5 : 0 ≤ x5_1
     ·rw [if_pos c5] at H
      have c5b0 : decide (0 ≤ x5_1) = true := decide_eq_true c5
      clear c5
      by_cases c6 : x5_1 < (l1.length : Int)
      ·rw [if_pos c6] at H
       have c6b0 : decide (x5_1 < (l1.length : Int)) = true := decide_eq_true c6
       clear c6
       by_cases c7 : (rd l0 x5_1) = (rd l1 x5_1)
       ·rw [if_pos c7] at H
        have c7b0 : ((rd l0 x5_1) == (rd l1 x5_1)) = true := beq_iff_eq.mpr c7
        have c7b1 : ((rd l0 x5_1) != (rd l1 x5_1)) = false := bne_eq_false_iff_eq.mpr c7
        clear c7
        have H' := Aside0.mk H
        clear H
        have p145 : 0 ≤ (x5_1 : Int) := of_decide_eq_true (by first | (with_reducible assumption) | assumption)
        have q145 : x5_1 < (l0.length : Int) := of_decide_eq_true (by first | (with_reducible assumption) | assumption)
        obtain ⟨ad145, e145, hx145_0⟩ := Kd.at_int HR0.out x5_1 p145 q145
        cases e145
        replace p145 := eq_true p145
        replace q145 := eq_true q145
        have p146 : 0 ≤ (x5_1 : Int) := of_decide_eq_true (by first | (with_reducible assumption) | assumption)
        have q146 : x5_1 < (l1.length : Int) := of_decide_eq_true (by first | (with_reducible assumption) | assumption)
        obtain ⟨ad146, e146, hx146_0⟩ := Kd.at_int HR1.out x5_1 p146 q146
        cases e146
        replace p146 := eq_true p146
        replace q146 := eq_true q146
        go_wp2
        repeat (go_quiet (fail); try go_wp2)
        go_roundg k1
        case measure => have := HK1.out; omega
        case rel => exact ⟨(wrap64 (x5_1 + 1)), (by first | rfl | (simp; done) | (simp [*]; done)), H', ⟨by have := HK1.out; omega⟩, by repeat (first | exact Drawn0.refl _ | apply Drawn0.step)⟩
       ·rw [if_neg c7] at H
        have c7b0 : ((rd l0 x5_1) == (rd l1 x5_1)) = false := beq_eq_false_iff_ne.mpr c7
        have c7b1 : ((rd l0 x5_1) != (rd l1 x5_1)) = true := bne_iff_ne.mpr c7
        obtain rfl := Option.some.inj H
        have p145 : 0 ≤ (x5_1 : Int) := of_decide_eq_true (by first | (with_reducible assumption) | assumption)
        have q145 : x5_1 < (l0.length : Int) := of_decide_eq_true (by first | (with_reducible assumption) | assumption)
        obtain ⟨ad145, e145, hx145_0⟩ := Kd.at_int HR0.out x5_1 p145 q145
        cases e145
        replace p145 := eq_true p145
        replace q145 := eq_true q145
        have p146 : 0 ≤ (x5_1 : Int) := of_decide_eq_true (by first | (with_reducible assumption) | assumption)
        have q146 : x5_1 < (l1.length : Int) := of_decide_eq_true (by first | (with_reducible assumption) | assumption)
        obtain ⟨ad146, e146, hx146_0⟩ := Kd.at_int HR1.out x5_1 p146 q146
        cases e146
        replace p146 := eq_true p146
        replace q146 := eq_true q146
        go_wp2
        repeat (go_quiet (fail); try go_wp2)
        go_ret
        exact ⟨by first | rfl | (simp; done) | (simp [*]; done), by repeat (first | exact Drawn0.refl _ | apply Drawn0.step)⟩
      ·rw [if_neg c6] at H
       exact absurd H (by simp)
     ·rw [if_neg c5] at H
      exact absurd H (by simp)
    ·rw [if_neg c4] at H
     have c4b0 : decide (x5_1 < (l0.length : Int)) = false := decide_eq_false c4
     clear c4
     obtain rfl := Option.some.inj H
     go_wp2
     repeat (go_quiet (fail); try go_wp2)
     go_ret
     exact ⟨by first | rfl | (simp; done) | (simp [*]; done), by repeat (first | exact Drawn0.refl _ | apply Drawn0.step)⟩
 ·rw [if_neg c3] at H
  have c3b0 : ((l0.length : Int) == (l1.length : Int)) = false := beq_eq_false_iff_ne.mpr c3
  have c3b1 : ((l0.length : Int) != (l1.length : Int)) = true := bne_iff_ne.mpr c3
  have c3b2 : (l0.length == l1.length) = false := by first | simpa using c3 | (simp at c3 ⊢; omega)
  obtain rfl := Option.some.inj H
  go_enter Try.func21, Try.ntmps21
  go_wp2
  repeat (go_quiet (fail); try go_wp2)
  go_ret
  exact ⟨by first | rfl | (simp; done) | (simp [*]; done), by repeat (first | exact Drawn0.refl _ | apply Drawn0.step)⟩
end Go.Proofs.Ytooabchnbmnchaa.Q
