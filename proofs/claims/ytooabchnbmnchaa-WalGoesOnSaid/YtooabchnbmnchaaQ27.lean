-- Laid by this session's own program (wip/tools) out of the translation; Lean checks it. Thinned, shortened and merged for this claim.
import Derived.Test.YtooabchnbmnchaaQ0
import Derived.Test.YtooabchnbmnchaaSq
import Derived.Test.YtooabchnbmnchaaQ17
import Derived.Test.YtooabchnbmnchaaQ26
namespace Go.Proofs.Ytooabchnbmnchaa.Q
open Go.RowKit Go.Proofs.YtooabchnbmnchaaW.PrintWords Go.Proofs.YtooabchnbmnchaaW.PrintLast Go.Proofs.YtooabchnbmnchaaW.PrintMore
attribute [local go_sem] max2_int min2_int max_two min_two max_three min_three max_four min_four binOp_string_leq binOp_string_geq binOp_string_gtr   -- for this text's walks alone
set_option linter.unusedVariables false
set_option linter.unusedSimpArgs false
section
theorem conv_bytes (W : World) (b n : Nat) (cs : Array Value) (hb : W.heap[b]? = some (.cells cs 5 (0, 0))) : Sem.run Try.prog (convert 26 26 (.slice (some ⟨b, 0, none⟩) n n)) W = .ok (.slice (some ⟨b, 0, none⟩) n n) (W.freeze ⟨b, cs.size, none⟩ 1) := by
 have h := Try.underlying26
 have h5 := Try.underlying5
 have hs : W.shape? b = some (5, cs.size) := by unfold World.shape?; rw [hb]
 simp [convert, h, h5, hs, go_sem, markStringish, shape, freeze, Functor.map]
 simp [Bind.bind, Sem.bind, Pure.pure, go_sem, Sem.run, hs]
theorem frz_facts (W W2 : World) (n : Int) (hW2 : W2 = (W.alloc (.cells #[.int .u8 n] 5 (0, 0))).freeze ⟨W.heap.size, 1, none⟩ 1) : Below W.heap.size W W2 ∧ ∀ W' : World, W'.heap[W.heap.size]? = W2.heap[W.heap.size]? → Kd.C (Kd.int .u8) W' (some ⟨W.heap.size, 0, none⟩) ([n] : List Int).length [n] := by
 have hb0 := World.alloc_heap_new W (.cells #[.int .u8 n] 5 (0, 0))
 have hc2 : W2.cell? ⟨W.heap.size, 0, none⟩ = some (.int .u8 n) := by
  subst hW2
  unfold World.cell? World.freeze
  rw [if_neg (by decide)]
  simp only [Array.getElem?_modify, hb0]
  simp
 refine ⟨?_, fun W' hW' => ?_⟩
 ·subst hW2
  refine (below_alloc (Below.refl W.heap.size W) (.cells #[.int .u8 n] 5 (0, 0))).trans ⟨rfl, rfl, rfl, ?_, fun k hk => ?_⟩
  ·simp [World.freeze]
  ·simp only [World.freeze]
   rw [if_neg (by decide)]
   simp only [Array.getElem?_modify]
   rw [if_neg (by omega)]
 ·have hc3 : W'.cell? ⟨W.heap.size, 0, none⟩ = some (.int .u8 n) := (World.cell?_of_block (w := W2) hW').trans hc2
  refine ⟨rfl, by simp, fun _ => ⟨_, rfl, fun j p hj => ?_⟩⟩
  have hj0 : j = 0 := by
   have := (List.getElem?_eq_some_iff.1 hj).1
   simp at this
   exact this
  subst hj0
  obtain rfl : n = p := by simpa using hj
  refine ⟨[.int .u8 n], rfl, rfl, fun i u hu => ?_⟩
  have hi0 : i = 0 := by
   have := (List.getElem?_eq_some_iff.1 hu).1
   simp at this
   exact this
  subst hi0
  obtain rfl : Value.int .u8 n = u := by simpa using hu
  exact hc3
variable {ops : Array Oper} {Q : Exit → Act → World → Prop}
theorem lit1_ {o1 o2 : Oper} {rest : List Oper} {a : Act} {W : World} (N1 N2 : Tmp) (n : Int)
  (h : ∀ g w2, g = W.heap.size → Below W.heap.size W w2 → (∀ ok : Nat → Prop, ok g → Kd.FK (Kd.slice 5 (Kd.int .u8)) w2 ok [n] [.slice (some ⟨g, 0, none⟩) 1 1]) → wpList Try.prog ops Q rest ((a.put (some N1) (.slice (some ⟨g, 0, none⟩) 1 1)).put (some N2) (.slice (some ⟨g, 0, none⟩) 1 1)) w2)
  (hgd1 : o1.guard = none := by rfl) (hgd2 : o2.guard = none := by rfl) (hd1 : o1.dst = some N1 := by rfl) (hd2 : o2.dst = some N2 := by rfl) (hop2 : o2.op = .convert 26 26 (.tmp N1) := by rfl)
  (hrun : (execOp a.eval o1).run Try.prog W = .ok (.value (.slice (some ⟨W.heap.size, 0, none⟩) 1 1)) (W.alloc (.cells #[.int .u8 n] 5 (0, 0))) := by first | (go_simp; done) | (go_simp; rfl))
  (hev : ∀ v, (a.put (some N1) v).eval (.tmp N1) = v := by intro v; first | rfl | (simp [Act.put, Act.eval]; done)) : wpList Try.prog ops Q (o1 :: o2 :: rest) a W := by
 refine Kd.event_run hgd1 hrun ?_
 rw [hd1]
 obtain ⟨W2, hW2⟩ : ∃ W2, W2 = (W.alloc (.cells #[.int .u8 n] 5 (0, 0))).freeze ⟨W.heap.size, 1, none⟩ 1 := ⟨_, rfl⟩
 have hcv := conv_bytes (W.alloc (.cells #[.int .u8 n] 5 (0, 0))) W.heap.size 1 _ (World.alloc_heap_new W _)
 obtain ⟨f1, f2⟩ := frz_facts W W2 n hW2
 have hrun2 : (execOp (a.put (some N1) (.slice (some ⟨W.heap.size, 0, none⟩) 1 1)).eval o2).run Try.prog (W.alloc (.cells #[.int .u8 n] 5 (0, 0))) = .ok (.value (.slice (some ⟨W.heap.size, 0, none⟩) 1 1)) W2 := by
  unfold execOp
  simp only [hop2, hev]
  rw [hW2]
  simp [go_sem, hcv]
 refine Kd.event_run hgd2 hrun2 ?_
 rw [hd2]
 refine h W.heap.size W2 rfl f1 (fun ok hok => ?_)
 refine Kd.FK_slice_mk (Nat.le_refl _) ?_
 intro W' hW'
 exact f2 W' (hW' _ hok (by subst hW2; simp [World.freeze, World.size_alloc]))
end
section
def transeptlaw08_alive.f (k : Nat) : Option Bool := (wal_Append.f k [] 0 [] [[97], [98]]).bind fun a => (wal_Flush.f k a.1 a.2.1 a.2.2.1 10).bind fun b => (wal_Append.f k b.1 b.2.1 b.2.2.1 [[99]]).bind fun c => (wal_Flush.f k c.1 c.2.1 c.2.2.1 10).bind fun d =>
 if a.2.2.2 = 0 ∧ b.2.2.2 = 0 ∧ c.2.2.2 = 0 ∧ d.2.2.2 = 0 ∧ b.1.length = 1 ∧ d.1.length = 2 ∧ (rd_T70 d.1 1).f0 = 2 ∧ d.2.1 = 3 then some true else none
theorem transeptlaw08_alive.mono : ∀ k, LeO (transeptlaw08_alive.f k) (transeptlaw08_alive.f (k + 1)) := by
 intro k
 unfold transeptlaw08_alive.f
 exact LeO.bind (wal_Append.mono _ _ _ _ _) (fun _ => LeO.bind (wal_Flush.mono _ _ _ _ _) (fun _ => LeO.bind (wal_Append.mono _ _ _ _ _) (fun _ => LeO.bind (wal_Flush.mono _ _ _ _ _) (fun _ => LeO.refl _))))
set_option maxHeartbeats 8000000 in
set_option maxRecDepth 100000 in
theorem transeptlaw08_alive.calls (k : Nat) (r : Bool) (w : World) (h : transeptlaw08_alive.f k = some r) : Calls Try.prog 32 #[] w fun e w' => e = .returned (.bool r) ∧ Below w.heap.size w w' := by
 have hu61 := Try.underlying61
 have HB := Aside0.mk (Below.refl w.heap.size w)
 unfold transeptlaw08_alive.f at h
 obtain ⟨y194, hy194⟩ : ∃ y : List (List Int), y = [[97], [98]] := ⟨_, rfl⟩
 obtain ⟨y217, hy217⟩ : ∃ y : List (List Int), y = [[99]] := ⟨_, rfl⟩
 rw [← hy194, ← hy217] at h
 have Ny194 := Aside0.mk hy194
 have Ny217 := Aside0.mk hy217
 clear hy194 hy217
 replace h := Option.bind_eq_some_iff.1 h
 obtain ⟨⟨t197, t200, t201, t204⟩, A10, h⟩ := h
 replace h := Option.bind_eq_some_iff.1 h
 obtain ⟨⟨t206, t209, t210, t213⟩, A20, h⟩ := h
 replace h := Option.bind_eq_some_iff.1 h
 obtain ⟨⟨t220, t223, t224, t227⟩, A30, h⟩ := h
 replace h := Option.bind_eq_some_iff.1 h
 obtain ⟨⟨t228, t231, t232, t235⟩, A40, h⟩ := h
 dsimp only at h A10 A20 A30 A40
 by_cases hc : t204 = 0 ∧ t213 = 0 ∧ t227 = 0 ∧ t235 = 0 ∧ t206.length = 1 ∧ t228.length = 2 ∧ (rd_T70 t228 1).f0 = 2 ∧ t231 = 3
 case neg => rw [if_neg hc] at h; cases h
 rw [if_pos hc] at h
 obtain rfl := Option.some.inj h
 obtain ⟨d1, d2, d3, d4, d5, d6, d7, d8⟩ := hc
 obtain ⟨t236, A50⟩ : ∃ t, transeptlaw08_num.f t204 = some t := ⟨_, rfl⟩
 obtain ⟨t237, A60⟩ : ∃ t, transeptlaw08_num.f t213 = some t := ⟨_, rfl⟩
 obtain ⟨t238, A70⟩ : ∃ t, transeptlaw08_num.f t227 = some t := ⟨_, rfl⟩
 obtain ⟨t239, A80⟩ : ∃ t, transeptlaw08_num.f t235 = some t := ⟨_, rfl⟩
 have e1 : t204 = t236 := Option.some.inj A50
 have e2 : t213 = t237 := Option.some.inj A60
 have e3 : t227 = t238 := Option.some.inj A70
 have e4 : t235 = t239 := Option.some.inj A80
 have c9 : wrap64 (wrap64 (wrap64 (t236 + t237) + t238) + t239) = 0 := by rw [← e1, ← e2, ← e3, ← e4, d1, d2, d3, d4]; decide +kernel
 have c9b0 : (wrap64 (wrap64 (wrap64 (t236 + t237) + t238) + t239) == 0) = true := beq_iff_eq.mpr c9
 have c9b1 : (wrap64 (wrap64 (wrap64 (t236 + t237) + t238) + t239) != 0) = false := bne_eq_false_iff_eq.mpr c9
 have c10b0 : ((t206.length : Int) == 1) = true := beq_iff_eq.mpr (by omega)
 have c10b1 : ((t206.length : Int) != 1) = false := bne_eq_false_iff_eq.mpr (by omega)
 have c11b0 : ((t228.length : Int) == 2) = true := beq_iff_eq.mpr (by omega)
 have c11b1 : ((t228.length : Int) != 2) = false := bne_eq_false_iff_eq.mpr (by omega)
 have c12b0 : decide (1 < (t228.length : Int)) = true := decide_eq_true (by omega)
 have c12b1 : decide (1 < t228.length) = true := decide_eq_true (by omega)
 have c13b0 : (((rd_T70 t228 1).f0) == 2) = true := beq_iff_eq.mpr d7
 have c13b1 : (((rd_T70 t228 1).f0) != 2) = false := bne_eq_false_iff_eq.mpr d7
 have c14b0 : (t231 == 3) = true := beq_iff_eq.mpr d8
 have A1 := Aside0.mk A10
 have A2 := Aside0.mk A20
 have A3 := Aside0.mk A30
 have A4 := Aside0.mk A40
 have A5 := Aside0.mk A50
 have A6 := Aside0.mk A60
 have A7 := Aside0.mk A70
 have A8 := Aside0.mk A80
 clear c9 d1 d2 d3 d4 d5 d6 d7 d8 e1 e2 e3 e4 A10 A20 A30 A40 A50 A60 A70 A80 h
 go_enter Try.func32, Try.ntmps32
 go_wp2_with (first | ((with_reducible refine gate_dst (N := 9) rfl ?_); refine lit1_ 9 10 97 ?_; intro g9 w14 hg9 hb hfk; have HK9 := Aside0.mk (hfk (fun _ => True) trivial); replace HB := bS_ HB hb; clear hb hfk hg9) | ((with_reducible refine gate_dst (N := 11) rfl ?_); refine lit1_ 11 12 98 ?_; intro g11 w17 hg11 hb hfk; have HK11 := Aside0.mk (hfk (fun _ => True) trivial); replace HK9 := Aside0.mk (Foot.step HK9.out (fun k_ _ hlt_ => hb.block k_ hlt_)); replace HB := bS_ HB hb; clear hb hfk hg11) | ((with_reducible refine gate_dst (N := 13) rfl ?_); (try (refine gate_guard (by rfl) ?_; dsimp only)); refine Kd.N_lit (Kd.slice 5 (Kd.int .u8)) _ 26 ?hg (N' := 13) ?hd (xs := ([[97], [98]] : List (List Int))) (inner := [.slice (some ⟨g9, 0, none⟩) 1 1, .slice (some ⟨g11, 0, none⟩) 1 1]) (ok := (fun _ => True)) (okp := (fun _ => True)) ?hr ?hp (fun _ hk => hk) ((show ∀ k_, w17.heap.size ≤ k_ → (fun _ => True) k_ from fun k_ hk => trivial) _ (Nat.le_refl _)) (Below.refl _ _) (Nat.le_refl _) (by simp) ?_; (case hd => rfl); (case hg => rfl); (case hr => first | (go_simp; done) | (go_simp; rfl)); (case hp => exact (Reps.one (show Kd.FK (Kd.slice 5 (Kd.int .u8)) _ _ [97] [.slice (some ⟨g9, 0, none⟩) 1 1] from HK9.out) (Reps.one (show Kd.FK (Kd.slice 5 (Kd.int .u8)) _ _ [98] [.slice (some ⟨g11, 0, none⟩) 1 1] from HK11.out) (Reps.none _ _)))); intro v195 w20 ho21 hb hg_ hnew_; clear hg_ hnew_; (first | rw [← Ny194.out] at ho21 | (simp only [Int.reduceToNat] at ho21; rw [← Ny194.out] at ho21)); have HO196 := Aside0.mk (Kd.N_lower ho21 (bs_ HB)); replace HB := bS_ HB hb; clear HK9 HK11; clear hb ho21; obtain ⟨Ao22, co22, eo22⟩ := Kd.N_slice HO196.out; subst eo22) | ((with_reducible refine gate_callee (f := 35) rfl ?_); refine gL_ (some 14) Try.func35 #[.agg #[.slice none 0 0, .int .i64 0, .slice none 0 0], .slice Ao22 y194.length co22] ?_; (refine (wal_Append.calls k _ _ ([] : List (S70)) 0 _ _ ([] : List (List Int)) _ _ y194 t197 t200 t201 t204 _ ?_ ?_ ?_ ?_ ?_ ?_ A1.out).mono ?_); exact Kd.C_nil _ _; exact Nat.le_refl _; exact Kd.C_nil _ _; exact Nat.le_refl _; exact cO_ (Kd.N_reads' HO196.out).2.2; exact (Kd.N_reads' HO196.out).2.1; rintro e w23 ⟨v198, v202, rfl, ho0, ho1, hb⟩; refine ⟨_, rfl, ?_⟩; have HO199 := Aside0.mk (Kd.N_lower (Kd.N_mono (ok' := fun k_ => some k_ ≠ (v202 : Value).ownBlock ∧ some k_ ≠ (.slice Ao22 y194.length co22 : Value).ownBlock) ho0 (fun k_ hk_ => ⟨hk_.2, (Kd.fresh' (Kd.N_lt (nA_ HO196)) k_ hk_.1)⟩)) (bs_ HB)); have HO203 := Aside0.mk (Kd.N_lower (Kd.N_mono (ok' := fun k_ => some k_ ≠ (v198 : Value).ownBlock ∧ some k_ ≠ (.slice Ao22 y194.length co22 : Value).ownBlock) ho1 (fun k_ hk_ => ⟨hk_.2, (Kd.fresh' (Kd.N_lt (nA_ HO196)) k_ hk_.1)⟩)) (bs_ HB)); replace HO196 := Aside0.mk (Kd.N_mono (Kd.N_told (Kd.N_told (Kd.N_old (nA_ HO196) hb) (Kd.N_base ho0)) (Kd.N_base ho1)) (fun _ h_ => h_.1)); replace HB := bS_ HB hb; (try clear hb ho0 ho1)) | ((with_reducible refine gate_dst (N := 1) rfl ?_); (try (refine gate_guard (by rfl) ?_; dsimp only)); refine bx_ 1 #[.slice none 0 0, .int .i64 0, .slice none 0 0] 61 ?_; intro gb205 hg w24 hbox hb; replace HO196 := Aside0.mk (Kd.N_below (Kd.N_elderB (nA_ HO196) gb205 (Nat.le_of_eq hg.symm)) hb); replace HO199 := Aside0.mk (Kd.N_below (Kd.N_elderB (nA_ HO199) gb205 (Nat.le_of_eq hg.symm)) hb); replace HO203 := Aside0.mk (Kd.N_below (Kd.N_elderB (nA_ HO203) gb205 (Nat.le_of_eq hg.symm)) hb); have BK205 := Aside0.mk (hbox); have GW205 := bG_ HB hg; have GE205 := bG_ HB hg; replace HB := bS_ HB hb; clear hb hbox hg; obtain ⟨Ao25, co25, eo25⟩ := Kd.N_slice HO199.out; subst eo25; obtain ⟨hcz26_0, hcz26_1, hcz26_2, hfz26_0, hfz26_1, hfz26_2⟩ := cz3_ BK205; obtain ⟨Ao27, co27, eo27⟩ := Kd.N_slice HO203.out; subst eo27) | ((with_reducible refine gate_callee (f := 48) rfl ?_); refine gL_ (some 19) Try.func48 #[.agg #[.slice Ao25 t197.length co25, .int .i64 t200, .slice Ao27 t201.length co27], .int .i64 10] ?_; (with_reducible refine (wal_Flush.calls k _ _ t197 t200 _ _ t201 10 t206 t209 t210 t213 _ ?_ ?_ ?_ ?_ A2.out).mono ?_); exact (Kd.N_reads' (nC_ HO199 (fun k_ hk => hk.2))).2.2; exact (Kd.N_reads' HO199.out).2.1; exact (Kd.N_reads' (nC_ HO203 (fun k_ hk => hk.2))).2.2; exact (Kd.N_reads' HO203.out).2.1; rintro e w28 ⟨v207, v211, rfl, ho0, ho1, hb⟩; refine ⟨_, rfl, ?_⟩; have HO208 := Aside0.mk (Kd.N_lower (Kd.N_mono (ok' := fun k_ => some k_ ≠ (v211 : Value).ownBlock ∧ some k_ ≠ (.slice Ao22 y194.length co22 : Value).ownBlock ∧ some k_ ≠ (.slice Ao25 t197.length co25 : Value).ownBlock ∧ some k_ ≠ (.slice Ao27 t201.length co27 : Value).ownBlock ∧ k_ ≠ gb205) (Kd.S_N (Kd.S_bound (Kd.S_apart' ho0 (Kd.S_typed ho1) (by decide)))) (fun k_ hk_ => ⟨hk_.1.2, (Kd.fresh' (Kd.N_lt (nC_ HO196 (fun k_ hk => hk.2))) k_ hk_.2.1), (Kd.fresh' (Kd.N_lt (nC_ HO199 (fun k_ hk => hk.2))) k_ hk_.2.1), (Kd.fresh' (Kd.N_lt (nC_ HO203 (fun k_ hk => hk.2))) k_ hk_.2.1), (Kd.freshB (g := gb205) (o := .cells #[.slice Ao25 t197.length co25, .int .i64 t200, .slice Ao27 t201.length co27] 61 (0, 0)) (by (with_reducible repeat (first | refine blk_drewN ?_ _ | refine blk_drew ?_ | refine blk_alloc ?_ _)); refine blk_put (cs := #[.slice Ao25 t197.length co25, .int .i64 t200, .slice none 0 0]) ?_ 2 _ rfl; (with_reducible repeat (first | refine blk_drewN ?_ _ | refine blk_drew ?_ | refine blk_alloc ?_ _)); refine blk_put (cs := #[.slice Ao25 t197.length co25, .int .i64 0, .slice none 0 0]) ?_ 1 _ rfl; (with_reducible repeat (first | refine blk_drewN ?_ _ | refine blk_drew ?_ | refine blk_alloc ?_ _)); refine blk_put (cs := #[.slice none 0 0, .int .i64 0, .slice none 0 0]) ?_ 0 _ rfl; (with_reducible repeat (first | refine blk_drewN ?_ _ | refine blk_drew ?_ | refine blk_alloc ?_ _)); exact BK205.out) k_ hk_.2.1)⟩)) (bs_ HB)); have HO212 := Aside0.mk (Kd.N_lower (Kd.N_mono (ok' := fun k_ => some k_ ≠ (v207 : Value).ownBlock ∧ some k_ ≠ (.slice Ao22 y194.length co22 : Value).ownBlock ∧ some k_ ≠ (.slice Ao25 t197.length co25 : Value).ownBlock ∧ some k_ ≠ (.slice Ao27 t201.length co27 : Value).ownBlock ∧ k_ ≠ gb205) (Kd.S_N (Kd.S_bound (Kd.S_apart' ho1 (Kd.S_typed ho0) (by decide)))) (fun k_ hk_ => ⟨hk_.1.2, (Kd.fresh' (Kd.N_lt (nC_ HO196 (fun k_ hk => hk.2))) k_ hk_.2.1), (Kd.fresh' (Kd.N_lt (nC_ HO199 (fun k_ hk => hk.2))) k_ hk_.2.1), (Kd.fresh' (Kd.N_lt (nC_ HO203 (fun k_ hk => hk.2))) k_ hk_.2.1), (Kd.freshB (g := gb205) (o := .cells #[.slice Ao25 t197.length co25, .int .i64 t200, .slice Ao27 t201.length co27] 61 (0, 0)) (by (with_reducible repeat (first | refine blk_drewN ?_ _ | refine blk_drew ?_ | refine blk_alloc ?_ _)); refine blk_put (cs := #[.slice Ao25 t197.length co25, .int .i64 t200, .slice none 0 0]) ?_ 2 _ rfl; (with_reducible repeat (first | refine blk_drewN ?_ _ | refine blk_drew ?_ | refine blk_alloc ?_ _)); refine blk_put (cs := #[.slice Ao25 t197.length co25, .int .i64 0, .slice none 0 0]) ?_ 1 _ rfl; (with_reducible repeat (first | refine blk_drewN ?_ _ | refine blk_drew ?_ | refine blk_alloc ?_ _)); refine blk_put (cs := #[.slice none 0 0, .int .i64 0, .slice none 0 0]) ?_ 0 _ rfl; (with_reducible repeat (first | refine blk_drewN ?_ _ | refine blk_drew ?_ | refine blk_alloc ?_ _)); exact BK205.out) k_ hk_.2.1)⟩)) (bs_ HB)); replace HO196 := Aside0.mk (Kd.N_mono (Kd.N_told (Kd.N_told (Kd.N_old (nC_ HO196 (fun k_ hk => hk.2)) hb) (Kd.S_base ho0)) (Kd.S_base ho1)) (fun _ h_ => h_.1)); replace HO199 := Aside0.mk (Kd.N_mono (Kd.N_told (Kd.N_told (Kd.N_old (nC_ HO199 (fun k_ hk => hk.2)) hb) (Kd.S_base ho0)) (Kd.S_base ho1)) (fun _ h_ => h_.1)); replace HO203 := Aside0.mk (Kd.N_mono (Kd.N_told (Kd.N_told (Kd.N_old (nC_ HO203 (fun k_ hk => hk.2)) hb) (Kd.S_base ho0)) (Kd.S_base ho1)) (fun _ h_ => h_.1)); replace BK205 := Aside0.mk (blk_below (g := gb205) (o := .cells #[.slice Ao25 t197.length co25, .int .i64 t200, .slice Ao27 t201.length co27] 61 (0, 0)) (by (with_reducible repeat (first | refine blk_drewN ?_ _ | refine blk_drew ?_ | refine blk_alloc ?_ _)); refine blk_put (cs := #[.slice Ao25 t197.length co25, .int .i64 t200, .slice none 0 0]) ?_ 2 _ rfl; (with_reducible repeat (first | refine blk_drewN ?_ _ | refine blk_drew ?_ | refine blk_alloc ?_ _)); refine blk_put (cs := #[.slice Ao25 t197.length co25, .int .i64 0, .slice none 0 0]) ?_ 1 _ rfl; (with_reducible repeat (first | refine blk_drewN ?_ _ | refine blk_drew ?_ | refine blk_alloc ?_ _)); refine blk_put (cs := #[.slice none 0 0, .int .i64 0, .slice none 0 0]) ?_ 0 _ rfl; (with_reducible repeat (first | refine blk_drewN ?_ _ | refine blk_drew ?_ | refine blk_alloc ?_ _)); exact BK205.out) hb); replace HB := bS_ HB hb; (try clear hb ho0 ho1); obtain ⟨Ao29, co29, eo29⟩ := Kd.N_slice HO208.out; subst eo29; obtain ⟨hcz30_0, hcz30_1, hcz30_2, hfz30_0, hfz30_1, hfz30_2⟩ := cz3_ BK205; obtain ⟨Ao31, co31, eo31⟩ := Kd.N_slice HO212.out; subst eo31) | ((with_reducible refine gate_dst (N := 27) rfl ?_); refine lit1_ 27 28 99 ?_; intro g27 w32 hg27 hb hfk; have hsz27 : g27 = w28.heap.size := (by rw [hg27]; simp only [setCell_size']; try rfl); have HK27 := Aside0.mk (hfk (fun k_ => some k_ ≠ (.slice Ao22 y194.length co22 : Value).ownBlock ∧ some k_ ≠ (.slice Ao25 t197.length co25 : Value).ownBlock ∧ some k_ ≠ (.slice Ao27 t201.length co27 : Value).ownBlock ∧ some k_ ≠ (.slice Ao29 t206.length co29 : Value).ownBlock ∧ some k_ ≠ (.slice Ao31 t210.length co31 : Value).ownBlock ∧ k_ ≠ gb205) ⟨fun e_ => by have h_ := Kd.N_lt HO196.out _ e_.symm; omega, fun e_ => by have h_ := Kd.N_lt HO199.out _ e_.symm; omega, fun e_ => by have h_ := Kd.N_lt HO203.out _ e_.symm; omega, fun e_ => by have h_ := Kd.N_lt HO208.out _ e_.symm; omega, fun e_ => by have h_ := Kd.N_lt HO212.out _ e_.symm; omega, fun e_ => by have h_ := blk_lt BK205.out; omega⟩); replace HO196 := Aside0.mk (Kd.N_elder' (u := .slice (some ⟨g27, 0, none⟩) 1 1) (nC_ HO196 (fun k_ hk => hk.1.1.2)) (fun k_ e_ => by rw [← hg27]; exact Nat.le_of_eq (by simpa [Value.ownBlock] using e_)) hb); replace HO199 := Aside0.mk (Kd.N_elder' (u := .slice (some ⟨g27, 0, none⟩) 1 1) (nC_ HO199 (fun k_ hk => hk.1.1.2)) (fun k_ e_ => by rw [← hg27]; exact Nat.le_of_eq (by simpa [Value.ownBlock] using e_)) hb); replace HO203 := Aside0.mk (Kd.N_elder' (u := .slice (some ⟨g27, 0, none⟩) 1 1) (nC_ HO203 (fun k_ hk => hk.1.1.2)) (fun k_ e_ => by rw [← hg27]; exact Nat.le_of_eq (by simpa [Value.ownBlock] using e_)) hb); replace HO208 := Aside0.mk (Kd.N_elder' (u := .slice (some ⟨g27, 0, none⟩) 1 1) (nC_ HO208 (fun k_ hk => hk.2.2.2.2)) (fun k_ e_ => by rw [← hg27]; exact Nat.le_of_eq (by simpa [Value.ownBlock] using e_)) hb); replace HO212 := Aside0.mk (Kd.N_elder' (u := .slice (some ⟨g27, 0, none⟩) 1 1) (nC_ HO212 (fun k_ hk => hk.2.2.2.2)) (fun k_ e_ => by rw [← hg27]; exact Nat.le_of_eq (by simpa [Value.ownBlock] using e_)) hb); replace BK205 := Aside0.mk (blk_below (g := gb205) (o := .cells #[.slice Ao29 t206.length co29, .int .i64 t209, .slice Ao31 t210.length co31] 61 (0, 0)) (by (with_reducible repeat (first | refine blk_drewN ?_ _ | refine blk_drew ?_ | refine blk_alloc ?_ _)); refine blk_put (cs := #[.slice Ao29 t206.length co29, .int .i64 t209, .slice Ao27 t201.length co27]) ?_ 2 _ rfl; (with_reducible repeat (first | refine blk_drewN ?_ _ | refine blk_drew ?_ | refine blk_alloc ?_ _)); refine blk_put (cs := #[.slice Ao29 t206.length co29, .int .i64 t200, .slice Ao27 t201.length co27]) ?_ 1 _ rfl; (with_reducible repeat (first | refine blk_drewN ?_ _ | refine blk_drew ?_ | refine blk_alloc ?_ _)); refine blk_put (cs := #[.slice Ao25 t197.length co25, .int .i64 t200, .slice Ao27 t201.length co27]) ?_ 0 _ rfl; (with_reducible repeat (first | refine blk_drewN ?_ _ | refine blk_drew ?_ | refine blk_alloc ?_ _)); exact BK205.out) hb); replace HB := bS_ HB hb; clear hb hfk hg27 hsz27) | ((with_reducible refine gate_dst (N := 29) rfl ?_); (try (refine gate_guard (by rfl) ?_; dsimp only)); refine Kd.N_lit (Kd.slice 5 (Kd.int .u8)) _ 26 ?hg (N' := 29) ?hd (xs := ([[99]] : List (List Int))) (inner := [.slice (some ⟨g27, 0, none⟩) 1 1]) (ok := (fun k_ => some k_ ≠ (.slice Ao22 y194.length co22 : Value).ownBlock ∧ some k_ ≠ (.slice Ao25 t197.length co25 : Value).ownBlock ∧ some k_ ≠ (.slice Ao27 t201.length co27 : Value).ownBlock ∧ some k_ ≠ (.slice Ao29 t206.length co29 : Value).ownBlock ∧ some k_ ≠ (.slice Ao31 t210.length co31 : Value).ownBlock ∧ k_ ≠ gb205)) (okp := (fun k_ => some k_ ≠ (.slice Ao22 y194.length co22 : Value).ownBlock ∧ some k_ ≠ (.slice Ao25 t197.length co25 : Value).ownBlock ∧ some k_ ≠ (.slice Ao27 t201.length co27 : Value).ownBlock ∧ some k_ ≠ (.slice Ao29 t206.length co29 : Value).ownBlock ∧ some k_ ≠ (.slice Ao31 t210.length co31 : Value).ownBlock ∧ k_ ≠ gb205)) ?hr ?hp (fun _ hk => hk) ((show ∀ k_, w32.heap.size ≤ k_ → (fun k_ => some k_ ≠ (.slice Ao22 y194.length co22 : Value).ownBlock ∧ some k_ ≠ (.slice Ao25 t197.length co25 : Value).ownBlock ∧ some k_ ≠ (.slice Ao27 t201.length co27 : Value).ownBlock ∧ some k_ ≠ (.slice Ao29 t206.length co29 : Value).ownBlock ∧ some k_ ≠ (.slice Ao31 t210.length co31 : Value).ownBlock ∧ k_ ≠ gb205) k_ from fun k_ hk => ⟨Kd.fresh' (Kd.N_lt (nA_ HO196)) k_ hk, Kd.fresh' (Kd.N_lt (nA_ HO199)) k_ hk, Kd.fresh' (Kd.N_lt (nA_ HO203)) k_ hk, Kd.fresh' (Kd.N_lt (nA_ HO208)) k_ hk, Kd.fresh' (Kd.N_lt (nA_ HO212)) k_ hk, Kd.freshB (bA_ BK205) k_ hk⟩) _ (Nat.le_refl _)) (Below.refl _ _) (Nat.le_refl _) (by simp) ?_; (case hd => rfl); (case hg => rfl); (case hr => first | (go_simp; done) | (go_simp; rfl)); (case hp => exact (Reps.one (show Kd.FK (Kd.slice 5 (Kd.int .u8)) _ _ [99] [.slice (some ⟨g27, 0, none⟩) 1 1] from HK27.out) (Reps.none _ _))); intro v218 w35 ho36 hb hg_ hnew_; clear hg_ hnew_; (first | rw [← Ny217.out] at ho36 | (simp only [Int.reduceToNat] at ho36; rw [← Ny217.out] at ho36)); replace HO196 := Aside0.mk (Kd.N_elder' (nA_ HO196) (Kd.N_base ho36) hb); replace HO199 := Aside0.mk (Kd.N_elder' (nA_ HO199) (Kd.N_base ho36) hb); replace HO203 := Aside0.mk (Kd.N_elder' (nA_ HO203) (Kd.N_base ho36) hb); replace HO208 := Aside0.mk (Kd.N_elder' (nA_ HO208) (Kd.N_base ho36) hb); replace HO212 := Aside0.mk (Kd.N_elder' (nA_ HO212) (Kd.N_base ho36) hb); have HO219 := Aside0.mk (Kd.N_lower ho36 (bs_ HB)); replace BK205 := bK_ BK205 hb; replace HB := bS_ HB hb; clear HK27; clear hb ho36; obtain ⟨Ao37, co37, eo37⟩ := Kd.N_slice HO219.out; subst eo37) | ((with_reducible refine gate_callee (f := 35) rfl ?_); refine gL_ (some 30) Try.func35 #[.agg #[.slice Ao29 t206.length co29, .int .i64 t209, .slice Ao31 t210.length co31], .slice Ao37 y217.length co37] ?_; (with_reducible refine (wal_Append.calls k _ _ t206 t209 _ _ t210 _ _ y217 t220 t223 t224 t227 _ ?_ ?_ ?_ ?_ ?_ ?_ A3.out).mono ?_); exact cO_ (Kd.N_reads' HO208.out).2.2; exact (Kd.N_reads' HO208.out).2.1; exact cO_ (Kd.N_reads' HO212.out).2.2; exact (Kd.N_reads' HO212.out).2.1; exact cO_ (Kd.N_reads' HO219.out).2.2; exact (Kd.N_reads' HO219.out).2.1; rintro e w38 ⟨v221, v225, rfl, ho0, ho1, hb⟩; refine ⟨_, rfl, ?_⟩; have HO222 := Aside0.mk (Kd.N_lower (Kd.N_mono (ok' := fun k_ => some k_ ≠ (v225 : Value).ownBlock ∧ some k_ ≠ (.slice Ao22 y194.length co22 : Value).ownBlock ∧ some k_ ≠ (.slice Ao25 t197.length co25 : Value).ownBlock ∧ some k_ ≠ (.slice Ao27 t201.length co27 : Value).ownBlock ∧ some k_ ≠ (.slice Ao29 t206.length co29 : Value).ownBlock ∧ some k_ ≠ (.slice Ao31 t210.length co31 : Value).ownBlock ∧ some k_ ≠ (.slice Ao37 y217.length co37 : Value).ownBlock ∧ k_ ≠ gb205) ho0 (fun k_ hk_ => ⟨hk_.2, (Kd.fresh' (Kd.N_lt (nA_ HO196)) k_ hk_.1), (Kd.fresh' (Kd.N_lt (nA_ HO199)) k_ hk_.1), (Kd.fresh' (Kd.N_lt (nA_ HO203)) k_ hk_.1), (Kd.fresh' (Kd.N_lt (nA_ HO208)) k_ hk_.1), (Kd.fresh' (Kd.N_lt (nA_ HO212)) k_ hk_.1), (Kd.fresh' (Kd.N_lt (nA_ HO219)) k_ hk_.1), (Kd.freshB (bA_ BK205) k_ hk_.1)⟩)) (bs_ HB)); have HO226 := Aside0.mk (Kd.N_lower (Kd.N_mono (ok' := fun k_ => some k_ ≠ (v221 : Value).ownBlock ∧ some k_ ≠ (.slice Ao22 y194.length co22 : Value).ownBlock ∧ some k_ ≠ (.slice Ao25 t197.length co25 : Value).ownBlock ∧ some k_ ≠ (.slice Ao27 t201.length co27 : Value).ownBlock ∧ some k_ ≠ (.slice Ao29 t206.length co29 : Value).ownBlock ∧ some k_ ≠ (.slice Ao31 t210.length co31 : Value).ownBlock ∧ some k_ ≠ (.slice Ao37 y217.length co37 : Value).ownBlock ∧ k_ ≠ gb205) ho1 (fun k_ hk_ => ⟨hk_.2, (Kd.fresh' (Kd.N_lt (nA_ HO196)) k_ hk_.1), (Kd.fresh' (Kd.N_lt (nA_ HO199)) k_ hk_.1), (Kd.fresh' (Kd.N_lt (nA_ HO203)) k_ hk_.1), (Kd.fresh' (Kd.N_lt (nA_ HO208)) k_ hk_.1), (Kd.fresh' (Kd.N_lt (nA_ HO212)) k_ hk_.1), (Kd.fresh' (Kd.N_lt (nA_ HO219)) k_ hk_.1), (Kd.freshB (bA_ BK205) k_ hk_.1)⟩)) (bs_ HB)); replace HO196 := Aside0.mk (Kd.N_mono (Kd.N_told (Kd.N_told (Kd.N_old (nA_ HO196) hb) (Kd.N_base ho0)) (Kd.N_base ho1)) (fun _ h_ => h_.1)); replace HO199 := Aside0.mk (Kd.N_mono (Kd.N_told (Kd.N_told (Kd.N_old (nA_ HO199) hb) (Kd.N_base ho0)) (Kd.N_base ho1)) (fun _ h_ => h_.1)); replace HO203 := Aside0.mk (Kd.N_mono (Kd.N_told (Kd.N_told (Kd.N_old (nA_ HO203) hb) (Kd.N_base ho0)) (Kd.N_base ho1)) (fun _ h_ => h_.1)); replace HO208 := Aside0.mk (Kd.N_mono (Kd.N_told (Kd.N_told (Kd.N_old (nA_ HO208) hb) (Kd.N_base ho0)) (Kd.N_base ho1)) (fun _ h_ => h_.1)); replace HO212 := Aside0.mk (Kd.N_mono (Kd.N_told (Kd.N_told (Kd.N_old (nA_ HO212) hb) (Kd.N_base ho0)) (Kd.N_base ho1)) (fun _ h_ => h_.1)); replace HO219 := Aside0.mk (Kd.N_mono (Kd.N_told (Kd.N_told (Kd.N_old (nA_ HO219) hb) (Kd.N_base ho0)) (Kd.N_base ho1)) (fun _ h_ => h_.1)); replace BK205 := bK_ BK205 hb; replace HB := bS_ HB hb; (try clear hb ho0 ho1); obtain ⟨Ao39, co39, eo39⟩ := Kd.N_slice HO222.out; subst eo39; obtain ⟨hcz40_0, hcz40_1, hcz40_2, hfz40_0, hfz40_1, hfz40_2⟩ := cz3_ BK205; obtain ⟨Ao41, co41, eo41⟩ := Kd.N_slice HO226.out; subst eo41) | ((with_reducible refine gate_callee (f := 48) rfl ?_); refine gL_ (some 35) Try.func48 #[.agg #[.slice Ao39 t220.length co39, .int .i64 t223, .slice Ao41 t224.length co41], .int .i64 10] ?_; (with_reducible refine (wal_Flush.calls k _ _ t220 t223 _ _ t224 10 t228 t231 t232 t235 _ ?side1 ?side2 ?side3 ?side4 A4.out).mono ?_); (case side1 => refine (Kd.N_reads' (e := 70) (base := w.heap.size) (ok := fun k_ => (some k_ ≠ (.slice Ao41 t224.length co41 : Value).ownBlock ∧ (some k_ ≠ (.slice Ao22 y194.length co22 : Value).ownBlock ∧ (some k_ ≠ (.slice Ao25 t197.length co25 : Value).ownBlock ∧ (some k_ ≠ (.slice Ao27 t201.length co27 : Value).ownBlock ∧ (some k_ ≠ (.slice Ao29 t206.length co29 : Value).ownBlock ∧ (some k_ ≠ (.slice Ao31 t210.length co31 : Value).ownBlock ∧ (some k_ ≠ (.slice Ao37 y217.length co37 : Value).ownBlock ∧ k_ ≠ gb205)))))))) (n := t220.length) (c := co39) ?_).2.2; exact (nC_ HO222 (fun k_ hk => hk.2.2.2.2.2.2.2))); (case side2 => exact (Kd.N_reads' HO222.out).2.1); (case side3 => refine (Kd.N_reads' (e := 26) (base := w.heap.size) (ok := fun k_ => (some k_ ≠ (.slice Ao39 t220.length co39 : Value).ownBlock ∧ (some k_ ≠ (.slice Ao22 y194.length co22 : Value).ownBlock ∧ (some k_ ≠ (.slice Ao25 t197.length co25 : Value).ownBlock ∧ (some k_ ≠ (.slice Ao27 t201.length co27 : Value).ownBlock ∧ (some k_ ≠ (.slice Ao29 t206.length co29 : Value).ownBlock ∧ (some k_ ≠ (.slice Ao31 t210.length co31 : Value).ownBlock ∧ (some k_ ≠ (.slice Ao37 y217.length co37 : Value).ownBlock ∧ k_ ≠ gb205)))))))) (n := t224.length) (c := co41) ?_).2.2; exact (nC_ HO226 (fun k_ hk => hk.2.2.2.2.2.2.2))); (case side4 => exact (Kd.N_reads' HO226.out).2.1); rintro e w42 ⟨v229, v233, rfl, ho0, ho1, hb⟩; refine ⟨_, rfl, ?_⟩; have HO230 := Aside0.mk (Kd.N_lower (Kd.N_mono (ok' := fun k_ => some k_ ≠ (v233 : Value).ownBlock ∧ some k_ ≠ (.slice Ao22 y194.length co22 : Value).ownBlock ∧ some k_ ≠ (.slice Ao25 t197.length co25 : Value).ownBlock ∧ some k_ ≠ (.slice Ao27 t201.length co27 : Value).ownBlock ∧ some k_ ≠ (.slice Ao29 t206.length co29 : Value).ownBlock ∧ some k_ ≠ (.slice Ao31 t210.length co31 : Value).ownBlock ∧ some k_ ≠ (.slice Ao37 y217.length co37 : Value).ownBlock ∧ some k_ ≠ (.slice Ao39 t220.length co39 : Value).ownBlock ∧ some k_ ≠ (.slice Ao41 t224.length co41 : Value).ownBlock ∧ k_ ≠ gb205) (Kd.S_N (Kd.S_bound (Kd.S_apart' ho0 (Kd.S_typed ho1) (by decide)))) (fun k_ hk_ => ⟨hk_.1.2, (Kd.fresh' (Kd.N_lt (nC_ HO196 (fun k_ hk => hk.1.1.1.1.1.1.2))) k_ hk_.2.1), (Kd.fresh' (Kd.N_lt (nC_ HO199 (fun k_ hk => hk.1.1.1.1.1.1.2))) k_ hk_.2.1), (Kd.fresh' (Kd.N_lt (nC_ HO203 (fun k_ hk => hk.1.1.1.1.1.1.2))) k_ hk_.2.1), (Kd.fresh' (Kd.N_lt (nC_ HO208 (fun k_ hk => hk.1.1.1.1.2.2.2.2))) k_ hk_.2.1), (Kd.fresh' (Kd.N_lt (nC_ HO212 (fun k_ hk => hk.1.1.1.1.2.2.2.2))) k_ hk_.2.1), (Kd.fresh' (Kd.N_lt (nC_ HO219 (fun k_ hk => hk.1.1.2.2.2.2.2))) k_ hk_.2.1), (Kd.fresh' (Kd.N_lt (nC_ HO222 (fun k_ hk => hk.2.2.2.2.2.2.2))) k_ hk_.2.1), (Kd.fresh' (Kd.N_lt (nC_ HO226 (fun k_ hk => hk.2.2.2.2.2.2.2))) k_ hk_.2.1), (Kd.freshB (g := gb205) (o := .cells #[.slice Ao39 t220.length co39, .int .i64 t223, .slice Ao41 t224.length co41] 61 (0, 0)) (by (with_reducible repeat (first | refine blk_drewN ?_ _ | refine blk_drew ?_ | refine blk_alloc ?_ _)); refine blk_put (cs := #[.slice Ao39 t220.length co39, .int .i64 t223, .slice Ao31 t210.length co31]) ?_ 2 _ rfl; (with_reducible repeat (first | refine blk_drewN ?_ _ | refine blk_drew ?_ | refine blk_alloc ?_ _)); refine blk_put (cs := #[.slice Ao39 t220.length co39, .int .i64 t209, .slice Ao31 t210.length co31]) ?_ 1 _ rfl; (with_reducible repeat (first | refine blk_drewN ?_ _ | refine blk_drew ?_ | refine blk_alloc ?_ _)); refine blk_put (cs := #[.slice Ao29 t206.length co29, .int .i64 t209, .slice Ao31 t210.length co31]) ?_ 0 _ rfl; (with_reducible repeat (first | refine blk_drewN ?_ _ | refine blk_drew ?_ | refine blk_alloc ?_ _)); exact BK205.out) k_ hk_.2.1)⟩)) (bs_ HB)); have HO234 := Aside0.mk (Kd.N_lower (Kd.N_mono (ok' := fun k_ => some k_ ≠ (v229 : Value).ownBlock ∧ some k_ ≠ (.slice Ao22 y194.length co22 : Value).ownBlock ∧ some k_ ≠ (.slice Ao25 t197.length co25 : Value).ownBlock ∧ some k_ ≠ (.slice Ao27 t201.length co27 : Value).ownBlock ∧ some k_ ≠ (.slice Ao29 t206.length co29 : Value).ownBlock ∧ some k_ ≠ (.slice Ao31 t210.length co31 : Value).ownBlock ∧ some k_ ≠ (.slice Ao37 y217.length co37 : Value).ownBlock ∧ some k_ ≠ (.slice Ao39 t220.length co39 : Value).ownBlock ∧ some k_ ≠ (.slice Ao41 t224.length co41 : Value).ownBlock ∧ k_ ≠ gb205) (Kd.S_N (Kd.S_bound (Kd.S_apart' ho1 (Kd.S_typed ho0) (by decide)))) (fun k_ hk_ => ⟨hk_.1.2, (Kd.fresh' (Kd.N_lt (nC_ HO196 (fun k_ hk => hk.1.1.1.1.1.1.2))) k_ hk_.2.1), (Kd.fresh' (Kd.N_lt (nC_ HO199 (fun k_ hk => hk.1.1.1.1.1.1.2))) k_ hk_.2.1), (Kd.fresh' (Kd.N_lt (nC_ HO203 (fun k_ hk => hk.1.1.1.1.1.1.2))) k_ hk_.2.1), (Kd.fresh' (Kd.N_lt (nC_ HO208 (fun k_ hk => hk.1.1.1.1.2.2.2.2))) k_ hk_.2.1), (Kd.fresh' (Kd.N_lt (nC_ HO212 (fun k_ hk => hk.1.1.1.1.2.2.2.2))) k_ hk_.2.1), (Kd.fresh' (Kd.N_lt (nC_ HO219 (fun k_ hk => hk.1.1.2.2.2.2.2))) k_ hk_.2.1), (Kd.fresh' (Kd.N_lt (nC_ HO222 (fun k_ hk => hk.2.2.2.2.2.2.2))) k_ hk_.2.1), (Kd.fresh' (Kd.N_lt (nC_ HO226 (fun k_ hk => hk.2.2.2.2.2.2.2))) k_ hk_.2.1), (Kd.freshB (g := gb205) (o := .cells #[.slice Ao39 t220.length co39, .int .i64 t223, .slice Ao41 t224.length co41] 61 (0, 0)) (by (with_reducible repeat (first | refine blk_drewN ?_ _ | refine blk_drew ?_ | refine blk_alloc ?_ _)); refine blk_put (cs := #[.slice Ao39 t220.length co39, .int .i64 t223, .slice Ao31 t210.length co31]) ?_ 2 _ rfl; (with_reducible repeat (first | refine blk_drewN ?_ _ | refine blk_drew ?_ | refine blk_alloc ?_ _)); refine blk_put (cs := #[.slice Ao39 t220.length co39, .int .i64 t209, .slice Ao31 t210.length co31]) ?_ 1 _ rfl; (with_reducible repeat (first | refine blk_drewN ?_ _ | refine blk_drew ?_ | refine blk_alloc ?_ _)); refine blk_put (cs := #[.slice Ao29 t206.length co29, .int .i64 t209, .slice Ao31 t210.length co31]) ?_ 0 _ rfl; (with_reducible repeat (first | refine blk_drewN ?_ _ | refine blk_drew ?_ | refine blk_alloc ?_ _)); exact BK205.out) k_ hk_.2.1)⟩)) (bs_ HB)); replace HO196 := Aside0.mk (Kd.N_mono (Kd.N_told (Kd.N_told (Kd.N_old (nC_ HO196 (fun k_ hk => hk.1.1.1.1.1.1.2)) hb) (Kd.S_base ho0)) (Kd.S_base ho1)) (fun _ h_ => h_.1)); replace HO199 := Aside0.mk (Kd.N_mono (Kd.N_told (Kd.N_told (Kd.N_old (nC_ HO199 (fun k_ hk => hk.1.1.1.1.1.1.2)) hb) (Kd.S_base ho0)) (Kd.S_base ho1)) (fun _ h_ => h_.1)); replace HO203 := Aside0.mk (Kd.N_mono (Kd.N_told (Kd.N_told (Kd.N_old (nC_ HO203 (fun k_ hk => hk.1.1.1.1.1.1.2)) hb) (Kd.S_base ho0)) (Kd.S_base ho1)) (fun _ h_ => h_.1)); replace HO208 := Aside0.mk (Kd.N_mono (Kd.N_told (Kd.N_told (Kd.N_old (nC_ HO208 (fun k_ hk => hk.1.1.1.1.2.2.2.2)) hb) (Kd.S_base ho0)) (Kd.S_base ho1)) (fun _ h_ => h_.1)); replace HO212 := Aside0.mk (Kd.N_mono (Kd.N_told (Kd.N_told (Kd.N_old (nC_ HO212 (fun k_ hk => hk.1.1.1.1.2.2.2.2)) hb) (Kd.S_base ho0)) (Kd.S_base ho1)) (fun _ h_ => h_.1)); replace HO219 := Aside0.mk (Kd.N_mono (Kd.N_told (Kd.N_told (Kd.N_old (nC_ HO219 (fun k_ hk => hk.1.1.2.2.2.2.2)) hb) (Kd.S_base ho0)) (Kd.S_base ho1)) (fun _ h_ => h_.1)); replace HO222 := Aside0.mk (Kd.N_mono (Kd.N_told (Kd.N_told (Kd.N_old (nC_ HO222 (fun k_ hk => hk.2.2.2.2.2.2.2)) hb) (Kd.S_base ho0)) (Kd.S_base ho1)) (fun _ h_ => h_.1)); replace HO226 := Aside0.mk (Kd.N_mono (Kd.N_told (Kd.N_told (Kd.N_old (nC_ HO226 (fun k_ hk => hk.2.2.2.2.2.2.2)) hb) (Kd.S_base ho0)) (Kd.S_base ho1)) (fun _ h_ => h_.1)); replace BK205 := Aside0.mk (blk_below (g := gb205) (o := .cells #[.slice Ao39 t220.length co39, .int .i64 t223, .slice Ao41 t224.length co41] 61 (0, 0)) (by (with_reducible repeat (first | refine blk_drewN ?_ _ | refine blk_drew ?_ | refine blk_alloc ?_ _)); refine blk_put (cs := #[.slice Ao39 t220.length co39, .int .i64 t223, .slice Ao31 t210.length co31]) ?_ 2 _ rfl; (with_reducible repeat (first | refine blk_drewN ?_ _ | refine blk_drew ?_ | refine blk_alloc ?_ _)); refine blk_put (cs := #[.slice Ao39 t220.length co39, .int .i64 t209, .slice Ao31 t210.length co31]) ?_ 1 _ rfl; (with_reducible repeat (first | refine blk_drewN ?_ _ | refine blk_drew ?_ | refine blk_alloc ?_ _)); refine blk_put (cs := #[.slice Ao29 t206.length co29, .int .i64 t209, .slice Ao31 t210.length co31]) ?_ 0 _ rfl; (with_reducible repeat (first | refine blk_drewN ?_ _ | refine blk_drew ?_ | refine blk_alloc ?_ _)); exact BK205.out) hb); replace HB := bS_ HB hb; (try clear hb ho0 ho1); obtain ⟨Ao43, co43, eo43⟩ := Kd.N_slice HO230.out; subst eo43; obtain ⟨hcz44_0, hcz44_1, hcz44_2, hfz44_0, hfz44_1, hfz44_2⟩ := cz3_ BK205; obtain ⟨Ao45, co45, eo45⟩ := Kd.N_slice HO234.out; subst eo45) | ((with_reducible refine gate_store (t := 61) (p := 1) rfl ?_); refine store_event (t := 61) (p := 1) (v := ?vo_w46) (w1 := (((w42.setCell ⟨gb205, 0, none⟩ (.slice Ao43 t228.length co43)).setCell ⟨gb205, 1, none⟩ (.int .i64 t231)).setCell ⟨gb205, 2, none⟩ (.slice Ao45 t232.length co45))) ?hg ?ho ?hn ?hr ?_; (case ho => rfl); (case hg => rfl); (case hn => rfl); (case hr => first | (go_simp; done) | (go_simp; rfl)); intro w46 hw; replace HO196 : Aside0 (Kd.N (Kd.slice 5 (Kd.int .u8)) 26 w46 w.heap.size (fun k_ => some k_ ≠ (.slice Ao25 t197.length co25 : Value).ownBlock ∧ some k_ ≠ (.slice Ao27 t201.length co27 : Value).ownBlock ∧ some k_ ≠ (.slice Ao29 t206.length co29 : Value).ownBlock ∧ some k_ ≠ (.slice Ao31 t210.length co31 : Value).ownBlock ∧ some k_ ≠ (.slice Ao37 y217.length co37 : Value).ownBlock ∧ some k_ ≠ (.slice Ao39 t220.length co39 : Value).ownBlock ∧ some k_ ≠ (.slice Ao41 t224.length co41 : Value).ownBlock ∧ some k_ ≠ (.slice Ao43 t228.length co43 : Value).ownBlock ∧ some k_ ≠ (.slice Ao45 t232.length co45 : Value).ownBlock ∧ k_ ≠ gb205) (.slice Ao22 y194.length co22) y194) := ⟨(by rw [hw]; exact (Kd.N_mono (nD_ HO196 (fun k_ hk => hk.1.1.1.1.1.1.1.1.2)) (fun _ hk => ⟨hk.1.1.1.1.1.1.1.1.1.1.1.2, ⟨hk.1.1.1.1.1.1.1.1.1.1.2, ⟨hk.1.1.1.1.1.1.1.1.2, ⟨hk.1.1.1.1.1.1.1.2, ⟨hk.1.1.1.1.1.2, ⟨hk.1.1.1.1.2, ⟨hk.1.1.1.2, ⟨hk.1.1.2, ⟨hk.1.2, hk.1.1.1.1.1.1.1.1.1.2⟩⟩⟩⟩⟩⟩⟩⟩⟩)))⟩; replace HO199 : Aside0 (Kd.N k70 70 w46 w.heap.size (fun k_ => some k_ ≠ (.slice Ao22 y194.length co22 : Value).ownBlock ∧ some k_ ≠ (.slice Ao27 t201.length co27 : Value).ownBlock ∧ some k_ ≠ (.slice Ao29 t206.length co29 : Value).ownBlock ∧ some k_ ≠ (.slice Ao31 t210.length co31 : Value).ownBlock ∧ some k_ ≠ (.slice Ao37 y217.length co37 : Value).ownBlock ∧ some k_ ≠ (.slice Ao39 t220.length co39 : Value).ownBlock ∧ some k_ ≠ (.slice Ao41 t224.length co41 : Value).ownBlock ∧ some k_ ≠ (.slice Ao43 t228.length co43 : Value).ownBlock ∧ some k_ ≠ (.slice Ao45 t232.length co45 : Value).ownBlock ∧ k_ ≠ gb205) (.slice Ao25 t197.length co25) t197) := ⟨(by rw [hw]; exact (Kd.N_mono (nD_ HO199 (fun k_ hk => hk.1.1.1.1.1.1.1.1.2)) (fun _ hk => ⟨hk.1.1.1.1.1.1.1.1.1.1.2, ⟨hk.1.1.1.1.1.1.1.1.1.1.1, ⟨hk.1.1.1.1.1.1.1.1.2, ⟨hk.1.1.1.1.1.1.1.2, ⟨hk.1.1.1.1.1.2, ⟨hk.1.1.1.1.2, ⟨hk.1.1.1.2, ⟨hk.1.1.2, ⟨hk.1.2, hk.1.1.1.1.1.1.1.1.1.2⟩⟩⟩⟩⟩⟩⟩⟩⟩)))⟩; replace HO203 : Aside0 (Kd.N (Kd.slice 5 (Kd.int .u8)) 26 w46 w.heap.size (fun k_ => some k_ ≠ (.slice Ao22 y194.length co22 : Value).ownBlock ∧ some k_ ≠ (.slice Ao25 t197.length co25 : Value).ownBlock ∧ some k_ ≠ (.slice Ao29 t206.length co29 : Value).ownBlock ∧ some k_ ≠ (.slice Ao31 t210.length co31 : Value).ownBlock ∧ some k_ ≠ (.slice Ao37 y217.length co37 : Value).ownBlock ∧ some k_ ≠ (.slice Ao39 t220.length co39 : Value).ownBlock ∧ some k_ ≠ (.slice Ao41 t224.length co41 : Value).ownBlock ∧ some k_ ≠ (.slice Ao43 t228.length co43 : Value).ownBlock ∧ some k_ ≠ (.slice Ao45 t232.length co45 : Value).ownBlock ∧ k_ ≠ gb205) (.slice Ao27 t201.length co27) t201) := ⟨(by rw [hw]; exact (Kd.N_mono (nD_ HO203 (fun k_ hk => hk.1.1.1.1.1.1.1.1.2)) (fun _ hk => ⟨hk.1.1.1.1.1.1.1.1.1.1.2, ⟨hk.1.1.1.1.1.1.1.1.1.1.1, ⟨hk.1.1.1.1.1.1.1.1.2, ⟨hk.1.1.1.1.1.1.1.2, ⟨hk.1.1.1.1.1.2, ⟨hk.1.1.1.1.2, ⟨hk.1.1.1.2, ⟨hk.1.1.2, ⟨hk.1.2, hk.1.1.1.1.1.1.1.1.1.2⟩⟩⟩⟩⟩⟩⟩⟩⟩)))⟩; replace HO208 : Aside0 (Kd.N k70 70 w46 w.heap.size (fun k_ => some k_ ≠ (.slice Ao22 y194.length co22 : Value).ownBlock ∧ some k_ ≠ (.slice Ao25 t197.length co25 : Value).ownBlock ∧ some k_ ≠ (.slice Ao27 t201.length co27 : Value).ownBlock ∧ some k_ ≠ (.slice Ao31 t210.length co31 : Value).ownBlock ∧ some k_ ≠ (.slice Ao37 y217.length co37 : Value).ownBlock ∧ some k_ ≠ (.slice Ao39 t220.length co39 : Value).ownBlock ∧ some k_ ≠ (.slice Ao41 t224.length co41 : Value).ownBlock ∧ some k_ ≠ (.slice Ao43 t228.length co43 : Value).ownBlock ∧ some k_ ≠ (.slice Ao45 t232.length co45 : Value).ownBlock ∧ k_ ≠ gb205) (.slice Ao29 t206.length co29) t206) := ⟨(by rw [hw]; exact (Kd.N_mono (nD_ HO208 (fun k_ hk => hk.1.1.1.1.1.1.2.2.2.2)) (fun _ hk => ⟨hk.1.1.1.1.1.1.1.2.1, ⟨hk.1.1.1.1.1.1.1.2.2.1, ⟨hk.1.1.1.1.1.1.1.2.2.2.1, ⟨hk.1.1.1.1.1.1.1.1, ⟨hk.1.1.1.1.1.2, ⟨hk.1.1.1.1.2, ⟨hk.1.1.1.2, ⟨hk.1.1.2, ⟨hk.1.2, hk.1.1.1.1.1.1.1.2.2.2.2⟩⟩⟩⟩⟩⟩⟩⟩⟩)))⟩; replace HO212 : Aside0 (Kd.N (Kd.slice 5 (Kd.int .u8)) 26 w46 w.heap.size (fun k_ => some k_ ≠ (.slice Ao22 y194.length co22 : Value).ownBlock ∧ some k_ ≠ (.slice Ao25 t197.length co25 : Value).ownBlock ∧ some k_ ≠ (.slice Ao27 t201.length co27 : Value).ownBlock ∧ some k_ ≠ (.slice Ao29 t206.length co29 : Value).ownBlock ∧ some k_ ≠ (.slice Ao37 y217.length co37 : Value).ownBlock ∧ some k_ ≠ (.slice Ao39 t220.length co39 : Value).ownBlock ∧ some k_ ≠ (.slice Ao41 t224.length co41 : Value).ownBlock ∧ some k_ ≠ (.slice Ao43 t228.length co43 : Value).ownBlock ∧ some k_ ≠ (.slice Ao45 t232.length co45 : Value).ownBlock ∧ k_ ≠ gb205) (.slice Ao31 t210.length co31) t210) := ⟨(by rw [hw]; exact (Kd.N_mono (nD_ HO212 (fun k_ hk => hk.1.1.1.1.1.1.2.2.2.2)) (fun _ hk => ⟨hk.1.1.1.1.1.1.1.2.1, ⟨hk.1.1.1.1.1.1.1.2.2.1, ⟨hk.1.1.1.1.1.1.1.2.2.2.1, ⟨hk.1.1.1.1.1.1.1.1, ⟨hk.1.1.1.1.1.2, ⟨hk.1.1.1.1.2, ⟨hk.1.1.1.2, ⟨hk.1.1.2, ⟨hk.1.2, hk.1.1.1.1.1.1.1.2.2.2.2⟩⟩⟩⟩⟩⟩⟩⟩⟩)))⟩; replace HO219 : Aside0 (Kd.N (Kd.slice 5 (Kd.int .u8)) 26 w46 w.heap.size (fun k_ => some k_ ≠ (.slice Ao22 y194.length co22 : Value).ownBlock ∧ some k_ ≠ (.slice Ao25 t197.length co25 : Value).ownBlock ∧ some k_ ≠ (.slice Ao27 t201.length co27 : Value).ownBlock ∧ some k_ ≠ (.slice Ao29 t206.length co29 : Value).ownBlock ∧ some k_ ≠ (.slice Ao31 t210.length co31 : Value).ownBlock ∧ some k_ ≠ (.slice Ao39 t220.length co39 : Value).ownBlock ∧ some k_ ≠ (.slice Ao41 t224.length co41 : Value).ownBlock ∧ some k_ ≠ (.slice Ao43 t228.length co43 : Value).ownBlock ∧ some k_ ≠ (.slice Ao45 t232.length co45 : Value).ownBlock ∧ k_ ≠ gb205) (.slice Ao37 y217.length co37) y217) := ⟨(by rw [hw]; exact (Kd.N_mono (nD_ HO219 (fun k_ hk => hk.1.1.1.1.2.2.2.2.2)) (fun _ hk => ⟨hk.1.1.1.1.1.1, ⟨hk.1.1.1.1.1.2.1, ⟨hk.1.1.1.1.1.2.2.1, ⟨hk.1.1.1.1.1.2.2.2.1, ⟨hk.1.1.1.1.1.2.2.2.2.1, ⟨hk.1.1.1.1.2, ⟨hk.1.1.1.2, ⟨hk.1.1.2, ⟨hk.1.2, hk.1.1.1.1.1.2.2.2.2.2⟩⟩⟩⟩⟩⟩⟩⟩⟩)))⟩; replace HO222 : Aside0 (Kd.N k70 70 w46 w.heap.size (fun k_ => some k_ ≠ (.slice Ao22 y194.length co22 : Value).ownBlock ∧ some k_ ≠ (.slice Ao25 t197.length co25 : Value).ownBlock ∧ some k_ ≠ (.slice Ao27 t201.length co27 : Value).ownBlock ∧ some k_ ≠ (.slice Ao29 t206.length co29 : Value).ownBlock ∧ some k_ ≠ (.slice Ao31 t210.length co31 : Value).ownBlock ∧ some k_ ≠ (.slice Ao37 y217.length co37 : Value).ownBlock ∧ some k_ ≠ (.slice Ao41 t224.length co41 : Value).ownBlock ∧ some k_ ≠ (.slice Ao43 t228.length co43 : Value).ownBlock ∧ some k_ ≠ (.slice Ao45 t232.length co45 : Value).ownBlock ∧ k_ ≠ gb205) (.slice Ao39 t220.length co39) t220) := ⟨(by rw [hw]; exact (Kd.N_mono (nD_ HO222 (fun k_ hk => hk.1.1.2.2.2.2.2.2.2)) (fun _ hk => ⟨hk.1.1.1.2.1, ⟨hk.1.1.1.2.2.1, ⟨hk.1.1.1.2.2.2.1, ⟨hk.1.1.1.2.2.2.2.1, ⟨hk.1.1.1.2.2.2.2.2.1, ⟨hk.1.1.1.2.2.2.2.2.2.1, ⟨hk.1.1.1.1, ⟨hk.1.1.2, ⟨hk.1.2, hk.1.1.1.2.2.2.2.2.2.2⟩⟩⟩⟩⟩⟩⟩⟩⟩)))⟩; replace HO226 : Aside0 (Kd.N (Kd.slice 5 (Kd.int .u8)) 26 w46 w.heap.size (fun k_ => some k_ ≠ (.slice Ao22 y194.length co22 : Value).ownBlock ∧ some k_ ≠ (.slice Ao25 t197.length co25 : Value).ownBlock ∧ some k_ ≠ (.slice Ao27 t201.length co27 : Value).ownBlock ∧ some k_ ≠ (.slice Ao29 t206.length co29 : Value).ownBlock ∧ some k_ ≠ (.slice Ao31 t210.length co31 : Value).ownBlock ∧ some k_ ≠ (.slice Ao37 y217.length co37 : Value).ownBlock ∧ some k_ ≠ (.slice Ao39 t220.length co39 : Value).ownBlock ∧ some k_ ≠ (.slice Ao43 t228.length co43 : Value).ownBlock ∧ some k_ ≠ (.slice Ao45 t232.length co45 : Value).ownBlock ∧ k_ ≠ gb205) (.slice Ao41 t224.length co41) t224) := ⟨(by rw [hw]; exact (Kd.N_mono (nD_ HO226 (fun k_ hk => hk.1.1.2.2.2.2.2.2.2)) (fun _ hk => ⟨hk.1.1.1.2.1, ⟨hk.1.1.1.2.2.1, ⟨hk.1.1.1.2.2.2.1, ⟨hk.1.1.1.2.2.2.2.1, ⟨hk.1.1.1.2.2.2.2.2.1, ⟨hk.1.1.1.2.2.2.2.2.2.1, ⟨hk.1.1.1.1, ⟨hk.1.1.2, ⟨hk.1.2, hk.1.1.1.2.2.2.2.2.2.2⟩⟩⟩⟩⟩⟩⟩⟩⟩)))⟩; replace HO230 : Aside0 (Kd.N k70 70 w46 w.heap.size (fun k_ => some k_ ≠ (.slice Ao22 y194.length co22 : Value).ownBlock ∧ some k_ ≠ (.slice Ao25 t197.length co25 : Value).ownBlock ∧ some k_ ≠ (.slice Ao27 t201.length co27 : Value).ownBlock ∧ some k_ ≠ (.slice Ao29 t206.length co29 : Value).ownBlock ∧ some k_ ≠ (.slice Ao31 t210.length co31 : Value).ownBlock ∧ some k_ ≠ (.slice Ao37 y217.length co37 : Value).ownBlock ∧ some k_ ≠ (.slice Ao39 t220.length co39 : Value).ownBlock ∧ some k_ ≠ (.slice Ao41 t224.length co41 : Value).ownBlock ∧ some k_ ≠ (.slice Ao45 t232.length co45 : Value).ownBlock ∧ k_ ≠ gb205) (.slice Ao43 t228.length co43) t228) := ⟨(by rw [hw]; exact (Kd.N_mono (nD_ HO230 (fun k_ hk => hk.2.2.2.2.2.2.2.2.2)) (fun _ hk => ⟨hk.1.2.1, ⟨hk.1.2.2.1, ⟨hk.1.2.2.2.1, ⟨hk.1.2.2.2.2.1, ⟨hk.1.2.2.2.2.2.1, ⟨hk.1.2.2.2.2.2.2.1, ⟨hk.1.2.2.2.2.2.2.2.1, ⟨hk.1.2.2.2.2.2.2.2.2.1, ⟨hk.1.1, hk.1.2.2.2.2.2.2.2.2.2⟩⟩⟩⟩⟩⟩⟩⟩⟩)))⟩; replace HO234 : Aside0 (Kd.N (Kd.slice 5 (Kd.int .u8)) 26 w46 w.heap.size (fun k_ => some k_ ≠ (.slice Ao22 y194.length co22 : Value).ownBlock ∧ some k_ ≠ (.slice Ao25 t197.length co25 : Value).ownBlock ∧ some k_ ≠ (.slice Ao27 t201.length co27 : Value).ownBlock ∧ some k_ ≠ (.slice Ao29 t206.length co29 : Value).ownBlock ∧ some k_ ≠ (.slice Ao31 t210.length co31 : Value).ownBlock ∧ some k_ ≠ (.slice Ao37 y217.length co37 : Value).ownBlock ∧ some k_ ≠ (.slice Ao39 t220.length co39 : Value).ownBlock ∧ some k_ ≠ (.slice Ao41 t224.length co41 : Value).ownBlock ∧ some k_ ≠ (.slice Ao43 t228.length co43 : Value).ownBlock ∧ k_ ≠ gb205) (.slice Ao45 t232.length co45) t232) := ⟨(by rw [hw]; exact (Kd.N_mono (nD_ HO234 (fun k_ hk => hk.2.2.2.2.2.2.2.2.2)) (fun _ hk => ⟨hk.1.2.1, ⟨hk.1.2.2.1, ⟨hk.1.2.2.2.1, ⟨hk.1.2.2.2.2.1, ⟨hk.1.2.2.2.2.2.1, ⟨hk.1.2.2.2.2.2.2.1, ⟨hk.1.2.2.2.2.2.2.2.1, ⟨hk.1.2.2.2.2.2.2.2.2.1, ⟨hk.1.1, hk.1.2.2.2.2.2.2.2.2.2⟩⟩⟩⟩⟩⟩⟩⟩⟩)))⟩; replace BK205 : Aside0 (w46.heap[gb205]? = some (.cells #[.slice Ao43 t228.length co43, .int .i64 t231, .slice Ao45 t232.length co45] 61 (0, 0))) := ⟨(by rw [hw]; exact (by (with_reducible repeat (first | refine blk_drewN ?_ _ | refine blk_drew ?_ | refine blk_alloc ?_ _)); refine blk_put (cs := #[.slice Ao43 t228.length co43, .int .i64 t231, .slice Ao41 t224.length co41]) ?_ 2 _ rfl; (with_reducible repeat (first | refine blk_drewN ?_ _ | refine blk_drew ?_ | refine blk_alloc ?_ _)); refine blk_put (cs := #[.slice Ao43 t228.length co43, .int .i64 t223, .slice Ao41 t224.length co41]) ?_ 1 _ rfl; (with_reducible repeat (first | refine blk_drewN ?_ _ | refine blk_drew ?_ | refine blk_alloc ?_ _)); refine blk_put (cs := #[.slice Ao39 t220.length co39, .int .i64 t223, .slice Ao41 t224.length co41]) ?_ 0 _ rfl; (with_reducible repeat (first | refine blk_drewN ?_ _ | refine blk_drew ?_ | refine blk_alloc ?_ _)); exact BK205.out))⟩; replace HB : Aside0 (Below w.heap.size w w46) := ⟨(by rw [hw]; exact (bl_ HB))⟩; clear hw) | ((with_reducible refine gate_callee (f := 36) rfl ?_); refine gL_ (some 39) Try.func36 #[.int .i64 t204] ?_; (with_reducible refine (transeptlaw08_num.calls t204 t236 _ A5.out).mono ?_); rintro e w' ⟨rfl, ⟨nd, rfl⟩⟩; refine ⟨_, rfl, ?_⟩) | ((with_reducible refine gate_callee (f := 36) rfl ?_); refine gL_ (some 41) Try.func36 #[.int .i64 t213] ?_; (with_reducible refine (transeptlaw08_num.calls t213 t237 _ A6.out).mono ?_); rintro e w' ⟨rfl, ⟨nd, rfl⟩⟩; refine ⟨_, rfl, ?_⟩) | ((with_reducible refine gate_callee (f := 36) rfl ?_); refine gL_ (some 44) Try.func36 #[.int .i64 t227] ?_; (with_reducible refine (transeptlaw08_num.calls t227 t238 _ A7.out).mono ?_); rintro e w' ⟨rfl, ⟨nd, rfl⟩⟩; refine ⟨_, rfl, ?_⟩) | ((with_reducible refine gate_callee (f := 36) rfl ?_); refine gL_ (some 47) Try.func36 #[.int .i64 t235] ?_; (with_reducible refine (transeptlaw08_num.calls t235 t239 _ A8.out).mono ?_); rintro e w' ⟨rfl, ⟨nd, rfl⟩⟩; refine ⟨_, rfl, ?_⟩; obtain ⟨hcz47_0, hcz47_1, hcz47_2, hfz47_0, hfz47_1, hfz47_2⟩ := cz3_ BK205; have p240 : 0 ≤ (1 : Int) := (by omega); have q240 : 1 < (t228.length : Int) := of_decide_eq_true (by first | (with_reducible assumption) | assumption); obtain ⟨ad240, A240_1, c240_1, e240, hx240_0, hx240_1, hl240_1, hi240_1⟩ := at_T70 (Kd.N_reads' HO230.out).2.2 1 p240 q240; cases e240; obtain ⟨ce240, hce240, hMe240, hcc240⟩ := Kd.N_get HO230.out z70 1 p240 (by first | exact q240 | exact of_decide_eq_true (by first | (with_reducible assumption) | assumption) | (have e_ := (Kd.N_reads' HO230.out).1; omega)); obtain ⟨ua240_1, uc240_1, rfl, ul240_1, ge240_1⟩ := k70_openF hMe240; have hv240_1 := hcc240 1 _ rfl; rw [add_field _ _ 1 (by omega)] at hv240_1; replace hv240_1 := Option.some.inj (hv240_1.symm.trans hx240_1); injection hv240_1 with hva_ hvn_ hvc_; rw [hva_] at ge240_1; rw [hvc_] at ul240_1; have HL240_1 := Aside0.mk (show Kd.V (Kd.int .u8) 5 _ w.heap.size _ _ ((rd_T70 t228 1).f1) from Kd.V_mk ul240_1 ge240_1); clear hva_ hvn_ hvc_ ge240_1 ul240_1; clear hcc240 hce240; (try simp only [show (1 : Int).toNat = 1 from rfl, Nat.reduceMul, Nat.reduceEqDiff, Go.Addr.add, ↓reduceIte] at hx240_0); (try simp only [show (1 : Int).toNat = 1 from rfl, Nat.reduceMul, Nat.reduceEqDiff, Go.Addr.add, ↓reduceIte] at hx240_1); have qi240 : (1 < t228.length) = True := eq_true (by omega); (try rw [show ((1 : Int)).toNat = 1 from rfl] at hx240_0); (try rw [show 1 * 2 = 2 from rfl] at hx240_0); (try rw [show ((1 : Int)).toNat = 1 from rfl] at hx240_1); (try rw [show 1 * 2 = 2 from rfl] at hx240_1); have HR240_1 := Aside0.mk hi240_1; have HC240_1 := Aside0.mk hl240_1; clear hi240_1 hl240_1; replace p240 := eq_true p240; replace q240 := eq_true q240))
 go_ret
 exact ⟨fin_, bl_ HB⟩
end
end Go.Proofs.Ytooabchnbmnchaa.Q
namespace Go.Proofs.Ytooabchnbmnchaa.Q
open Go.RowKit Go.Proofs.YtooabchnbmnchaaW.PrintWords Go.Proofs.YtooabchnbmnchaaW.PrintLast Go.Proofs.YtooabchnbmnchaaW.PrintMore
attribute [local go_sem] max2_int min2_int max_two min_two max_three min_three max_four min_four binOp_string_leq binOp_string_geq binOp_string_gtr   -- for this text's walks alone
set_option linter.unusedVariables false
set_option linter.unusedSimpArgs false
def transeptplain_SameBytes.l0 : Nat → List Int → List Int → Int → Option (Bool)
 | 0, _, _, _ => none
 | k + 1, x0, x1, x5 => if x5 < (x0.length : Int) then (if 0 ≤ x5 then (if x5 < (x1.length : Int) then (if (rd x0 x5) = (rd x1 x5) then (transeptplain_SameBytes.l0 k x0 x1 (wrap64 (x5 + 1))) else (some false)) else (none)) else (none)) else (some true)
def transeptplain_SameBytes.f (k : Nat) (l0 : List Int) (l1 : List Int) : Option (Bool) := if (l0.length : Int) = (l1.length : Int) then (transeptplain_SameBytes.l0 k l0 l1 0) else (some false)
theorem transeptplain_SameBytes.mono_l : ∀ k, (∀ y0 y1 y2, LeO (transeptplain_SameBytes.l0 k y0 y1 y2) (transeptplain_SameBytes.l0 (k + 1) y0 y1 y2))
 | 0 => fun _ _ _ r h => by simp [transeptplain_SameBytes.l0] at h
 | k + 1 => by
  have ih0 := transeptplain_SameBytes.mono_l k
  ·intro y0 y1 y2
   unfold transeptplain_SameBytes.l0
   repeat' first
   | (with_reducible exact ih0 _ _ _)
   | (with_reducible exact LeO.refl _)
   | (with_reducible exact LeO.none _)
   | (with_reducible refine LeO.ite ?_ ?_)
   | (with_reducible refine LeO.bind ?_ (fun _ => ?_))
   | exact ih0 _ _ _
   | exact LeO.none _
   | refine LeO.ite ?_ ?_
   | refine LeO.bind ?_ (fun _ => ?_)
theorem transeptplain_SameBytes.mono : ∀ a0 a1 k, LeO (transeptplain_SameBytes.f k a0 a1) (transeptplain_SameBytes.f (k + 1) a0 a1) := by
 intro a0 a1 k
 have ih0 := transeptplain_SameBytes.mono_l k
 unfold transeptplain_SameBytes.f
 repeat' first
   | (with_reducible exact ih0 _ _ _)
   | (with_reducible exact LeO.refl _)
   | (with_reducible exact LeO.none _)
   | (with_reducible refine LeO.ite ?_ ?_)
   | (with_reducible refine LeO.bind ?_ (fun _ => ?_))
   | exact ih0 _ _ _
   | exact LeO.none _
   | refine LeO.ite ?_ ?_
   | refine LeO.bind ?_ (fun _ => ?_)
set_option maxHeartbeats 8000000 in
set_option maxRecDepth 100000 in
theorem transeptplain_SameBytes.calls (k : Nat) (A0 : Option Addr) (c0 : Nat) (l0 : List Int) (A1 : Option Addr) (c1 : Nat) (l1 : List Int) (r : Bool) (w : World) (hr0 : Kd.C (Kd.int .u8) w A0 l0.length l0) (hc0 : l0.length ≤ c0) (hr1 : Kd.C (Kd.int .u8) w A1 l1.length l1) (hc1 : l1.length ≤ c1) (h : transeptplain_SameBytes.f k l0 l1 = some r) :
  Calls Try.prog 21 #[.slice A0 l0.length c0, .slice A1 l1.length c1] w fun e w' => e = .returned (.bool r) ∧ Drawn0 w w' := by
 have HR0 := Aside0.mk hr0
 have HC0 := Aside0.mk hc0
 clear hr0 hc0
 have HR1 := Aside0.mk hr1
 have HC1 := Aside0.mk hc1
 clear hr1 hc1
 have H : (if (l0.length : Int) = (l1.length : Int) then (transeptplain_SameBytes.l0 k l0 l1 0) else (some false)) = some r := h
 clear h
 by_cases c3 : (l0.length : Int) = (l1.length : Int)
 ·rw [if_pos c3] at H
  have c3b0 : ((l0.length : Int) == (l1.length : Int)) = true := beq_iff_eq.mpr c3
  have c3b1 : ((l0.length : Int) != (l1.length : Int)) = false := bne_eq_false_iff_eq.mpr c3
  have c3b2 : (l0.length == l1.length) = true := by first | simpa using c3 | (simp at c3 ⊢; omega)
  clear c3
  have H' := Aside0.mk H
  clear H
  go_enter Try.func21, Try.ntmps21
  go_wp2
  repeat (go_quiet (fail); try go_wp2)
  go_loopg [5] k (fun kq v5 w' => ∃ (x5_1 : Int), v5 = .int .i64 x5_1 ∧ Aside0 (transeptplain_SameBytes.l0 kq l0 l1 x5_1 = some r) ∧ Aside0 (kq ≤ k) ∧ Drawn0 w w')
  case atStart => exact ⟨(0), (by first | rfl | (simp; done) | (simp [*]; done)), H', ⟨Nat.le_refl _⟩, by repeat (first | exact Drawn0.refl _ | apply Drawn0.step)⟩
  case round =>
   clear H'
   try clear c1
   try clear c2
   try clear p2
   try clear c3
   try clear c3b0
   try clear c3b1
   try clear c3b2
   obtain ⟨x5_1, rfl, HA, HK1, ⟨m1, rfl⟩⟩ := hrel
   cases gk with
   | zero => exact absurd HA.out (by simp [transeptplain_SameBytes.l0])
   | succ k1 =>
    have H := HA.out
    clear HA
    simp only [transeptplain_SameBytes.l0] at H
    by_cases c4 : x5_1 < (l0.length : Int)
    ·rw [if_pos c4] at H
     have c4b0 : decide (x5_1 < (l0.length : Int)) = true := decide_eq_true c4
     clear c4
     by_cases c5 : 0 ≤ x5_1
     ·rw [if_pos c5] at H
      have c5b0 : decide (0 ≤ x5_1) = true := decide_eq_true c5
      clear c5
      by_cases c6 : x5_1 < (l1.length : Int)
      ·rw [if_pos c6] at H
       have c6b0 : decide (x5_1 < (l1.length : Int)) = true := decide_eq_true c6
       clear c6
       by_cases c7 : (rd l0 x5_1) = (rd l1 x5_1)
       ·rw [if_pos c7] at H
        have c7b0 : ((rd l0 x5_1) == (rd l1 x5_1)) = true := beq_iff_eq.mpr c7
        have c7b1 : ((rd l0 x5_1) != (rd l1 x5_1)) = false := bne_eq_false_iff_eq.mpr c7
        clear c7
        have H' := Aside0.mk H
        clear H
        have p304 : 0 ≤ (x5_1 : Int) := of_decide_eq_true (by first | (with_reducible assumption) | assumption)
        have q304 : x5_1 < (l0.length : Int) := of_decide_eq_true (by first | (with_reducible assumption) | assumption)
        obtain ⟨ad304, e304, hx304_0⟩ := Kd.at_int HR0.out x5_1 p304 q304
        cases e304
        replace p304 := eq_true p304
        replace q304 := eq_true q304
        have p305 : 0 ≤ (x5_1 : Int) := of_decide_eq_true (by first | (with_reducible assumption) | assumption)
        have q305 : x5_1 < (l1.length : Int) := of_decide_eq_true (by first | (with_reducible assumption) | assumption)
        obtain ⟨ad305, e305, hx305_0⟩ := Kd.at_int HR1.out x5_1 p305 q305
        cases e305
        replace p305 := eq_true p305
        replace q305 := eq_true q305
        go_wp2
        repeat (go_quiet (fail); try go_wp2)
        go_roundg k1
        case measure => have := HK1.out; omega
        case rel => exact ⟨(wrap64 (x5_1 + 1)), (by first | rfl | (simp; done) | (simp [*]; done)), H', ⟨by have := HK1.out; omega⟩, by repeat (first | exact Drawn0.refl _ | apply Drawn0.step)⟩
       ·rw [if_neg c7] at H
        have c7b0 : ((rd l0 x5_1) == (rd l1 x5_1)) = false := beq_eq_false_iff_ne.mpr c7
        have c7b1 : ((rd l0 x5_1) != (rd l1 x5_1)) = true := bne_iff_ne.mpr c7
        obtain rfl := Option.some.inj H
        have p304 : 0 ≤ (x5_1 : Int) := of_decide_eq_true (by first | (with_reducible assumption) | assumption)
        have q304 : x5_1 < (l0.length : Int) := of_decide_eq_true (by first | (with_reducible assumption) | assumption)
        obtain ⟨ad304, e304, hx304_0⟩ := Kd.at_int HR0.out x5_1 p304 q304
        cases e304
        replace p304 := eq_true p304
        replace q304 := eq_true q304
        have p305 : 0 ≤ (x5_1 : Int) := of_decide_eq_true (by first | (with_reducible assumption) | assumption)
        have q305 : x5_1 < (l1.length : Int) := of_decide_eq_true (by first | (with_reducible assumption) | assumption)
        obtain ⟨ad305, e305, hx305_0⟩ := Kd.at_int HR1.out x5_1 p305 q305
        cases e305
        replace p305 := eq_true p305
        replace q305 := eq_true q305
        go_wp2
        repeat (go_quiet (fail); try go_wp2)
        go_ret
        exact ⟨by first | rfl | (simp; done) | (simp [*]; done), by repeat (first | exact Drawn0.refl _ | apply Drawn0.step)⟩
      ·rw [if_neg c6] at H
       exact absurd H (by simp)
     ·rw [if_neg c5] at H
      exact absurd H (by simp)
    ·rw [if_neg c4] at H
     have c4b0 : decide (x5_1 < (l0.length : Int)) = false := decide_eq_false c4
     clear c4
     obtain rfl := Option.some.inj H
     go_wp2
     repeat (go_quiet (fail); try go_wp2)
     go_ret
     exact ⟨by first | rfl | (simp; done) | (simp [*]; done), by repeat (first | exact Drawn0.refl _ | apply Drawn0.step)⟩
 ·rw [if_neg c3] at H
  have c3b0 : ((l0.length : Int) == (l1.length : Int)) = false := beq_eq_false_iff_ne.mpr c3
  have c3b1 : ((l0.length : Int) != (l1.length : Int)) = true := bne_iff_ne.mpr c3
  have c3b2 : (l0.length == l1.length) = false := by first | simpa using c3 | (simp at c3 ⊢; omega)
  obtain rfl := Option.some.inj H
  go_enter Try.func21, Try.ntmps21
  go_wp2
  repeat (go_quiet (fail); try go_wp2)
  go_ret
  exact ⟨by first | rfl | (simp; done) | (simp [*]; done), by repeat (first | exact Drawn0.refl _ | apply Drawn0.step)⟩
end Go.Proofs.Ytooabchnbmnchaa.Q
namespace Go.Proofs.Ytooabchnbmnchaa.Q
open Go.RowKit Go.Proofs.YtooabchnbmnchaaW.PrintWords Go.Proofs.YtooabchnbmnchaaW.PrintLast Go.Proofs.YtooabchnbmnchaaW.PrintMore
attribute [local go_sem] max2_int min2_int max_two min_two max_three min_three max_four min_four binOp_string_leq binOp_string_geq binOp_string_gtr   -- for this text's walks alone
set_option linter.unusedVariables false
set_option linter.unusedSimpArgs false
def transeptplain_SameLists.l0 : Nat → List (List Int) → List (List Int) → Int → Option (Bool)
 | 0, _, _, _ => none
 | k + 1, x0, x1, x5 => if x5 < (x0.length : Int) then (if 0 ≤ x5 then (if x5 < (x1.length : Int) then ((transeptplain_SameBytes.f k (rd_L1 x0 x5) (rd_L1 x1 x5)).bind fun t308 => (if t308 = true then (transeptplain_SameLists.l0 k x0 x1 (wrap64 (x5 + 1))) else (some false))) else (none)) else (none)) else (some true)
def transeptplain_SameLists.f (k : Nat) (l0 : List (List Int)) (l1 : List (List Int)) : Option (Bool) := if (l0.length : Int) = (l1.length : Int) then (transeptplain_SameLists.l0 k l0 l1 0) else (some false)
theorem transeptplain_SameLists.mono_l : ∀ k, (∀ y0 y1 y2, LeO (transeptplain_SameLists.l0 k y0 y1 y2) (transeptplain_SameLists.l0 (k + 1) y0 y1 y2))
 | 0 => fun _ _ _ r h => by simp [transeptplain_SameLists.l0] at h
 | k + 1 => by
  have ih0 := transeptplain_SameLists.mono_l k
  ·intro y0 y1 y2
   unfold transeptplain_SameLists.l0
   repeat' first
   | (with_reducible exact ih0 _ _ _)
   | (with_reducible exact transeptplain_SameBytes.mono _ _ _)
   | (with_reducible exact LeO.refl _)
   | (with_reducible exact LeO.none _)
   | (with_reducible refine LeO.ite ?_ ?_)
   | (with_reducible refine LeO.bind ?_ (fun _ => ?_))
   | exact ih0 _ _ _
   | exact transeptplain_SameBytes.mono _ _ _
   | exact LeO.none _
   | refine LeO.ite ?_ ?_
   | refine LeO.bind ?_ (fun _ => ?_)
theorem transeptplain_SameLists.mono : ∀ a0 a1 k, LeO (transeptplain_SameLists.f k a0 a1) (transeptplain_SameLists.f (k + 1) a0 a1) := by
 intro a0 a1 k
 have ih0 := transeptplain_SameLists.mono_l k
 unfold transeptplain_SameLists.f
 repeat' first
   | (with_reducible exact ih0 _ _ _)
   | (with_reducible exact transeptplain_SameBytes.mono _ _ _)
   | (with_reducible exact LeO.refl _)
   | (with_reducible exact LeO.none _)
   | (with_reducible refine LeO.ite ?_ ?_)
   | (with_reducible refine LeO.bind ?_ (fun _ => ?_))
   | exact ih0 _ _ _
   | exact transeptplain_SameBytes.mono _ _ _
   | exact LeO.none _
   | refine LeO.ite ?_ ?_
   | refine LeO.bind ?_ (fun _ => ?_)
set_option maxHeartbeats 8000000 in
set_option maxRecDepth 100000 in
theorem transeptplain_SameLists.calls (k : Nat) (A0 : Option Addr) (c0 : Nat) (l0 : List (List Int)) (A1 : Option Addr) (c1 : Nat) (l1 : List (List Int)) (r : Bool) (w : World) (hr0 : Kd.C (Kd.slice 5 (Kd.int .u8)) w A0 l0.length l0) (hc0 : l0.length ≤ c0) (hr1 : Kd.C (Kd.slice 5 (Kd.int .u8)) w A1 l1.length l1) (hc1 : l1.length ≤ c1) (h : transeptplain_SameLists.f k l0 l1 = some r) :
  Calls Try.prog 43 #[.slice A0 l0.length c0, .slice A1 l1.length c1] w fun e w' => e = .returned (.bool r) ∧ Drawn0 w w' := by
 have HR0 := Aside0.mk hr0
 have HC0 := Aside0.mk hc0
 clear hr0 hc0
 have HR1 := Aside0.mk hr1
 have HC1 := Aside0.mk hc1
 clear hr1 hc1
 have H : (if (l0.length : Int) = (l1.length : Int) then (transeptplain_SameLists.l0 k l0 l1 0) else (some false)) = some r := h
 clear h
 by_cases c3 : (l0.length : Int) = (l1.length : Int)
 ·rw [if_pos c3] at H
  have c3b0 : ((l0.length : Int) == (l1.length : Int)) = true := beq_iff_eq.mpr c3
  have c3b1 : ((l0.length : Int) != (l1.length : Int)) = false := bne_eq_false_iff_eq.mpr c3
  have c3b2 : (l0.length == l1.length) = true := by first | simpa using c3 | (simp at c3 ⊢; omega)
  clear c3
  have H' := Aside0.mk H
  clear H
  go_enter Try.func43, Try.ntmps43
  go_wp2
  repeat (go_quiet (fail); try go_wp2)
  go_loopg [5] k (fun kq v5 w' => ∃ (x5_1 : Int), v5 = .int .i64 x5_1 ∧ Aside0 (transeptplain_SameLists.l0 kq l0 l1 x5_1 = some r) ∧ Aside0 (kq ≤ k) ∧ Drawn0 w w')
  case atStart => exact ⟨(0), (by first | rfl | (simp; done) | (simp [*]; done)), H', ⟨Nat.le_refl _⟩, by repeat (first | exact Drawn0.refl _ | apply Drawn0.step)⟩
  case round =>
   clear H'
   try clear c1
   try clear p2
   try clear c3
   try clear c3b0
   try clear c3b1
   try clear c3b2
   obtain ⟨x5_1, rfl, HA, HK1, ⟨m1, rfl⟩⟩ := hrel
   cases gk with
   | zero => exact absurd HA.out (by simp [transeptplain_SameLists.l0])
   | succ k1 =>
    have H := HA.out
    clear HA
    simp only [transeptplain_SameLists.l0] at H
    by_cases c4 : x5_1 < (l0.length : Int)
    ·rw [if_pos c4] at H
     have c4b0 : decide (x5_1 < (l0.length : Int)) = true := decide_eq_true c4
     clear c4
     by_cases c5 : 0 ≤ x5_1
     ·rw [if_pos c5] at H
      have c5b0 : decide (0 ≤ x5_1) = true := decide_eq_true c5
      clear c5
      by_cases c6 : x5_1 < (l1.length : Int)
      ·rw [if_pos c6] at H
       have c6b0 : decide (x5_1 < (l1.length : Int)) = true := decide_eq_true c6
       clear c6
       replace H := Option.bind_eq_some_iff.mp H
       obtain ⟨t308, A70, H⟩ := H
       try dsimp only at H
       have A7 := Aside0.mk A70
       clear A70
       by_cases c8 : t308 = true
       ·subst c8
        rw [if_pos rfl] at H
        have H' := Aside0.mk H
        clear H
        have p306 : 0 ≤ (x5_1 : Int) := of_decide_eq_true (by first | (with_reducible assumption) | assumption)
        have q306 : x5_1 < (l0.length : Int) := of_decide_eq_true (by first | (with_reducible assumption) | assumption)
        obtain ⟨ad306, A306_0, c306_0, e306, hx306_0, hl306_0, hi306_0⟩ := at_L1 HR0.out x5_1 p306 q306
        cases e306
        have HR306_0 := Aside0.mk hi306_0
        have HC306_0 := Aside0.mk hl306_0
        clear hi306_0 hl306_0
        replace p306 := eq_true p306
        replace q306 := eq_true q306
        have p307 : 0 ≤ (x5_1 : Int) := of_decide_eq_true (by first | (with_reducible assumption) | assumption)
        have q307 : x5_1 < (l1.length : Int) := of_decide_eq_true (by first | (with_reducible assumption) | assumption)
        obtain ⟨ad307, A307_0, c307_0, e307, hx307_0, hl307_0, hi307_0⟩ := at_L1 HR1.out x5_1 p307 q307
        cases e307
        have HR307_0 := Aside0.mk hi307_0
        have HC307_0 := Aside0.mk hl307_0
        clear hi307_0 hl307_0
        replace p307 := eq_true p307
        replace q307 := eq_true q307
        go_wp2_with (first | (go_at_call 21; (with_reducible refine (transeptplain_SameBytes.calls k1 _ _ (rd_L1 l0 x5_1) _ _ (rd_L1 l1 x5_1) true _ ?_ ?_ ?_ ?_ A7.out).mono ?_); exact cO_ HR306_0.out; exact HC306_0.out; exact cO_ HR307_0.out; exact HC307_0.out; rintro e w' ⟨rfl, ⟨nd, rfl⟩⟩; (try first | exact ⟨rfl, _, World.drewN_drewN _ _ _⟩ | exact ⟨rfl, _, Eq.trans (World.drewN_drewN _ _ _) (congrArg (World.drewN _) (Nat.add_assoc _ _ _))⟩)))
        repeat (go_quiet (first | (go_at_call 21; (with_reducible refine (transeptplain_SameBytes.calls k1 _ _ (rd_L1 l0 x5_1) _ _ (rd_L1 l1 x5_1) true _ ?_ ?_ ?_ ?_ A7.out).mono ?_); exact cO_ HR306_0.out; exact HC306_0.out; exact cO_ HR307_0.out; exact HC307_0.out; rintro e w' ⟨rfl, ⟨nd, rfl⟩⟩; (try first | exact ⟨rfl, _, World.drewN_drewN _ _ _⟩ | exact ⟨rfl, _, Eq.trans (World.drewN_drewN _ _ _) (congrArg (World.drewN _) (Nat.add_assoc _ _ _))⟩))); try go_wp2_with (first | (go_at_call 21; (with_reducible refine (transeptplain_SameBytes.calls k1 _ _ (rd_L1 l0 x5_1) _ _ (rd_L1 l1 x5_1) true _ ?_ ?_ ?_ ?_ A7.out).mono ?_); exact cO_ HR306_0.out; exact HC306_0.out; exact cO_ HR307_0.out; exact HC307_0.out; rintro e w' ⟨rfl, ⟨nd, rfl⟩⟩; (try first | exact ⟨rfl, _, World.drewN_drewN _ _ _⟩ | exact ⟨rfl, _, Eq.trans (World.drewN_drewN _ _ _) (congrArg (World.drewN _) (Nat.add_assoc _ _ _))⟩))))
        go_roundg k1
        case measure => have := HK1.out; omega
        case rel => exact ⟨(wrap64 (x5_1 + 1)), (by first | rfl | (simp; done) | (simp [*]; done)), H', ⟨by have := HK1.out; omega⟩, by repeat (first | exact Drawn0.refl _ | apply Drawn0.step)⟩
       ·replace c8 := Bool.eq_false_iff.mpr c8
        subst c8
        rw [if_neg (show ¬ (false = true) by decide)] at H
        obtain rfl := Option.some.inj H
        have p306 : 0 ≤ (x5_1 : Int) := of_decide_eq_true (by first | (with_reducible assumption) | assumption)
        have q306 : x5_1 < (l0.length : Int) := of_decide_eq_true (by first | (with_reducible assumption) | assumption)
        obtain ⟨ad306, A306_0, c306_0, e306, hx306_0, hl306_0, hi306_0⟩ := at_L1 HR0.out x5_1 p306 q306
        cases e306
        have HR306_0 := Aside0.mk hi306_0
        have HC306_0 := Aside0.mk hl306_0
        clear hi306_0 hl306_0
        replace p306 := eq_true p306
        replace q306 := eq_true q306
        have p307 : 0 ≤ (x5_1 : Int) := of_decide_eq_true (by first | (with_reducible assumption) | assumption)
        have q307 : x5_1 < (l1.length : Int) := of_decide_eq_true (by first | (with_reducible assumption) | assumption)
        obtain ⟨ad307, A307_0, c307_0, e307, hx307_0, hl307_0, hi307_0⟩ := at_L1 HR1.out x5_1 p307 q307
        cases e307
        have HR307_0 := Aside0.mk hi307_0
        have HC307_0 := Aside0.mk hl307_0
        clear hi307_0 hl307_0
        replace p307 := eq_true p307
        replace q307 := eq_true q307
        go_wp2_with (first | (go_at_call 21; (with_reducible refine (transeptplain_SameBytes.calls k1 _ _ (rd_L1 l0 x5_1) _ _ (rd_L1 l1 x5_1) false _ ?_ ?_ ?_ ?_ A7.out).mono ?_); exact cO_ HR306_0.out; exact HC306_0.out; exact cO_ HR307_0.out; exact HC307_0.out; rintro e w' ⟨rfl, ⟨nd, rfl⟩⟩; (try first | exact ⟨rfl, _, World.drewN_drewN _ _ _⟩ | exact ⟨rfl, _, Eq.trans (World.drewN_drewN _ _ _) (congrArg (World.drewN _) (Nat.add_assoc _ _ _))⟩)))
        repeat (go_quiet (first | (go_at_call 21; (with_reducible refine (transeptplain_SameBytes.calls k1 _ _ (rd_L1 l0 x5_1) _ _ (rd_L1 l1 x5_1) false _ ?_ ?_ ?_ ?_ A7.out).mono ?_); exact cO_ HR306_0.out; exact HC306_0.out; exact cO_ HR307_0.out; exact HC307_0.out; rintro e w' ⟨rfl, ⟨nd, rfl⟩⟩; (try first | exact ⟨rfl, _, World.drewN_drewN _ _ _⟩ | exact ⟨rfl, _, Eq.trans (World.drewN_drewN _ _ _) (congrArg (World.drewN _) (Nat.add_assoc _ _ _))⟩))); try go_wp2_with (first | (go_at_call 21; (with_reducible refine (transeptplain_SameBytes.calls k1 _ _ (rd_L1 l0 x5_1) _ _ (rd_L1 l1 x5_1) false _ ?_ ?_ ?_ ?_ A7.out).mono ?_); exact cO_ HR306_0.out; exact HC306_0.out; exact cO_ HR307_0.out; exact HC307_0.out; rintro e w' ⟨rfl, ⟨nd, rfl⟩⟩; (try first | exact ⟨rfl, _, World.drewN_drewN _ _ _⟩ | exact ⟨rfl, _, Eq.trans (World.drewN_drewN _ _ _) (congrArg (World.drewN _) (Nat.add_assoc _ _ _))⟩))))
        go_ret
        exact ⟨by first | rfl | (simp; done) | (simp [*]; done), by repeat (first | exact Drawn0.refl _ | apply Drawn0.step)⟩
      ·rw [if_neg c6] at H
       exact absurd H (by simp)
     ·rw [if_neg c5] at H
      exact absurd H (by simp)
    ·rw [if_neg c4] at H
     have c4b0 : decide (x5_1 < (l0.length : Int)) = false := decide_eq_false c4
     clear c4
     obtain rfl := Option.some.inj H
     go_wp2
     repeat (go_quiet (fail); try go_wp2)
     go_ret
     exact ⟨by first | rfl | (simp; done) | (simp [*]; done), by repeat (first | exact Drawn0.refl _ | apply Drawn0.step)⟩
 ·rw [if_neg c3] at H
  have c3b0 : ((l0.length : Int) == (l1.length : Int)) = false := beq_eq_false_iff_ne.mpr c3
  have c3b1 : ((l0.length : Int) != (l1.length : Int)) = true := bne_iff_ne.mpr c3
  have c3b2 : (l0.length == l1.length) = false := by first | simpa using c3 | (simp at c3 ⊢; omega)
  obtain rfl := Option.some.inj H
  go_enter Try.func43, Try.ntmps43
  go_wp2
  repeat (go_quiet (fail); try go_wp2)
  go_ret
  exact ⟨by first | rfl | (simp; done) | (simp [*]; done), by repeat (first | exact Drawn0.refl _ | apply Drawn0.step)⟩
end Go.Proofs.Ytooabchnbmnchaa.Q
