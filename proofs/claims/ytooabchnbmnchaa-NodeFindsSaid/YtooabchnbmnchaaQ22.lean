-- Laid by this session's own program (wip/tools) out of the translation; Lean checks it. Thinned, shortened and merged for this claim.
import Derived.Test.YtooabchnbmnchaaQ0
import Derived.Test.YtooabchnbmnchaaSq
import Derived.Test.YtooabchnbmnchaaQ13
import Derived.Test.YtooabchnbmnchaaQ20
namespace Go.Proofs.Ytooabchnbmnchaa.Q
open Go.RowKit Go.Proofs.YtooabchnbmnchaaW.PrintWords Go.Proofs.YtooabchnbmnchaaW.PrintLast Go.Proofs.YtooabchnbmnchaaW.PrintMore
attribute [local go_sem] max2_int min2_int max_two min_two max_three min_three max_four min_four binOp_string_leq binOp_string_geq binOp_string_gtr   -- for this text's walks alone
set_option linter.unusedVariables false
set_option linter.unusedSimpArgs false
def transeptlaw09_alive.f (k : Nat)  : Option (Bool) := (node_Encode.f k true (([(⟨#[97]⟩ : ByteArray)] : List ByteArray)) (([(⟨#[120]⟩ : ByteArray)] : List ByteArray)) ([] : List Int)).bind fun bt153 => ((node_Decode.f k bt153.1).bind fun bt157 => ((transeptlaw09_num.f bt153.2).bind fun t169 => ((transeptlaw09_num.f bt157.2.2.2.2).bind fun t170 => (if (wrap64 (t169 + t170)) = 0 then ((transeptplain_SameBytes.f k bt153.1 (([1, 1, 1, 97, 1, 120] : List Int))).bind fun t174 => (if t174 = true then (if bt157.1 = true then (some ((bt157.2.1.length : Int) == 1)) else (some false)) else (some false))) else (some false)))))
theorem transeptlaw09_alive.mono : ∀ k, LeO (transeptlaw09_alive.f k ) (transeptlaw09_alive.f (k + 1) ) := by
 intro  k
 unfold transeptlaw09_alive.f
 repeat' first
   | (with_reducible exact node_Decode.mono _ _)
   | (with_reducible exact node_Encode.mono _ _ _ _ _)
   | (with_reducible exact transeptplain_SameBytes.mono _ _ _)
   | (with_reducible exact LeO.refl _)
   | (with_reducible exact LeO.none _)
   | (with_reducible refine LeO.ite ?_ ?_)
   | (with_reducible refine LeO.bind ?_ (fun _ => ?_))
   | exact node_Decode.mono _ _
   | exact node_Encode.mono _ _ _ _ _
   | exact transeptplain_SameBytes.mono _ _ _
   | exact LeO.none _
   | refine LeO.ite ?_ ?_
   | refine LeO.bind ?_ (fun _ => ?_)
set_option maxHeartbeats 8000000 in
set_option maxRecDepth 100000 in
theorem transeptlaw09_alive.calls (k : Nat)  (r : Bool) (w : World) (h : transeptlaw09_alive.f k  = some r) :
  Calls Try.prog 15 #[] w fun e w' => e = .returned (.bool r) ∧ Below w.heap.size w w' := by
 have hu31 := Try.underlying31
 have HB := Aside0.mk (Below.refl w.heap.size w)
 have H : ((node_Encode.f k true (([(⟨#[97]⟩ : ByteArray)] : List ByteArray)) (([(⟨#[120]⟩ : ByteArray)] : List ByteArray)) ([] : List Int)).bind fun bt153 => ((node_Decode.f k bt153.1).bind fun bt157 => ((transeptlaw09_num.f bt153.2).bind fun t169 => ((transeptlaw09_num.f bt157.2.2.2.2).bind fun t170 => (if (wrap64 (t169 + t170)) = 0 then ((transeptplain_SameBytes.f k bt153.1 (([1, 1, 1, 97, 1, 120] : List Int))).bind fun t174 => (if t174 = true then (if bt157.1 = true then (some ((bt157.2.1.length : Int) == 1)) else (some false)) else (some false))) else (some false)))))) = some r := h
 clear h
 obtain ⟨y147, hy147⟩ : ∃ y_ : List ByteArray, y_ = (([(⟨#[97]⟩ : ByteArray)] : List ByteArray)) := ⟨_, rfl⟩
 replace H : ((node_Encode.f k true y147 (([(⟨#[120]⟩ : ByteArray)] : List ByteArray)) ([] : List Int)).bind fun bt153 => ((node_Decode.f k bt153.1).bind fun bt157 => ((transeptlaw09_num.f bt153.2).bind fun t169 => ((transeptlaw09_num.f bt157.2.2.2.2).bind fun t170 => (if (wrap64 (t169 + t170)) = 0 then ((transeptplain_SameBytes.f k bt153.1 (([1, 1, 1, 97, 1, 120] : List Int))).bind fun t174 => (if t174 = true then (if bt157.1 = true then (some ((bt157.2.1.length : Int) == 1)) else (some false)) else (some false))) else (some false)))))) = some r := by first | (rw [hy147]; with_reducible exact H) | (have H2_ := (Option.bind_some _ _).symm.trans H; rw [hy147]; with_reducible exact H2_) | (have H2_ := (Option.bind_some _ _).symm.trans H; with_reducible exact H2_) | with_reducible exact H | (rw [hy147]; exact H) | exact H
 have Ny147 := Aside0.mk hy147
 clear hy147
 obtain ⟨y150, hy150⟩ : ∃ y_ : List ByteArray, y_ = (([(⟨#[120]⟩ : ByteArray)] : List ByteArray)) := ⟨_, rfl⟩
 replace H : ((node_Encode.f k true y147 y150 ([] : List Int)).bind fun bt153 => ((node_Decode.f k bt153.1).bind fun bt157 => ((transeptlaw09_num.f bt153.2).bind fun t169 => ((transeptlaw09_num.f bt157.2.2.2.2).bind fun t170 => (if (wrap64 (t169 + t170)) = 0 then ((transeptplain_SameBytes.f k bt153.1 (([1, 1, 1, 97, 1, 120] : List Int))).bind fun t174 => (if t174 = true then (if bt157.1 = true then (some ((bt157.2.1.length : Int) == 1)) else (some false)) else (some false))) else (some false)))))) = some r := by first | (rw [hy150]; with_reducible exact H) | (have H2_ := (Option.bind_some _ _).symm.trans H; rw [hy150]; with_reducible exact H2_) | (have H2_ := (Option.bind_some _ _).symm.trans H; with_reducible exact H2_) | with_reducible exact H | (rw [hy150]; exact H) | exact H
 have Ny150 := Aside0.mk hy150
 clear hy150
 replace H := Option.bind_eq_some_iff.mp H
 obtain ⟨⟨t153, t156⟩, A10, H⟩ := H
 try dsimp only at H
 have A1 := Aside0.mk A10
 clear A10
 replace H := Option.bind_eq_some_iff.mp H
 obtain ⟨⟨t157, t158, t161, t164, t167⟩, A20, H⟩ := H
 try dsimp only at H
 have A2 := Aside0.mk A20
 clear A20
 replace H := Option.bind_eq_some_iff.mp H
 obtain ⟨t169, A30, H⟩ := H
 try dsimp only at H
 have A3 := Aside0.mk A30
 clear A30
 replace H := Option.bind_eq_some_iff.mp H
 obtain ⟨t170, A40, H⟩ := H
 try dsimp only at H
 have A4 := Aside0.mk A40
 clear A40
 by_cases c5 : (wrap64 (t169 + t170)) = 0
 ·rw [if_pos c5] at H
  have c5b0 : ((wrap64 (t169 + t170)) == 0) = true := beq_iff_eq.mpr c5
  have c5b1 : ((wrap64 (t169 + t170)) != 0) = false := bne_eq_false_iff_eq.mpr c5
  clear c5
  obtain ⟨y171, hy171⟩ : ∃ y_ : List Int, y_ = (([1, 1, 1, 97, 1, 120] : List Int)) := ⟨_, rfl⟩
  replace H : ((transeptplain_SameBytes.f k t153 y171).bind fun t174 => (if t174 = true then (if t157 = true then (some ((t158.length : Int) == 1)) else (some false)) else (some false))) = some r := by first | (rw [hy171]; with_reducible exact H) | (have H2_ := (Option.bind_some _ _).symm.trans H; rw [hy171]; with_reducible exact H2_) | (have H2_ := (Option.bind_some _ _).symm.trans H; with_reducible exact H2_) | with_reducible exact H | (rw [hy171]; exact H) | exact H
  have Ny171 := Aside0.mk hy171
  clear hy171
  replace H := Option.bind_eq_some_iff.mp H
  obtain ⟨t174, A60, H⟩ := H
  try dsimp only at H
  have A6 := Aside0.mk A60
  clear A60
  by_cases c7 : t174 = true
  ·subst c7
   rw [if_pos rfl] at H
   by_cases c8 : t157 = true
   ·subst c8
    rw [if_pos rfl] at H
    obtain rfl := Option.some.inj H
    go_enter Try.func15, Try.ntmps15
    go_wp2_with (first | ((with_reducible refine gate_dst (N := 6) rfl ?_); (try (refine gate_guard (by rfl) ?_; dsimp only)); refine Kd.R_lit Kd.string _ 9 ?hg (N := 6) ?hd (xs := ([(⟨#[97]⟩ : ByteArray)] : List ByteArray)) (inner := [.string (⟨#[97]⟩ : ByteArray)]) (ok := fun _ => True) (okp := fun _ => True) ?hr ?hp (fun _ hk => hk) trivial (Below.refl _ _) (Nat.le_refl _) (by simp) ?_; (case hd => rfl); (case hg => rfl); (case hr => first | (go_simp; done) | (go_simp; rfl)); (case hp => exact (Reps.one (show Kd.M Kd.string _ _ _ (⟨#[97]⟩ : ByteArray) [.string (⟨#[97]⟩ : ByteArray)] from rfl) (Reps.none _ _))); intro v148 w9 ho10 hb hg_ hnew_; clear hg_ hnew_; (first | rw [← Ny147.out] at ho10 | (simp only [Int.reduceToNat] at ho10; rw [← Ny147.out] at ho10)); have HO149 := Aside0.mk (Kd.R_lower ho10 (bs_ HB)); replace HB := bS_ HB hb; clear hb ho10) | ((with_reducible refine gate_dst (N := 7) rfl ?_); (try (refine gate_guard (by rfl) ?_; dsimp only)); refine Kd.R_lit Kd.string _ 9 ?hg (N := 7) ?hd (xs := ([(⟨#[120]⟩ : ByteArray)] : List ByteArray)) (inner := [.string (⟨#[120]⟩ : ByteArray)]) (ok := fun _ => True) (okp := fun _ => True) ?hr ?hp (fun _ hk => hk) trivial (Below.refl _ _) (Nat.le_refl _) (by simp) ?_; (case hd => rfl); (case hg => rfl); (case hr => first | (go_simp; done) | (go_simp; rfl)); (case hp => exact (Reps.one (show Kd.M Kd.string _ _ _ (⟨#[120]⟩ : ByteArray) [.string (⟨#[120]⟩ : ByteArray)] from rfl) (Reps.none _ _))); intro v151 w11 ho12 hb hg_ hnew_; clear hg_ hnew_; (first | rw [← Ny150.out] at ho12 | (simp only [Int.reduceToNat] at ho12; rw [← Ny150.out] at ho12)); have HO152 := Aside0.mk (Kd.R_lower (Kd.R_new' ho12 (Kd.R_lt (rA_ HO149))) (bs_ HB)); replace HO149 := Aside0.mk (Kd.R_elder' (rA_ HO149) (Kd.R_base ho12) hb); replace HB := bS_ HB hb; clear hb ho12; obtain ⟨Ao13, co13, eo13⟩ := Kd.R_slice HO152.out; subst eo13; obtain ⟨Ao14, co14, eo14⟩ := Kd.R_slice HO149.out; subst eo14) | ((with_reducible refine gate_callee (f := 16) rfl ?_); refine gL_ (some 9) Try.func16 #[.agg #[.bool true, .slice Ao14 y147.length co14, .slice Ao13 y150.length co13, .slice none 0 0]] ?_; (refine (node_Encode.calls k true _ _ y147 _ _ y150 _ _ ([] : List Int) t153 t156 _ ?_ ?_ ?_ ?_ ?_ ?_ A1.out).mono ?_); exact cO_ (Kd.R_reads' HO149.out).2.2; exact (Kd.R_reads' HO149.out).2.1; exact cO_ (Kd.R_reads' HO152.out).2.2; exact (Kd.R_reads' HO152.out).2.1; exact Kd.C_nil _ _; exact Nat.le_refl _; rintro e w15 ⟨v154, rfl, ho0, hb⟩; refine ⟨_, rfl, ?_⟩; replace HO149 := rB_ HO149 hb; replace HO152 := rB_ HO152 hb; have HO155 := Aside0.mk (Kd.R_lower ho0 (bs_ HB)); replace HB := bS_ HB hb; (try clear hb ho0); obtain ⟨Ao16, co16, eo16⟩ := Kd.R_slice HO155.out; subst eo16) | ((with_reducible refine gate_callee (f := 19) rfl ?_); refine gL_ (some 14) Try.func19 #[.slice Ao16 t153.length co16] ?_; (with_reducible refine (node_Decode.calls k _ _ t153 true t158 t161 t164 t167 _ ?_ ?_ A2.out).mono ?_); exact cO_ (Kd.R_reads' HO155.out).2.2; exact (Kd.R_reads' HO155.out).2.1; rintro e w17 ⟨v159, v162, v165, rfl, ho0, ho1, ho2, hb⟩; refine ⟨_, rfl, ?_⟩; replace HO155 := rB_ HO155 hb; have HO160 := Aside0.mk (Kd.R_lower (Kd.R_new' (Kd.R_new' ho0 (Kd.R_lt (rA_ HO149))) (Kd.R_lt (rA_ HO152))) (bs_ HB)); have HO163 := Aside0.mk (Kd.R_lower (Kd.R_new' (Kd.R_new' ho1 (Kd.R_lt (rA_ HO149))) (Kd.R_lt (rA_ HO152))) (bs_ HB)); replace HO149 := Aside0.mk (Kd.R_mono (Kd.R_told (Kd.R_told (Kd.R_old (rA_ HO149) hb) (Kd.R_base ho0)) (Kd.R_base ho1)) (fun _ h_ => h_.1)); replace HO152 := Aside0.mk (Kd.R_mono (Kd.R_told (Kd.R_told (Kd.R_old (rA_ HO152) hb) (Kd.R_base ho0)) (Kd.R_base ho1)) (fun _ h_ => h_.1)); have HO166 := Aside0.mk (Kd.R_lower ho2 (bs_ HB)); replace HB := bS_ HB hb; (try clear hb ho0 ho1 ho2)) | ((with_reducible refine gate_dst (N := 3) rfl ?_); (try (refine gate_guard (by rfl) ?_; dsimp only)); refine bx_ 3 #[.bool false, .slice none 0 0, .slice none 0 0, .slice none 0 0] 31 ?_; intro gb168 hg w18 hbox hb; replace HO149 := rB_ HO149 hb; replace HO152 := rB_ HO152 hb; replace HO155 := rB_ HO155 hb; replace HO160 := rB_ HO160 hb; replace HO163 := rB_ HO163 hb; replace HO166 := rB_ HO166 hb; have BK168 := Aside0.mk (hbox); have GW168 := bG_ HB hg; have GE168 := bG_ HB hg; replace HB := bS_ HB hb; clear hb hbox hg; obtain ⟨hcz19_0, hcz19_1, hcz19_2, hcz19_3, hfz19_0, hfz19_1, hfz19_2, hfz19_3⟩ := cz4_ BK168; obtain ⟨Ao20, co20, eo20⟩ := Kd.R_slice HO160.out; subst eo20; obtain ⟨Ao21, co21, eo21⟩ := Kd.R_slice HO163.out; subst eo21; obtain ⟨Ao22, co22, eo22⟩ := Kd.R_slice HO166.out; subst eo22) | ((with_reducible refine gate_callee (f := 18) rfl ?_); refine gL_ (some 18) Try.func18 #[.int .i64 t156] ?_; (with_reducible refine (transeptlaw09_num.calls t156 t169 _ A3.out).mono ?_); rintro e w' ⟨rfl, ⟨nd, rfl⟩⟩; refine ⟨_, rfl, ?_⟩) | ((with_reducible refine gate_callee (f := 18) rfl ?_); refine gL_ (some 20) Try.func18 #[.int .i64 t167] ?_; (with_reducible refine (transeptlaw09_num.calls t167 t170 _ A4.out).mono ?_); rintro e w' ⟨rfl, ⟨nd, rfl⟩⟩; refine ⟨_, rfl, ?_⟩) | ((with_reducible refine gate_dst (N := 25) rfl ?_); (try (refine gate_guard (by rfl) ?_; dsimp only)); refine Kd.R_lit (Kd.int .u8) _ 5 ?hg (N := 25) ?hd (xs := ([1, 1, 1, 97, 1, 120] : List Int)) (inner := [.int .u8 1, .int .u8 1, .int .u8 1, .int .u8 97, .int .u8 1, .int .u8 120]) (ok := fun _ => True) (okp := fun _ => True) ?hr ?hp (fun _ hk => hk) trivial (Below.refl _ _) (Nat.le_refl _) (by simp) ?_; (case hd => rfl); (case hg => rfl); (case hr => first | (go_simp; done) | (go_simp; rfl)); (case hp => exact (Reps.one (show Kd.M (Kd.int .u8) _ _ _ 1 [.int .u8 1] from rfl) (Reps.one (show Kd.M (Kd.int .u8) _ _ _ 1 [.int .u8 1] from rfl) (Reps.one (show Kd.M (Kd.int .u8) _ _ _ 1 [.int .u8 1] from rfl) (Reps.one (show Kd.M (Kd.int .u8) _ _ _ 97 [.int .u8 97] from rfl) (Reps.one (show Kd.M (Kd.int .u8) _ _ _ 1 [.int .u8 1] from rfl) (Reps.one (show Kd.M (Kd.int .u8) _ _ _ 120 [.int .u8 120] from rfl) (Reps.none _ _)))))))); intro v172 w23 ho24 hb hg_ hnew_; clear hg_ hnew_; (first | rw [← Ny171.out] at ho24 | (simp only [Int.reduceToNat] at ho24; rw [← Ny171.out] at ho24)); replace HO149 := Aside0.mk (Kd.R_below (rS_ HO149 BK168) hb); replace HO152 := Aside0.mk (Kd.R_below (rS_ HO152 BK168) hb); replace HO160 := Aside0.mk (Kd.R_below (rS_ HO160 BK168) hb); replace HO163 := Aside0.mk (Kd.R_below (rS_ HO163 BK168) hb); replace HO166 := Aside0.mk (Kd.R_below (rS_ HO166 BK168) hb); have HO173 := Aside0.mk (Kd.R_lower (Kd.R_new' ho24 (Kd.R_lt (rS_ HO155 BK168))) (bs_ HB)); replace HO155 := Aside0.mk (Kd.R_elder' (rS_ HO155 BK168) (Kd.R_base ho24) hb); replace BK168 := Aside0.mk (blk_below (g := gb168) (o := .cells #[.bool true, .slice Ao20 t158.length co20, .slice Ao21 t161.length co21, .slice Ao22 t164.length co22] 31 (0, 0)) (by (with_reducible repeat (first | refine blk_drewN ?_ _ | refine blk_drew ?_ | refine blk_alloc ?_ _)); refine blk_put (cs := #[.bool true, .slice Ao20 t158.length co20, .slice Ao21 t161.length co21, .slice none 0 0]) ?_ 3 _ rfl; (with_reducible repeat (first | refine blk_drewN ?_ _ | refine blk_drew ?_ | refine blk_alloc ?_ _)); refine blk_put (cs := #[.bool true, .slice Ao20 t158.length co20, .slice none 0 0, .slice none 0 0]) ?_ 2 _ rfl; (with_reducible repeat (first | refine blk_drewN ?_ _ | refine blk_drew ?_ | refine blk_alloc ?_ _)); refine blk_put (cs := #[.bool true, .slice none 0 0, .slice none 0 0, .slice none 0 0]) ?_ 1 _ rfl; (with_reducible repeat (first | refine blk_drewN ?_ _ | refine blk_drew ?_ | refine blk_alloc ?_ _)); refine blk_put (cs := #[.bool false, .slice none 0 0, .slice none 0 0, .slice none 0 0]) ?_ 0 _ rfl; (with_reducible repeat (first | refine blk_drewN ?_ _ | refine blk_drew ?_ | refine blk_alloc ?_ _)); exact BK168.out) hb); replace HB := bS_ HB hb; clear hb ho24; obtain ⟨Ao25, co25, eo25⟩ := Kd.R_slice HO173.out; subst eo25) | (go_at_call 21; (with_reducible refine (transeptplain_SameBytes.calls k _ _ t153 _ _ y171 true _ ?_ ?_ ?_ ?_ A6.out).mono ?_); exact cO_ (Kd.R_reads' HO155.out).2.2; exact (Kd.R_reads' HO155.out).2.1; exact cO_ (Kd.R_reads' HO173.out).2.2; exact (Kd.R_reads' HO173.out).2.1; rintro e w' ⟨rfl, ⟨nd, rfl⟩⟩; obtain ⟨hcz26_0, hcz26_1, hcz26_2, hcz26_3, hfz26_0, hfz26_1, hfz26_2, hfz26_3⟩ := cz4_ BK168))
    go_ret
    exact ⟨fin_, bl_ HB⟩
   ·replace c8 := Bool.eq_false_iff.mpr c8
    subst c8
    rw [if_neg (show ¬ (false = true) by decide)] at H
    obtain rfl := Option.some.inj H
    go_enter Try.func15, Try.ntmps15
    go_wp2_with (first | ((with_reducible refine gate_dst (N := 6) rfl ?_); (try (refine gate_guard (by rfl) ?_; dsimp only)); refine Kd.R_lit Kd.string _ 9 ?hg (N := 6) ?hd (xs := ([(⟨#[97]⟩ : ByteArray)] : List ByteArray)) (inner := [.string (⟨#[97]⟩ : ByteArray)]) (ok := fun _ => True) (okp := fun _ => True) ?hr ?hp (fun _ hk => hk) trivial (Below.refl _ _) (Nat.le_refl _) (by simp) ?_; (case hd => rfl); (case hg => rfl); (case hr => first | (go_simp; done) | (go_simp; rfl)); (case hp => exact (Reps.one (show Kd.M Kd.string _ _ _ (⟨#[97]⟩ : ByteArray) [.string (⟨#[97]⟩ : ByteArray)] from rfl) (Reps.none _ _))); intro v148 w27 ho28 hb hg_ hnew_; clear hg_ hnew_; (first | rw [← Ny147.out] at ho28 | (simp only [Int.reduceToNat] at ho28; rw [← Ny147.out] at ho28)); have HO149 := Aside0.mk (Kd.R_lower ho28 (bs_ HB)); replace HB := bS_ HB hb; clear hb ho28) | ((with_reducible refine gate_dst (N := 7) rfl ?_); (try (refine gate_guard (by rfl) ?_; dsimp only)); refine Kd.R_lit Kd.string _ 9 ?hg (N := 7) ?hd (xs := ([(⟨#[120]⟩ : ByteArray)] : List ByteArray)) (inner := [.string (⟨#[120]⟩ : ByteArray)]) (ok := fun _ => True) (okp := fun _ => True) ?hr ?hp (fun _ hk => hk) trivial (Below.refl _ _) (Nat.le_refl _) (by simp) ?_; (case hd => rfl); (case hg => rfl); (case hr => first | (go_simp; done) | (go_simp; rfl)); (case hp => exact (Reps.one (show Kd.M Kd.string _ _ _ (⟨#[120]⟩ : ByteArray) [.string (⟨#[120]⟩ : ByteArray)] from rfl) (Reps.none _ _))); intro v151 w29 ho30 hb hg_ hnew_; clear hg_ hnew_; (first | rw [← Ny150.out] at ho30 | (simp only [Int.reduceToNat] at ho30; rw [← Ny150.out] at ho30)); have HO152 := Aside0.mk (Kd.R_lower (Kd.R_new' ho30 (Kd.R_lt (rA_ HO149))) (bs_ HB)); replace HO149 := Aside0.mk (Kd.R_elder' (rA_ HO149) (Kd.R_base ho30) hb); replace HB := bS_ HB hb; clear hb ho30; obtain ⟨Ao31, co31, eo31⟩ := Kd.R_slice HO152.out; subst eo31; obtain ⟨Ao32, co32, eo32⟩ := Kd.R_slice HO149.out; subst eo32) | ((with_reducible refine gate_callee (f := 16) rfl ?_); refine gL_ (some 9) Try.func16 #[.agg #[.bool true, .slice Ao32 y147.length co32, .slice Ao31 y150.length co31, .slice none 0 0]] ?_; (refine (node_Encode.calls k true _ _ y147 _ _ y150 _ _ ([] : List Int) t153 t156 _ ?_ ?_ ?_ ?_ ?_ ?_ A1.out).mono ?_); exact cO_ (Kd.R_reads' HO149.out).2.2; exact (Kd.R_reads' HO149.out).2.1; exact cO_ (Kd.R_reads' HO152.out).2.2; exact (Kd.R_reads' HO152.out).2.1; exact Kd.C_nil _ _; exact Nat.le_refl _; rintro e w33 ⟨v154, rfl, ho0, hb⟩; refine ⟨_, rfl, ?_⟩; replace HO149 := rB_ HO149 hb; replace HO152 := rB_ HO152 hb; have HO155 := Aside0.mk (Kd.R_lower ho0 (bs_ HB)); replace HB := bS_ HB hb; (try clear hb ho0); obtain ⟨Ao34, co34, eo34⟩ := Kd.R_slice HO155.out; subst eo34) | ((with_reducible refine gate_callee (f := 19) rfl ?_); refine gL_ (some 14) Try.func19 #[.slice Ao34 t153.length co34] ?_; (with_reducible refine (node_Decode.calls k _ _ t153 false t158 t161 t164 t167 _ ?_ ?_ A2.out).mono ?_); exact cO_ (Kd.R_reads' HO155.out).2.2; exact (Kd.R_reads' HO155.out).2.1; rintro e w35 ⟨v159, v162, v165, rfl, ho0, ho1, ho2, hb⟩; refine ⟨_, rfl, ?_⟩; replace HO155 := rB_ HO155 hb; have HO160 := Aside0.mk (Kd.R_lower (Kd.R_new' (Kd.R_new' ho0 (Kd.R_lt (rA_ HO149))) (Kd.R_lt (rA_ HO152))) (bs_ HB)); have HO163 := Aside0.mk (Kd.R_lower (Kd.R_new' (Kd.R_new' ho1 (Kd.R_lt (rA_ HO149))) (Kd.R_lt (rA_ HO152))) (bs_ HB)); replace HO149 := Aside0.mk (Kd.R_mono (Kd.R_told (Kd.R_told (Kd.R_old (rA_ HO149) hb) (Kd.R_base ho0)) (Kd.R_base ho1)) (fun _ h_ => h_.1)); replace HO152 := Aside0.mk (Kd.R_mono (Kd.R_told (Kd.R_told (Kd.R_old (rA_ HO152) hb) (Kd.R_base ho0)) (Kd.R_base ho1)) (fun _ h_ => h_.1)); have HO166 := Aside0.mk (Kd.R_lower ho2 (bs_ HB)); replace HB := bS_ HB hb; (try clear hb ho0 ho1 ho2)) | ((with_reducible refine gate_dst (N := 3) rfl ?_); (try (refine gate_guard (by rfl) ?_; dsimp only)); refine bx_ 3 #[.bool false, .slice none 0 0, .slice none 0 0, .slice none 0 0] 31 ?_; intro gb168 hg w36 hbox hb; replace HO149 := rB_ HO149 hb; replace HO152 := rB_ HO152 hb; replace HO155 := rB_ HO155 hb; replace HO160 := rB_ HO160 hb; replace HO163 := rB_ HO163 hb; replace HO166 := rB_ HO166 hb; have BK168 := Aside0.mk (hbox); have GW168 := bG_ HB hg; have GE168 := bG_ HB hg; replace HB := bS_ HB hb; clear hb hbox hg; obtain ⟨hcz37_0, hcz37_1, hcz37_2, hcz37_3, hfz37_0, hfz37_1, hfz37_2, hfz37_3⟩ := cz4_ BK168; obtain ⟨Ao38, co38, eo38⟩ := Kd.R_slice HO160.out; subst eo38; obtain ⟨Ao39, co39, eo39⟩ := Kd.R_slice HO163.out; subst eo39; obtain ⟨Ao40, co40, eo40⟩ := Kd.R_slice HO166.out; subst eo40) | ((with_reducible refine gate_callee (f := 18) rfl ?_); refine gL_ (some 18) Try.func18 #[.int .i64 t156] ?_; (with_reducible refine (transeptlaw09_num.calls t156 t169 _ A3.out).mono ?_); rintro e w' ⟨rfl, ⟨nd, rfl⟩⟩; refine ⟨_, rfl, ?_⟩) | ((with_reducible refine gate_callee (f := 18) rfl ?_); refine gL_ (some 20) Try.func18 #[.int .i64 t167] ?_; (with_reducible refine (transeptlaw09_num.calls t167 t170 _ A4.out).mono ?_); rintro e w' ⟨rfl, ⟨nd, rfl⟩⟩; refine ⟨_, rfl, ?_⟩) | ((with_reducible refine gate_dst (N := 25) rfl ?_); (try (refine gate_guard (by rfl) ?_; dsimp only)); refine Kd.R_lit (Kd.int .u8) _ 5 ?hg (N := 25) ?hd (xs := ([1, 1, 1, 97, 1, 120] : List Int)) (inner := [.int .u8 1, .int .u8 1, .int .u8 1, .int .u8 97, .int .u8 1, .int .u8 120]) (ok := fun _ => True) (okp := fun _ => True) ?hr ?hp (fun _ hk => hk) trivial (Below.refl _ _) (Nat.le_refl _) (by simp) ?_; (case hd => rfl); (case hg => rfl); (case hr => first | (go_simp; done) | (go_simp; rfl)); (case hp => exact (Reps.one (show Kd.M (Kd.int .u8) _ _ _ 1 [.int .u8 1] from rfl) (Reps.one (show Kd.M (Kd.int .u8) _ _ _ 1 [.int .u8 1] from rfl) (Reps.one (show Kd.M (Kd.int .u8) _ _ _ 1 [.int .u8 1] from rfl) (Reps.one (show Kd.M (Kd.int .u8) _ _ _ 97 [.int .u8 97] from rfl) (Reps.one (show Kd.M (Kd.int .u8) _ _ _ 1 [.int .u8 1] from rfl) (Reps.one (show Kd.M (Kd.int .u8) _ _ _ 120 [.int .u8 120] from rfl) (Reps.none _ _)))))))); intro v172 w41 ho42 hb hg_ hnew_; clear hg_ hnew_; (first | rw [← Ny171.out] at ho42 | (simp only [Int.reduceToNat] at ho42; rw [← Ny171.out] at ho42)); replace HO149 := Aside0.mk (Kd.R_below (rS_ HO149 BK168) hb); replace HO152 := Aside0.mk (Kd.R_below (rS_ HO152 BK168) hb); replace HO160 := Aside0.mk (Kd.R_below (rS_ HO160 BK168) hb); replace HO163 := Aside0.mk (Kd.R_below (rS_ HO163 BK168) hb); replace HO166 := Aside0.mk (Kd.R_below (rS_ HO166 BK168) hb); have HO173 := Aside0.mk (Kd.R_lower (Kd.R_new' ho42 (Kd.R_lt (rS_ HO155 BK168))) (bs_ HB)); replace HO155 := Aside0.mk (Kd.R_elder' (rS_ HO155 BK168) (Kd.R_base ho42) hb); replace BK168 := Aside0.mk (blk_below (g := gb168) (o := .cells #[.bool false, .slice Ao38 t158.length co38, .slice Ao39 t161.length co39, .slice Ao40 t164.length co40] 31 (0, 0)) (by (with_reducible repeat (first | refine blk_drewN ?_ _ | refine blk_drew ?_ | refine blk_alloc ?_ _)); refine blk_put (cs := #[.bool false, .slice Ao38 t158.length co38, .slice Ao39 t161.length co39, .slice none 0 0]) ?_ 3 _ rfl; (with_reducible repeat (first | refine blk_drewN ?_ _ | refine blk_drew ?_ | refine blk_alloc ?_ _)); refine blk_put (cs := #[.bool false, .slice Ao38 t158.length co38, .slice none 0 0, .slice none 0 0]) ?_ 2 _ rfl; (with_reducible repeat (first | refine blk_drewN ?_ _ | refine blk_drew ?_ | refine blk_alloc ?_ _)); refine blk_put (cs := #[.bool false, .slice none 0 0, .slice none 0 0, .slice none 0 0]) ?_ 1 _ rfl; (with_reducible repeat (first | refine blk_drewN ?_ _ | refine blk_drew ?_ | refine blk_alloc ?_ _)); refine blk_put (cs := #[.bool false, .slice none 0 0, .slice none 0 0, .slice none 0 0]) ?_ 0 _ rfl; (with_reducible repeat (first | refine blk_drewN ?_ _ | refine blk_drew ?_ | refine blk_alloc ?_ _)); exact BK168.out) hb); replace HB := bS_ HB hb; clear hb ho42; obtain ⟨Ao43, co43, eo43⟩ := Kd.R_slice HO173.out; subst eo43) | (go_at_call 21; (with_reducible refine (transeptplain_SameBytes.calls k _ _ t153 _ _ y171 true _ ?_ ?_ ?_ ?_ A6.out).mono ?_); exact cO_ (Kd.R_reads' HO155.out).2.2; exact (Kd.R_reads' HO155.out).2.1; exact cO_ (Kd.R_reads' HO173.out).2.2; exact (Kd.R_reads' HO173.out).2.1; rintro e w' ⟨rfl, ⟨nd, rfl⟩⟩; obtain ⟨hcz44_0, hcz44_1, hcz44_2, hcz44_3, hfz44_0, hfz44_1, hfz44_2, hfz44_3⟩ := cz4_ BK168))
    go_ret
    exact ⟨fin_, bl_ HB⟩
  ·replace c7 := Bool.eq_false_iff.mpr c7
   subst c7
   rw [if_neg (show ¬ (false = true) by decide)] at H
   obtain rfl := Option.some.inj H
   go_enter Try.func15, Try.ntmps15
   go_wp2_with (first | ((with_reducible refine gate_dst (N := 6) rfl ?_); (try (refine gate_guard (by rfl) ?_; dsimp only)); refine Kd.R_lit Kd.string _ 9 ?hg (N := 6) ?hd (xs := ([(⟨#[97]⟩ : ByteArray)] : List ByteArray)) (inner := [.string (⟨#[97]⟩ : ByteArray)]) (ok := fun _ => True) (okp := fun _ => True) ?hr ?hp (fun _ hk => hk) trivial (Below.refl _ _) (Nat.le_refl _) (by simp) ?_; (case hd => rfl); (case hg => rfl); (case hr => first | (go_simp; done) | (go_simp; rfl)); (case hp => exact (Reps.one (show Kd.M Kd.string _ _ _ (⟨#[97]⟩ : ByteArray) [.string (⟨#[97]⟩ : ByteArray)] from rfl) (Reps.none _ _))); intro v148 w45 ho46 hb hg_ hnew_; clear hg_ hnew_; (first | rw [← Ny147.out] at ho46 | (simp only [Int.reduceToNat] at ho46; rw [← Ny147.out] at ho46)); have HO149 := Aside0.mk (Kd.R_lower ho46 (bs_ HB)); replace HB := bS_ HB hb; clear hb ho46) | ((with_reducible refine gate_dst (N := 7) rfl ?_); (try (refine gate_guard (by rfl) ?_; dsimp only)); refine Kd.R_lit Kd.string _ 9 ?hg (N := 7) ?hd (xs := ([(⟨#[120]⟩ : ByteArray)] : List ByteArray)) (inner := [.string (⟨#[120]⟩ : ByteArray)]) (ok := fun _ => True) (okp := fun _ => True) ?hr ?hp (fun _ hk => hk) trivial (Below.refl _ _) (Nat.le_refl _) (by simp) ?_; (case hd => rfl); (case hg => rfl); (case hr => first | (go_simp; done) | (go_simp; rfl)); (case hp => exact (Reps.one (show Kd.M Kd.string _ _ _ (⟨#[120]⟩ : ByteArray) [.string (⟨#[120]⟩ : ByteArray)] from rfl) (Reps.none _ _))); intro v151 w47 ho48 hb hg_ hnew_; clear hg_ hnew_; (first | rw [← Ny150.out] at ho48 | (simp only [Int.reduceToNat] at ho48; rw [← Ny150.out] at ho48)); have HO152 := Aside0.mk (Kd.R_lower (Kd.R_new' ho48 (Kd.R_lt (rA_ HO149))) (bs_ HB)); replace HO149 := Aside0.mk (Kd.R_elder' (rA_ HO149) (Kd.R_base ho48) hb); replace HB := bS_ HB hb; clear hb ho48; obtain ⟨Ao49, co49, eo49⟩ := Kd.R_slice HO152.out; subst eo49; obtain ⟨Ao50, co50, eo50⟩ := Kd.R_slice HO149.out; subst eo50) | ((with_reducible refine gate_callee (f := 16) rfl ?_); refine gL_ (some 9) Try.func16 #[.agg #[.bool true, .slice Ao50 y147.length co50, .slice Ao49 y150.length co49, .slice none 0 0]] ?_; (refine (node_Encode.calls k true _ _ y147 _ _ y150 _ _ ([] : List Int) t153 t156 _ ?_ ?_ ?_ ?_ ?_ ?_ A1.out).mono ?_); exact cO_ (Kd.R_reads' HO149.out).2.2; exact (Kd.R_reads' HO149.out).2.1; exact cO_ (Kd.R_reads' HO152.out).2.2; exact (Kd.R_reads' HO152.out).2.1; exact Kd.C_nil _ _; exact Nat.le_refl _; rintro e w51 ⟨v154, rfl, ho0, hb⟩; refine ⟨_, rfl, ?_⟩; replace HO149 := rB_ HO149 hb; replace HO152 := rB_ HO152 hb; have HO155 := Aside0.mk (Kd.R_lower ho0 (bs_ HB)); replace HB := bS_ HB hb; (try clear hb ho0); obtain ⟨Ao52, co52, eo52⟩ := Kd.R_slice HO155.out; subst eo52) | ((with_reducible refine gate_callee (f := 19) rfl ?_); refine gL_ (some 14) Try.func19 #[.slice Ao52 t153.length co52] ?_; (with_reducible refine (node_Decode.calls k _ _ t153 t157 t158 t161 t164 t167 _ ?_ ?_ A2.out).mono ?_); exact cO_ (Kd.R_reads' HO155.out).2.2; exact (Kd.R_reads' HO155.out).2.1; rintro e w53 ⟨v159, v162, v165, rfl, ho0, ho1, ho2, hb⟩; refine ⟨_, rfl, ?_⟩; replace HO155 := rB_ HO155 hb; have HO160 := Aside0.mk (Kd.R_lower (Kd.R_new' (Kd.R_new' ho0 (Kd.R_lt (rA_ HO149))) (Kd.R_lt (rA_ HO152))) (bs_ HB)); have HO163 := Aside0.mk (Kd.R_lower (Kd.R_new' (Kd.R_new' ho1 (Kd.R_lt (rA_ HO149))) (Kd.R_lt (rA_ HO152))) (bs_ HB)); replace HO149 := Aside0.mk (Kd.R_mono (Kd.R_told (Kd.R_told (Kd.R_old (rA_ HO149) hb) (Kd.R_base ho0)) (Kd.R_base ho1)) (fun _ h_ => h_.1)); replace HO152 := Aside0.mk (Kd.R_mono (Kd.R_told (Kd.R_told (Kd.R_old (rA_ HO152) hb) (Kd.R_base ho0)) (Kd.R_base ho1)) (fun _ h_ => h_.1)); have HO166 := Aside0.mk (Kd.R_lower ho2 (bs_ HB)); replace HB := bS_ HB hb; (try clear hb ho0 ho1 ho2)) | ((with_reducible refine gate_dst (N := 3) rfl ?_); (try (refine gate_guard (by rfl) ?_; dsimp only)); refine bx_ 3 #[.bool false, .slice none 0 0, .slice none 0 0, .slice none 0 0] 31 ?_; intro gb168 hg w54 hbox hb; replace HO149 := rB_ HO149 hb; replace HO152 := rB_ HO152 hb; replace HO155 := rB_ HO155 hb; replace HO160 := rB_ HO160 hb; replace HO163 := rB_ HO163 hb; replace HO166 := rB_ HO166 hb; have BK168 := Aside0.mk (hbox); have GW168 := bG_ HB hg; have GE168 := bG_ HB hg; replace HB := bS_ HB hb; clear hb hbox hg; obtain ⟨hcz55_0, hcz55_1, hcz55_2, hcz55_3, hfz55_0, hfz55_1, hfz55_2, hfz55_3⟩ := cz4_ BK168; obtain ⟨Ao56, co56, eo56⟩ := Kd.R_slice HO160.out; subst eo56; obtain ⟨Ao57, co57, eo57⟩ := Kd.R_slice HO163.out; subst eo57; obtain ⟨Ao58, co58, eo58⟩ := Kd.R_slice HO166.out; subst eo58) | ((with_reducible refine gate_callee (f := 18) rfl ?_); refine gL_ (some 18) Try.func18 #[.int .i64 t156] ?_; (with_reducible refine (transeptlaw09_num.calls t156 t169 _ A3.out).mono ?_); rintro e w' ⟨rfl, ⟨nd, rfl⟩⟩; refine ⟨_, rfl, ?_⟩) | ((with_reducible refine gate_callee (f := 18) rfl ?_); refine gL_ (some 20) Try.func18 #[.int .i64 t167] ?_; (with_reducible refine (transeptlaw09_num.calls t167 t170 _ A4.out).mono ?_); rintro e w' ⟨rfl, ⟨nd, rfl⟩⟩; refine ⟨_, rfl, ?_⟩) | ((with_reducible refine gate_dst (N := 25) rfl ?_); (try (refine gate_guard (by rfl) ?_; dsimp only)); refine Kd.R_lit (Kd.int .u8) _ 5 ?hg (N := 25) ?hd (xs := ([1, 1, 1, 97, 1, 120] : List Int)) (inner := [.int .u8 1, .int .u8 1, .int .u8 1, .int .u8 97, .int .u8 1, .int .u8 120]) (ok := fun _ => True) (okp := fun _ => True) ?hr ?hp (fun _ hk => hk) trivial (Below.refl _ _) (Nat.le_refl _) (by simp) ?_; (case hd => rfl); (case hg => rfl); (case hr => first | (go_simp; done) | (go_simp; rfl)); (case hp => exact (Reps.one (show Kd.M (Kd.int .u8) _ _ _ 1 [.int .u8 1] from rfl) (Reps.one (show Kd.M (Kd.int .u8) _ _ _ 1 [.int .u8 1] from rfl) (Reps.one (show Kd.M (Kd.int .u8) _ _ _ 1 [.int .u8 1] from rfl) (Reps.one (show Kd.M (Kd.int .u8) _ _ _ 97 [.int .u8 97] from rfl) (Reps.one (show Kd.M (Kd.int .u8) _ _ _ 1 [.int .u8 1] from rfl) (Reps.one (show Kd.M (Kd.int .u8) _ _ _ 120 [.int .u8 120] from rfl) (Reps.none _ _)))))))); intro v172 w59 ho60 hb hg_ hnew_; clear hg_ hnew_; (first | rw [← Ny171.out] at ho60 | (simp only [Int.reduceToNat] at ho60; rw [← Ny171.out] at ho60)); replace HO149 := Aside0.mk (Kd.R_below (rS_ HO149 BK168) hb); replace HO152 := Aside0.mk (Kd.R_below (rS_ HO152 BK168) hb); replace HO160 := Aside0.mk (Kd.R_below (rS_ HO160 BK168) hb); replace HO163 := Aside0.mk (Kd.R_below (rS_ HO163 BK168) hb); replace HO166 := Aside0.mk (Kd.R_below (rS_ HO166 BK168) hb); have HO173 := Aside0.mk (Kd.R_lower (Kd.R_new' ho60 (Kd.R_lt (rS_ HO155 BK168))) (bs_ HB)); replace HO155 := Aside0.mk (Kd.R_elder' (rS_ HO155 BK168) (Kd.R_base ho60) hb); replace BK168 := Aside0.mk (blk_below (g := gb168) (o := .cells #[.bool t157, .slice Ao56 t158.length co56, .slice Ao57 t161.length co57, .slice Ao58 t164.length co58] 31 (0, 0)) (by (with_reducible repeat (first | refine blk_drewN ?_ _ | refine blk_drew ?_ | refine blk_alloc ?_ _)); refine blk_put (cs := #[.bool t157, .slice Ao56 t158.length co56, .slice Ao57 t161.length co57, .slice none 0 0]) ?_ 3 _ rfl; (with_reducible repeat (first | refine blk_drewN ?_ _ | refine blk_drew ?_ | refine blk_alloc ?_ _)); refine blk_put (cs := #[.bool t157, .slice Ao56 t158.length co56, .slice none 0 0, .slice none 0 0]) ?_ 2 _ rfl; (with_reducible repeat (first | refine blk_drewN ?_ _ | refine blk_drew ?_ | refine blk_alloc ?_ _)); refine blk_put (cs := #[.bool t157, .slice none 0 0, .slice none 0 0, .slice none 0 0]) ?_ 1 _ rfl; (with_reducible repeat (first | refine blk_drewN ?_ _ | refine blk_drew ?_ | refine blk_alloc ?_ _)); refine blk_put (cs := #[.bool false, .slice none 0 0, .slice none 0 0, .slice none 0 0]) ?_ 0 _ rfl; (with_reducible repeat (first | refine blk_drewN ?_ _ | refine blk_drew ?_ | refine blk_alloc ?_ _)); exact BK168.out) hb); replace HB := bS_ HB hb; clear hb ho60; obtain ⟨Ao61, co61, eo61⟩ := Kd.R_slice HO173.out; subst eo61) | (go_at_call 21; (with_reducible refine (transeptplain_SameBytes.calls k _ _ t153 _ _ y171 false _ ?_ ?_ ?_ ?_ A6.out).mono ?_); exact cO_ (Kd.R_reads' HO155.out).2.2; exact (Kd.R_reads' HO155.out).2.1; exact cO_ (Kd.R_reads' HO173.out).2.2; exact (Kd.R_reads' HO173.out).2.1; rintro e w' ⟨rfl, ⟨nd, rfl⟩⟩))
   go_ret
   exact ⟨fin_, bl_ HB⟩
 ·rw [if_neg c5] at H
  have c5b0 : ((wrap64 (t169 + t170)) == 0) = false := beq_eq_false_iff_ne.mpr c5
  have c5b1 : ((wrap64 (t169 + t170)) != 0) = true := bne_iff_ne.mpr c5
  obtain rfl := Option.some.inj H
  go_enter Try.func15, Try.ntmps15
  go_wp2_with (first | ((with_reducible refine gate_dst (N := 6) rfl ?_); (try (refine gate_guard (by rfl) ?_; dsimp only)); refine Kd.R_lit Kd.string _ 9 ?hg (N := 6) ?hd (xs := ([(⟨#[97]⟩ : ByteArray)] : List ByteArray)) (inner := [.string (⟨#[97]⟩ : ByteArray)]) (ok := fun _ => True) (okp := fun _ => True) ?hr ?hp (fun _ hk => hk) trivial (Below.refl _ _) (Nat.le_refl _) (by simp) ?_; (case hd => rfl); (case hg => rfl); (case hr => first | (go_simp; done) | (go_simp; rfl)); (case hp => exact (Reps.one (show Kd.M Kd.string _ _ _ (⟨#[97]⟩ : ByteArray) [.string (⟨#[97]⟩ : ByteArray)] from rfl) (Reps.none _ _))); intro v148 w62 ho63 hb hg_ hnew_; clear hg_ hnew_; (first | rw [← Ny147.out] at ho63 | (simp only [Int.reduceToNat] at ho63; rw [← Ny147.out] at ho63)); have HO149 := Aside0.mk (Kd.R_lower ho63 (bs_ HB)); replace HB := bS_ HB hb; clear hb ho63) | ((with_reducible refine gate_dst (N := 7) rfl ?_); (try (refine gate_guard (by rfl) ?_; dsimp only)); refine Kd.R_lit Kd.string _ 9 ?hg (N := 7) ?hd (xs := ([(⟨#[120]⟩ : ByteArray)] : List ByteArray)) (inner := [.string (⟨#[120]⟩ : ByteArray)]) (ok := fun _ => True) (okp := fun _ => True) ?hr ?hp (fun _ hk => hk) trivial (Below.refl _ _) (Nat.le_refl _) (by simp) ?_; (case hd => rfl); (case hg => rfl); (case hr => first | (go_simp; done) | (go_simp; rfl)); (case hp => exact (Reps.one (show Kd.M Kd.string _ _ _ (⟨#[120]⟩ : ByteArray) [.string (⟨#[120]⟩ : ByteArray)] from rfl) (Reps.none _ _))); intro v151 w64 ho65 hb hg_ hnew_; clear hg_ hnew_; (first | rw [← Ny150.out] at ho65 | (simp only [Int.reduceToNat] at ho65; rw [← Ny150.out] at ho65)); have HO152 := Aside0.mk (Kd.R_lower (Kd.R_new' ho65 (Kd.R_lt (rA_ HO149))) (bs_ HB)); replace HO149 := Aside0.mk (Kd.R_elder' (rA_ HO149) (Kd.R_base ho65) hb); replace HB := bS_ HB hb; clear hb ho65; obtain ⟨Ao66, co66, eo66⟩ := Kd.R_slice HO152.out; subst eo66; obtain ⟨Ao67, co67, eo67⟩ := Kd.R_slice HO149.out; subst eo67) | ((with_reducible refine gate_callee (f := 16) rfl ?_); refine gL_ (some 9) Try.func16 #[.agg #[.bool true, .slice Ao67 y147.length co67, .slice Ao66 y150.length co66, .slice none 0 0]] ?_; (refine (node_Encode.calls k true _ _ y147 _ _ y150 _ _ ([] : List Int) t153 t156 _ ?_ ?_ ?_ ?_ ?_ ?_ A1.out).mono ?_); exact cO_ (Kd.R_reads' HO149.out).2.2; exact (Kd.R_reads' HO149.out).2.1; exact cO_ (Kd.R_reads' HO152.out).2.2; exact (Kd.R_reads' HO152.out).2.1; exact Kd.C_nil _ _; exact Nat.le_refl _; rintro e w68 ⟨v154, rfl, ho0, hb⟩; refine ⟨_, rfl, ?_⟩; replace HO149 := rB_ HO149 hb; replace HO152 := rB_ HO152 hb; have HO155 := Aside0.mk (Kd.R_lower ho0 (bs_ HB)); replace HB := bS_ HB hb; (try clear hb ho0); obtain ⟨Ao69, co69, eo69⟩ := Kd.R_slice HO155.out; subst eo69) | ((with_reducible refine gate_callee (f := 19) rfl ?_); refine gL_ (some 14) Try.func19 #[.slice Ao69 t153.length co69] ?_; (with_reducible refine (node_Decode.calls k _ _ t153 t157 t158 t161 t164 t167 _ ?_ ?_ A2.out).mono ?_); exact cO_ (Kd.R_reads' HO155.out).2.2; exact (Kd.R_reads' HO155.out).2.1; rintro e w70 ⟨v159, v162, v165, rfl, ho0, ho1, ho2, hb⟩; refine ⟨_, rfl, ?_⟩; replace HO155 := rB_ HO155 hb; have HO160 := Aside0.mk (Kd.R_lower (Kd.R_new' (Kd.R_new' ho0 (Kd.R_lt (rA_ HO149))) (Kd.R_lt (rA_ HO152))) (bs_ HB)); have HO163 := Aside0.mk (Kd.R_lower (Kd.R_new' (Kd.R_new' ho1 (Kd.R_lt (rA_ HO149))) (Kd.R_lt (rA_ HO152))) (bs_ HB)); replace HO149 := Aside0.mk (Kd.R_mono (Kd.R_told (Kd.R_told (Kd.R_old (rA_ HO149) hb) (Kd.R_base ho0)) (Kd.R_base ho1)) (fun _ h_ => h_.1)); replace HO152 := Aside0.mk (Kd.R_mono (Kd.R_told (Kd.R_told (Kd.R_old (rA_ HO152) hb) (Kd.R_base ho0)) (Kd.R_base ho1)) (fun _ h_ => h_.1)); have HO166 := Aside0.mk (Kd.R_lower ho2 (bs_ HB)); replace HB := bS_ HB hb; (try clear hb ho0 ho1 ho2)) | ((with_reducible refine gate_dst (N := 3) rfl ?_); (try (refine gate_guard (by rfl) ?_; dsimp only)); refine bx_ 3 #[.bool false, .slice none 0 0, .slice none 0 0, .slice none 0 0] 31 ?_; intro gb168 hg w71 hbox hb; replace HO149 := rB_ HO149 hb; replace HO152 := rB_ HO152 hb; replace HO155 := rB_ HO155 hb; replace HO160 := rB_ HO160 hb; replace HO163 := rB_ HO163 hb; replace HO166 := rB_ HO166 hb; have BK168 := Aside0.mk (hbox); have GW168 := bG_ HB hg; have GE168 := bG_ HB hg; replace HB := bS_ HB hb; clear hb hbox hg; obtain ⟨hcz72_0, hcz72_1, hcz72_2, hcz72_3, hfz72_0, hfz72_1, hfz72_2, hfz72_3⟩ := cz4_ BK168; obtain ⟨Ao73, co73, eo73⟩ := Kd.R_slice HO160.out; subst eo73; obtain ⟨Ao74, co74, eo74⟩ := Kd.R_slice HO163.out; subst eo74; obtain ⟨Ao75, co75, eo75⟩ := Kd.R_slice HO166.out; subst eo75) | ((with_reducible refine gate_callee (f := 18) rfl ?_); refine gL_ (some 18) Try.func18 #[.int .i64 t156] ?_; (with_reducible refine (transeptlaw09_num.calls t156 t169 _ A3.out).mono ?_); rintro e w' ⟨rfl, ⟨nd, rfl⟩⟩; refine ⟨_, rfl, ?_⟩) | ((with_reducible refine gate_callee (f := 18) rfl ?_); refine gL_ (some 20) Try.func18 #[.int .i64 t167] ?_; (with_reducible refine (transeptlaw09_num.calls t167 t170 _ A4.out).mono ?_); rintro e w' ⟨rfl, ⟨nd, rfl⟩⟩; refine ⟨_, rfl, ?_⟩))
  go_ret
  exact ⟨fin_, bl_ HB⟩
end Go.Proofs.Ytooabchnbmnchaa.Q
namespace Go.Proofs.Ytooabchnbmnchaa.Q
open Go.RowKit Go.Proofs.YtooabchnbmnchaaW.PrintWords Go.Proofs.YtooabchnbmnchaaW.PrintLast Go.Proofs.YtooabchnbmnchaaW.PrintMore
attribute [local go_sem] max2_int min2_int max_two min_two max_three min_three max_four min_four binOp_string_leq binOp_string_geq binOp_string_gtr   -- for this text's walks alone
set_option linter.unusedVariables false
set_option linter.unusedSimpArgs false
def transeptplain_CopyStrings.f (l0 : List ByteArray) : Option (List ByteArray) := if ([] : List ByteArray).length + l0.length < 8796093022208 then (some (([] : List ByteArray) ++ l0)) else (none)
set_option maxHeartbeats 8000000 in
set_option maxRecDepth 100000 in
theorem transeptplain_CopyStrings.calls (A0 : Option Addr) (c0 : Nat) (l0 : List ByteArray) (r : List ByteArray) (w : World) (hr0 : Kd.C Kd.string w A0 l0.length l0) (hc0 : l0.length ≤ c0) (h : transeptplain_CopyStrings.f l0 = some r) :
  Calls Try.prog 23 #[.slice A0 l0.length c0] w fun e w' => ∃ v0_ : Value, e = .returned (v0_) ∧ Kd.R Kd.string 9 w' w.heap.size (fun _ => True) v0_ r ∧ Below w.heap.size w w' := by
 have HR0 := Aside0.mk hr0
 have HC0 := Aside0.mk hc0
 clear hr0 hc0
 have HB := Aside0.mk (Below.refl w.heap.size w)
 have H : (if ([] : List ByteArray).length + l0.length < 8796093022208 then (some (([] : List ByteArray) ++ l0)) else (none)) = some r := h
 clear h
 by_cases c2 : ([] : List ByteArray).length + l0.length < 8796093022208
 ·rw [if_pos c2] at H
  have LMc2 := Aside0.mk c2
  clear c2
  obtain ⟨y175, hy175⟩ : ∃ y_ : List ByteArray, y_ = (([] : List ByteArray) ++ l0) := ⟨_, rfl⟩
  replace H : (some y175) = some r := by first | (rw [hy175]; with_reducible exact H) | (have H2_ := (Option.bind_some _ _).symm.trans H; rw [hy175]; with_reducible exact H2_) | (have H2_ := (Option.bind_some _ _).symm.trans H; with_reducible exact H2_) | with_reducible exact H | (rw [hy175]; exact H) | exact H
  have Ny175 := Aside0.mk hy175
  clear hy175
  obtain rfl := Option.some.inj H
  go_enter Try.func23, Try.ntmps23
  go_wp2_with (first | ((with_reducible refine gate_builtin (b := .append) (xs := #[.tmp 4, .tmp 5]) rfl ?_); at_builtin; refine Kd.R_append_rows Kd.string (w0 := w) w.heap.size rfl (.tmp 4) (.tmp 5) 22 9 (.string ⟨#[]⟩) 16 rfl Try.underlying22 info9 rfl (by decide) (by omega) (.slice none 0 0) ([] : List ByteArray) l0 _ _ _ (fun _ => True) (fun _ => False) rfl rfl ?aO ?aR (fun _ _ h => h) (fun _ h => h.elim) ?aF ?aB ?aS ?aL ?_; (case aR => exact cO_ HR0.out); (case aB => exact (bl_ HB)); (case aF => exact (fun _ _ => trivial)); (case aO => exact ((Kd.R_nil _ _ _ _ (fun _ => True)))); (case aS => exact (bs_ HB)); (case aL => have := LMc2.out; omega); intro v176 w3 ho hb hg hat; rw [← Ny175.out] at ho; replace HB := Aside0.mk (hb); have HO177 := Aside0.mk (ho); clear ho hb hg hat))
  go_ret
  exact ⟨_, fin_, by (with_reducible repeat (first | apply Kd.R_alloc | apply Kd.R_drewN | apply Kd.R_drew)); exact HO177.out, bl_ HB⟩
 ·rw [if_neg c2] at H
  exact absurd H (by simp)
end Go.Proofs.Ytooabchnbmnchaa.Q
namespace Go.Proofs.Ytooabchnbmnchaa.Q
open Go.RowKit Go.Proofs.YtooabchnbmnchaaW.PrintWords Go.Proofs.YtooabchnbmnchaaW.PrintLast Go.Proofs.YtooabchnbmnchaaW.PrintMore
attribute [local go_sem] max2_int min2_int max_two min_two max_three min_three max_four min_four binOp_string_leq binOp_string_geq binOp_string_gtr   -- for this text's walks alone
set_option linter.unusedVariables false
set_option linter.unusedSimpArgs false
def transeptplain_CopyInts.f (l0 : List Int) : Option (List Int) := if ([] : List Int).length + l0.length < 17592186044416 then (some (([] : List Int) ++ l0)) else (none)
set_option maxHeartbeats 8000000 in
set_option maxRecDepth 100000 in
theorem transeptplain_CopyInts.calls (A0 : Option Addr) (c0 : Nat) (l0 : List Int) (r : List Int) (w : World) (hr0 : Kd.C (Kd.int .i64) w A0 l0.length l0) (hc0 : l0.length ≤ c0) (h : transeptplain_CopyInts.f l0 = some r) :
  Calls Try.prog 24 #[.slice A0 l0.length c0] w fun e w' => ∃ v0_ : Value, e = .returned (v0_) ∧ Kd.R (Kd.int .i64) 3 w' w.heap.size (fun _ => True) v0_ r ∧ Below w.heap.size w w' := by
 have HR0 := Aside0.mk hr0
 have HC0 := Aside0.mk hc0
 clear hr0 hc0
 have HB := Aside0.mk (Below.refl w.heap.size w)
 have H : (if ([] : List Int).length + l0.length < 17592186044416 then (some (([] : List Int) ++ l0)) else (none)) = some r := h
 clear h
 by_cases c2 : ([] : List Int).length + l0.length < 17592186044416
 ·rw [if_pos c2] at H
  have LMc2 := Aside0.mk c2
  clear c2
  obtain ⟨y178, hy178⟩ : ∃ y_ : List Int, y_ = (([] : List Int) ++ l0) := ⟨_, rfl⟩
  replace H : (some y178) = some r := by first | (rw [hy178]; with_reducible exact H) | (have H2_ := (Option.bind_some _ _).symm.trans H; rw [hy178]; with_reducible exact H2_) | (have H2_ := (Option.bind_some _ _).symm.trans H; with_reducible exact H2_) | with_reducible exact H | (rw [hy178]; exact H) | exact H
  have Ny178 := Aside0.mk hy178
  clear hy178
  obtain rfl := Option.some.inj H
  go_enter Try.func24, Try.ntmps24
  go_wp2_with (first | ((with_reducible refine gate_builtin (b := .append) (xs := #[.tmp 4, .tmp 5]) rfl ?_); at_builtin; refine Kd.R_append_rows (Kd.int .i64) (w0 := w) w.heap.size rfl (.tmp 4) (.tmp 5) 23 3 (.int .i64 0) 8 rfl Try.underlying23 info3 rfl (by decide) (by omega) (.slice none 0 0) ([] : List Int) l0 _ _ _ (fun _ => True) (fun _ => False) rfl rfl ?aO ?aR (fun _ _ h => h) (fun _ h => h.elim) ?aF ?aB ?aS ?aL ?_; (case aR => exact cO_ HR0.out); (case aB => exact (bl_ HB)); (case aF => exact (fun _ _ => trivial)); (case aO => exact ((Kd.R_nil _ _ _ _ (fun _ => True)))); (case aS => exact (bs_ HB)); (case aL => have := LMc2.out; omega); intro v179 w3 ho hb hg hat; rw [← Ny178.out] at ho; replace HB := Aside0.mk (hb); have HO180 := Aside0.mk (ho); clear ho hb hg hat))
  go_ret
  exact ⟨_, fin_, by (with_reducible repeat (first | apply Kd.R_alloc | apply Kd.R_drewN | apply Kd.R_drew)); exact HO180.out, bl_ HB⟩
 ·rw [if_neg c2] at H
  exact absurd H (by simp)
end Go.Proofs.Ytooabchnbmnchaa.Q
namespace Go.Proofs.Ytooabchnbmnchaa.Q
open Go.RowKit Go.Proofs.YtooabchnbmnchaaW.PrintWords Go.Proofs.YtooabchnbmnchaaW.PrintLast Go.Proofs.YtooabchnbmnchaaW.PrintMore
attribute [local go_sem] max2_int min2_int max_two min_two max_three min_three max_four min_four binOp_string_leq binOp_string_geq binOp_string_gtr   -- for this text's walks alone
set_option linter.unusedVariables false
set_option linter.unusedSimpArgs false
def transeptlaw09_of.f (a0_0 : Bool) (l0_1 : List ByteArray) (l0_2 : List ByteArray) (l0_3 : List Int) : Option (Bool × List ByteArray × List ByteArray × List Int) := (transeptplain_CopyStrings.f l0_1).bind fun t183 => ((transeptplain_CopyStrings.f l0_2).bind fun t186 => ((transeptplain_CopyInts.f l0_3).bind fun t189 => (some (a0_0, t183, t186, t189))))
def transeptlaw09_of.T1 : Bool × List (List Nat × List Nat) := (true, [([], []), ([0], [0]), ([], []), ([2], [2]), ([3], [3]), ([], []), ([5], [5]), ([6, 4], [6]), ([], []), ([8], [8]), ([9, 7], [9]), ([1, 4, 7, 10], [1, 4, 7, 10]), ([11, 10, 0, 1, 2, 3, 4, 5, 6, 7, 8, 9, 10, 11], [11])])
def transeptlaw09_of.B1 : List Nat := [0, 1, 0, 4, 12, 0, 32, 124, 0, 256, 1020, 2047, 4095]
theorem transeptlaw09_of.tab1 : rtab .any (opsOf Try.f17 1) = transeptlaw09_of.T1 := by kernel_rfl
theorem transeptlaw09_of.bits1 : waitsOk transeptlaw09_of.T1.2 transeptlaw09_of.B1 = true := by kernel_rfl
set_option maxHeartbeats 8000000 in
set_option maxRecDepth 100000 in
theorem transeptlaw09_of.calls (a0_0 : Bool) (A0_1 : Option Addr) (c0_1 : Nat) (l0_1 : List ByteArray) (A0_2 : Option Addr) (c0_2 : Nat) (l0_2 : List ByteArray) (A0_3 : Option Addr) (c0_3 : Nat) (l0_3 : List Int) (r1 : Bool) (r2 : List ByteArray) (r3 : List ByteArray) (r4 : List Int) (w : World) (hr0_1 : Kd.C Kd.string w A0_1 l0_1.length l0_1) (hc0_1 : l0_1.length ≤ c0_1) (hr0_2 : Kd.C Kd.string w A0_2 l0_2.length l0_2) (hc0_2 : l0_2.length ≤ c0_2) (hr0_3 : Kd.C (Kd.int .i64) w A0_3 l0_3.length l0_3) (hc0_3 : l0_3.length ≤ c0_3) (h : transeptlaw09_of.f a0_0 l0_1 l0_2 l0_3 = some (r1, r2, r3, r4)) :
  Calls Try.prog 17 #[.agg #[.bool a0_0, .slice A0_1 l0_1.length c0_1, .slice A0_2 l0_2.length c0_2, .slice A0_3 l0_3.length c0_3]] w fun e w' => ∃ v1_ v2_ v3_ : Value, e = .returned (.agg #[.bool r1, v1_, v2_, v3_]) ∧ Kd.R Kd.string 9 w' w.heap.size (fun k_ => some k_ ≠ (v2_ : Value).ownBlock) v1_ r2 ∧ Kd.R Kd.string 9 w' w.heap.size (fun k_ => some k_ ≠ (v1_ : Value).ownBlock) v2_ r3 ∧ Kd.R (Kd.int .i64) 3 w' w.heap.size (fun _ => True) v3_ r4 ∧ Below w.heap.size w w' := by
 have hu25 := Try.underlying25
 have hu31 := Try.underlying31
 have HR0_1 := Aside0.mk hr0_1
 have HC0_1 := Aside0.mk hc0_1
 clear hr0_1 hc0_1
 have HR0_2 := Aside0.mk hr0_2
 have HC0_2 := Aside0.mk hc0_2
 clear hr0_2 hc0_2
 have HR0_3 := Aside0.mk hr0_3
 have HC0_3 := Aside0.mk hc0_3
 clear hr0_3 hc0_3
 have HB := Aside0.mk (Below.refl w.heap.size w)
 have H : ((transeptplain_CopyStrings.f l0_1).bind fun t183 => ((transeptplain_CopyStrings.f l0_2).bind fun t186 => ((transeptplain_CopyInts.f l0_3).bind fun t189 => (some (a0_0, t183, t186, t189))))) = some (r1, r2, r3, r4) := h
 clear h
 replace H := Option.bind_eq_some_iff.mp H
 obtain ⟨t183, A20, H⟩ := H
 try dsimp only at H
 have A2 := Aside0.mk A20
 clear A20
 replace H := Option.bind_eq_some_iff.mp H
 obtain ⟨t186, A30, H⟩ := H
 try dsimp only at H
 have A3 := Aside0.mk A30
 clear A30
 replace H := Option.bind_eq_some_iff.mp H
 obtain ⟨t189, A40, H⟩ := H
 replace H : (some (a0_0, t183, t186, t189)) = some (r1, r2, r3, r4) := H
 have A4 := Aside0.mk A40
 clear A40
 simp only [Option.some.injEq, Prod.mk.injEq] at H
 obtain ⟨rfl, rfl, rfl, rfl⟩ := H
 go_enter Try.func17, Try.ntmps17
 try go_wp2_with (first | ((with_reducible refine gate_dst (N := 1) rfl ?_); refine bx_ 1 #[.bool a0_0, .slice A0_1 l0_1.length c0_1, .slice A0_2 l0_2.length c0_2, .slice A0_3 l0_3.length c0_3] 25 ?_; intro gb181 hg w5 hbox hb; have BK181 := Aside0.mk (hbox); have GW181 := bG_ HB hg; have GE181 := bG_ HB hg; replace HB := bS_ HB hb; clear hb hbox hg) | ((with_reducible refine gate_dst (N := 2) rfl ?_); refine bx_ 2 #[.bool false, .slice none 0 0, .slice none 0 0, .slice none 0 0] 31 ?_; intro gb182 hg w6 hbox hb; have BK182 := Aside0.mk (hbox); have GW182 := bG_ HB hg; have GE182 := bG_ HB hg; replace HB := bS_ HB hb; have NB181_182 := nL_ BK181 hg; have NB182_181 := nG_ BK181 hg; replace BK181 := bK_ BK181 hb; clear hb hbox hg))
 replace BK181 := Aside0.mk (blk_drew BK181.out)
 replace BK182 := Aside0.mk (blk_drew BK182.out)
 replace HB := Aside0.mk (below_drew1 HB.out)
 refine start_ (n := 13) (S := fun w' => w'.cell? ⟨gb181, 0, none⟩ = some (.bool a0_0) ∧ w'.cell? ⟨gb181, 1, none⟩ = some (.slice A0_1 l0_1.length c0_1) ∧ w'.cell? ⟨gb181, 2, none⟩ = some (.slice A0_2 l0_2.length c0_2) ∧ w'.cell? ⟨gb181, 3, none⟩ = some (.slice A0_3 l0_3.length c0_3)) (ds := []) #[false, false, false, false, false, false, false, false, false, false, false, false, false] (by kernel_rfl) rfl rfl ⟨(blk_cell BK181.out 0).trans rfl, (blk_cell BK181.out 1).trans rfl, (blk_cell BK181.out 2).trans rfl, (blk_cell BK181.out 3).trans rfl⟩ (fun hHeld => ?_); refine with_tabW transeptlaw09_of.tab1 transeptlaw09_of.bits1 (fun HT_ HW_ => ?_)
 generalize w6.drew = w7 at BK181 BK182 HB hHeld ⊢
 refine pu_ 0 (some 3) HT_ ?_
 refine pu_ 2 (some 5) HT_ ?_
 refine pu_ 5 (some 8) HT_ ?_
 refine pu_ 8 (some 11) HT_ ?_
 refine tk_ 1 (some 4) HT_ HW_ hHeld ?_
 refine tk_ 3 (some 6) HT_ HW_ hHeld ?_
 refine tk_ 6 (some 9) HT_ HW_ hHeld ?_
 refine tk_ 9 (some 12) HT_ HW_ hHeld ?_
 refine on_ 4 (some 7) HT_ (fun K hK => ?_)
 refine goes_ Try.func23 (by kernel_rfl) rfl #[.slice A0_1 l0_1.length c0_1] (by rfl) rfl rfl (by (try simp only [List.map_toArray, List.map_cons, List.map_nil]); first | done | rfl | (simp only [List.length_drop, List.length_take]; rfl)) ?_
 with_reducible refine (transeptplain_CopyStrings.calls _ _ l0_1 t183 _ ?_ ?_ A2.out).mono ?_
 exact cB_ HR0_1 HB
 exact HC0_1.out
 rintro e w8 ⟨v184, rfl, ho0, hb⟩
 refine ⟨_, rfl, ?_⟩
 have HO185 := Aside0.mk (Kd.R_lower ho0 (bs_ HB))
 replace BK181 := bK_ BK181 hb
 replace BK182 := bK_ BK182 hb
 replace HB := bS_ HB hb
 (try clear hb ho0)
 refine hK.out _ _ ⟨(blk_cell BK181.out 0).trans rfl, (blk_cell BK181.out 1).trans rfl, (blk_cell BK181.out 2).trans rfl, (blk_cell BK181.out 3).trans rfl⟩ (fun hHeld => ?_)
 clear hK K
 refine norm_ (a' := ?_) ?_ ?_
 rotate_left
 ·show Act.put _ (some 7) _ = _
  simp only [Act.put, List.setIfInBounds_toArray, List.set_cons_zero, List.set_cons_succ, i64_w, i32_w]
  rfl
 refine on_ 7 (some 10) HT_ (fun K hK => ?_)
 refine goes_ Try.func23 (by kernel_rfl) rfl #[.slice A0_2 l0_2.length c0_2] (by rfl) rfl rfl (by (try simp only [List.map_toArray, List.map_cons, List.map_nil]); first | done | rfl | (simp only [List.length_drop, List.length_take]; rfl)) ?_
 with_reducible refine (transeptplain_CopyStrings.calls _ _ l0_2 t186 _ ?_ ?_ A3.out).mono ?_
 exact cB_ HR0_2 HB
 exact HC0_2.out
 rintro e w9 ⟨v187, rfl, ho0, hb⟩
 refine ⟨_, rfl, ?_⟩
 have HO188 := Aside0.mk (Kd.R_lower (Kd.R_new' ho0 (Kd.R_lt (rA_ HO185))) (bs_ HB))
 replace HO185 := Aside0.mk (Kd.R_elder' (rA_ HO185) (Kd.R_base ho0) hb)
 replace BK181 := bK_ BK181 hb
 replace BK182 := bK_ BK182 hb
 replace HB := bS_ HB hb
 (try clear hb ho0)
 refine hK.out _ _ ⟨(blk_cell BK181.out 0).trans rfl, (blk_cell BK181.out 1).trans rfl, (blk_cell BK181.out 2).trans rfl, (blk_cell BK181.out 3).trans rfl⟩ (fun hHeld => ?_)
 clear hK K
 refine norm_ (a' := ?_) ?_ ?_
 rotate_left
 ·show Act.put _ (some 10) _ = _
  simp only [Act.put, List.setIfInBounds_toArray, List.set_cons_zero, List.set_cons_succ, i64_w, i32_w]
  rfl
 refine on_ 10 (some 13) HT_ (fun K hK => ?_)
 refine goes_ Try.func24 (by kernel_rfl) rfl #[.slice A0_3 l0_3.length c0_3] (by rfl) rfl rfl (by (try simp only [List.map_toArray, List.map_cons, List.map_nil]); first | done | rfl | (simp only [List.length_drop, List.length_take]; rfl)) ?_
 with_reducible refine (transeptplain_CopyInts.calls _ _ l0_3 t189 _ ?_ ?_ A4.out).mono ?_
 exact cB_ HR0_3 HB
 exact HC0_3.out
 rintro e w10 ⟨v190, rfl, ho0, hb⟩
 refine ⟨_, rfl, ?_⟩
 replace HO185 := rB_ HO185 hb
 replace HO188 := rB_ HO188 hb
 have HO191 := Aside0.mk (Kd.R_lower ho0 (bs_ HB))
 replace BK181 := bK_ BK181 hb
 replace BK182 := bK_ BK182 hb
 replace HB := bS_ HB hb
 (try clear hb ho0)
 obtain ⟨Ao11, co11, eo11⟩ := Kd.R_slice HO191.out
 (first | subst eo11 | (injection eo11 with f1_ f2_ f3_; have f4_ := f1_.symm; have f5_ := f3_.symm; clear f1_ f2_ f3_; subst f4_; subst f5_))
 obtain ⟨Ao12, co12, eo12⟩ := Kd.R_slice HO188.out
 (first | subst eo12 | (injection eo12 with f1_ f2_ f3_; have f4_ := f1_.symm; have f5_ := f3_.symm; clear f1_ f2_ f3_; subst f4_; subst f5_))
 obtain ⟨Ao13, co13, eo13⟩ := Kd.R_slice HO185.out
 (first | subst eo13 | (injection eo13 with f1_ f2_ f3_; have f4_ := f1_.symm; have f5_ := f3_.symm; clear f1_ f2_ f3_; subst f4_; subst f5_))
 refine hK.out _ _ ⟨(blk_cell BK181.out 0).trans rfl, (blk_cell BK181.out 1).trans rfl, (blk_cell BK181.out 2).trans rfl, (blk_cell BK181.out 3).trans rfl⟩ (fun hHeld => ?_)
 clear hK K
 refine norm_ (a' := ?_) ?_ ?_
 rotate_left
 ·show Act.put _ (some 13) _ = _
  simp only [Act.put, List.setIfInBounds_toArray, List.set_cons_zero, List.set_cons_succ, i64_w, i32_w]
  rfl
 refine pu_ 11 (some 14) HT_ ?_
 refine on_ 12 none HT_ (fun K hK => ?_)
 have hs14 : w10.cell? ⟨gb182, 0, none⟩ = some (.bool false) := (blk_cell BK182.out 0).trans rfl
 have hfs14 := blk_frozen BK182.out 0
 have hns14_0 := NB181_182.out
 have hms14_0 := NB182_181.out
 have hs15 : w10.cell? ⟨gb182, 1, none⟩ = some (.slice none 0 0) := (blk_cell BK182.out 1).trans rfl
 have hfs15 := blk_frozen BK182.out 1
 have hns15_0 := NB181_182.out
 have hms15_0 := NB182_181.out
 have hs16 : w10.cell? ⟨gb182, 2, none⟩ = some (.slice none 0 0) := (blk_cell BK182.out 2).trans rfl
 have hfs16 := blk_frozen BK182.out 2
 have hns16_0 := NB181_182.out
 have hms16_0 := NB182_181.out
 have hs17 : w10.cell? ⟨gb182, 3, none⟩ = some (.slice none 0 0) := (blk_cell BK182.out 3).trans rfl
 have hfs17 := blk_frozen BK182.out 3
 have hns17_0 := NB181_182.out
 have hms17_0 := NB182_181.out
 refine skip_ (w1 := ?_) (by rfl) rfl ?_ ?_
 rotate_left
 ·go_simp
  rfl
 refine hK.out _ _ ⟨((cell_far (p := ⟨gb182, _, none⟩) NB181_182.out _).trans (((cell_far (p := ⟨gb182, _, none⟩) NB181_182.out _).trans (((cell_far (p := ⟨gb182, _, none⟩) NB181_182.out _).trans (((cell_far (p := ⟨gb182, _, none⟩) NB181_182.out _).trans (hHeld.1)))))))), ((cell_far (p := ⟨gb182, _, none⟩) NB181_182.out _).trans (((cell_far (p := ⟨gb182, _, none⟩) NB181_182.out _).trans (((cell_far (p := ⟨gb182, _, none⟩) NB181_182.out _).trans (((cell_far (p := ⟨gb182, _, none⟩) NB181_182.out _).trans (hHeld.2.1)))))))), ((cell_far (p := ⟨gb182, _, none⟩) NB181_182.out _).trans (((cell_far (p := ⟨gb182, _, none⟩) NB181_182.out _).trans (((cell_far (p := ⟨gb182, _, none⟩) NB181_182.out _).trans (((cell_far (p := ⟨gb182, _, none⟩) NB181_182.out _).trans (hHeld.2.2.1)))))))), ((cell_far (p := ⟨gb182, _, none⟩) NB181_182.out _).trans (((cell_far (p := ⟨gb182, _, none⟩) NB181_182.out _).trans (((cell_far (p := ⟨gb182, _, none⟩) NB181_182.out _).trans (((cell_far (p := ⟨gb182, _, none⟩) NB181_182.out _).trans (hHeld.2.2.2))))))))⟩ (fun hHeld => ?_)
 clear hK K
 refine done_ (done_of HT_.out (by kernel_rfl)) ?_
 try go_wp2
 refine bodyPost_ret (results_cell_row rfl _ _ gb182 31 #[.bool a0_0, .slice Ao13 t183.length co13, .slice Ao12 t186.length co12, .slice Ao11 t189.length co11] (0, 0) _ rfl (by (with_reducible repeat (first | refine blk_drewN ?_ _ | refine blk_drew ?_ | refine blk_alloc ?_ _)); refine blk_put (cs := #[.bool a0_0, .slice Ao13 t183.length co13, .slice Ao12 t186.length co12, .slice none 0 0]) ?_ 3 _ rfl; (with_reducible repeat (first | refine blk_drewN ?_ _ | refine blk_drew ?_ | refine blk_alloc ?_ _)); refine blk_put (cs := #[.bool a0_0, .slice Ao13 t183.length co13, .slice none 0 0, .slice none 0 0]) ?_ 2 _ rfl; (with_reducible repeat (first | refine blk_drewN ?_ _ | refine blk_drew ?_ | refine blk_alloc ?_ _)); refine blk_put (cs := #[.bool a0_0, .slice none 0 0, .slice none 0 0, .slice none 0 0]) ?_ 1 _ rfl; (with_reducible repeat (first | refine blk_drewN ?_ _ | refine blk_drew ?_ | refine blk_alloc ?_ _)); refine blk_put (cs := #[.bool false, .slice none 0 0, .slice none 0 0, .slice none 0 0]) ?_ 0 _ rfl; (with_reducible repeat (first | refine blk_drewN ?_ _ | refine blk_drew ?_ | refine blk_alloc ?_ _)); exact BK182.out) Try.underlying31 rfl (by kernel_rfl)) rfl ?_
 exact ⟨_, _, _, fin_, by (with_reducible repeat (first | apply Kd.R_alloc | apply Kd.R_drewN | apply Kd.R_drew)); exact Kd.R_mono (Kd.R_far (p := ⟨gb182, 3, none⟩) (Kd.R_far (p := ⟨gb182, 2, none⟩) (Kd.R_far (p := ⟨gb182, 1, none⟩) (Kd.R_far (p := ⟨gb182, 0, none⟩) (Kd.R_types HO185.out BK182.out (by decide)) (fun _ hk => hk.2) (.bool a0_0)) (fun _ hk => hk.2) (.slice Ao13 t183.length co13)) (fun _ hk => hk.2) (.slice Ao12 t186.length co12)) (fun _ hk => hk.2) (.slice Ao11 t189.length co11)) (fun _ hk => hk.1.2), by (with_reducible repeat (first | apply Kd.R_alloc | apply Kd.R_drewN | apply Kd.R_drew)); exact Kd.R_mono (Kd.R_far (p := ⟨gb182, 3, none⟩) (Kd.R_far (p := ⟨gb182, 2, none⟩) (Kd.R_far (p := ⟨gb182, 1, none⟩) (Kd.R_far (p := ⟨gb182, 0, none⟩) (Kd.R_types HO188.out BK182.out (by decide)) (fun _ hk => hk.2) (.bool a0_0)) (fun _ hk => hk.2) (.slice Ao13 t183.length co13)) (fun _ hk => hk.2) (.slice Ao12 t186.length co12)) (fun _ hk => hk.2) (.slice Ao11 t189.length co11)) (fun _ hk => hk.1.2), by (with_reducible repeat (first | apply Kd.R_alloc | apply Kd.R_drewN | apply Kd.R_drew)); exact Kd.R_mono (Kd.R_far (p := ⟨gb182, 3, none⟩) (Kd.R_far (p := ⟨gb182, 2, none⟩) (Kd.R_far (p := ⟨gb182, 1, none⟩) (Kd.R_far (p := ⟨gb182, 0, none⟩) (Kd.R_types HO191.out BK182.out (by decide)) (fun _ hk => hk.2) (.bool a0_0)) (fun _ hk => hk.2) (.slice Ao13 t183.length co13)) (fun _ hk => hk.2) (.slice Ao12 t186.length co12)) (fun _ hk => hk.2) (.slice Ao11 t189.length co11)) (fun _ hk => trivial), bl_ HB⟩
end Go.Proofs.Ytooabchnbmnchaa.Q
namespace Go.Proofs.Ytooabchnbmnchaa.Q
open Go.RowKit Go.Proofs.YtooabchnbmnchaaW.PrintWords Go.Proofs.YtooabchnbmnchaaW.PrintLast Go.Proofs.YtooabchnbmnchaaW.PrintMore
attribute [local go_sem] max2_int min2_int max_two min_two max_three min_three max_four min_four binOp_string_leq binOp_string_geq binOp_string_gtr   -- for this text's walks alone
set_option linter.unusedVariables false
set_option linter.unusedSimpArgs false
def transeptplain_SameStrings.l0 : Nat → List ByteArray → List ByteArray → Int → Option (Bool)
 | 0, _, _, _ => none
 | k + 1, x0, x1, x5 => if x5 < (x0.length : Int) then (if 0 ≤ x5 then (if x5 < (x1.length : Int) then (if (rdOf ByteArray.empty x0 x5).toList = (rdOf ByteArray.empty x1 x5).toList then (transeptplain_SameStrings.l0 k x0 x1 (wrap64 (x5 + 1))) else (some false)) else (none)) else (none)) else (some true)
def transeptplain_SameStrings.f (k : Nat) (l0 : List ByteArray) (l1 : List ByteArray) : Option (Bool) := if (l0.length : Int) = (l1.length : Int) then (transeptplain_SameStrings.l0 k l0 l1 0) else (some false)
theorem transeptplain_SameStrings.mono_l : ∀ k, (∀ y0 y1 y2, LeO (transeptplain_SameStrings.l0 k y0 y1 y2) (transeptplain_SameStrings.l0 (k + 1) y0 y1 y2))
 | 0 => fun _ _ _ r h => by simp [transeptplain_SameStrings.l0] at h
 | k + 1 => by
  have ih0 := transeptplain_SameStrings.mono_l k
  ·intro y0 y1 y2
   unfold transeptplain_SameStrings.l0
   repeat' first
   | (with_reducible exact ih0 _ _ _)
   | (with_reducible exact LeO.refl _)
   | (with_reducible exact LeO.none _)
   | (with_reducible refine LeO.ite ?_ ?_)
   | (with_reducible refine LeO.bind ?_ (fun _ => ?_))
   | exact ih0 _ _ _
   | exact LeO.none _
   | refine LeO.ite ?_ ?_
   | refine LeO.bind ?_ (fun _ => ?_)
theorem transeptplain_SameStrings.mono : ∀ a0 a1 k, LeO (transeptplain_SameStrings.f k a0 a1) (transeptplain_SameStrings.f (k + 1) a0 a1) := by
 intro a0 a1 k
 have ih0 := transeptplain_SameStrings.mono_l k
 unfold transeptplain_SameStrings.f
 repeat' first
   | (with_reducible exact ih0 _ _ _)
   | (with_reducible exact LeO.refl _)
   | (with_reducible exact LeO.none _)
   | (with_reducible refine LeO.ite ?_ ?_)
   | (with_reducible refine LeO.bind ?_ (fun _ => ?_))
   | exact ih0 _ _ _
   | exact LeO.none _
   | refine LeO.ite ?_ ?_
   | refine LeO.bind ?_ (fun _ => ?_)
set_option maxHeartbeats 8000000 in
set_option maxRecDepth 100000 in
theorem transeptplain_SameStrings.calls (k : Nat) (A0 : Option Addr) (c0 : Nat) (l0 : List ByteArray) (A1 : Option Addr) (c1 : Nat) (l1 : List ByteArray) (r : Bool) (w : World) (hr0 : Kd.C Kd.string w A0 l0.length l0) (hc0 : l0.length ≤ c0) (hr1 : Kd.C Kd.string w A1 l1.length l1) (hc1 : l1.length ≤ c1) (h : transeptplain_SameStrings.f k l0 l1 = some r) :
  Calls Try.prog 26 #[.slice A0 l0.length c0, .slice A1 l1.length c1] w fun e w' => e = .returned (.bool r) ∧ Drawn0 w w' := by
 have HR0 := Aside0.mk hr0
 have HC0 := Aside0.mk hc0
 clear hr0 hc0
 have HR1 := Aside0.mk hr1
 have HC1 := Aside0.mk hc1
 clear hr1 hc1
 have H : (if (l0.length : Int) = (l1.length : Int) then (transeptplain_SameStrings.l0 k l0 l1 0) else (some false)) = some r := h
 clear h
 by_cases c3 : (l0.length : Int) = (l1.length : Int)
 ·rw [if_pos c3] at H
  have c3b0 : ((l0.length : Int) == (l1.length : Int)) = true := beq_iff_eq.mpr c3
  have c3b1 : ((l0.length : Int) != (l1.length : Int)) = false := bne_eq_false_iff_eq.mpr c3
  have c3b2 : (l0.length == l1.length) = true := by first | simpa using c3 | (simp at c3 ⊢; omega)
  clear c3
  have H' := Aside0.mk H
  clear H
  go_enter Try.func26, Try.ntmps26
  go_wp2
  repeat (go_quiet (fail); try go_wp2)
  go_loopg [5] k (fun kq v5 w' => ∃ (x5_1 : Int), v5 = .int .i64 x5_1 ∧ Aside0 (transeptplain_SameStrings.l0 kq l0 l1 x5_1 = some r) ∧ Aside0 (kq ≤ k) ∧ Drawn0 w w')
  case atStart => exact ⟨(0), (by first | rfl | (simp; done) | (simp [*]; done)), H', ⟨Nat.le_refl _⟩, by repeat (first | exact Drawn0.refl _ | apply Drawn0.step)⟩
  case round =>
   clear H'
   try clear c1
   try clear c2
   try clear p2
   try clear c3
   try clear c3b0
   try clear c3b1
   try clear c3b2
   obtain ⟨x5_1, rfl, HA, HK1, ⟨m1, rfl⟩⟩ := hrel
   cases gk with
   | zero => exact absurd HA.out (by simp [transeptplain_SameStrings.l0])
   | succ k1 =>
    have H := HA.out
    clear HA
    simp only [transeptplain_SameStrings.l0] at H
    by_cases c4 : x5_1 < (l0.length : Int)
    ·rw [if_pos c4] at H
     have c4b0 : decide (x5_1 < (l0.length : Int)) = true := decide_eq_true c4
     clear c4
     by_cases c5 : 0 ≤ x5_1
     ·rw [if_pos c5] at H
      have c5b0 : decide (0 ≤ x5_1) = true := decide_eq_true c5
      clear c5
      by_cases c6 : x5_1 < (l1.length : Int)
      ·rw [if_pos c6] at H
       have c6b0 : decide (x5_1 < (l1.length : Int)) = true := decide_eq_true c6
       clear c6
       by_cases c7 : (rdOf ByteArray.empty l0 x5_1).toList = (rdOf ByteArray.empty l1 x5_1).toList
       ·rw [if_pos c7] at H
        have c7b0 : ((rdOf ByteArray.empty l0 x5_1).toList == (rdOf ByteArray.empty l1 x5_1).toList) = true := beq_iff_eq.mpr c7
        have c7b1 : ((rdOf ByteArray.empty l0 x5_1).toList != (rdOf ByteArray.empty l1 x5_1).toList) = false := bne_eq_false_iff_eq.mpr c7
        clear c7
        have H' := Aside0.mk H
        clear H
        have p192 : 0 ≤ (x5_1 : Int) := of_decide_eq_true (by first | (with_reducible assumption) | assumption)
        have q192 : x5_1 < (l0.length : Int) := of_decide_eq_true (by first | (with_reducible assumption) | assumption)
        obtain ⟨ad192, e192, hx192_0⟩ := Kd.at_string HR0.out x5_1 p192 q192
        cases e192
        replace p192 := eq_true p192
        replace q192 := eq_true q192
        have p193 : 0 ≤ (x5_1 : Int) := of_decide_eq_true (by first | (with_reducible assumption) | assumption)
        have q193 : x5_1 < (l1.length : Int) := of_decide_eq_true (by first | (with_reducible assumption) | assumption)
        obtain ⟨ad193, e193, hx193_0⟩ := Kd.at_string HR1.out x5_1 p193 q193
        cases e193
        replace p193 := eq_true p193
        replace q193 := eq_true q193
        go_wp2
        repeat (go_quiet (fail); try go_wp2)
        go_roundg k1
        case measure => have := HK1.out; omega
        case rel => exact ⟨(wrap64 (x5_1 + 1)), (by first | rfl | (simp; done) | (simp [*]; done)), H', ⟨by have := HK1.out; omega⟩, by repeat (first | exact Drawn0.refl _ | apply Drawn0.step)⟩
       ·rw [if_neg c7] at H
        have c7b0 : ((rdOf ByteArray.empty l0 x5_1).toList == (rdOf ByteArray.empty l1 x5_1).toList) = false := beq_eq_false_iff_ne.mpr c7
        have c7b1 : ((rdOf ByteArray.empty l0 x5_1).toList != (rdOf ByteArray.empty l1 x5_1).toList) = true := bne_iff_ne.mpr c7
        obtain rfl := Option.some.inj H
        have p192 : 0 ≤ (x5_1 : Int) := of_decide_eq_true (by first | (with_reducible assumption) | assumption)
        have q192 : x5_1 < (l0.length : Int) := of_decide_eq_true (by first | (with_reducible assumption) | assumption)
        obtain ⟨ad192, e192, hx192_0⟩ := Kd.at_string HR0.out x5_1 p192 q192
        cases e192
        replace p192 := eq_true p192
        replace q192 := eq_true q192
        have p193 : 0 ≤ (x5_1 : Int) := of_decide_eq_true (by first | (with_reducible assumption) | assumption)
        have q193 : x5_1 < (l1.length : Int) := of_decide_eq_true (by first | (with_reducible assumption) | assumption)
        obtain ⟨ad193, e193, hx193_0⟩ := Kd.at_string HR1.out x5_1 p193 q193
        cases e193
        replace p193 := eq_true p193
        replace q193 := eq_true q193
        go_wp2
        repeat (go_quiet (fail); try go_wp2)
        go_ret
        exact ⟨by first | rfl | (simp; done) | (simp [*]; done), by repeat (first | exact Drawn0.refl _ | apply Drawn0.step)⟩
      ·rw [if_neg c6] at H
       exact absurd H (by simp)
     ·rw [if_neg c5] at H
      exact absurd H (by simp)
    ·rw [if_neg c4] at H
     have c4b0 : decide (x5_1 < (l0.length : Int)) = false := decide_eq_false c4
     clear c4
     obtain rfl := Option.some.inj H
     go_wp2
     repeat (go_quiet (fail); try go_wp2)
     go_ret
     exact ⟨by first | rfl | (simp; done) | (simp [*]; done), by repeat (first | exact Drawn0.refl _ | apply Drawn0.step)⟩
 ·rw [if_neg c3] at H
  have c3b0 : ((l0.length : Int) == (l1.length : Int)) = false := beq_eq_false_iff_ne.mpr c3
  have c3b1 : ((l0.length : Int) != (l1.length : Int)) = true := bne_iff_ne.mpr c3
  have c3b2 : (l0.length == l1.length) = false := by first | simpa using c3 | (simp at c3 ⊢; omega)
  obtain rfl := Option.some.inj H
  go_enter Try.func26, Try.ntmps26
  go_wp2
  repeat (go_quiet (fail); try go_wp2)
  go_ret
  exact ⟨by first | rfl | (simp; done) | (simp [*]; done), by repeat (first | exact Drawn0.refl _ | apply Drawn0.step)⟩
end Go.Proofs.Ytooabchnbmnchaa.Q
namespace Go.Proofs.Ytooabchnbmnchaa.Q
open Go.RowKit Go.Proofs.YtooabchnbmnchaaW.PrintWords Go.Proofs.YtooabchnbmnchaaW.PrintLast Go.Proofs.YtooabchnbmnchaaW.PrintMore
attribute [local go_sem] max2_int min2_int max_two min_two max_three min_three max_four min_four binOp_string_leq binOp_string_geq binOp_string_gtr   -- for this text's walks alone
set_option linter.unusedVariables false
set_option linter.unusedSimpArgs false
def transeptplain_SameInts.l0 : Nat → List Int → List Int → Int → Option (Bool)
 | 0, _, _, _ => none
 | k + 1, x0, x1, x5 => if x5 < (x0.length : Int) then (if 0 ≤ x5 then (if x5 < (x1.length : Int) then (if (rd x0 x5) = (rd x1 x5) then (transeptplain_SameInts.l0 k x0 x1 (wrap64 (x5 + 1))) else (some false)) else (none)) else (none)) else (some true)
def transeptplain_SameInts.f (k : Nat) (l0 : List Int) (l1 : List Int) : Option (Bool) := if (l0.length : Int) = (l1.length : Int) then (transeptplain_SameInts.l0 k l0 l1 0) else (some false)
theorem transeptplain_SameInts.mono_l : ∀ k, (∀ y0 y1 y2, LeO (transeptplain_SameInts.l0 k y0 y1 y2) (transeptplain_SameInts.l0 (k + 1) y0 y1 y2))
 | 0 => fun _ _ _ r h => by simp [transeptplain_SameInts.l0] at h
 | k + 1 => by
  have ih0 := transeptplain_SameInts.mono_l k
  ·intro y0 y1 y2
   unfold transeptplain_SameInts.l0
   repeat' first
   | (with_reducible exact ih0 _ _ _)
   | (with_reducible exact LeO.refl _)
   | (with_reducible exact LeO.none _)
   | (with_reducible refine LeO.ite ?_ ?_)
   | (with_reducible refine LeO.bind ?_ (fun _ => ?_))
   | exact ih0 _ _ _
   | exact LeO.none _
   | refine LeO.ite ?_ ?_
   | refine LeO.bind ?_ (fun _ => ?_)
theorem transeptplain_SameInts.mono : ∀ a0 a1 k, LeO (transeptplain_SameInts.f k a0 a1) (transeptplain_SameInts.f (k + 1) a0 a1) := by
 intro a0 a1 k
 have ih0 := transeptplain_SameInts.mono_l k
 unfold transeptplain_SameInts.f
 repeat' first
   | (with_reducible exact ih0 _ _ _)
   | (with_reducible exact LeO.refl _)
   | (with_reducible exact LeO.none _)
   | (with_reducible refine LeO.ite ?_ ?_)
   | (with_reducible refine LeO.bind ?_ (fun _ => ?_))
   | exact ih0 _ _ _
   | exact LeO.none _
   | refine LeO.ite ?_ ?_
   | refine LeO.bind ?_ (fun _ => ?_)
set_option maxHeartbeats 8000000 in
set_option maxRecDepth 100000 in
theorem transeptplain_SameInts.calls (k : Nat) (A0 : Option Addr) (c0 : Nat) (l0 : List Int) (A1 : Option Addr) (c1 : Nat) (l1 : List Int) (r : Bool) (w : World) (hr0 : Kd.C (Kd.int .i64) w A0 l0.length l0) (hc0 : l0.length ≤ c0) (hr1 : Kd.C (Kd.int .i64) w A1 l1.length l1) (hc1 : l1.length ≤ c1) (h : transeptplain_SameInts.f k l0 l1 = some r) :
  Calls Try.prog 27 #[.slice A0 l0.length c0, .slice A1 l1.length c1] w fun e w' => e = .returned (.bool r) ∧ Drawn0 w w' := by
 have HR0 := Aside0.mk hr0
 have HC0 := Aside0.mk hc0
 clear hr0 hc0
 have HR1 := Aside0.mk hr1
 have HC1 := Aside0.mk hc1
 clear hr1 hc1
 have H : (if (l0.length : Int) = (l1.length : Int) then (transeptplain_SameInts.l0 k l0 l1 0) else (some false)) = some r := h
 clear h
 by_cases c3 : (l0.length : Int) = (l1.length : Int)
 ·rw [if_pos c3] at H
  have c3b0 : ((l0.length : Int) == (l1.length : Int)) = true := beq_iff_eq.mpr c3
  have c3b1 : ((l0.length : Int) != (l1.length : Int)) = false := bne_eq_false_iff_eq.mpr c3
  have c3b2 : (l0.length == l1.length) = true := by first | simpa using c3 | (simp at c3 ⊢; omega)
  clear c3
  have H' := Aside0.mk H
  clear H
  go_enter Try.func27, Try.ntmps27
  go_wp2
  repeat (go_quiet (fail); try go_wp2)
  go_loopg [5] k (fun kq v5 w' => ∃ (x5_1 : Int), v5 = .int .i64 x5_1 ∧ Aside0 (transeptplain_SameInts.l0 kq l0 l1 x5_1 = some r) ∧ Aside0 (kq ≤ k) ∧ Drawn0 w w')
  case atStart => exact ⟨(0), (by first | rfl | (simp; done) | (simp [*]; done)), H', ⟨Nat.le_refl _⟩, by repeat (first | exact Drawn0.refl _ | apply Drawn0.step)⟩
  case round =>
   clear H'
   try clear c1
   try clear c2
   try clear p2
   try clear c3
   try clear c3b0
   try clear c3b1
   try clear c3b2
   obtain ⟨x5_1, rfl, HA, HK1, ⟨m1, rfl⟩⟩ := hrel
   cases gk with
   | zero => exact absurd HA.out (by simp [transeptplain_SameInts.l0])
   | succ k1 =>
    have H := HA.out
    clear HA
    simp only [transeptplain_SameInts.l0] at H
    by_cases c4 : x5_1 < (l0.length : Int)
    ·rw [if_pos c4] at H
     have c4b0 : decide (x5_1 < (l0.length : Int)) = true := decide_eq_true c4
     clear c4
     by_cases c5 : 0 ≤ x5_1
     ·rw [if_pos c5] at H
      have c5b0 : decide (0 ≤ x5_1) = true := decide_eq_true c5
      clear c5
      by_cases c6 : x5_1 < (l1.length : Int)
      ·rw [if_pos c6] at H
       have c6b0 : decide (x5_1 < (l1.length : Int)) = true := decide_eq_true c6
       clear c6
       by_cases c7 : (rd l0 x5_1) = (rd l1 x5_1)
       ·rw [if_pos c7] at H
        have c7b0 : ((rd l0 x5_1) == (rd l1 x5_1)) = true := beq_iff_eq.mpr c7
        have c7b1 : ((rd l0 x5_1) != (rd l1 x5_1)) = false := bne_eq_false_iff_eq.mpr c7
        clear c7
        have H' := Aside0.mk H
        clear H
        have p194 : 0 ≤ (x5_1 : Int) := of_decide_eq_true (by first | (with_reducible assumption) | assumption)
        have q194 : x5_1 < (l0.length : Int) := of_decide_eq_true (by first | (with_reducible assumption) | assumption)
        obtain ⟨ad194, e194, hx194_0⟩ := Kd.at_int HR0.out x5_1 p194 q194
        cases e194
        replace p194 := eq_true p194
        replace q194 := eq_true q194
        have p195 : 0 ≤ (x5_1 : Int) := of_decide_eq_true (by first | (with_reducible assumption) | assumption)
        have q195 : x5_1 < (l1.length : Int) := of_decide_eq_true (by first | (with_reducible assumption) | assumption)
        obtain ⟨ad195, e195, hx195_0⟩ := Kd.at_int HR1.out x5_1 p195 q195
        cases e195
        replace p195 := eq_true p195
        replace q195 := eq_true q195
        go_wp2
        repeat (go_quiet (fail); try go_wp2)
        go_roundg k1
        case measure => have := HK1.out; omega
        case rel => exact ⟨(wrap64 (x5_1 + 1)), (by first | rfl | (simp; done) | (simp [*]; done)), H', ⟨by have := HK1.out; omega⟩, by repeat (first | exact Drawn0.refl _ | apply Drawn0.step)⟩
       ·rw [if_neg c7] at H
        have c7b0 : ((rd l0 x5_1) == (rd l1 x5_1)) = false := beq_eq_false_iff_ne.mpr c7
        have c7b1 : ((rd l0 x5_1) != (rd l1 x5_1)) = true := bne_iff_ne.mpr c7
        obtain rfl := Option.some.inj H
        have p194 : 0 ≤ (x5_1 : Int) := of_decide_eq_true (by first | (with_reducible assumption) | assumption)
        have q194 : x5_1 < (l0.length : Int) := of_decide_eq_true (by first | (with_reducible assumption) | assumption)
        obtain ⟨ad194, e194, hx194_0⟩ := Kd.at_int HR0.out x5_1 p194 q194
        cases e194
        replace p194 := eq_true p194
        replace q194 := eq_true q194
        have p195 : 0 ≤ (x5_1 : Int) := of_decide_eq_true (by first | (with_reducible assumption) | assumption)
        have q195 : x5_1 < (l1.length : Int) := of_decide_eq_true (by first | (with_reducible assumption) | assumption)
        obtain ⟨ad195, e195, hx195_0⟩ := Kd.at_int HR1.out x5_1 p195 q195
        cases e195
        replace p195 := eq_true p195
        replace q195 := eq_true q195
        go_wp2
        repeat (go_quiet (fail); try go_wp2)
        go_ret
        exact ⟨by first | rfl | (simp; done) | (simp [*]; done), by repeat (first | exact Drawn0.refl _ | apply Drawn0.step)⟩
      ·rw [if_neg c6] at H
       exact absurd H (by simp)
     ·rw [if_neg c5] at H
      exact absurd H (by simp)
    ·rw [if_neg c4] at H
     have c4b0 : decide (x5_1 < (l0.length : Int)) = false := decide_eq_false c4
     clear c4
     obtain rfl := Option.some.inj H
     go_wp2
     repeat (go_quiet (fail); try go_wp2)
     go_ret
     exact ⟨by first | rfl | (simp; done) | (simp [*]; done), by repeat (first | exact Drawn0.refl _ | apply Drawn0.step)⟩
 ·rw [if_neg c3] at H
  have c3b0 : ((l0.length : Int) == (l1.length : Int)) = false := beq_eq_false_iff_ne.mpr c3
  have c3b1 : ((l0.length : Int) != (l1.length : Int)) = true := bne_iff_ne.mpr c3
  have c3b2 : (l0.length == l1.length) = false := by first | simpa using c3 | (simp at c3 ⊢; omega)
  obtain rfl := Option.some.inj H
  go_enter Try.func27, Try.ntmps27
  go_wp2
  repeat (go_quiet (fail); try go_wp2)
  go_ret
  exact ⟨by first | rfl | (simp; done) | (simp [*]; done), by repeat (first | exact Drawn0.refl _ | apply Drawn0.step)⟩
end Go.Proofs.Ytooabchnbmnchaa.Q
