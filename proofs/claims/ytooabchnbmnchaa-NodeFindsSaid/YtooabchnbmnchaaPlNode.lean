-- (thinned for this claim by wip/tools/shake.py: what the claim doesn't use is left out)
import Derived.Test.YtooabchnbmnchaaQ1
import Derived.Test.YtooabchnbmnchaaQ22
import Derived.Test.YtooabchnbmnchaaKit
namespace Go.Proofs.Ytooabchnbmnchaa.Q
open Go.RowKit Go.Proofs.YtooabchnbmnchaaW.PrintWords Go.Proofs.YtooabchnbmnchaaW.PrintLast Go.Proofs.YtooabchnbmnchaaW.PrintMore
set_option linter.unusedVariables false
set_option linter.unusedSimpArgs false
def KeyOk (x : ByteArray) : Prop := x.toList ≠ [] ∧ x.size ≤ 32
def Up (ks : List ByteArray) : Prop := ∀ i, (h : i + 1 < ks.length) → Op.bytesLess (ks[i]'(by omega)).toList ks[i + 1].toList = true
def ShapeOk (leaf : Bool) (ks vs : List ByteArray) (ds : List Int) : Prop := if leaf = true then vs.length = ks.length ∧ ds.length = 0 else vs.length = 0 ∧ 0 < ks.length ∧ ds.length = ks.length + 1
structure NodeOk (leaf : Bool) (ks vs : List ByteArray) (ds : List Int) : Prop where
  keys : ∀ x ∈ ks, KeyOk x
  up : Up ks
  shape : ShapeOk leaf ks vs ds
  vals : ∀ v ∈ vs, v.size ≤ 64
  kids : ∀ d ∈ ds, 1 ≤ d ∧ d ≤ 65536
  room : node_Size.v leaf ks vs ds ≤ 244
theorem shape_is (leaf : Bool) (ks vs : List ByteArray) (ds : List Int) (hn : ks.length ≤ 9000000000000) : ∃ b, node_Node_shape.f leaf ks vs ds = some b ∧ (b = true ↔ ShapeOk leaf ks vs ds) := by
  unfold node_Node_shape.f ShapeOk
  rw [wrap64_id (by omega) (by omega)]
  by_cases h : leaf = true
  · rw [if_pos h, if_pos h]
    by_cases h1 : (vs.length : Int) = (ks.length : Int)
    · rw [if_pos h1]
      refine ⟨_, rfl, ?_⟩
      rw [beq_iff_eq]; omega
    · rw [if_neg h1]
      exact ⟨false, rfl, ⟨fun h => absurd h (by decide), fun h => absurd h (by omega)⟩⟩
  · rw [if_neg h, if_neg h]
    by_cases h1 : (vs.length : Int) = 0
    · rw [if_pos h1]
      by_cases h2 : (ks.length : Int) > 0
      · rw [if_pos h2]
        refine ⟨_, rfl, ?_⟩
        rw [beq_iff_eq]; omega
      · rw [if_neg h2]
        exact ⟨false, rfl, ⟨fun h => absurd h (by decide), fun h => absurd h (by omega)⟩⟩
    · rw [if_neg h1]
      exact ⟨false, rfl, ⟨fun h => absurd h (by decide), fun h => absurd h (by omega)⟩⟩
theorem cont_str (vs : List ByteArray) : slices_ContainsFunc_string_string.f vs 58 = some (vs.any fun v => decide (64 < v.size)) := rfl
theorem cont_int (ds : List Int) : slices_ContainsFunc_int_int.f ds 60 = some (ds.any fun v => decide (v < 1 ∨ 65536 < v)) := rfl
theorem tail_is (leaf : Bool) (ks vs : List ByteArray) (ds : List Int) (hn : ks.length ≤ 9000000000000) :
    ∃ e, ((node_Node_shape.f leaf ks vs ds).bind fun t105 => (if t105 = true then ((slices_ContainsFunc_string_string.f vs 58).bind fun t106 => (if t106 = true then (some 5) else ((slices_ContainsFunc_int_int.f ds 60).bind fun t107 => (if t107 = true then (some 4) else ((node_Size.f leaf ks vs ds).bind fun t108 => (if t108 > 244 then (some 51) else (some 0))))))) else (some 3))) = some (e : Int) ∧
      (e = 0 ↔ (ShapeOk leaf ks vs ds ∧ (∀ v ∈ vs, v.size ≤ 64) ∧ (∀ d ∈ ds, 1 ≤ d ∧ d ≤ 65536) ∧ node_Size.v leaf ks vs ds ≤ 244)) := by
  obtain ⟨b, hb, hb2⟩ := shape_is leaf ks vs ds hn
  rw [hb, Option.bind_some]
  by_cases h1 : b = true
  case neg => exact ⟨3, by rw [if_neg h1], ⟨fun h => absurd h (by decide), fun h => absurd (hb2.2 h.1) h1⟩⟩
  rw [if_pos h1, cont_str, Option.bind_some]
  by_cases h2 : (vs.any fun v => decide (64 < v.size)) = true
  · refine ⟨5, by rw [if_pos h2], ⟨fun h => absurd h (by decide), fun h => ?_⟩⟩
    obtain ⟨v, hv, hv2⟩ := List.any_eq_true.1 h2
    have := h.2.1 v hv
    simp at hv2; omega
  rw [if_neg h2, cont_int, Option.bind_some]
  by_cases h3 : (ds.any fun v => decide (v < 1 ∨ 65536 < v)) = true
  · refine ⟨4, by rw [if_pos h3], ⟨fun h => absurd h (by decide), fun h => ?_⟩⟩
    obtain ⟨v, hv, hv2⟩ := List.any_eq_true.1 h3
    have := h.2.2.1 v hv
    simp at hv2; omega
  rw [if_neg h3]
  unfold node_Size.f
  rw [Option.bind_some]
  by_cases h4 : node_Size.v leaf ks vs ds > 244
  · exact ⟨51, by rw [if_pos h4], ⟨fun h => absurd h (by decide), fun h => by have := h.2.2.2; omega⟩⟩
  · refine ⟨0, by rw [if_neg h4], ⟨fun _ => ⟨hb2.1 h1, fun v hv => ?_, fun d hd => ?_, by omega⟩, fun _ => rfl⟩⟩
    · have := fun hh => h2 (List.any_eq_true.2 ⟨v, hv, hh⟩)
      simp at this; omega
    · have := fun hh => h3 (List.any_eq_true.2 ⟨d, hd, hh⟩)
      simp at this; omega
def GoodTo (ks : List ByteArray) (i : Nat) : Prop := (∀ j, (h : j < ks.length) → j < i → KeyOk ks[j]) ∧ (∀ j, (h : j + 1 < ks.length) → j + 1 < i → Op.bytesLess (ks[j]'(by omega)).toList ks[j + 1].toList = true)
theorem check_loop (leaf : Bool) (ks vs : List ByteArray) (ds : List Int) (hn : ks.length ≤ 9000000000000) : ∀ (d k i : Nat), i + d = ks.length → d < k → GoodTo ks i →
    ∃ e, node_Check.l0 k ks (ks.length : Int) (i : Int) leaf ks vs ds = some e ∧ (e = 0 ↔ NodeOk leaf ks vs ds) := by
  intro d
  induction d with
  | zero =>
    intro k i hi hk hg
    obtain ⟨k, rfl⟩ : ∃ m, k = m + 1 := ⟨k - 1, by omega⟩
    simp only [node_Check.l0]
    rw [if_neg (by omega)]
    obtain ⟨e, he, he2⟩ := tail_is leaf ks vs ds hn
    refine ⟨e, he, he2.trans ⟨fun h => ⟨fun x hx => ?_, fun j hj => hg.2 j hj (by omega), h.1, h.2.1, h.2.2.1, h.2.2.2⟩, fun h => ⟨h.shape, h.vals, h.kids, h.room⟩⟩⟩
    obtain ⟨j, hj, rfl⟩ := List.getElem_of_mem hx
    exact hg.1 j hj (by omega)
  | succ d ih =>
    intro k i hi hk hg
    obtain ⟨k, rfl⟩ : ∃ m, k = m + 1 := ⟨k - 1, by omega⟩
    have h1 : i < ks.length := by omega
    simp only [node_Check.l0]
    rw [if_pos (by omega), if_pos (by omega), if_pos (by omega), rdOf_nat ks i h1]
    by_cases c1 : (ks[i]).toList = ([] : List UInt8)
    · exact ⟨91, by rw [if_pos c1], ⟨fun h => absurd h (by decide), fun h => absurd c1 (h.keys _ (List.getElem_mem h1)).1⟩⟩
    rw [if_neg c1]
    by_cases c2 : ((ks[i]).size : Int) > 32
    · exact ⟨91, by rw [if_pos c2], ⟨fun h => absurd h (by decide), fun h => by have := (h.keys _ (List.getElem_mem h1)).2; omega⟩⟩
    rw [if_neg c2, wrap64_id (x := (i : Int) + 1) (by omega) (by omega)]
    by_cases c3 : (i : Int) > 0
    · rw [if_pos c3, wrap64_id (x := (i : Int) - 1) (by omega) (by omega), if_pos (by omega), if_pos (by omega)]
      obtain ⟨m, rfl⟩ : ∃ m, i = m + 1 := ⟨i - 1, by omega⟩
      rw [show ((m + 1 : Nat) : Int) - 1 = (m : Int) by omega, rdOf_nat ks m (by omega)]
      by_cases c4 : Op.bytesLess (ks[m]).toList (ks[m + 1]).toList = true
      · rw [if_pos c4]
        refine ih k (m + 1 + 1) (by omega) (by omega) ⟨fun j hj hlt => ?_, fun j hj hlt => ?_⟩
        · by_cases e : j = m + 1
          · subst e; exact ⟨c1, by omega⟩
          · exact hg.1 j hj (by omega)
        · by_cases e : j = m
          · subst e; exact c4
          · exact hg.2 j hj (by omega)
      · exact ⟨91, by rw [if_neg c4], ⟨fun h => absurd h (by decide), fun h => absurd (h.up m h1) c4⟩⟩
    · rw [if_neg c3]
      refine ih k (i + 1) (by omega) (by omega) ⟨fun j hj hlt => ?_, fun j hj hlt => ?_⟩
      · by_cases e : j = i
        · subst e; exact ⟨c1, by omega⟩
        · exact hg.1 j hj (by omega)
      · omega
theorem check_is (leaf : Bool) (ks vs : List ByteArray) (ds : List Int) (hn : ks.length ≤ 9000000000000) (k : Nat) (hk : ks.length < k) : ∃ e, node_Check.f k leaf ks vs ds = some e ∧ (e = 0 ↔ NodeOk leaf ks vs ds) :=
  check_loop leaf ks vs ds hn ks.length k 0 (by omega) hk ⟨fun _ _ h => by omega, fun _ _ h => by omega⟩
theorem check_ok (leaf : Bool) (ks vs : List ByteArray) (ds : List Int) (hn : ks.length ≤ 9000000000000) (k : Nat) (hk : ks.length < k) (h : NodeOk leaf ks vs ds) : node_Check.f k leaf ks vs ds = some 0 := by
  obtain ⟨e, he, he2⟩ := check_is leaf ks vs ds hn k hk
  rw [he, he2.2 h]
theorem copyStr_is (l : List ByteArray) (h : l.length < 8796093022208) : transeptplain_CopyStrings.f l = some l := by
  unfold transeptplain_CopyStrings.f; rw [if_pos (by simpa using h)]; rfl
theorem copyInt_is (l : List Int) (h : l.length < 17592186044416) : transeptplain_CopyInts.f l = some l := by
  unfold transeptplain_CopyInts.f; rw [if_pos (by simpa using h)]; rfl
theorem of_is (leaf : Bool) (ks vs : List ByteArray) (ds : List Int) (h1 : ks.length < 8796093022208) (h2 : vs.length < 8796093022208) (h3 : ds.length < 17592186044416) : transeptlaw09_of.f leaf ks vs ds = some (leaf, ks, vs, ds) := by
  unfold transeptlaw09_of.f
  rw [copyStr_is ks h1, Option.bind_some, copyStr_is vs h2, Option.bind_some, copyInt_is ds h3, Option.bind_some]
end Go.Proofs.Ytooabchnbmnchaa.Q
