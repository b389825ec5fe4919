-- (thinned for this claim by wip/tools/shake.py: what the claim doesn't use is left out)
import Derived.Test.YtooabchnbmnchaaQ1
import Derived.Test.YtooabchnbmnchaaQ38
import Derived.Test.YtooabchnbmnchaaQ32
import Derived.Test.YtooabchnbmnchaaQ39
import Derived.Test.YtooabchnbmnchaaQ31
import Derived.Test.YtooabchnbmnchaaQ28
import Derived.Test.YtooabchnbmnchaaQ42
import Derived.Test.YtooabchnbmnchaaKit
import Derived.Test.YtooabchnbmnchaaPlNode
import Derived.Test.YtooabchnbmnchaaPlSum
namespace Go.Proofs.Ytooabchnbmnchaa.Q
open Go.RowKit Go.Proofs.YtooabchnbmnchaaW.PrintWords Go.Proofs.YtooabchnbmnchaaW.PrintLast Go.Proofs.YtooabchnbmnchaaW.PrintMore
set_option linter.unusedVariables false
set_option linter.unusedSimpArgs false
def badAt (ks : List ByteArray) (i : Nat) : Bool := decide ((ks.getD i ByteArray.empty).size < 1) || decide (32 < (ks.getD i ByteArray.empty).size) || (decide (0 < i) && !(Op.bytesLess (ks.getD (i - 1) ByteArray.empty).toList (ks.getD i ByteArray.empty).toList))
def badFrom (ks : List ByteArray) (i d : Nat) : Bool := (List.range' i d).any (badAt ks)
theorem badFrom_succ (ks : List ByteArray) (i d : Nat) : badFrom ks i (d + 1) = (badAt ks i || badFrom ks (i + 1) d) := by
  unfold badFrom; rw [List.range'_succ, List.any_cons]
def szOf (leaf : Bool) (ks vs : List ByteArray) (ds : List Int) : Nat := if leaf = true then 2 + sumK ks + ks.length + sumV vs else 2 + sumK ks + 4 * ds.length
instance (leaf : Bool) (ks vs : List ByteArray) (ds : List Int) : Decidable (ShapeOk leaf ks vs ds) := by unfold ShapeOk; infer_instance
def tailC (leaf : Bool) (ks vs : List ByteArray) (ds : List Int) : Int :=
  if ShapeOk leaf ks vs ds then (if (vs.any fun v => decide (64 < v.size)) = true then 5 else if (ds.any fun v => decide (v < 1 ∨ 65536 < v)) = true then 4 else if 244 < szOf leaf ks vs ds then 51 else 0) else 3
def chk (leaf : Bool) (ks vs : List ByteArray) (ds : List Int) : Int := if badFrom ks 0 ks.length = true then 91 else tailC leaf ks vs ds
theorem getD_nat (ks : List ByteArray) (i : Nat) (h : i < ks.length) : ks.getD i ByteArray.empty = ks[i] := by
  rw [List.getD_eq_getElem?_getD, List.getElem?_eq_getElem h]; rfl
theorem rdD (ks : List ByteArray) (i : Nat) (h : i < ks.length) : rdOf ByteArray.empty ks (i : Int) = ks.getD i ByteArray.empty := by rw [rdOf_nat ks i h, getD_nat ks i h]
theorem size_of_bad {ks : List ByteArray} (h : badFrom ks 0 ks.length = false) : ∀ x ∈ ks, x.size ≤ 32 := by
  intro x hx
  obtain ⟨j, hj, rfl⟩ := List.getElem_of_mem hx
  unfold badFrom at h
  have := (List.any_eq_false.1 h) j (by rw [List.mem_range'_1]; omega)
  unfold badAt at this
  rw [getD_nat ks j hj] at this
  simp at this
  omega
theorem vals_of {vs : List ByteArray} (h : ¬ (vs.any fun v => decide (64 < v.size)) = true) : ∀ v ∈ vs, v.size ≤ 64 := by
  intro v hv
  have := fun hh => h (List.any_eq_true.2 ⟨v, hv, hh⟩)
  simp at this; omega
theorem toList_nil_size (x : ByteArray) : x.toList = [] ↔ x.size < 1 := by
  rw [ByteArray.toList_eq]
  have : x.data.toList.length = x.size := by rw [Array.length_toList]; rfl
  constructor
  · intro h; rw [h] at this; simp at this; omega
  · intro h; exact List.length_eq_zero_iff.1 (by omega)
theorem ptail_is (leaf : Bool) (ks vs : List ByteArray) (ds : List Int) (hn : ks.length ≤ 8796093022207) (hd : ds.length ≤ 17592186044416) (hb : badFrom ks 0 ks.length = false) :
    ((node_Node_shape.f leaf ks vs ds).bind fun t105 => (if t105 = true then ((slices_ContainsFunc_string_string.f vs 58).bind fun t106 => (if t106 = true then (some 5) else ((slices_ContainsFunc_int_int.f ds 60).bind fun t107 => (if t107 = true then (some 4) else ((node_Size.f leaf ks vs ds).bind fun t108 => (if t108 > 244 then (some 51) else (some 0))))))) else (some 3))) = some (tailC leaf ks vs ds) := by
  obtain ⟨b, hb', hb2⟩ := shape_is leaf ks vs ds (by omega)
  rw [hb', Option.bind_some]
  unfold tailC
  by_cases h1 : b = true
  case neg => rw [if_neg h1, if_neg (fun h => h1 (hb2.2 h))]
  have hsh := hb2.1 h1
  rw [if_pos h1, if_pos hsh, cont_str, Option.bind_some]
  by_cases h2 : (vs.any fun v => decide (64 < v.size)) = true
  · rw [if_pos h2, if_pos h2]
  rw [if_neg h2, if_neg h2, cont_int, Option.bind_some]
  by_cases h3 : (ds.any fun v => decide (v < 1 ∨ 65536 < v)) = true
  · rw [if_pos h3, if_pos h3]
  rw [if_neg h3, if_neg h3]
  unfold node_Size.f
  rw [Option.bind_some]
  have hs : node_Size.v leaf ks vs ds = ((szOf leaf ks vs ds : Nat) : Int) := by
    unfold szOf
    unfold ShapeOk at hsh
    cases leaf with
    | true => rw [if_pos rfl] at hsh ⊢; exact size_leaf ks vs ds (size_of_bad hb) (vals_of h2) hsh.1 (by omega)
    | false => rw [if_neg (by decide)] at hsh ⊢; exact size_inner ks vs ds (size_of_bad hb) (by omega) (by omega)
  rw [hs]
  by_cases h4 : 244 < szOf leaf ks vs ds
  · rw [if_pos (by omega), if_pos h4]
  · rw [if_neg (by omega), if_neg h4]
theorem badAt_1 {ks : List ByteArray} {i : Nat} (h : (ks.getD i ByteArray.empty).size < 1) : badAt ks i = true := by unfold badAt; rw [decide_eq_true h]; rfl
theorem badAt_2 {ks : List ByteArray} {i : Nat} (h : 32 < (ks.getD i ByteArray.empty).size) : badAt ks i = true := by unfold badAt; rw [decide_eq_true h, Bool.or_true]; rfl
theorem badAt_3 {ks : List ByteArray} {i : Nat} (h : 0 < i) (h2 : Op.bytesLess (ks.getD (i - 1) ByteArray.empty).toList (ks.getD i ByteArray.empty).toList = false) : badAt ks i = true := by unfold badAt; rw [decide_eq_true h, h2]; exact Bool.or_true _
theorem badAt_false {ks : List ByteArray} {i : Nat} (h1 : ¬ (ks.getD i ByteArray.empty).size < 1) (h2 : ¬ 32 < (ks.getD i ByteArray.empty).size) (h3 : 0 < i → Op.bytesLess (ks.getD (i - 1) ByteArray.empty).toList (ks.getD i ByteArray.empty).toList = true) : badAt ks i = false := by
  unfold badAt
  rw [decide_eq_false h1, decide_eq_false h2]
  by_cases h : 0 < i
  · rw [h3 h, decide_eq_true h]; rfl
  · rw [decide_eq_false h]; rfl
theorem bad_split (ks : List ByteArray) : ∀ (i d : Nat), badFrom ks 0 (i + d) = (badFrom ks 0 i || badFrom ks i d) := by
  intro i d
  unfold badFrom
  rw [← List.any_append]
  congr 1
  have := List.range'_append (s := 0) (m := i) (n := d) (step := 1)
  simp at this
  rw [this]
theorem pcheck_loop (leaf : Bool) (ks vs : List ByteArray) (ds : List Int) (hn : ks.length ≤ 8796093022207) (hd : ds.length ≤ 17592186044416) : ∀ (d k i : Nat), i + d = ks.length → d < k → badFrom ks 0 i = false →
    node_Check.l0 k ks (ks.length : Int) (i : Int) leaf ks vs ds = some (chk leaf ks vs ds) := by
  intro d
  induction d with
  | zero =>
    intro k i hi hk hb
    obtain ⟨k, rfl⟩ : ∃ m, k = m + 1 := ⟨k - 1, by omega⟩
    obtain rfl : i = ks.length := by omega
    simp only [node_Check.l0]
    rw [if_neg (by omega)]
    unfold chk
    rw [if_neg (by rw [hb]; decide)]
    exact ptail_is leaf ks vs ds hn hd hb
  | succ d ih =>
    intro k i hi hk hb
    obtain ⟨k, rfl⟩ : ∃ m, k = m + 1 := ⟨k - 1, by omega⟩
    have h1 : i < ks.length := by omega
    have hbad : badAt ks i = true → chk leaf ks vs ds = 91 := by
      intro h
      unfold chk
      rw [if_pos (by rw [← hi, bad_split, badFrom_succ, h]; simp)]
    have hgood : badAt ks i = false → badFrom ks 0 (i + 1) = false := by
      intro h
      rw [bad_split, hb, badFrom_succ, h]; rfl
    simp only [node_Check.l0]
    rw [if_pos (by omega), if_pos (by omega), if_pos (by omega), rdD ks i h1]
    by_cases c1 : (ks.getD i ByteArray.empty).toList = ([] : List UInt8)
    · rw [if_pos c1, hbad (badAt_1 ((toList_nil_size _).1 c1))]
    have c1' : ¬ (ks.getD i ByteArray.empty).size < 1 := fun h => c1 ((toList_nil_size _).2 h)
    rw [if_neg c1]
    by_cases c2 : ((ks.getD i ByteArray.empty).size : Int) > 32
    · rw [if_pos c2, hbad (badAt_2 (by omega))]
    rw [if_neg c2, wrap64_id (x := (i : Int) + 1) (by omega) (by omega)]
    by_cases c3 : (i : Int) > 0
    · rw [if_pos c3, wrap64_id (x := (i : Int) - 1) (by omega) (by omega), if_pos (by omega), if_pos (by omega)]
      rw [show ((i : Int) - 1) = ((i - 1 : Nat) : Int) by omega, rdD ks (i - 1) (by omega)]
      by_cases c4 : Op.bytesLess (ks.getD (i - 1) ByteArray.empty).toList (ks.getD i ByteArray.empty).toList = true
      · rw [if_pos c4]
        exact ih k (i + 1) (by omega) (by omega) (hgood (badAt_false c1' (by omega) (fun _ => c4)))
      · rw [if_neg c4, hbad (badAt_3 (by omega) (Bool.eq_false_iff.2 c4))]
    · rw [if_neg c3]
      exact ih k (i + 1) (by omega) (by omega) (hgood (badAt_false c1' (by omega) (fun h => by omega)))
theorem pcheck_is (leaf : Bool) (ks vs : List ByteArray) (ds : List Int) (hn : ks.length ≤ 8796093022207) (hd : ds.length ≤ 17592186044416) (k : Nat) (hk : ks.length < k) : node_Check.f k leaf ks vs ds = some (chk leaf ks vs ds) :=
  pcheck_loop leaf ks vs ds hn hd ks.length k 0 (by omega) hk rfl
theorem chk_ok {leaf : Bool} {ks vs : List ByteArray} {ds : List Int} (hn : ks.length ≤ 8796093022207) (hd : ds.length ≤ 17592186044416) (h : chk leaf ks vs ds = 0) : NodeOk leaf ks vs ds := by
  obtain ⟨e, he, he2⟩ := check_is leaf ks vs ds (by omega) (ks.length + 1) (by omega)
  rw [pcheck_is leaf ks vs ds hn hd _ (by omega)] at he
  exact he2.1 ((Option.some.inj he).symm.trans h)
theorem sumK_drop1 (l : List ByteArray) (i : Nat) (h : i < l.length) : sumK (l.drop i) = 1 + (l.getD i ByteArray.empty).size + sumK (l.drop (i + 1)) := by
  rw [List.drop_eq_getElem_cons h, getD_nat l i h]; simp only [sumK, List.map_cons, List.sum_cons]
theorem sumV_drop1 (l : List ByteArray) (i : Nat) (h : i < l.length) : sumV (l.drop i) = (l.getD i ByteArray.empty).size + sumV (l.drop (i + 1)) := by
  rw [List.drop_eq_getElem_cons h, getD_nat l i h]; simp only [sumV, List.map_cons, List.sum_cons]
theorem rsize_loop (leaf : Bool) (ks vs : List ByteArray) (ds : List Int) (hn : ks.length ≤ 8796093022207) (hd : ds.length ≤ 17592186044416) (hk32 : ∀ x ∈ ks, x.size ≤ 32) (hv64 : ∀ x ∈ vs, x.size ≤ 64) (hsh : leaf = true → vs.length = ks.length) : ∀ (d k i a : Nat), i + d = ks.length → d < k → a ≤ 2 + 98 * i →
    transeptref09_Size.l0 k (a : Int) (i : Int) leaf ks vs ds = some ((if leaf = true then a + sumK (ks.drop i) + d + sumV (vs.drop i) else a + sumK (ks.drop i) + 4 * ds.length : Nat) : Int) := by
  intro d
  induction d with
  | zero =>
    intro k i a hi hk ha
    obtain ⟨k, rfl⟩ : ∃ m, k = m + 1 := ⟨k - 1, by omega⟩
    simp only [transeptref09_Size.l0]
    rw [if_neg (by omega), List.drop_of_length_le (by omega)]
    by_cases hl : leaf = true
    · rw [if_pos hl, if_pos hl, List.drop_of_length_le (by have := hsh hl; omega)]
      simp [sumK, sumV]
    · rw [if_neg hl, if_neg hl, wrap64_id (x := 4 * (ds.length : Int)) (by omega) (by omega), wrap64_id (by omega) (by omega)]
      simp [sumK]
  | succ d ih =>
    intro k i a hi hk ha
    obtain ⟨k, rfl⟩ : ∃ m, k = m + 1 := ⟨k - 1, by omega⟩
    have h1 : i < ks.length := by omega
    have hs := hk32 _ (List.getElem_mem h1)
    rw [← getD_nat ks i h1] at hs
    simp only [transeptref09_Size.l0]
    rw [if_pos (by omega), if_pos (by omega), rdD ks i h1, wrap64_id (x := (i : Int) + 1) (by omega) (by omega), wrap64_id (x := (a : Int) + 1) (by omega) (by omega), wrap64_id (x := (a : Int) + 1 + ((ks.getD i ByteArray.empty).size : Int)) (by omega) (by omega)]
    have e1 := sumK_drop1 ks i h1
    by_cases hl : leaf = true
    · have hv : i < vs.length := by have := hsh hl; omega
      have hs2 := hv64 _ (List.getElem_mem hv)
      rw [← getD_nat vs i hv] at hs2
      have e2 := sumV_drop1 vs i hv
      rw [if_pos hl, if_pos (by omega), rdD vs i hv, wrap64_id (x := (a : Int) + 1 + ((ks.getD i ByteArray.empty).size : Int) + 1) (by omega) (by omega), wrap64_id (by omega) (by omega)]
      have := ih k (i + 1) (a + 1 + (ks.getD i ByteArray.empty).size + 1 + (vs.getD i ByteArray.empty).size) (by omega) (by omega) (by omega)
      rw [if_pos hl] at this ⊢
      rw [e1, e2]
      refine Eq.trans this ?_
      congr 2
      omega
    · rw [if_neg hl]
      have := ih k (i + 1) (a + 1 + (ks.getD i ByteArray.empty).size) (by omega) (by omega) (by omega)
      rw [if_neg hl] at this ⊢
      rw [e1]
      refine Eq.trans this ?_
      congr 2
      omega
theorem rsize_is (leaf : Bool) (ks vs : List ByteArray) (ds : List Int) (hn : ks.length ≤ 8796093022207) (hd : ds.length ≤ 17592186044416) (hk32 : ∀ x ∈ ks, x.size ≤ 32) (hv64 : ∀ x ∈ vs, x.size ≤ 64) (hsh : leaf = true → vs.length = ks.length) (k : Nat) (hk : ks.length < k) : transeptref09_Size.f k leaf ks vs ds = some ((szOf leaf ks vs ds : Nat) : Int) := by
  have := rsize_loop leaf ks vs ds hn hd hk32 hv64 hsh ks.length k 0 2 (by omega) hk (by omega)
  exact this
theorem rkids_loop (leaf : Bool) (ks vs : List ByteArray) (ds : List Int) (hn : ks.length ≤ 8796093022207) (hd : ds.length ≤ 17592186044416) (hb : badFrom ks 0 ks.length = false) (hsh : ShapeOk leaf ks vs ds) (h2 : ¬ (vs.any fun v => decide (64 < v.size)) = true) : ∀ (d k i : Nat), i + d = ds.length → d + ks.length + 1 < k →
    transeptref09_Check.l2 k (i : Int) leaf ks vs ds = some (if ((ds.drop i).any fun v => decide (v < 1 ∨ 65536 < v)) = true then 4 else if 244 < szOf leaf ks vs ds then 51 else 0) := by
  intro d
  induction d with
  | zero =>
    intro k i hi hk
    obtain ⟨k, rfl⟩ : ∃ m, k = m + 1 := ⟨k - 1, by omega⟩
    simp only [transeptref09_Check.l2]
    rw [if_neg (by omega), List.drop_of_length_le (by omega), rsize_is leaf ks vs ds hn hd (size_of_bad hb) (vals_of h2) (fun h => by unfold ShapeOk at hsh; rw [if_pos h] at hsh; exact hsh.1) k (by omega), Option.bind_some]
    simp only [List.any_nil, Bool.false_eq_true, if_false]
    by_cases h4 : 244 < szOf leaf ks vs ds
    · rw [if_pos (by omega), if_pos h4]
    · rw [if_neg (by omega), if_neg h4]
  | succ d ih =>
    intro k i hi hk
    obtain ⟨k, rfl⟩ : ∃ m, k = m + 1 := ⟨k - 1, by omega⟩
    have h1 : i < ds.length := by omega
    simp only [transeptref09_Check.l2]
    rw [if_pos (by omega), if_pos (by omega), show rd ds (i : Int) = ds[i] by simp [rd, h1], List.drop_eq_getElem_cons h1, List.any_cons, wrap64_id (by omega) (by omega), show (i : Int) + 1 = ((i + 1 : Nat) : Int) by omega, ih k (i + 1) (by omega) (by omega)]
    by_cases c1 : ds[i] < 1
    · rw [if_pos c1]; simp [c1]
    · rw [if_neg c1]
      by_cases c2 : ds[i] > 65536
      · rw [if_pos c2]; simp [show 65536 < ds[i] from c2]
      · rw [if_neg c2]; simp [c1, show ¬ 65536 < ds[i] from c2]
theorem rvals_loop (leaf : Bool) (ks vs : List ByteArray) (ds : List Int) (hn : ks.length ≤ 8796093022207) (hv : vs.length ≤ 8796093022207) (hd : ds.length ≤ 17592186044416) (hb : badFrom ks 0 ks.length = false) (hsh : ShapeOk leaf ks vs ds) : ∀ (d k i : Nat), i + d = vs.length → d + ds.length + ks.length + 3 < k → ((vs.take i).any fun v => decide (64 < v.size)) = false →
    transeptref09_Check.l1 k (i : Int) leaf ks vs ds = some (tailC leaf ks vs ds) := by
  intro d
  induction d with
  | zero =>
    intro k i hi hk hg
    obtain ⟨k, rfl⟩ : ∃ m, k = m + 1 := ⟨k - 1, by omega⟩
    rw [List.take_of_length_le (by omega)] at hg
    have hg' : ¬ (vs.any fun v => decide (64 < v.size)) = true := by rw [hg]; decide
    simp only [transeptref09_Check.l1]
    rw [if_neg (by omega), show (0 : Int) = ((0 : Nat) : Int) from rfl, rkids_loop leaf ks vs ds hn hd hb hsh hg' ds.length k 0 (by omega) (by omega)]
    unfold tailC
    rw [if_pos hsh, if_neg hg', List.drop_zero]
  | succ d ih =>
    intro k i hi hk hg
    obtain ⟨k, rfl⟩ : ∃ m, k = m + 1 := ⟨k - 1, by omega⟩
    have h1 : i < vs.length := by omega
    simp only [transeptref09_Check.l1]
    rw [if_pos (by omega), if_pos (by omega), rdD vs i h1, wrap64_id (by omega) (by omega)]
    by_cases c1 : ((vs.getD i ByteArray.empty).size : Int) > 64
    · rw [if_pos c1]
      unfold tailC
      rw [if_pos hsh, if_pos (List.any_eq_true.2 ⟨vs[i], List.getElem_mem h1, by rw [getD_nat vs i h1] at c1; simp; omega⟩)]
    · rw [if_neg c1]
      refine ih k (i + 1) (by omega) (by omega) ?_
      rw [← List.take_append_getElem h1, List.any_append, hg]
      rw [getD_nat vs i h1] at c1
      simp; omega
theorem rtail_is (leaf : Bool) (ks vs : List ByteArray) (ds : List Int) (hn : ks.length ≤ 8796093022207) (hv : vs.length ≤ 8796093022207) (hd : ds.length ≤ 17592186044416) (hb : badFrom ks 0 ks.length = false) (k : Nat) (hk : vs.length + ds.length + ks.length + 4 < k) :
    (if leaf = true then (if (vs.length : Int) = (ks.length : Int) then (if (ds.length : Int) > 0 then (transeptref09_Check.j1 k true leaf ks vs ds) else (transeptref09_Check.j1 k false leaf ks vs ds)) else (transeptref09_Check.j1 k true leaf ks vs ds)) else (if (vs.length : Int) > 0 then (transeptref09_Check.j1 k true leaf ks vs ds) else (if (ks.length : Int) < 1 then (transeptref09_Check.j1 k true leaf ks vs ds) else (transeptref09_Check.j1 k ((ds.length : Int) != (wrap64 ((ks.length : Int) + 1))) leaf ks vs ds)))) = some (tailC leaf ks vs ds) := by
  obtain ⟨k, rfl⟩ : ∃ m, k = m + 1 := ⟨k - 1, by omega⟩
  have ht : ¬ ShapeOk leaf ks vs ds → transeptref09_Check.j1 (k + 1) true leaf ks vs ds = some (tailC leaf ks vs ds) := by
    intro h
    simp only [transeptref09_Check.j1]
    unfold tailC
    rw [if_pos trivial, if_neg h]
  have hf : ShapeOk leaf ks vs ds → transeptref09_Check.j1 (k + 1) false leaf ks vs ds = some (tailC leaf ks vs ds) := by
    intro h
    simp only [transeptref09_Check.j1]
    rw [if_neg (by decide)]
    exact rvals_loop leaf ks vs ds hn hv hd hb h vs.length k 0 (by omega) (by omega) (by simp)
  have hsh : ShapeOk leaf ks vs ds ↔ (if leaf = true then vs.length = ks.length ∧ ds.length = 0 else vs.length = 0 ∧ 0 < ks.length ∧ ds.length = ks.length + 1) := Iff.rfl
  by_cases hl : leaf = true
  · rw [if_pos hl] at hsh ⊢
    by_cases h1 : (vs.length : Int) = (ks.length : Int)
    · rw [if_pos h1]
      by_cases h2 : (ds.length : Int) > 0
      · rw [if_pos h2, ht (fun h => by have := hsh.1 h; omega)]
      · rw [if_neg h2, hf (hsh.2 ⟨by omega, by omega⟩)]
    · rw [if_neg h1, ht (fun h => by have := hsh.1 h; omega)]
  · rw [if_neg hl] at hsh ⊢
    by_cases h1 : (vs.length : Int) > 0
    · rw [if_pos h1, ht (fun h => by have := hsh.1 h; omega)]
    rw [if_neg h1]
    by_cases h2 : (ks.length : Int) < 1
    · rw [if_pos h2, ht (fun h => by have := hsh.1 h; omega)]
    rw [if_neg h2, wrap64_id (by omega) (by omega)]
    by_cases h3 : (ds.length : Int) = (ks.length : Int) + 1
    · rw [show ((ds.length : Int) != (ks.length : Int) + 1) = false by simp [h3], hf (hsh.2 ⟨by omega, by omega, by omega⟩)]
    · rw [show ((ds.length : Int) != (ks.length : Int) + 1) = true by simp [h3], ht (fun h => by have := hsh.1 h; omega)]
theorem rcheck_loop (leaf : Bool) (ks vs : List ByteArray) (ds : List Int) (hn : ks.length ≤ 8796093022207) (hv : vs.length ≤ 8796093022207) (hd : ds.length ≤ 17592186044416) : ∀ (d k i : Nat), i + d = ks.length → d + vs.length + ds.length + ks.length + 5 < k → badFrom ks 0 i = false →
    transeptref09_Check.l0 k (i : Int) leaf ks vs ds = some (chk leaf ks vs ds) := by
  intro d
  induction d with
  | zero =>
    intro k i hi hk hb
    obtain ⟨k, rfl⟩ : ∃ m, k = m + 1 := ⟨k - 1, by omega⟩
    obtain rfl : i = ks.length := by omega
    simp only [transeptref09_Check.l0]
    rw [if_neg (by omega)]
    unfold chk
    rw [if_neg (show ¬ badFrom ks 0 ks.length = true by rw [hb]; decide)]
    exact rtail_is leaf ks vs ds hn hv hd hb k (by omega)
  | succ d ih =>
    intro k i hi hk hb
    obtain ⟨k, rfl⟩ : ∃ m, k = m + 1 := ⟨k - 1, by omega⟩
    have h1 : i < ks.length := by omega
    have hbad : badAt ks i = true → chk leaf ks vs ds = 91 := by
      intro h
      unfold chk
      rw [if_pos (by rw [← hi, bad_split, badFrom_succ, h]; simp)]
    have hgood : badAt ks i = false → badFrom ks 0 (i + 1) = false := by
      intro h
      rw [bad_split, hb, badFrom_succ, h]; rfl
    simp only [transeptref09_Check.l0]
    rw [if_pos (by omega), if_pos (by omega), rdD ks i h1]
    by_cases c1 : ((ks.getD i ByteArray.empty).size : Int) < 1
    · rw [if_pos c1, hbad (badAt_1 (by omega))]
    rw [if_neg c1]
    by_cases c2 : ((ks.getD i ByteArray.empty).size : Int) > 32
    · rw [if_pos c2, hbad (badAt_2 (by omega))]
    rw [if_neg c2, wrap64_id (x := (i : Int) + 1) (by omega) (by omega)]
    by_cases c3 : (i : Int) > 0
    · rw [if_pos c3, wrap64_id (x := (i : Int) - 1) (by omega) (by omega), if_pos (by omega), if_pos (by omega)]
      rw [show ((i : Int) - 1) = ((i - 1 : Nat) : Int) by omega, rdD ks (i - 1) (by omega)]
      by_cases c4 : Op.bytesLess (ks.getD (i - 1) ByteArray.empty).toList (ks.getD i ByteArray.empty).toList = true
      · rw [if_pos c4]
        exact ih k (i + 1) (by omega) (by omega) (hgood (badAt_false (by omega) (by omega) (fun _ => c4)))
      · rw [if_neg c4, hbad (badAt_3 (by omega) (Bool.eq_false_iff.2 c4))]
    · rw [if_neg c3]
      exact ih k (i + 1) (by omega) (by omega) (hgood (badAt_false (by omega) (by omega) (fun h => by omega)))
theorem rcheck_is (leaf : Bool) (ks vs : List ByteArray) (ds : List Int) (hn : ks.length ≤ 8796093022207) (hv : vs.length ≤ 8796093022207) (hd : ds.length ≤ 17592186044416) (k : Nat) (hk : 2 * ks.length + vs.length + ds.length + 5 < k) : transeptref09_Check.f k leaf ks vs ds = some (chk leaf ks vs ds) :=
  rcheck_loop leaf ks vs ds hn hv hd ks.length k 0 (by omega) (by omega) rfl
theorem clone_str (l : List ByteArray) (h : l.length ≤ 8796093022207) : slices_Clone_string_string.f l = some l := by unfold slices_Clone_string_string.f; rw [if_pos h]
theorem clone_int (l : List Int) (h : l.length ≤ 17592186044415) : slices_Clone_int_int.f l = some l := by unfold slices_Clone_int_int.f; rw [if_pos h]
theorem rstr (l : List ByteArray) (h : l.length ≤ 8796093022207) : transeptref09_strings.f l = some l := by unfold transeptref09_strings.f; rw [if_pos (by simp; omega)]; rfl
theorem rint (l : List Int) (h : l.length ≤ 17592186044415) : transeptref09_ints.f l = some l := by unfold transeptref09_ints.f; rw [if_pos (by simp; omega)]; rfl
def splitOf (leaf : Bool) (ks vs : List ByteArray) (ds : List Int) : Bool × List ByteArray × List ByteArray × List Int × ByteArray × Bool × List ByteArray × List ByteArray × List Int × Int :=
  if leaf = true then (true, ks.take (ks.length / 2), vs.take (ks.length / 2), [], ks.getD (ks.length / 2) ByteArray.empty, true, ks.drop (ks.length / 2), vs.drop (ks.length / 2), [], 0)
  else (false, ks.take (ks.length / 2), [], ds.take (ks.length / 2 + 1), ks.getD (ks.length / 2) ByteArray.empty, false, ks.drop (ks.length / 2 + 1), [], ds.drop (ks.length / 2 + 1), 0)
def noSplit (e : Int) : Bool × List ByteArray × List ByteArray × List Int × ByteArray × Bool × List ByteArray × List ByteArray × List Int × Int := (false, [], [], [], ⟨#[]⟩, false, [], [], [], e)
def spl (leaf : Bool) (ks vs : List ByteArray) (ds : List Int) := if chk leaf ks vs ds = 0 then (if ks.length < (if leaf = true then 2 else 3) then noSplit 3 else splitOf leaf ks vs ds) else noSplit (chk leaf ks vs ds)
theorem psplit_is (leaf : Bool) (ks vs : List ByteArray) (ds : List Int) (hk1 : ks.length ≤ 8796093022207) (hv1 : vs.length ≤ 8796093022207) (hd1 : ds.length ≤ 17592186044415) (k : Nat) (hk : ks.length + 1 < k) :
    node_Split.f k leaf ks vs ds = some (spl leaf ks vs ds) := by
  unfold node_Split.f spl
  rw [pcheck_is leaf ks vs ds hk1 (by omega) k (by omega), Option.bind_some]
  by_cases h0 : chk leaf ks vs ds = 0
  case neg => rw [if_neg h0, if_neg h0]; rfl
  have hok := chk_ok hk1 (by omega) h0
  have hsh := hok.shape
  unfold ShapeOk at hsh
  rw [if_pos h0, if_pos h0]
  obtain ⟨k, rfl⟩ : ∃ m, k = m + 1 := ⟨k - 1, by omega⟩
  have hw : wrap64 ((ks.length : Int) / 2) = ((ks.length / 2 : Nat) : Int) := by rw [wrap64_id (by omega) (by omega)]; omega
  by_cases hl : leaf = true
  · rw [if_pos hl] at hsh
    rw [if_pos hl, if_pos hl]
    simp only [node_Split.j0]
    by_cases h2 : (ks.length : Int) < 2
    · rw [if_pos h2, if_pos (by omega)]; rfl
    · rw [if_neg h2, if_neg (show ¬ ks.length < _ by omega), hw, if_pos (by omega), if_pos (by omega), Int.toNat_natCast, clone_str _ (by rw [List.length_take]; omega), Option.bind_some, wrap64_id (x := ((ks.length / 2 : Nat) : Int) + 0) (by omega) (by omega), Int.add_zero, if_pos (by omega), if_pos (by omega), Int.toNat_natCast, clone_str _ (by rw [List.length_drop]; omega), Option.bind_some,
        if_pos hl, if_pos (by omega), clone_str _ (by rw [List.length_take]; omega), Option.bind_some, clone_str _ (by rw [List.length_drop]; omega), Option.bind_some, if_pos (by omega)]
      unfold splitOf
      rw [if_pos hl, hl, rdD ks (ks.length / 2) (by omega)]
  · rw [if_neg hl] at hsh
    rw [if_neg hl, if_neg hl]
    simp only [node_Split.j0]
    by_cases h2 : (ks.length : Int) < 3
    · rw [if_pos h2, if_pos (by omega)]; rfl
    · rw [if_neg h2, if_neg (show ¬ ks.length < _ by omega), hw, if_pos (by omega), if_pos (by omega), Int.toNat_natCast, clone_str _ (by rw [List.length_take]; omega), Option.bind_some, wrap64_id (x := ((ks.length / 2 : Nat) : Int) + 1) (by omega) (by omega), show ((ks.length / 2 : Nat) : Int) + 1 = ((ks.length / 2 + 1 : Nat) : Int) from rfl, if_pos (by omega), if_pos (by omega), Int.toNat_natCast, clone_str _ (by rw [List.length_drop]; omega), Option.bind_some,
        if_neg hl, if_pos (by omega), if_pos (by omega), clone_int _ (by rw [List.length_take]; omega), Option.bind_some, clone_int _ (by rw [List.length_drop]; omega), Option.bind_some, if_pos (by omega)]
      unfold splitOf
      have hlf : leaf = false := by simpa using hl
      rw [if_neg hl, hlf, rdD ks (ks.length / 2) (by omega)]
theorem rsplit_is (leaf : Bool) (ks vs : List ByteArray) (ds : List Int) (hk1 : ks.length ≤ 8796093022207) (hv1 : vs.length ≤ 8796093022207) (hd1 : ds.length ≤ 17592186044415) (k : Nat) (hk : 2 * ks.length + vs.length + ds.length + 5 < k) :
    transeptref09_Split.f k leaf ks vs ds = some (spl leaf ks vs ds) := by
  unfold transeptref09_Split.f spl
  rw [rcheck_is leaf ks vs ds hk1 hv1 (by omega) k (by omega), Option.bind_some]
  by_cases h0 : chk leaf ks vs ds = 0
  case neg => rw [if_neg h0, if_neg h0]; rfl
  have hok := chk_ok hk1 (by omega) h0
  have hsh := hok.shape
  unfold ShapeOk at hsh
  rw [if_pos h0, if_pos h0]
  obtain ⟨k, rfl⟩ : ∃ m, k = m + 1 := ⟨k - 1, by omega⟩
  have hw : wrap64 (Int.tdiv (ks.length : Int) 2) = ((ks.length / 2 : Nat) : Int) := by rw [Int.tdiv_eq_ediv_of_nonneg (by omega), wrap64_id (by omega) (by omega)]; omega
  by_cases h2 : (ks.length : Int) < 2
  · rw [if_pos h2]
    simp only [transeptref09_Split.j0]
    rw [if_pos trivial, if_pos (by split <;> omega)]; rfl
  rw [if_neg h2]
  by_cases hl : leaf = true
  · rw [if_pos hl] at hsh
    rw [if_pos hl, if_pos hl, if_neg (show ¬ ks.length < _ by omega)]
    simp only [transeptref09_Split.j0]
    rw [if_neg (by decide), if_pos hl, hw, if_pos (by omega), if_pos (by omega), Int.toNat_natCast, rstr _ (by rw [List.length_take]; omega), Option.bind_some, if_pos (by omega), rstr _ (by rw [List.length_take]; omega), Option.bind_some, if_pos (by omega), rstr _ (by rw [List.length_drop]; omega), Option.bind_some, rstr _ (by rw [List.length_drop]; omega), Option.bind_some]
    unfold splitOf
    rw [if_pos hl, rdD ks (ks.length / 2) (by omega)]
  · rw [if_neg hl] at hsh
    rw [if_neg hl, if_neg hl]
    simp only [transeptref09_Split.j0]
    by_cases h3 : (ks.length : Int) < 3
    · rw [if_pos (by simpa using h3), if_pos (by omega)]; rfl
    · rw [if_neg (by simpa using h3), if_neg (show ¬ ks.length < _ by omega), if_neg hl, hw, if_pos (by omega), if_pos (by omega), Int.toNat_natCast, rstr _ (by rw [List.length_take]; omega), Option.bind_some, wrap64_id (x := ((ks.length / 2 : Nat) : Int) + 1) (by omega) (by omega), show ((ks.length / 2 : Nat) : Int) + 1 = ((ks.length / 2 + 1 : Nat) : Int) from rfl, if_pos (by omega), if_pos (by omega), Int.toNat_natCast, rint _ (by rw [List.length_take]; omega), Option.bind_some, if_pos (by omega), if_pos (by omega), rstr _ (by rw [List.length_drop]; omega), Option.bind_some, rint _ (by rw [List.length_drop]; omega), Option.bind_some]
      unfold splitOf
      rw [if_neg hl, rdD ks (ks.length / 2) (by omega)]
end Go.Proofs.Ytooabchnbmnchaa.Q
