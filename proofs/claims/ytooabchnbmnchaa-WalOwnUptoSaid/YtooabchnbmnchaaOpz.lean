-- (thinned for this claim by wip/tools/shake.py: what the claim doesn't use is left out)
/- How an argument that reads as data reads as plain lists, numbers and records: one law a kind, joined for kinds within kinds; its bulk; and what the reach says of its lengths. -/
import Derived.Test.YtooabchnbmnchaaRows
import Derived.Test.YtooabchnbmnchaaKit
import Derived.Deep.Slices
import Derived.SizedLaws
import Derived.ChangeArms
namespace Go.Proofs.Ytooabchnbmnchaa.Q
open Go.RowKit Go.ChangeShapes Go.WideShapes Go.Proofs.YtooabchnbmnchaaW.PrintWords Go.Proofs.YtooabchnbmnchaaW.PrintLast Go.Proofs.YtooabchnbmnchaaW.PrintMore
set_option linter.unusedVariables false
set_option linter.unusedSimpArgs false
structure Opz {α : Type} (P : Program) (t : TypeId) (d : Kd α) (wf : α → Prop) (μ : α → Nat) (ζ : α → Prop) : Prop where
  op : ∀ {H : Type} {enc : TypeId × Value → H} {w : World} {base : Nat} {spare : Nat → Bool} {held : Bool} {fuel : Nat} {cs : List Value} {x : DataW H × List MemPlace},
    DataW.trod enc P w base spare held fuel t cs = some x → ∃ a, d.K w a cs ∧ wf a ∧ μ a ≤ Rows.uptoBulk x.1 ∧ ((∀ q ∈ DataW.weights P t x.1, q ≤ reachBytes) → ζ a)
theorem Opz.int {P : Program} {t : TypeId} {k : IntKind} (ht : P.underlying t = some (.int k)) : Opz P t (Kd.int k) (fun x => (Lit.int k x).wf = true) (fun _ => 1) (fun _ => True) := ⟨fun h => by
  obtain ⟨n, rfl, rfl, hw⟩ := DataW.trod_int ht h
  exact ⟨n, rfl, hw, by simp [Rows.uptoBulk], fun _ => trivial⟩⟩
theorem Opz.bool {P : Program} {t : TypeId} (ht : P.underlying t = some .bool) : Opz P t Kd.bool (fun _ => True) (fun _ => 1) (fun _ => True) := ⟨fun h => by
  obtain ⟨n, rfl, rfl⟩ := DataW.trod_bool ht h
  exact ⟨n, rfl, trivial, by simp [Rows.uptoBulk], fun _ => trivial⟩⟩
theorem Opz.string {P : Program} {t : TypeId} (ht : P.underlying t = some .string) : Opz P t Kd.string (fun s => s.size ≤ maxLen) (fun s => s.size + 1) (fun s => s.size ≤ 140737488351232) := ⟨fun h => by
  obtain ⟨n, rfl, rfl, hw⟩ := DataW.trod_string ht h
  refine ⟨n, rfl, hw, by simp [Rows.uptoBulk], fun hz => ?_⟩
  have := hz n.data.toList.length (by simp [DataW.weights])
  rw [Array.length_toList] at this
  exact this⟩
theorem bulkAllz_map {H : Type} (D : Nat → DataW H) {α : Type} (f : Nat → α) (μ : α → Nat) (n : Nat) (h : ∀ i, i < n → μ (f i) ≤ Rows.uptoBulk (D i)) :
    (((List.range n).map f).map μ).sum ≤ Rows.uptoBulkAll ((List.range n).map D) := by
  rw [List.map_map]
  have key : ∀ l : List Nat, (∀ i ∈ l, i < n) → (l.map (μ ∘ f)).sum ≤ Rows.uptoBulkAll (l.map D) := by
    intro l
    induction l with
    | nil => intro _; simp [Rows.uptoBulkAll]
    | cons a l ih =>
      intro hl
      have h1 := h a (hl a (by simp))
      have h2 := ih (fun i hi => hl i (by simp [hi]))
      simp only [List.map_cons, List.sum_cons, Rows.uptoBulkAll, Function.comp_apply] at h2 ⊢
      omega
  exact key _ (fun i hi => by simpa using hi)
theorem weightsAll_mem {H : Type} {P : Program} {e : TypeId} {q : Nat} : ∀ {l : List (DataW H)} {d : DataW H}, d ∈ l → q ∈ DataW.weights P e d → q ∈ DataW.weightsAll P e l := by
  intro l
  induction l with
  | nil => intro d h; cases h
  | cons a l ih =>
    intro d h hq
    simp only [DataW.weightsAll, List.mem_append]
    rcases List.mem_cons.1 h with rfl | h
    · exact .inl hq
    · exact .inr (ih h hq)
theorem Opz.slice {α : Type} [Inhabited α] {P : Program} {t e : TypeId} {d : Kd α} {wf : α → Prop} {μ : α → Nat} {ζ : α → Prop} {B : Nat} (ho : Opz P e d wf μ ζ) (ht : P.underlying t = some (.slice e)) (hs : P.cellsOf e = d.sz) (hB : P.bytesOf e = B) :
    Opz P t (Kd.slice e d) (fun l => l.length ≤ maxLen ∧ ∀ x ∈ l, wf x) (fun l => 1 + (l.map μ).sum) (fun l => l.length * B ≤ 140737488351232 ∧ ∀ x ∈ l, ζ x) := ⟨fun {H enc w base spare held fuel cs x} h => by
  rcases Go.Deep.open_slice ht h with ⟨rfl, rfl⟩ | ⟨a, len, cap, m, n, D, Pl, rfl, _, hl, hm, hmm, rfl, hx⟩
  · exact ⟨[], ⟨none, 0, rfl, Nat.le_refl _, Kd.C_nil _ _⟩, ⟨by simp [maxLen], fun _ h => by cases h⟩, by simp [Rows.uptoBulk], fun _ => ⟨by simp, fun _ h => by cases h⟩⟩
  · have hle : len ≤ m := by rw [hmm]; split <;> omega
    obtain ⟨f, hf⟩ := Go.Deep.choose_lt (α := α) (n := len) (p := fun i a' => d.K w a' ((w.cells? base (a.add (i * P.cellsOf e)) (P.cellsOf e)).getD []) ∧ wf a' ∧ μ a' ≤ Rows.uptoBulk (D i) ∧ ((∀ q ∈ DataW.weights P e (D i), q ≤ reachBytes) → ζ a')) (fun i hi => by
      obtain ⟨cs', h1, h2⟩ := hx i (by omega)
      obtain ⟨a', h3, h4, h5, h6⟩ := ho.op h2
      exact ⟨a', by rw [h1]; exact h3, h4, h5, h6⟩)
    have hlen : ((List.range len).map f).length = len := by simp
    refine ⟨(List.range len).map f, ⟨some a, cap, by rw [hlen], by rw [hlen]; exact hl, ?_⟩, ⟨by rw [hlen]; omega, ?_⟩, ?_, fun hz => ?_⟩
    · rw [hlen]
      refine ⟨hlen, by simp only [maxLen] at hm; omega, fun _ => ⟨a, rfl, fun j p hj => ?_⟩⟩
      obtain ⟨hj1, hj2⟩ := List.getElem?_eq_some_iff.mp hj
      have hjl : j < len := by rw [hlen] at hj1; exact hj1
      have hp : p = f j := by rw [← hj2]; simp
      subst hp
      obtain ⟨cs', h1, h2⟩ := hx j (by omega)
      have h3 := (hf j hjl).1
      rw [h1] at h3
      obtain ⟨_, h4, h5⟩ := World.cells?_some h1
      rw [hs] at h1 h4 h5
      refine ⟨cs', h4, h3, fun i u hu => ?_⟩
      have hi : i < d.sz := by rw [← h4]; exact (List.getElem?_eq_some_iff.mp hu).1
      rw [← Go.Deep.add_add, h5 i hi]
      exact hu
    · intro x hx'
      obtain ⟨i, hi, rfl⟩ := List.mem_map.mp hx'
      exact (hf i (by simpa using hi)).2.1
    · simp only [Rows.uptoBulk]
      have := bulkAllz_map D f μ len (fun i hi => (hf i hi).2.2.1)
      omega
    · simp only [DataW.weights, ht] at hz
      refine ⟨?_, ?_⟩
      · have h1 := hz _ List.mem_cons_self
        simp only [List.length_map, List.length_range, hB] at h1
        rw [hlen]
        refine Nat.le_trans (Nat.mul_le_mul_right _ (Nat.le_add_right _ _)) h1
      · intro x hx'
        obtain ⟨i, hi, rfl⟩ := List.mem_map.mp hx'
        have hi' : i < len := by simpa using hi
        refine (hf i hi').2.2.2 (fun q hq => hz q ?_)
        refine List.mem_cons_of_mem _ (List.mem_append.2 (.inl (weightsAll_mem (d := D i) (List.mem_map.2 ⟨i, hi, rfl⟩) hq)))⟩
structure OpzFs {α : Type} (P : Program) (fs : List Field) (off tot : Nat) (d : Kd α) (wf : α → Prop) (μ : α → Nat) (ζ : α → Prop) : Prop where
  op : ∀ {H : Type} {enc : TypeId × Value → H} {w : World} {base : Nat} {spare : Nat → Bool} {held : Bool} {n : Nat} {cs : List Value} {xs : List (DataW H × List MemPlace)}, cs.length = tot → xs.length = fs.length →
    (∀ (i : Nat) (f : Field), fs[i]? = some f → DataW.trod enc P w base spare held n f.type ((cs.drop f.offset).take (P.cellsOf f.type)) = xs[i]?) →
    ∃ a, d.K w a (cs.drop off) ∧ wf a ∧ μ a ≤ Rows.uptoBulkAll (xs.map (·.1)) ∧ ((∀ q ∈ DataW.weightsEach P (fs.map (·.type)) (xs.map (·.1)), q ≤ reachBytes) → ζ a)
theorem OpzFs.one {α : Type} {P : Program} {f : Field} {off tot : Nat} {d : Kd α} {wf : α → Prop} {μ : α → Nat} {ζ : α → Prop} (ho : Opz P f.type d wf μ ζ) (h1 : f.offset = off) (h2 : off + P.cellsOf f.type = tot) : OpzFs P [f] off tot d wf μ ζ := ⟨fun {H enc w base spare held n cs xs} hl hx hf => by
  obtain ⟨x, rfl⟩ : ∃ x, xs = [x] := by
    match xs, hx with
    | [x], _ => exact ⟨x, rfl⟩
  have h := hf 0 f rfl
  rw [h1, List.take_of_length_le (by rw [List.length_drop]; omega)] at h
  obtain ⟨a, k1, k2, k3, k4⟩ := ho.op h
  refine ⟨a, k1, k2, by simpa [Rows.uptoBulkAll] using k3, fun hz => k4 (fun q hq => hz q ?_)⟩
  simpa [DataW.weightsEach] using hq⟩
theorem OpzFs.cons {α β : Type} {P : Program} {f : Field} {fs : List Field} {off tot : Nat} {d : Kd α} {wf : α → Prop} {μ : α → Nat} {ζ : α → Prop} {d' : Kd β} {wf' : β → Prop} {μ' : β → Nat} {ζ' : β → Prop} (ho : Opz P f.type d wf μ ζ) (h1 : f.offset = off) (h2 : P.cellsOf f.type = d.sz) (ht : OpzFs P fs (off + d.sz) tot d' wf' μ' ζ') :
    OpzFs P (f :: fs) off tot (Kd.pair d d') (fun x => wf x.1 ∧ wf' x.2) (fun x => μ x.1 + μ' x.2) (fun x => ζ x.1 ∧ ζ' x.2) := ⟨fun {H enc w base spare held n cs xs} hl hx hf => by
  obtain ⟨x, xs, rfl⟩ : ∃ x ys, xs = x :: ys := by
    match xs, hx with
    | x :: ys, _ => exact ⟨x, ys, rfl⟩
  have h := hf 0 f rfl
  rw [h1, h2] at h
  obtain ⟨a, k1, k2, k3, k4⟩ := ho.op h
  obtain ⟨b, l1, l2, l3, l4⟩ := ht.op hl (by simpa using hx) (fun i f hi => hf (i + 1) f hi)
  refine ⟨(a, b), ⟨_, _, ?_, k1, l1⟩, ⟨k2, l2⟩, ?_, fun hz => ⟨k4 (fun q hq => hz q ?_), l4 (fun q hq => hz q ?_)⟩⟩
  · rw [← List.drop_drop, List.take_append_drop]
  · simp only [List.map_cons, Rows.uptoBulkAll]; omega
  · simp only [List.map_cons, DataW.weightsEach, List.mem_append]; exact .inl hq
  · simp only [List.map_cons, DataW.weightsEach, List.mem_append]; exact .inr hq⟩
theorem Opz.struct {α β : Type} {P : Program} {t : TypeId} {fs : Array Field} {d : Kd α} {wf : α → Prop} {μ : α → Nat} {ζ : α → Prop} (hf : OpzFs P fs.toList 0 (P.cellsOf t) d wf μ ζ) (ht : P.underlying t = some (.struct fs)) (g : β → α) (g' : α → β) (hg : ∀ a, g (g' a) = a) :
    Opz P t (Kd.iso d g) (fun b => wf (g b)) (fun b => 1 + μ (g b)) (fun b => ζ (g b)) := ⟨fun {H enc w base spare held fuel cs x} h => by
  obtain ⟨xs, n, rfl, rfl, hl, hlen, hx⟩ := DataW.trod_struct ht h
  obtain ⟨a, k1, k2, k3, k4⟩ := hf.op hl (by simpa using hlen) (fun i f hi => hx i f (by simpa using hi))
  refine ⟨g' a, ?_, by rw [hg]; exact k2, ?_, fun hz => ?_⟩
  · show d.K w (g (g' a)) cs
    rw [hg]
    simpa using k1
  · rw [hg]; simp only [Rows.uptoBulk]; omega
  · rw [hg]; refine k4 (fun q hq => hz q ?_)
    simp only [DataW.weights, ht]
    exact hq⟩
end Go.Proofs.Ytooabchnbmnchaa.Q
