/- How an argument that reads as data reads as plain lists and numbers: one law a kind, joined for kinds within kinds; and its bulk. -/
import Derived.Test.YthphelbkfgbejaaRows
import Derived.Test.YthphelbkfgbejaaKit
import Derived.Deep.Slices
namespace Go.Proofs.Ythphelbkfgbejaa.Q
open Go.RowKit Go.Proofs.YthphelbkfgbejaaW.PrintWords Go.Proofs.YthphelbkfgbejaaW.PrintLast Go.Proofs.YthphelbkfgbejaaW.PrintMore
set_option linter.unusedVariables false
set_option linter.unusedSimpArgs false

/-- What reads as data of type t reads as a value of d's; it is well formed; its measure is at most the data's bulk. -/
structure Opn {α : Type} (P : Program) (t : TypeId) (d : Kd α) (wf : α → Prop) (μ : α → Nat) : Prop where
  op : ∀ {H : Type} {enc : TypeId × Value → H} {w : World} {base : Nat} {spare : Nat → Bool} {held : Bool} {fuel : Nat} {cs : List Value} {x : DataW H × List MemPlace},
    DataW.trod enc P w base spare held fuel t cs = some x → ∃ a, d.K w a cs ∧ wf a ∧ μ a ≤ Rows.uptoBulk x.1

theorem Opn.int {P : Program} {t : TypeId} {k : IntKind} (ht : P.underlying t = some (.int k)) : Opn P t (Kd.int k) (fun x => (Lit.int k x).wf = true) (fun _ => 1) := ⟨fun h => by
  obtain ⟨n, rfl, rfl, hw⟩ := DataW.trod_int ht h
  exact ⟨n, rfl, hw, by simp [Rows.uptoBulk]⟩⟩
theorem Opn.bool {P : Program} {t : TypeId} (ht : P.underlying t = some .bool) : Opn P t Kd.bool (fun _ => True) (fun _ => 1) := ⟨fun h => by
  obtain ⟨n, rfl, rfl⟩ := DataW.trod_bool ht h
  exact ⟨n, rfl, trivial, by simp [Rows.uptoBulk]⟩⟩
theorem Opn.string {P : Program} {t : TypeId} (ht : P.underlying t = some .string) : Opn P t Kd.string (fun s => s.size ≤ maxLen) (fun s => s.size + 1) := ⟨fun h => by
  obtain ⟨n, rfl, rfl, hw⟩ := DataW.trod_string ht h
  exact ⟨n, rfl, hw, by simp [Rows.uptoBulk]⟩⟩
theorem bulkAll_map {H : Type} (D : Nat → DataW H) {α : Type} (f : Nat → α) (μ : α → Nat) (n : Nat) (h : ∀ i, i < n → μ (f i) ≤ Rows.uptoBulk (D i)) :
    (((List.range n).map f).map μ).sum ≤ Rows.uptoBulkAll ((List.range n).map D) := by
  rw [List.map_map]
  have key : ∀ l : List Nat, (∀ i ∈ l, i < n) → (l.map (μ ∘ f)).sum ≤ Rows.uptoBulkAll (l.map D) := by
    intro l
    induction l with
    | nil => intro _; simp [Rows.uptoBulkAll]
    | cons a l ih =>
      intro hl
      have h1 := h a (hl a (by simp))
      have h2 := ih (fun i hi => hl i (by simp [hi]))
      simp only [List.map_cons, List.sum_cons, Rows.uptoBulkAll, Function.comp_apply] at h2 ⊢
      omega
  exact key _ (fun i hi => by simpa using hi)
theorem Opn.slice {α : Type} [Inhabited α] {P : Program} {t e : TypeId} {d : Kd α} {wf : α → Prop} {μ : α → Nat} (ho : Opn P e d wf μ) (ht : P.underlying t = some (.slice e)) (hs : P.cellsOf e = d.sz) :
    Opn P t (Kd.slice e d) (fun l => l.length ≤ maxLen ∧ ∀ x ∈ l, wf x) (fun l => 1 + (l.map μ).sum) := ⟨fun {H enc w base spare held fuel cs x} h => by
  rcases Go.Deep.open_slice ht h with ⟨rfl, rfl⟩ | ⟨a, len, cap, m, n, D, Pl, rfl, _, hl, hm, hmm, rfl, hx⟩
  · exact ⟨[], ⟨none, 0, rfl, Nat.le_refl _, Kd.C_nil _ _⟩, ⟨by simp [maxLen], fun _ h => by cases h⟩, by simp [Rows.uptoBulk]⟩
  · have hle : len ≤ m := by rw [hmm]; split <;> omega
    obtain ⟨f, hf⟩ := Go.Deep.choose_lt (α := α) (n := len) (p := fun i a' => d.K w a' ((w.cells? base (a.add (i * P.cellsOf e)) (P.cellsOf e)).getD []) ∧ wf a' ∧ μ a' ≤ Rows.uptoBulk (D i)) (fun i hi => by
      obtain ⟨cs', h1, h2⟩ := hx i (by omega)
      obtain ⟨a', h3, h4, h5⟩ := ho.op h2
      exact ⟨a', by rw [h1]; exact h3, h4, h5⟩)
    have hlen : ((List.range len).map f).length = len := by simp
    refine ⟨(List.range len).map f, ⟨some a, cap, by rw [hlen], by rw [hlen]; exact hl, ?_⟩, ⟨by rw [hlen]; omega, ?_⟩, ?_⟩
    · rw [hlen]
      refine ⟨hlen, by simp only [maxLen] at hm; omega, fun _ => ⟨a, rfl, fun j p hj => ?_⟩⟩
      obtain ⟨hj1, hj2⟩ := List.getElem?_eq_some_iff.mp hj
      have hjl : j < len := by rw [hlen] at hj1; exact hj1
      have hp : p = f j := by rw [← hj2]; simp
      subst hp
      obtain ⟨cs', h1, h2⟩ := hx j (by omega)
      have h3 := (hf j hjl).1
      rw [h1] at h3
      obtain ⟨_, h4, h5⟩ := World.cells?_some h1
      rw [hs] at h1 h4 h5
      refine ⟨cs', h4, h3, fun i u hu => ?_⟩
      have hi : i < d.sz := by rw [← h4]; exact (List.getElem?_eq_some_iff.mp hu).1
      rw [← Go.Deep.add_add, h5 i hi]
      exact hu
    · intro x hx'
      obtain ⟨i, hi, rfl⟩ := List.mem_map.mp hx'
      exact (hf i (by simpa using hi)).2.1
    · simp only [Rows.uptoBulk]
      have := bulkAll_map D f μ len (fun i hi => (hf i hi).2.2)
      omega⟩
theorem bulk_one {α : Type} (l : List α) (μ : α → Nat) (h : ∀ x ∈ l, 1 ≤ μ x) : l.length ≤ (l.map μ).sum := by
  induction l with
  | nil => simp
  | cons a l ih =>
    have h1 := h a (by simp)
    have h2 := ih (fun x hx => h x (by simp [hx]))
    simp only [List.map_cons, List.sum_cons, List.length_cons]
    omega
end Go.Proofs.Ythphelbkfgbejaa.Q
