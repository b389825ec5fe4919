-- (thinned for this claim by wip/tools/shake.py: what the claim doesn't use is left out)
import Derived.Test.YtooabchnbmnchaaQ26
import Derived.Test.YtooabchnbmnchaaQ16
import Derived.Test.YtooabchnbmnchaaQ43
import Derived.Test.YtooabchnbmnchaaKit
import Derived.Test.YtooabchnbmnchaaSq
import Derived.Test.YtooabchnbmnchaaPlOf2
namespace Go.Proofs.Ytooabchnbmnchaa.Q
open Go.RowKit Go.Proofs.YtooabchnbmnchaaW.PrintWords Go.Proofs.YtooabchnbmnchaaW.PrintLast Go.Proofs.YtooabchnbmnchaaW.PrintMore
set_option linter.unusedVariables false
set_option linter.unusedSimpArgs false
def KeepHi (m : Nat) (W W' : World) : Prop := W.heap.size ≤ W'.heap.size ∧ ∀ k, m ≤ k → k < W.heap.size → W'.heap[k]? = W.heap[k]?
theorem KeepHi.refl (m : Nat) (W : World) : KeepHi m W W := ⟨Nat.le_refl _, fun _ _ _ => rfl⟩
theorem KeepHi.kept {m : Nat} {W W1 W2 : World} {P : Nat → Prop} (h : KeepHi m W W1) (hk : Kept W1 W2 P) (hP : ∀ k, P k → k < m) : KeepHi m W W2 :=
  ⟨Nat.le_trans h.1 hk.1, fun k h1 h2 => (hk.2 k (Nat.lt_of_lt_of_le h2 h.1) (fun hp => by have := hP k hp; omega)).trans (h.2 k h1 h2)⟩
theorem KeepHi.below {m : Nat} {W W1 W2 : World} (h : KeepHi m W W1) (hb : Below W1.heap.size W1 W2) : KeepHi m W W2 :=
  ⟨Nat.le_trans h.1 hb.size, fun k h1 h2 => (hb.block k (Nat.lt_of_lt_of_le h2 h.1)).trans (h.2 k h1 h2)⟩
theorem spoil_row {w : World} {base g n cap : Nat} {ok : Nat → Prop} {xs : List (List Int)} (h : Kd.S (Kd.slice 5 (Kd.int .u8)) 26 w base ok (.slice (some ⟨g, 0, none⟩) n cap) xs) (i : Nat) (hi : i < n) :
    ∃ (oki : Nat → Prop) (A : Option Addr) (c : Nat), w.cell? ⟨g, i, none⟩ = some (.slice A (xs.getD i []).length c) ∧ Kd.R (Kd.int .u8) 5 w base oki (.slice A (xs.getD i []).length c) (xs.getD i []) ∧ (∀ k, oki k → ok k ∧ k ≠ g) ∧
      ∀ (w' : World) (r : List Int), Kept w w' oki → Kd.R (Kd.int .u8) 5 w' base (fun k => oki k ∨ w.heap.size ≤ k) (.slice A (xs.getD i []).length c) r → Kd.S (Kd.slice 5 (Kd.int .u8)) 26 w' base ok (.slice (some ⟨g, 0, none⟩) n cap) (xs.set i r) := by
  obtain ⟨oki, c, hcl, hM, hcc, hfr, hoki, hH⟩ := Kd.S_elem h [] (i : Int) (by omega) (by omega)
  rw [Int.toNat_natCast] at hM hcc
  obtain ⟨vb, rfl, hRb⟩ := hM
  obtain ⟨Ab, cb, rfl⟩ := Kd.R_slice hRb
  refine ⟨oki, Ab, cb, ?_, hRb, hoki, fun w' r hk hR => ?_⟩
  · have := hcc 0 _ rfl; simpa [Kd.slice] using this
  · have h1 : Kd.R (Kd.int .u8) 5 w' base oki (.slice Ab (xs.getD i []).length cb) r := Kd.R_mono (Kd.R_tight rfl hR) (fun k hk => hRb.1 k hk.symm)
    have := Kd.H_back (Kd.H_step hH (fun k _ hn hlt => hk.2 k hlt hn)) (x' := r) (okp := oki) ⟨_, rfl, h1⟩ (fun _ hk => hk)
    rwa [Int.toNat_natCast] at this
theorem spoil_seg {w : World} {base g n cap : Nat} {ok : Nat → Prop} {xs : List S70} (h : Kd.S k70 70 w base ok (.slice (some ⟨g, 0, none⟩) n cap) xs) (i : Nat) (hi : i < n) :
    ∃ (oki : Nat → Prop) (A : Option Addr) (c : Nat), w.cell? ⟨g, i * 2 + 1, none⟩ = some (.slice A (xs.getD i ⟨0, []⟩).f1.length c) ∧ Kd.R (Kd.int .u8) 5 w base oki (.slice A (xs.getD i ⟨0, []⟩).f1.length c) (xs.getD i ⟨0, []⟩).f1 ∧ (∀ k, oki k → ok k ∧ k ≠ g) ∧
      ∀ (w' : World) (r : List Int), Kept w w' oki → Kd.R (Kd.int .u8) 5 w' base (fun k => oki k ∨ w.heap.size ≤ k) (.slice A (xs.getD i ⟨0, []⟩).f1.length c) r → Kd.S k70 70 w' base ok (.slice (some ⟨g, 0, none⟩) n cap) (xs.set i ⟨(xs.getD i ⟨0, []⟩).f0, r⟩) := by
  obtain ⟨oki, c, hcl, hM, hcc, hfr, hoki, hH⟩ := Kd.S_elem h ⟨0, []⟩ (i : Int) (by omega) (by omega)
  rw [Int.toNat_natCast] at hM hcc
  obtain ⟨vb, rfl, hRb⟩ := k70_openM hM
  obtain ⟨Ab, cb, rfl⟩ := Kd.R_slice hRb
  refine ⟨oki, Ab, cb, ?_, hRb, hoki, fun w' r hk hR => ?_⟩
  · exact hcc 1 _ rfl
  · have h1 : Kd.R (Kd.int .u8) 5 w' base oki (.slice Ab (xs.getD i ⟨0, []⟩).f1.length cb) r := Kd.R_mono (Kd.R_tight rfl hR) (fun k hk => hRb.1 k hk.symm)
    have := Kd.H_back (Kd.H_step hH (fun k _ hn hlt => hk.2 k hlt hn)) (x' := ⟨(xs.getD i ⟨0, []⟩).f0, r⟩) (okp := oki) (k70_mkM w' base oki ⟨(xs.getD i ⟨0, []⟩).f0, r⟩ h1) (fun _ hk => hk)
    rwa [Int.toNat_natCast] at this
structure Ins (w : World) (g5 m1 m2 : Nat) (vs vw vo : Value) (nx : Int) (sg : List S70) (wt ow : List (List Int)) (W : World) : Prop where
  s : Kd.S k70 70 W w.heap.size (fun k => k < m1 ∧ k < m2 ∧ k < g5) vs sg
  q : Kd.S (Kd.slice 5 (Kd.int .u8)) 26 W w.heap.size (fun k => m1 ≤ k ∧ k < m2 ∧ k < g5) vw wt
  o : Kd.S (Kd.slice 5 (Kd.int .u8)) 26 W w.heap.size (fun k => m2 ≤ k ∧ k < g5) vo ow
  b5 : W.heap[g5]? = some (.cells #[vs, .int .i64 nx, vw] 61 (0, 0))
  hb : Below w.heap.size w W
theorem Ins.below {w : World} {g5 m1 m2 : Nat} {vs vw vo : Value} {nx : Int} {sg : List S70} {wt ow : List (List Int)} {W W2 : World} (h : Ins w g5 m1 m2 vs vw vo nx sg wt ow W) (hb : Below W.heap.size W W2) : Ins w g5 m1 m2 vs vw vo nx sg wt ow W2 :=
  ⟨Kd.S_below h.s hb, Kd.S_below h.q hb, Kd.S_below h.o hb, blk_below h.b5 hb, below_step h.hb hb⟩
theorem far3 {w : World} {g5 k : Nat} (h : k ≠ g5) (a b c : Value) : (((w.setCell ⟨g5, 0, none⟩ a).setCell ⟨g5, 1, none⟩ b).setCell ⟨g5, 2, none⟩ c).heap[k]? = w.heap[k]? :=
  ((Below.heap_setCell _ ⟨g5, 2, none⟩ c k h).trans (Below.heap_setCell _ ⟨g5, 1, none⟩ b k h)).trans (Below.heap_setCell w ⟨g5, 0, none⟩ a k h)
theorem blk_fresh' (w : World) (o : Obj) : (w.alloc o).heap[w.heap.size]? = some o := by
  show (w.heap.push o)[w.heap.size]? = some o
  simp
theorem blk_new' {W : World} {g g10 : Nat} {o : Obj} (h : W.heap[g]? = some o) (hg : g10 = W.heap.size) : g ≠ g10 := by have := blk_lt h; omega
theorem below3 {w w3 w4 : World} {g5 : Nat} (hg : g5 = w3.heap.size) (hb4 : Below w3.heap.size w3 w4) (a b c : Value) : Below w3.heap.size w3 (((w4.setCell ⟨g5, 0, none⟩ a).setCell ⟨g5, 1, none⟩ b).setCell ⟨g5, 2, none⟩ c) :=
  ((hb4.setCell (p := ⟨g5, 0, none⟩) (by show w3.heap.size ≤ g5; omega) a).setCell (p := ⟨g5, 1, none⟩) (by show w3.heap.size ≤ g5; omega) b).setCell (p := ⟨g5, 2, none⟩) (by show w3.heap.size ≤ g5; omega) c
theorem Ins.start {w w3 w4 : World} {g5 m1 m2 : Nat} {vs vw vo : Value} {nx : Int} {sg : List S70} {wt ow : List (List Int)} {z0 z1 z2 : Value}
    (hs : Kd.S k70 70 w3 w.heap.size (fun k => k < m1 ∧ k < m2) vs sg) (hw : Kd.S (Kd.slice 5 (Kd.int .u8)) 26 w3 w.heap.size (fun k => m1 ≤ k ∧ k < m2) vw wt) (ho : Kd.S (Kd.slice 5 (Kd.int .u8)) 26 w3 w.heap.size (fun k => m2 ≤ k) vo ow)
    (hg : g5 = w3.heap.size) (hb4 : Below w3.heap.size w3 w4) (hbox : w4.heap[g5]? = some (.cells #[z0, z1, z2] 61 (0, 0))) (hB : Below w.heap.size w w3) :
    Ins w g5 m1 m2 vs vw vo nx sg wt ow (((w4.setCell ⟨g5, 0, none⟩ vs).setCell ⟨g5, 1, none⟩ (.int .i64 nx)).setCell ⟨g5, 2, none⟩ vw) :=
  ⟨Kd.S_mono (Kd.S_below (Kd.S_bound hs) (below3 (w := w) hg hb4 _ _ _)) (fun _ hk => ⟨hk.1.1, hk.1.2, by rw [hg]; exact hk.2.2.1⟩),
   Kd.S_mono (Kd.S_below (Kd.S_bound hw) (below3 (w := w) hg hb4 _ _ _)) (fun _ hk => ⟨hk.1.1, hk.1.2, by rw [hg]; exact hk.2.2.1⟩),
   Kd.S_mono (Kd.S_below (Kd.S_bound ho) (below3 (w := w) hg hb4 _ _ _)) (fun _ hk => ⟨hk.1, by rw [hg]; exact hk.2.2.1⟩),
   blk_put (blk_put (blk_put hbox 0 _ rfl) 1 _ rfl) 2 _ rfl, below_step hB (below3 (w := w) hg hb4 _ _ _)⟩
theorem Ins.spoilO {w : World} {g5 m1 m2 go n cap : Nat} {vs vw : Value} {nx : Int} {sg : List S70} {wt ow : List (List Int)} {W : World} (h : Ins w g5 m1 m2 vs vw (.slice (some ⟨go, 0, none⟩) n cap) nx sg wt ow W) (i : Nat) (hi : i < n) :
    ∃ (oki : Nat → Prop) (A : Option Addr) (c : Nat), W.cell? ⟨go, i, none⟩ = some (.slice A (ow.getD i []).length c) ∧ Kd.R (Kd.int .u8) 5 W w.heap.size oki (.slice A (ow.getD i []).length c) (ow.getD i []) ∧ (∀ k, oki k → k < g5) ∧
      ∀ (w' : World) (r : List Int), Kept W w' oki → Kd.R (Kd.int .u8) 5 w' w.heap.size (fun k => oki k ∨ W.heap.size ≤ k) (.slice A (ow.getD i []).length c) r → Below w.heap.size w w' → Ins w g5 m1 m2 vs vw (.slice (some ⟨go, 0, none⟩) n cap) nx sg wt (ow.set i r) w' := by
  obtain ⟨oki, A, c, hc, hR, hok, hst⟩ := spoil_row h.o i hi
  refine ⟨oki, A, c, hc, hR, fun k hk => (hok k hk).1.2, fun w' r hk hr hb => ⟨Kd.S_step h.s (fun k hk1 hlt => hk.2 k hlt (fun h2 => ?_)), Kd.S_step h.q (fun k hk1 hlt => hk.2 k hlt (fun h2 => ?_)), hst w' r hk hr, (hk.2 g5 (blk_lt h.b5) (fun h2 => ?_)).trans h.b5, hb⟩⟩
  · have := (hok k h2).1; omega
  · have := (hok k h2).1; omega
  · have := (hok g5 h2).1; omega
theorem Ins.spoilQ {w : World} {g5 m1 m2 go n cap : Nat} {vs vo : Value} {nx : Int} {sg : List S70} {wt ow : List (List Int)} {W : World} (h : Ins w g5 m1 m2 vs (.slice (some ⟨go, 0, none⟩) n cap) vo nx sg wt ow W) (i : Nat) (hi : i < n) :
    ∃ (oki : Nat → Prop) (A : Option Addr) (c : Nat), W.cell? ⟨go, i, none⟩ = some (.slice A (wt.getD i []).length c) ∧ Kd.R (Kd.int .u8) 5 W w.heap.size oki (.slice A (wt.getD i []).length c) (wt.getD i []) ∧ (∀ k, oki k → k < g5) ∧
      ∀ (w' : World) (r : List Int), Kept W w' oki → Kd.R (Kd.int .u8) 5 w' w.heap.size (fun k => oki k ∨ W.heap.size ≤ k) (.slice A (wt.getD i []).length c) r → Below w.heap.size w w' → Ins w g5 m1 m2 vs (.slice (some ⟨go, 0, none⟩) n cap) vo nx sg (wt.set i r) ow w' := by
  obtain ⟨oki, A, c, hc, hR, hok, hst⟩ := spoil_row h.q i hi
  refine ⟨oki, A, c, hc, hR, fun k hk => (hok k hk).1.2.2, fun w' r hk hr hb => ⟨Kd.S_step h.s (fun k hk1 hlt => hk.2 k hlt (fun h2 => ?_)), hst w' r hk hr, Kd.S_step h.o (fun k hk1 hlt => hk.2 k hlt (fun h2 => ?_)), (hk.2 g5 (blk_lt h.b5) (fun h2 => ?_)).trans h.b5, hb⟩⟩
  · have := (hok k h2).1; omega
  · have := (hok k h2).1; omega
  · have := (hok g5 h2).1; omega
theorem Ins.spoilS {w : World} {g5 m1 m2 go n cap : Nat} {vw vo : Value} {nx : Int} {sg : List S70} {wt ow : List (List Int)} {W : World} (h : Ins w g5 m1 m2 (.slice (some ⟨go, 0, none⟩) n cap) vw vo nx sg wt ow W) (i : Nat) (hi : i < n) :
    ∃ (oki : Nat → Prop) (A : Option Addr) (c : Nat), W.cell? ⟨go, i * 2 + 1, none⟩ = some (.slice A (sg.getD i ⟨0, []⟩).f1.length c) ∧ Kd.R (Kd.int .u8) 5 W w.heap.size oki (.slice A (sg.getD i ⟨0, []⟩).f1.length c) (sg.getD i ⟨0, []⟩).f1 ∧ (∀ k, oki k → k < g5) ∧
      ∀ (w' : World) (r : List Int), Kept W w' oki → Kd.R (Kd.int .u8) 5 w' w.heap.size (fun k => oki k ∨ W.heap.size ≤ k) (.slice A (sg.getD i ⟨0, []⟩).f1.length c) r → Below w.heap.size w w' → Ins w g5 m1 m2 (.slice (some ⟨go, 0, none⟩) n cap) vw vo nx (sg.set i ⟨(sg.getD i ⟨0, []⟩).f0, r⟩) wt ow w' := by
  obtain ⟨oki, A, c, hc, hR, hok, hst⟩ := spoil_seg h.s i hi
  refine ⟨oki, A, c, hc, hR, fun k hk => (hok k hk).1.2.2, fun w' r hk hr hb => ⟨hst w' r hk hr, Kd.S_step h.q (fun k hk1 hlt => hk.2 k hlt (fun h2 => ?_)), Kd.S_step h.o (fun k hk1 hlt => hk.2 k hlt (fun h2 => ?_)), (hk.2 g5 (blk_lt h.b5) (fun h2 => ?_)).trans h.b5, hb⟩⟩
  · have := (hok k h2).1; omega
  · have := (hok k h2).1; omega
  · have := (hok g5 h2).1; omega
theorem KeepHi.blk {m g : Nat} {W W' : World} {o : Obj} (h : KeepHi m W W') (hb : W.heap[g]? = some o) (hm : m ≤ g) : W'.heap[g]? = some o := (h.2 g hm (blk_lt hb)).trans hb
theorem KeepHi.cn {α : Type} {d : Kd α} {e base m n c : Nat} {A : Option Addr} {ok : Nat → Prop} {xs : List α} {W W' : World} (h : KeepHi m W W') (hn : Kd.N d e W base ok (.slice A n c) xs) (hok : ∀ k, ok k → m ≤ k) : d.C W' A xs.length xs := (Kd.N_reads' (Kd.N_step hn (fun k hk hlt => h.2 k (hok k hk) hlt))).2.2
theorem KeepHi.cs {α : Type} {d : Kd α} {e base m n c : Nat} {A : Option Addr} {xs : List α} {W W' : World} (h : KeepHi m W W') (hn : Kd.S d e W base (fun k => m ≤ k) (.slice A n c) xs) : d.C W' A xs.length xs := (Kd.S_reads' (Kd.S_step hn (fun k hk hlt => h.2 k hk hlt))).2.2
theorem all_set {α : Type} {P : α → Prop} {xs : List α} (h : ∀ x ∈ xs, P x) (i : Nat) {y : α} (hy : P y) : ∀ x ∈ xs.set i y, P x := by
  intro x hx
  rcases List.mem_or_eq_of_mem_set hx with hx | rfl
  · exact h x hx
  · exact hy
theorem getD_all {α : Type} {P : α → Prop} {xs : List α} (h : ∀ x ∈ xs, P x) (i : Nat) {z : α} (hz : P z) : P (xs.getD i z) := by
  rw [List.getD_eq_getElem?_getD]
  by_cases hi : i < xs.length
  · rw [List.getElem?_eq_getElem hi]; exact h _ (List.getElem_mem hi)
  · rw [List.getElem?_eq_none (by omega)]; exact hz
set_option maxHeartbeats 8000000 in
set_option maxRecDepth 100000 in
theorem transeptlaw08_WalOwn.walk (k : Nat) (A0_0 : Option Addr) (c0_0 : Nat) (l0_0 : List S87) (a0_1 : Int) (A0_2 : Option Addr) (c0_2 : Nat) (l0_2 : List (List Int)) (A1 : Option Addr) (c1 : Nat) (l1 : List (List Int)) (w : World)
    (hr0_0 : Kd.C k87 w A0_0 l0_0.length l0_0) (hc0_0 : l0_0.length ≤ c0_0) (hr0_2 : Kd.C (Kd.slice 5 (Kd.int .u8)) w A0_2 l0_2.length l0_2) (hc0_2 : l0_2.length ≤ c0_2) (hr1 : Kd.C (Kd.slice 5 (Kd.int .u8)) w A1 l1.length l1) (hc1 : l1.length ≤ c1)
    (sg : List S70) (nx : Int) (wt ow : List (List Int)) (a1 : List S70) (a2 : Int) (a3 : List (List Int)) (e0 : Int)
    (halive : transeptlaw08_alive.f k = some true) (hof : transeptlaw08_Of.f k l0_0 a0_1 l0_2 = some (sg, nx, wt)) (hcl : transeptplain_CopyLists.f k l1 = some ow) (happ : wal_Append.f k sg nx wt ow = some (a1, a2, a3, e0))
    (hno : e0 ≠ 0 → a1 = []) (b1 : List S87) (b2 : Int) (b3 : List (List Int)) (eb : Int)
    (href : e0 = 0 → transeptref08_Append.f k l0_0 a0_1 l0_2 l1 = some (b1, b2, b3, eb) ∧ transeptlaw08_same.f k a1 a2 a3 b1 b2 b3 = some true)
    (hsp : ∀ x : List Int, x.length ≤ 1048576 → ∃ r, transeptplain_Spoil.f k x = some r ∧ r.length = x.length)
    (hls : ∀ x ∈ sg, x.f1.length ≤ 1048576) (hlw : ∀ x ∈ wt, x.length ≤ 1048576) (hlo : ∀ x ∈ ow, x.length ≤ 1048576) (hns : sg.length ≤ 1048576) (hnw : wt.length ≤ 1048576) (hno2 : ow.length ≤ 1048576) :
    Calls Try.prog 8 #[.agg #[.slice A0_0 l0_0.length c0_0, .int .i64 a0_1, .slice A0_2 l0_2.length c0_2], .slice A1 l1.length c1] w fun e w' => e = .returned (.bool true) ∧ Below w.heap.size w w' := by
  have hu61 := Try.underlying61
  have hu70 := Try.underlying70
  have hu58 := Try.underlying58
  have HR0 := Aside0.mk hr0_0
  have HC0 := Aside0.mk hc0_0
  have HR2 := Aside0.mk hr0_2
  have HC2 := Aside0.mk hc0_2
  have HR1 := Aside0.mk hr1
  have HC1 := Aside0.mk hc1
  have HB := Aside0.mk (Below.refl w.heap.size w)
  have A0 := Aside0.mk halive
  have A1' := Aside0.mk hof
  have A2 := Aside0.mk hcl
  have A3 := Aside0.mk happ
  have HNO := Aside0.mk hno
  have HREF := Aside0.mk href
  have HSP := Aside0.mk hsp
  have HLS := Aside0.mk hls
  have HLW := Aside0.mk hlw
  have HLO := Aside0.mk hlo
  have HNS := Aside0.mk hns
  have HNW := Aside0.mk hnw
  have HNO2 := Aside0.mk hno2
  clear hr0_0 hc0_0 hr0_2 hc0_2 hr1 hc1 halive hof hcl happ hno href hsp hls hlw hlo hns hnw hno2
  go_enter Try.func8, Try.ntmps8
  go_upto_region 4 with (first | (go_at_call 32; (with_reducible refine (transeptlaw08_alive.calls k true _ A0.out).mono ?_); rintro e w8 ⟨rfl, hb⟩; replace BK2 := bK_ BK2 hb; replace HB := bS_ HB hb; obtain ⟨hx0, hx1, hx2, hw0, hw1, hw2⟩ := cz3_ BK2; (try clear hb)) | ((with_reducible refine gate_dst (N := 2) rfl ?_); refine bx_ 2 #[.slice A0_0 l0_0.length c0_0, .int .i64 a0_1, .slice A0_2 l0_2.length c0_2] 58 ?_; intro g2 hg wb hbox hb; have BK2 := Aside0.mk hbox; have GE2 := bG_ HB hg; replace HB := bS_ HB hb; clear hb hbox hg) | (go_at_call 33; (with_reducible refine (transeptlaw08_Of.calls2 k _ _ l0_0 a0_1 _ _ l0_2 sg nx wt _ ?s1 HC0.out ?s2 HC2.out A1'.out).mono ?_); (case s1 => exact cB_ HR0 HB); (case s2 => exact cB_ HR2 HB); rintro e w2 ⟨vs, vw, m1, rfl, hos, how, hb⟩; obtain ⟨As, cs, rfl⟩ := Kd.S_slice hos; obtain ⟨Aw, cw, rfl⟩ := Kd.S_slice how; have HS := Aside0.mk (Kd.S_lower (Kd.S_mono (Kd.S_bound hos) (fun _ hk => ⟨hk.1, hk.2.2.1⟩) : Kd.S k70 70 w2 _ (fun k => k < m1 ∧ k < w2.heap.size) _ _) (bs_ HB)); have HW := Aside0.mk (Kd.S_lower (Kd.S_mono (Kd.S_bound how) (fun _ hk => ⟨hk.1, hk.2.2.1⟩) : Kd.S (Kd.slice 5 (Kd.int .u8)) 26 w2 _ (fun k => m1 ≤ k ∧ k < w2.heap.size) _ _) (bs_ HB)); replace BK2 := bK_ BK2 hb; replace HB := bS_ HB hb; clear hos how hb) | (go_at_call 34; (with_reducible refine (transeptplain_CopyLists.calls k _ _ l1 ow _ ?s1 HC1.out A2.out).mono ?_); (case s1 => exact cB_ HR1 HB); rintro e w3 ⟨vo, rfl, hoo, hb⟩; obtain ⟨Ao, co, rfl⟩ := Kd.S_slice hoo; have HO := Aside0.mk (Kd.S_lower (Kd.S_mono (Kd.S_bound hoo) (fun _ hk => hk.2.1)) (bs_ HB)); replace HS := sB_ HS hb; replace HW := sB_ HW hb; replace BK2 := bK_ BK2 hb; replace HB := bS_ HB hb; clear hoo hb) | ((with_reducible refine gate_dst (N := 5) rfl ?_); refine bx_ 5 #[.slice none 0 0, .int .i64 0, .slice none 0 0] 61 ?_; intro g5 hg w4 hbox hb; have IN := Aside0.mk (Ins.start (w4 := w4) (nx := nx) (sA_ HS) (sA_ HW) (sA_ HO) hg hb hbox (bl_ HB)); have BK5 := Aside0.mk hbox; have N25 := Aside0.mk (blk_new' BK2.out hg); have GE5 := bG_ HB hg; replace BK2 := bK_ BK2 hb; replace HB := bS_ HB hb; clear hb hbox hg; obtain ⟨hy0, hy1, hy2, hz0, hz1, hz2⟩ := cz3_ BK5))
  replace BK2 := Aside0.mk ((far3 N25.out (.slice As sg.length cs) (.int .i64 nx) (.slice Aw wt.length cw)).trans BK2.out)
  generalize ((w4.setCell ⟨g5, 0, none⟩ (.slice As sg.length cs)).setCell ⟨g5, 1, none⟩ (.int .i64 nx)).setCell ⟨g5, 2, none⟩ (.slice Aw wt.length cw) = W4 at IN BK2 ⊢
  clear HS HW HO HB BK5 hy0 hy1 hy2 hz0 hz1 hz2 hx0 hx1 hx2 hw0 hw1 hw2
  obtain ⟨hy0, hy1, hy2, hz0, hz1, hz2⟩ := cz3_ ⟨IN.out.b5⟩
  obtain ⟨hx0, hx1, hx2, hw0, hw1, hw2⟩ := cz3_ BK2
  by_cases he : e0 = 0
  case neg =>
    have ha := HNO.out he
    have hbe : (e0 != 0) = true := bne_iff_ne.2 he
    subst ha
    have HE := Aside0.mk he
    clear he
    go_wp2_with (first | (go_at_call 35; (with_reducible refine (wal_Append.calls k _ _ sg nx _ _ wt _ _ ow [] a2 a3 e0 _ ?s1 ?s2 ?s3 ?s4 ?s5 ?s6 A3.out).mono ?_); (case s1 => exact (Kd.S_reads' IN.out.s).2.2); (case s2 => exact (Kd.S_reads' IN.out.s).2.1); (case s3 => exact (Kd.S_reads' IN.out.q).2.2); (case s4 => exact (Kd.S_reads' IN.out.q).2.1); (case s5 => exact (Kd.S_reads' IN.out.o).2.2); (case s6 => exact (Kd.S_reads' IN.out.o).2.1); rintro e w5 ⟨va, vb, rfl, hoa, hob, hb⟩; obtain ⟨Aa, ca, rfl⟩ := Kd.N_slice hoa; obtain ⟨Ab, cb, rfl⟩ := Kd.N_slice hob; replace IN := Aside0.mk (IN.out.below hb); clear hoa hob hb) | (go_at_call 36; (with_reducible refine (transeptlaw08_num.calls e0 e0 _ rfl).mono ?_); rintro e w7 ⟨rfl, ⟨nd, rfl⟩⟩))
    have HB := Aside0.mk IN.out.hb
    go_ret
    exact ⟨rfl, bl_ HB⟩
  subst he
  obtain ⟨href, hsame⟩ := HREF.out rfl
  have A4 := Aside0.mk href
  have A5 := Aside0.mk hsame
  clear href hsame HNO HREF
  obtain ⟨m, hm⟩ : ∃ m, m = W4.heap.size := ⟨_, rfl⟩
  have H5m : Aside0 (g5 < m) := ⟨by rw [hm]; exact blk_lt IN.out.b5⟩
  have HB := Aside0.mk IN.out.hb
  go_upto_region 7 with (first | (go_at_call 35; (with_reducible refine (wal_Append.calls k _ _ sg nx _ _ wt _ _ ow a1 a2 a3 0 _ ?s1 ?s2 ?s3 ?s4 ?s5 ?s6 A3.out).mono ?_); (case s1 => exact (Kd.S_reads' IN.out.s).2.2); (case s2 => exact (Kd.S_reads' IN.out.s).2.1); (case s3 => exact (Kd.S_reads' IN.out.q).2.2); (case s4 => exact (Kd.S_reads' IN.out.q).2.1); (case s5 => exact (Kd.S_reads' IN.out.o).2.2); (case s6 => exact (Kd.S_reads' IN.out.o).2.1); rintro e w5 ⟨va, vb, rfl, hoa, hob, hb⟩; obtain ⟨Aa, ca, rfl⟩ := Kd.N_slice hoa; obtain ⟨Ab, cb, rfl⟩ := Kd.N_slice hob; rw [← hm] at hoa hob; have NA := Aside0.mk hoa; have NB := Aside0.mk hob; replace IN := Aside0.mk (IN.out.below hb); replace BK2 := bK_ BK2 hb; replace HB := bS_ HB hb; have HM5 : Aside0 (m ≤ w5.heap.size) := ⟨by rw [hm]; exact hb.size⟩; clear hoa hob hb) | (go_at_call 36; (with_reducible refine (transeptlaw08_num.calls 0 0 _ rfl).mono ?_); rintro e w7 ⟨rfl, ⟨nd, rfl⟩⟩))
  have hb6 : Below w5.heap.size w5 ((w5.alloc (.cells #[.slice Aa a1.length ca, .int .i64 a2, .slice Ab a3.length cb] 61)).drewN nd) := pw_below_drewN (below_alloc (Below.refl _ _) _) nd
  have B7 : Aside0 (((w5.alloc (.cells #[.slice Aa a1.length ca, .int .i64 a2, .slice Ab a3.length cb] 61)).drewN nd).heap[w5.heap.size]? = some (.cells #[.slice Aa a1.length ca, .int .i64 a2, .slice Ab a3.length cb] 61 (0, 0))) := ⟨blk_drewN (blk_fresh' _ _) _⟩
  replace NA := Aside0.mk (Kd.N_below NA.out hb6)
  replace NB := Aside0.mk (Kd.N_below NB.out hb6)
  replace IN := Aside0.mk (IN.out.below hb6)
  replace BK2 := Aside0.mk (blk_below BK2.out hb6)
  replace HB := Aside0.mk (below_step HB.out hb6)
  clear hb6
  generalize (w5.alloc (.cells #[.slice Aa a1.length ca, .int .i64 a2, .slice Ab a3.length cb] 61)).drewN nd = W6 at B7 NA NB IN BK2 HB ⊢
  generalize w5.heap.size = g7 at B7 HM5 ⊢
  clear hx0 hx1 hx2 hw0 hw1 hw2
  obtain ⟨hx0, hx1, hx2, hw0, hw1, hw2⟩ := cz3_ BK2
  go_upto_region 8 with (first | (go_at_call 37; (with_reducible refine (transeptref08_Append.calls k _ _ l0_0 a0_1 _ _ l0_2 _ _ l1 b1 b2 b3 eb _ ?s1 HC0.out ?s2 HC2.out ?s3 HC1.out A4.out).mono ?_); (case s1 => exact cB_ HR0 HB); (case s2 => exact cB_ HR2 HB); (case s3 => exact cB_ HR1 HB); rintro e w9 ⟨vc, vd, rfl, hoc, hod, hb⟩; obtain ⟨Ac, cc, rfl⟩ := Kd.S_slice hoc; obtain ⟨Ad, cd, rfl⟩ := Kd.S_slice hod; have HMW : Aside0 (m ≤ W6.heap.size) := ⟨Nat.le_trans HM5.out (Nat.le_of_lt (blk_lt B7.out))⟩; have SC := Aside0.mk (Kd.S_mono (Kd.S_bound hoc) (fun _ hk => Nat.le_trans HMW.out hk.2.1)); have SD := Aside0.mk (Kd.S_mono (Kd.S_bound hod) (fun _ hk => Nat.le_trans HMW.out hk.2.1)); replace NA := Aside0.mk (Kd.N_below NA.out hb); replace NB := Aside0.mk (Kd.N_below NB.out hb); replace IN := Aside0.mk (IN.out.below hb); replace B7 := bK_ B7 hb; replace HB := bS_ HB hb; have HM9 : Aside0 (m ≤ w9.heap.size) := ⟨Nat.le_trans HMW.out hb.size⟩; clear hoc hod hb))
  have hb9 : Below w9.heap.size w9 (w9.alloc (.cells #[.slice Ac b1.length cc, .int .i64 b2, .slice Ad b3.length cd] 58)) := below_alloc (Below.refl _ _) _
  have B9 : Aside0 ((w9.alloc (.cells #[.slice Ac b1.length cc, .int .i64 b2, .slice Ad b3.length cd] 58)).heap[w9.heap.size]? = some (.cells #[.slice Ac b1.length cc, .int .i64 b2, .slice Ad b3.length cd] 58 (0, 0))) := ⟨blk_fresh' _ _⟩
  replace NA := Aside0.mk (Kd.N_below NA.out hb9)
  replace NB := Aside0.mk (Kd.N_below NB.out hb9)
  replace SC := Aside0.mk (Kd.S_below SC.out hb9)
  replace SD := Aside0.mk (Kd.S_below SD.out hb9)
  replace B7 := Aside0.mk (blk_below B7.out hb9)
  replace IN := Aside0.mk (IN.out.below hb9)
  clear hb9 HB BK2 hx0 hx1 hx2 hw0 hw1 hw2 hy0 hy1 hy2 hz0 hz1 hz2
  generalize w9.alloc (.cells #[.slice Ac b1.length cc, .int .i64 b2, .slice Ad b3.length cd] 58) = W at NA NB SC SD B7 B9 IN ⊢
  generalize w9.heap.size = g9 at HM9 B9 ⊢
  have HAc : Aside0 (a1.length ≤ ca ∧ a3.length ≤ cb ∧ b1.length ≤ cc ∧ b3.length ≤ cd) := ⟨(Kd.N_reads' NA.out).2.1, (Kd.N_reads' NB.out).2.1, (Kd.S_reads' SC.out).2.1, (Kd.S_reads' SD.out).2.1⟩
  have HF : Aside0 (∀ W', KeepHi m W W' → Kd.C k70 W' Aa a1.length a1 ∧ Kd.C (Kd.slice 5 (Kd.int .u8)) W' Ab a3.length a3 ∧ Kd.C k87 W' Ac b1.length b1 ∧ Kd.C (Kd.slice 5 (Kd.int .u8)) W' Ad b3.length b3 ∧ W'.heap[g7]? = some (.cells #[.slice Aa a1.length ca, .int .i64 a2, .slice Ab a3.length cb] 61 (0, 0)) ∧ W'.heap[g9]? = some (.cells #[.slice Ac b1.length cc, .int .i64 b2, .slice Ad b3.length cd] 58 (0, 0))) :=
    ⟨fun W' h => ⟨h.cn NA.out (fun _ hk => hk.1), h.cn NB.out (fun _ hk => hk.1), h.cs SC.out, h.cs SD.out, h.blk B7.out HM5.out, h.blk B9.out HM9.out⟩⟩
  have HK0 : Aside0 (KeepHi m W W) := ⟨KeepHi.refl m W⟩
  clear NA NB SC SD B7 B9 hm
  go_wp2
  go_loopw [11] (fun v11 wr => ∃ (i : Nat) (ow' : List (List Int)), v11 = .int .i64 (i : Int) ∧ Aside0 (i ≤ ow.length) ∧ Aside0 (ow'.length = ow.length) ∧ Aside0 (∀ x ∈ ow', x.length ≤ 1048576) ∧ Aside0 (KeepHi m W wr) ∧ Aside0 (Ins w g5 m1 w2.heap.size (.slice As sg.length cs) (.slice Aw wt.length cw) (.slice Ao ow.length co) nx sg wt ow' wr)) (fun v11 _ => ow.length - (intOf v11).toNat)
  case atStart => exact ⟨0, ow, rfl, ⟨Nat.zero_le _⟩, ⟨rfl⟩, HLO, HK0, IN⟩
  case round =>
    clear IN HK0
    obtain ⟨i, ow', rfl, HI, HL, HX, HK, IN⟩ := hrel
    by_cases hi : i < ow.length
    · have c1b : ((i : Int) < (ow.length : Int)) = True := eq_true (by omega)
      have c1c : (0 ≤ (i : Int)) = True := eq_true (by omega)
      obtain ⟨go, cap, hv, _⟩ := Kd.S_form IN.out.o (by have := HL.out; omega)
      injection hv with e1 e2 e3
      subst e1
      subst e3
      obtain ⟨oki, A, c, hcell, hR, hok, hst⟩ := IN.out.spoilO i hi
      have hxl := getD_all HX.out i (P := fun x => x.length ≤ 1048576) (z := []) (by simp)
      obtain ⟨r, hr, hrl⟩ := HSP.out _ hxl
      have HRL : Aside0 (r.length ≤ 1048576) := ⟨by rw [hrl]; exact hxl⟩
      generalize ow'.getD i [] = x at hcell hR hr hst
      have HRx := Aside0.mk hR
      have HOK := Aside0.mk hok
      have HST := Aside0.mk hst
      have HSr := Aside0.mk hr
      have HIL := Aside0.mk hi
      have HW2 : Aside0 (wrap64 ((i : Int) + 1) = ((i + 1 : Nat) : Int)) := ⟨by have := HNO2.out; rw [wrap64_id (by omega) (by omega)]; omega⟩
      have HME : Aside0 (ow.length - (i + 1) < ow.length - i) := ⟨by omega⟩
      clear hR hok hst hr hrl hxl e2 hi
      go_wp2_with (go_at_call 38; (with_reducible refine (transeptplain_Spoil.calls k oki _ x r w _ IN.out.hb HRx.out HSr.out).mono ?_); rintro e w' ⟨rfl, hR', hb', hk'⟩; have IN' := Aside0.mk (HST.out w' r hk' hR' hb'); have HK' := Aside0.mk (HK.out.kept hk' (fun k hk => by have := HOK.out k hk; have := H5m.out; omega)); clear hR' hb' hk')
      rw [HW2.out]
      exact ⟨⟨i + 1, ow'.set i r, rfl, ⟨HIL.out⟩, ⟨by rw [List.length_set]; exact HL.out⟩, ⟨all_set HX.out i HRL.out⟩, HK', IN'⟩, HME.out⟩
    · have hie : i = ow.length := by have := HI.out; omega
      subst hie
      have c1b : ((ow.length : Int) < (ow.length : Int)) = False := eq_false (by omega)
      clear hi
      go_wp2
      go_loopw [12] (fun v12 wr => ∃ (i : Nat) (sg' : List S70), v12 = .int .i64 (i : Int) ∧ Aside0 (i ≤ sg.length) ∧ Aside0 (sg'.length = sg.length) ∧ Aside0 (∀ x ∈ sg', x.f1.length ≤ 1048576) ∧ Aside0 (KeepHi m W wr) ∧ Aside0 (Ins w g5 m1 w2.heap.size (.slice As sg.length cs) (.slice Aw wt.length cw) (.slice Ao ow.length co) nx sg' wt ow' wr)) (fun v12 _ => sg.length - (intOf v12).toNat)
      case atStart => exact ⟨0, sg, rfl, ⟨Nat.zero_le _⟩, ⟨rfl⟩, HLS, HK, IN⟩
      case round =>
        clear IN HK HX HL HI
        obtain ⟨i, sg', rfl, HI, HL, HX, HK, IN⟩ := hrel
        obtain ⟨hy0, hy1, hy2, hz0, hz1, hz2⟩ := cz3_ ⟨IN.out.b5⟩
        by_cases hi : i < sg.length
        · have c1b : ((i : Int) < (sg.length : Int)) = True := eq_true (by omega)
          have c1c : (0 ≤ (i : Int)) = True := eq_true (by omega)
          obtain ⟨go, cap, hv, _⟩ := Kd.S_form IN.out.s (by have := HL.out; omega)
          injection hv with e1 e2 e3
          subst e1
          subst e3
          obtain ⟨oki, A, c, hcell, hR, hok, hst⟩ := IN.out.spoilS i hi
          have hxl := getD_all HX.out i (P := fun x : S70 => x.f1.length ≤ 1048576) (z := ⟨0, []⟩) (by simp)
          obtain ⟨r, hr, hrl⟩ := HSP.out _ hxl
          have HRL : Aside0 (r.length ≤ 1048576) := ⟨by rw [hrl]; exact hxl⟩
          generalize (sg'.getD i ⟨0, []⟩).f0 = f0 at hst
          generalize (sg'.getD i ⟨0, []⟩).f1 = x at hcell hR hr hst
          have HRx := Aside0.mk hR
          have HOK := Aside0.mk hok
          have HST := Aside0.mk hst
          have HSr := Aside0.mk hr
          have HIL := Aside0.mk hi
          have HW2 : Aside0 (wrap64 ((i : Int) + 1) = ((i + 1 : Nat) : Int)) := ⟨by have := HNS.out; rw [wrap64_id (by omega) (by omega)]; omega⟩
          have HME : Aside0 (sg.length - (i + 1) < sg.length - i) := ⟨by omega⟩
          clear hR hok hst hr hrl hxl e2 hi
          go_wp2_with (go_at_call 38; (with_reducible refine (transeptplain_Spoil.calls k oki _ x r w _ IN.out.hb HRx.out HSr.out).mono ?_); rintro e w' ⟨rfl, hR', hb', hk'⟩; have IN' := Aside0.mk (HST.out w' r hk' hR' hb'); have HK' := Aside0.mk (HK.out.kept hk' (fun k hk => by have := HOK.out k hk; have := H5m.out; omega)); clear hR' hb' hk')
          rw [HW2.out]
          exact ⟨⟨i + 1, sg'.set i ⟨f0, r⟩, rfl, ⟨HIL.out⟩, ⟨by rw [List.length_set]; exact HL.out⟩, ⟨all_set HX.out i HRL.out⟩, HK', IN'⟩, HME.out⟩
        · have hie : i = sg.length := by have := HI.out; omega
          subst hie
          have c1b : ((sg.length : Int) < (sg.length : Int)) = False := eq_false (by omega)
          clear hi
          go_wp2
          clear hy0 hy1 hy2 hz0 hz1 hz2
          go_loopw [13] (fun v13 wr => ∃ (i : Nat) (wt' : List (List Int)), v13 = .int .i64 (i : Int) ∧ Aside0 (i ≤ wt.length) ∧ Aside0 (wt'.length = wt.length) ∧ Aside0 (∀ x ∈ wt', x.length ≤ 1048576) ∧ Aside0 (KeepHi m W wr) ∧ Aside0 (Ins w g5 m1 w2.heap.size (.slice As sg.length cs) (.slice Aw wt.length cw) (.slice Ao ow.length co) nx sg' wt' ow' wr)) (fun v13 _ => wt.length - (intOf v13).toNat)
          case atStart => exact ⟨0, wt, rfl, ⟨Nat.zero_le _⟩, ⟨rfl⟩, HLW, HK, IN⟩
          case round =>
            clear IN HK HX HL HI
            obtain ⟨i, wt', rfl, HI, HL, HX, HK, IN⟩ := hrel
            obtain ⟨hy0, hy1, hy2, hz0, hz1, hz2⟩ := cz3_ ⟨IN.out.b5⟩
            by_cases hi : i < wt.length
            · have c1b : ((i : Int) < (wt.length : Int)) = True := eq_true (by omega)
              have c1c : (0 ≤ (i : Int)) = True := eq_true (by omega)
              obtain ⟨go, cap, hv, _⟩ := Kd.S_form IN.out.q (by have := HL.out; omega)
              injection hv with e1 e2 e3
              subst e1
              subst e3
              obtain ⟨oki, A, c, hcell, hR, hok, hst⟩ := IN.out.spoilQ i hi
              have hxl := getD_all HX.out i (P := fun x => x.length ≤ 1048576) (z := []) (by simp)
              obtain ⟨r, hr, hrl⟩ := HSP.out _ hxl
              have HRL : Aside0 (r.length ≤ 1048576) := ⟨by rw [hrl]; exact hxl⟩
              generalize wt'.getD i [] = x at hcell hR hr hst
              have HRx := Aside0.mk hR
              have HOK := Aside0.mk hok
              have HST := Aside0.mk hst
              have HSr := Aside0.mk hr
              have HIL := Aside0.mk hi
              have HW2 : Aside0 (wrap64 ((i : Int) + 1) = ((i + 1 : Nat) : Int)) := ⟨by have := HNW.out; rw [wrap64_id (by omega) (by omega)]; omega⟩
              have HME : Aside0 (wt.length - (i + 1) < wt.length - i) := ⟨by omega⟩
              clear hR hok hst hr hrl hxl e2 hi
              go_wp2_with (go_at_call 38; (with_reducible refine (transeptplain_Spoil.calls k oki _ x r w _ IN.out.hb HRx.out HSr.out).mono ?_); rintro e w' ⟨rfl, hR', hb', hk'⟩; have IN' := Aside0.mk (HST.out w' r hk' hR' hb'); have HK' := Aside0.mk (HK.out.kept hk' (fun k hk => by have := HOK.out k hk; have := H5m.out; omega)); clear hR' hb' hk')
              rw [HW2.out]
              exact ⟨⟨i + 1, wt'.set i r, rfl, ⟨HIL.out⟩, ⟨by rw [List.length_set]; exact HL.out⟩, ⟨all_set HX.out i HRL.out⟩, HK', IN'⟩, HME.out⟩
            · have hie : i = wt.length := by have := HI.out; omega
              subst hie
              have c1b : ((wt.length : Int) < (wt.length : Int)) = False := eq_false (by omega)
              clear hi
              have HFr := Aside0.mk (HF.out _ HK.out)
              obtain ⟨hy3, hy4, hy5, hz3, hz4, hz5⟩ := cz3_ ⟨HFr.out.2.2.2.2.1⟩
              obtain ⟨hy6, hy7, hy8, hz6, hz7, hz8⟩ := cz3_ ⟨HFr.out.2.2.2.2.2⟩
              have HB := Aside0.mk IN.out.hb
              go_wp2_with (go_at_call 39; (with_reducible refine (transeptlaw08_same.calls k _ _ a1 a2 _ _ a3 _ _ b1 b2 _ _ b3 true _ ?s1 HAc.out.1 ?s2 HAc.out.2.1 ?s3 HAc.out.2.2.1 ?s4 HAc.out.2.2.2 A5.out).mono ?_); (case s1 => exact HFr.out.1); (case s2 => exact HFr.out.2.1); (case s3 => exact HFr.out.2.2.1); (case s4 => exact HFr.out.2.2.2.1); rintro e w' ⟨rfl, hb'⟩; replace HB := bS_ HB hb'; clear hb')
              go_ret
              exact ⟨rfl, HB.out⟩
end Go.Proofs.Ytooabchnbmnchaa.Q
