-- (thinned for this claim by wip/tools/shake.py: what the claim doesn't use is left out)
/- Short words for the printed walks: what stands in them again and again, once. -/
import Derived.Test.YtooabchnbmnchaaKit
import Derived.Test.YtooabchnbmnchaaWMore
import Derived.Test.YtooabchnbmnchaaWTab
import Derived.Test.YtooabchnbmnchaaWN
import Derived.Test.YtooabchnbmnchaaWFootNe
namespace Go.Proofs.Ytooabchnbmnchaa.Q
open Go.RowKit Go.Proofs.YtooabchnbmnchaaW.PrintWords Go.Proofs.YtooabchnbmnchaaW.PrintLast Go.Proofs.YtooabchnbmnchaaW.PrintMore
set_option linter.unusedVariables false
section
variable {w W V V2 : World} {g G base : Nat} {o o2 : Obj} {α : Type} {d : Kd α} {e : Nat} {ok : Nat → Prop} {v : Value} {xs : List α} {A : Option Addr} {n : Nat}
theorem bl_ (x : Aside0 (Below w.heap.size w W)) (h : Below w.heap.size w W → Below w.heap.size w V := by intro x_; repeat (first | (with_reducible first | exact x_ | apply below_alloc | apply pw_below_drewN | apply below_drew1 | refine below_set ?_ (Aside0.out (by assumption))) | exact x_)) : Below w.heap.size w V := h x.out
theorem bs_ (x : Aside0 (Below w.heap.size w W)) (h : Below w.heap.size w W → Below w.heap.size w V := by intro x_; repeat (first | (with_reducible first | exact x_ | apply below_alloc | apply pw_below_drewN | apply below_drew1 | refine below_set ?_ (Aside0.out (by assumption))) | exact x_)) : w.heap.size ≤ V.heap.size := below_size (h x.out)
theorem bS_ (x : Aside0 (Below w.heap.size w W)) (hb : Below V.heap.size V V2) (h : Below w.heap.size w W → Below w.heap.size w V := by intro x_; repeat (first | (with_reducible first | exact x_ | apply below_alloc | apply pw_below_drewN | apply below_drew1 | refine below_set ?_ (Aside0.out (by assumption))) | exact x_)) : Aside0 (Below w.heap.size w V2) := ⟨below_step (h x.out) hb⟩
theorem bG_ (x : Aside0 (Below w.heap.size w W)) (hg : g = V.heap.size) (h : Below w.heap.size w W → Below w.heap.size w V := by intro x_; repeat (first | (with_reducible first | exact x_ | apply below_alloc | apply pw_below_drewN | apply below_drew1 | refine below_set ?_ (Aside0.out (by assumption))) | exact x_)) : Aside0 (w.heap.size ≤ g) := ⟨by rw [hg]; exact below_size (h x.out)⟩
theorem bA_ (x : Aside0 (W.heap[g]? = some o)) (h : W.heap[g]? = some o → V.heap[g]? = some o := by intro x_; (with_reducible repeat (first | refine blk_drewN ?_ _ | refine blk_drew ?_ | refine blk_alloc ?_ _ | refine blk_far ?_ (Aside0.out (by assumption)) _)); exact x_) : V.heap[g]? = some o := h x.out
theorem bK_ (x : Aside0 (W.heap[g]? = some o)) (hb : Below V.heap.size V V2) (h : W.heap[g]? = some o → V.heap[g]? = some o := by intro x_; (with_reducible repeat (first | refine blk_drewN ?_ _ | refine blk_drew ?_ | refine blk_alloc ?_ _ | refine blk_far ?_ (Aside0.out (by assumption)) _)); exact x_) : Aside0 (V2.heap[g]? = some o) := ⟨blk_below (h x.out) hb⟩
theorem nL_ (x : Aside0 (W.heap[g]? = some o)) (hg : G = V.heap.size) (h : W.heap[g]? = some o → V.heap[g]? = some o := by intro x_; (with_reducible repeat (first | refine blk_drewN ?_ _ | refine blk_drew ?_ | refine blk_alloc ?_ _ | refine blk_far ?_ (Aside0.out (by assumption)) _)); exact x_) : Aside0 (g ≠ G) := ⟨by rw [hg]; exact Nat.ne_of_lt (blk_lt (h x.out))⟩
theorem nG_ (x : Aside0 (W.heap[g]? = some o)) (hg : G = V.heap.size) (h : W.heap[g]? = some o → V.heap[g]? = some o := by intro x_; (with_reducible repeat (first | refine blk_drewN ?_ _ | refine blk_drew ?_ | refine blk_alloc ?_ _ | refine blk_far ?_ (Aside0.out (by assumption)) _)); exact x_) : Aside0 (G ≠ g) := ⟨by rw [hg]; exact Nat.ne_of_gt (blk_lt (h x.out))⟩
theorem rA_ (x : Aside0 (d.R e W base ok v xs)) (h : d.R e W base ok v xs → d.R e V base ok v xs := by intro x_; (with_reducible repeat (first | apply Kd.R_alloc | apply Kd.R_drewN | apply Kd.R_drew)); exact x_) : d.R e V base ok v xs := h x.out
theorem rB_ (x : Aside0 (d.R e W base ok v xs)) (hb : Below V.heap.size V V2) (h : d.R e W base ok v xs → d.R e V base ok v xs := by intro x_; (with_reducible repeat (first | apply Kd.R_alloc | apply Kd.R_drewN | apply Kd.R_drew)); exact x_) : Aside0 (d.R e V2 base ok v xs) := ⟨Kd.R_below (h x.out) hb⟩
theorem sA_ (x : Aside0 (Kd.S d e W base ok v xs)) (h : Kd.S d e W base ok v xs → Kd.S d e V base ok v xs := by intro x_; (with_reducible repeat (first | apply Kd.S_alloc | apply Kd.S_drewN | apply Kd.S_drew)); exact x_) : Kd.S d e V base ok v xs := h x.out
theorem sB_ (x : Aside0 (Kd.S d e W base ok v xs)) (hb : Below V.heap.size V V2) (h : Kd.S d e W base ok v xs → Kd.S d e V base ok v xs := by intro x_; (with_reducible repeat (first | apply Kd.S_alloc | apply Kd.S_drewN | apply Kd.S_drew)); exact x_) : Aside0 (Kd.S d e V2 base ok v xs) := ⟨Kd.S_below (h x.out) hb⟩
theorem cB_ (x : Aside0 (d.C w A n xs)) (y : Aside0 (Below w.heap.size w W)) (h : d.C W A n xs → d.C V A n xs := by intro x_; repeat (first | exact x_ | (with_reducible refine Kd.C_alloc ?_ _) | (with_reducible refine Kd.C_drewN ?_ _) | (with_reducible refine Kd.C_drew ?_))) : d.C V A n xs := h (Kd.C_below x.out y.out)
theorem cO_ (x : d.C W A n xs) (h : d.C W A n xs → d.C V A n xs := by intro x_; repeat (first | exact x_ | (with_reducible refine Kd.C_alloc ?_ _) | (with_reducible refine Kd.C_drewN ?_ _) | (with_reducible refine Kd.C_drew ?_))) : d.C V A n xs := h x
class Ch (S : List Nat) (w W : World) : Prop where
  h : ∀ k, k ∉ S → k < w.heap.size → W.heap[k]? = w.heap[k]?
  sz : w.heap.size ≤ W.heap.size
instance (S : List Nat) (w : World) : Ch S w w := ⟨fun _ _ _ => rfl, Nat.le_refl _⟩
instance (S : List Nat) (w W : World) [c : Ch S w W] (o : Obj) : Ch S w (W.alloc o) := ⟨fun k h1 h2 => ((below_alloc (Below.refl _ _) o).block k (Nat.lt_of_lt_of_le h2 c.sz)).trans (c.h k h1 h2), Nat.le_trans c.sz (below_alloc (Below.refl _ W) o).size⟩
instance (S : List Nat) (w W : World) [c : Ch S w W] : Ch S w W.drew := ⟨c.h, c.sz⟩
instance (S : List Nat) (w W : World) [c : Ch S w W] (m : Nat) : Ch S w (W.drewN m) := ⟨c.h, c.sz⟩
class InL (g : Nat) (S : List Nat) : Prop where h : g ∈ S
instance (g : Nat) (S : List Nat) : InL g (g :: S) := ⟨List.mem_cons_self⟩
instance (g g' : Nat) (S : List Nat) [i : InL g S] : InL g (g' :: S) := ⟨List.mem_cons_of_mem _ i.h⟩
theorem setCell_size' (w : World) (p : Addr) (u : Value) : (w.setCell p u).heap.size = w.heap.size := by
  have h := (Below.setCell (B := 0) (Below.refl 0 w) (p := p) (Nat.zero_le _) u)
  unfold World.setCell
  split <;> simp
instance (S : List Nat) (w W : World) [c : Ch S w W] (g : Nat) [i : InL g S] (j : Nat) (t : Option _) (u : Value) : Ch S w (W.setCell ⟨g, j, t⟩ u) := ⟨fun k h1 h2 => (Below.heap_setCell W ⟨g, j, t⟩ u k (fun e => h1 (by rw [show k = g from e]; exact i.h))).trans (c.h k h1 h2), by rw [setCell_size']; exact c.sz⟩
theorem tyne {k g t : Nat} {E : List Nat} {cells : Array Value} (hb : w.heap[g]? = some (.cells cells t (0, 0))) (ht : ∀ q, q ∈ E → q ≠ t) (h : ∃ q, q ∈ E ∧ ∃ cells, w.heap[k]? = some (.cells cells q (0, 0))) : k ≠ g := by
  rintro rfl
  obtain ⟨q, hq, cs, hc⟩ := h
  rw [hc] at hb
  injection hb with hb
  injection hb with _ hb
  exact ht q hq hb
section
variable {g1 g2 t1 t2 : Nat} {c1 c2 : Array Value}
theorem S_ch {S : List Nat} (x : Kd.S d e w base ok v xs) (hS : ∀ k, ok k → (∃ q, q ∈ e :: d.E ∧ ∃ cells, w.heap[k]? = some (.cells cells q (0, 0))) → k ∉ S) [c : Ch S w W] : Kd.S d e W base ok v xs :=
  Kd.S_mono (Kd.S_move (Kd.S_bound x) (fun k hk => c.h k (hS k hk.1 hk.2.2.2) hk.2.2.1)) (fun _ hk => hk.1)
theorem sS_ (x : Aside0 (Kd.S d e w base ok v xs)) (b1 : Aside0 (w.heap[g1]? = some (.cells c1 t1 (0, 0)))) [Ch [g1] w W] (ht : ∀ q, q ∈ e :: d.E → q ≠ t1 := by decide) : Kd.S d e W base ok v xs :=
  S_ch (S := [g1]) x.out (fun k _ h => by simpa using tyne b1.out ht h)
theorem sS2_ (x : Aside0 (Kd.S d e w base ok v xs)) (b1 : Aside0 (w.heap[g1]? = some (.cells c1 t1 (0, 0)))) (b2 : Aside0 (w.heap[g2]? = some (.cells c2 t2 (0, 0)))) [Ch [g1, g2] w W] (ht : ∀ q, q ∈ e :: d.E → q ≠ t1 := by decide) (ht2 : ∀ q, q ∈ e :: d.E → q ≠ t2 := by decide) : Kd.S d e W base ok v xs :=
  S_ch (S := [g1, g2]) x.out (fun k _ h => by have h1 := tyne b1.out ht h; have h2 := tyne b2.out ht2 h; simp [h1, h2])
theorem nA_ (x : Aside0 (Kd.N d e W base ok v xs)) (h : Kd.N d e W base ok v xs → Kd.N d e V base ok v xs := by intro x_; (with_reducible repeat (first | apply Kd.N_alloc | apply Kd.N_drewN | apply Kd.N_drew)); exact x_) : Kd.N d e V base ok v xs := h x.out
theorem nB_ (x : Aside0 (Kd.N d e W base ok v xs)) (hb : Below V.heap.size V V2) (h : Kd.N d e W base ok v xs → Kd.N d e V base ok v xs := by intro x_; (with_reducible repeat (first | apply Kd.N_alloc | apply Kd.N_drewN | apply Kd.N_drew)); exact x_) : Aside0 (Kd.N d e V2 base ok v xs) := ⟨Kd.N_below (h x.out) hb⟩
theorem nC_ (x : Aside0 (Kd.N d e w base ok v xs)) (hne : ∀ k, ok k → k ≠ g1) [c : Ch [g1] w W] : Kd.N d e W base ok v xs := Kd.N_step x.out (fun k hk hlt => c.h k (by simpa using hne k hk) hlt)
theorem nD_ (x : Aside0 (Kd.N d e w base ok v xs)) (hne : ∀ k, ok k → k ≠ g1) [c : Ch [g1] w W] : Kd.N d e W base (fun k => ok k ∧ k ≠ g1) v xs := Kd.N_mono (Kd.N_step x.out (fun k hk hlt => c.h k (by simpa using hne k hk) hlt)) (fun k hk => ⟨hk, hne k hk⟩)
theorem vA_ (x : Aside0 (Kd.V d e W base ok v xs)) (h : Kd.V d e W base ok v xs → Kd.V d e V base ok v xs := by intro x_; (with_reducible repeat (first | apply Kd.V_alloc | apply Kd.V_drewN | apply Kd.V_drew)); exact x_) : Kd.V d e V base ok v xs := h x.out
theorem vB_ (x : Aside0 (Kd.V d e W base ok v xs)) (hb : Below V.heap.size V V2) (h : Kd.V d e W base ok v xs → Kd.V d e V base ok v xs := by intro x_; (with_reducible repeat (first | apply Kd.V_alloc | apply Kd.V_drewN | apply Kd.V_drew)); exact x_) : Aside0 (Kd.V d e V2 base ok v xs) := ⟨Kd.V_below (h x.out) hb⟩
theorem vD_ (x : Aside0 (Kd.V d e w base ok v xs)) (hne : ∀ k, ok k → k ≠ g1) [c : Ch [g1] w W] : Kd.V d e W base (fun k => ok k ∧ k ≠ g1) v xs := Kd.V_mono (Kd.V_step x.out (fun k hk hlt => c.h k (by simpa using hne k hk) hlt)) (fun k hk => ⟨hk, hne k hk⟩)
theorem sD_ (x : Aside0 (Kd.S d e w base ok v xs)) (hne : ∀ k, ok k → k ≠ g1) [c : Ch [g1] w W] : Kd.S d e W base (fun k => ok k ∧ k ≠ g1) v xs := Kd.S_mono (Kd.S_step x.out (fun k hk hlt => c.h k (by simpa using hne k hk) hlt)) (fun k hk => ⟨hk, hne k hk⟩)
end
end
theorem cz2_ {w : World} {g t : Nat} {x0 x1 : Value} (x : Aside0 (w.heap[g]? = some (.cells #[x0, x1] t (0, 0)))) : w.cell? ⟨g, 0, none⟩ = some x0 ∧ w.cell? ⟨g, 1, none⟩ = some x1 ∧ w.frozen? ⟨g, 0, none⟩ = false ∧ w.frozen? ⟨g, 1, none⟩ = false := ⟨(blk_cell x.out 0).trans rfl, (blk_cell x.out 1).trans rfl, blk_frozen x.out 0, blk_frozen x.out 1⟩
theorem cz3_ {w : World} {g t : Nat} {x0 x1 x2 : Value} (x : Aside0 (w.heap[g]? = some (.cells #[x0, x1, x2] t (0, 0)))) : w.cell? ⟨g, 0, none⟩ = some x0 ∧ w.cell? ⟨g, 1, none⟩ = some x1 ∧ w.cell? ⟨g, 2, none⟩ = some x2 ∧ w.frozen? ⟨g, 0, none⟩ = false ∧ w.frozen? ⟨g, 1, none⟩ = false ∧ w.frozen? ⟨g, 2, none⟩ = false := ⟨(blk_cell x.out 0).trans rfl, (blk_cell x.out 1).trans rfl, (blk_cell x.out 2).trans rfl, blk_frozen x.out 0, blk_frozen x.out 1, blk_frozen x.out 2⟩
theorem fin_ {p : Prop} (h : p := by first | rfl | (simp [errW_none, errW_some] <;> rfl) | (simp [*, errW_none, errW_some] <;> rfl)) : p := h
theorem nil_ {p : Prop} (h : p := by first | exact Kd.R_nil _ _ _ _ _ | exact Kd.N_nil _ _ _ _ _ | exact Kd.V_nil _ _ _ _ _ | exact Kd.Q_nil _ _ _ _ _ | exact Kd.S_nil _ _ _ _ _) : p := h
section
variable {P : Program} {ops : Array Oper} {Q : Exit → Act → World → Prop}
theorem gL_ {rest : List Oper} {oi : Oper} {a : Act} {w : World} {f : FuncId} {fn : Func} {az : Array Operand} {ts : Array TypeId} (N : Option Tmp) (hf : P.funcs[f]? = some fn) (args : Array Value)
    (h : Calls P f args w fun e w' => ∃ v, e = .returned v ∧ wpList P ops Q rest (a.put N v) w')
    (hd : oi.dst = N := by rfl) (hg : oi.guard = none := by rfl) (hname : (fn.name == "runtime.NumGoroutine") = false := by kernel_rfl) (hb : fn.body.isSome = true := by rfl)
    (hop : oi.op = .call { callee := .value (.func f), args := az, argTypes := ts } := by rfl) (hargs : az.map a.eval = args := by (try simp only [List.map_toArray, List.map_cons, List.map_nil]); first | done | rfl | (simp only [List.length_drop, List.length_take]; rfl)) : wpList P ops Q (oi :: rest) a w :=
  goesL_ N hd hg hf hname hb args hop hargs h
theorem bx_ {o : Oper} {rest : List Oper} {a : Act} {W : World} (N : Tmp) (cs : Array Value) (t : TypeId)
    (h : ∀ g, g = W.heap.size → ∀ w1, w1.heap[g]? = some (.cells cs t (0, 0)) → Below W.heap.size W w1 → wpList P ops Q rest (a.put o.dst (.pointer (some ⟨g, 0, none⟩))) w1)
    (hgd : o.guard = none := by rfl) (hd : o.dst = some N := by rfl)
    (hrun : (execOp a.eval o).run P W = .ok (.value (.pointer (some ⟨W.heap.size, 0, none⟩))) (W.alloc (.cells cs t (0, 0))) := by first | (go_simp; done) | (go_simp; rfl)) : wpList P ops Q (o :: rest) a W := box_event hgd hd hrun h
end
section
variable {P : Program} {md : Region.Mode} {ops : Array Oper} {Q : Exit → Act → World → Prop} {S : World → Prop} {ds : List Nat} {T : Bool × List (List Nat × List Nat)} {B : List Nat} {oi : Oper} {v : Value} {fuel : Nat} {l l' : Array Bool} {a a' : Act} {w : World}
theorem pu_ (i : Nat) (N : Option Tmp) (hT : Aside0 (rtab md ops = T)) (h : wpAnyLast P md ops Q S ds fuel l' a' w)
    (hi : ops[i]? = some oi := by rfl) (hN : oi.dst = N := by rfl) (hl : l.setIfInBounds i true = l' := by simp only [List.setIfInBounds_toArray, List.set_cons_zero, List.set_cons_succ] <;> rfl)
    (hc : anyT T l.toList l'.toList i = true := by kernel_rfl) (hQ : ∀ c a w, Q (.panic c) (a.put oi.dst v) w → Q (.panic c) a w := by intro _ _ _ h_; exact h_)
    (hy : Yields P ops oi v a := by (refine Or.inl ⟨by rfl, ?_⟩; intro w'; go_simp; with_reducible rfl)) (ha : a.put N v = a' := by simp only [Act.put, List.setIfInBounds_toArray, List.set_cons_zero, List.set_cons_succ, i64_w, i32_w] <;> rfl) :
    wpAnyLast P md ops Q S ds (fuel + 1) l a w := pure_ l' hi hN (any_of hT.out hc) hQ hy ha h
theorem tk_ (i : Nat) (N : Option Tmp) (hT : Aside0 (rtab md ops = T)) (hB : Aside0 (waitsOk T.2 B = true)) (hS : S w) (h : wpAnyLast P md ops Q S ds fuel l' a' w)
    (hi : ops[i]? = some oi := by rfl) (hN : oi.dst = N := by rfl) (hl : l.setIfInBounds i true = l' := by simp only [List.setIfInBounds_toArray, List.set_cons_zero, List.set_cons_succ] <;> rfl)
    (hc : takeW T B ds l.toList l'.toList i = true := by kernel_rfl) (hQ : ∀ c a w, Q (.panic c) (a.put oi.dst v) w → Q (.panic c) a w := by intro _ _ _ h_; exact h_)
    (hy : YieldsIf P ops S oi v a := by (refine Or.inl ⟨by rfl, ?_⟩; intro w' s_; (repeat (obtain ⟨_, s_⟩ : _ ∧ _ := s_)); go_simp; with_reducible rfl)) (ha : a.put N v = a' := by simp only [Act.put, List.setIfInBounds_toArray, List.set_cons_zero, List.set_cons_succ, i64_w, i32_w] <;> rfl) :
    wpAnyLast P md ops Q S ds (fuel + 1) l a w := take_ l' hi hN (take_ofW hT.out hB.out hc) hQ hy hS ha h
theorem on_ (i : Nat) (N : Option Tmp) (hT : Aside0 (rtab md ops = T))
    (h : ∀ K : Act → World → Prop, Shut (∀ a' w', S w' → (S w' → wpAnyLast P md ops Q S ds fuel l' a' w') → K a' w') → if Region.wanted oi (yielded ops a.tmps) = true then Oper.wp P oi a w K Q else K (a.put N undef) w)
    (hi : ops[i]? = some oi := by rfl) (hN : oi.dst = N := by rfl) (hl : l.setIfInBounds i true = l' := by simp only [List.setIfInBounds_toArray, List.set_cons_zero, List.set_cons_succ] <;> rfl)
    (hc : (readyT T.2 l.toList == [i] && l.toList.set i true == l'.toList) = true := by kernel_rfl) (hd : i ∉ ds := by decide) :
    wpAnyLast P md ops Q S ds (fuel + 1) l a w := one_ l' hi hN (one_of hT.out hc) hd h
def bitsOf (T : List (List Nat × List Nat)) : List Nat := T.foldl (fun B r => B ++ [upM B B.length r.1]) []
theorem tb_ (h : Aside0 (rtab md ops = rtab md ops) → Aside0 (waitsOk (rtab md ops).2 (bitsOf (rtab md ops).2) = true) → wpAnyLast P md ops Q S ds fuel l a w) (hB : waitsOk (rtab md ops).2 (bitsOf (rtab md ops).2) = true := by kernel_rfl) : wpAnyLast P md ops Q S ds fuel l a w := h ⟨rfl⟩ ⟨hB⟩
theorem st_ {id n : Nat} (S : World → Prop) (ds : List Nat) (l : Array Bool) (hS : S w.drew) (h : S w.drew → wpAnyLast P .any ops Q S ds n l a w.drew) (hm : P.follows .mixedOrders = true := by kernel_rfl) (hn : ops.size = n := by rfl) (hl : Array.replicate n false = l := by rfl) : (Code.region id ops true).wp P Q a w := start_ l hm hn hl hS h
end
end Go.Proofs.Ytooabchnbmnchaa.Q
