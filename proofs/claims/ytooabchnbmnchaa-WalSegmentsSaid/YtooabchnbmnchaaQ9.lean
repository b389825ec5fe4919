-- Laid by this session's own program (wip/tools) out of the translation; Lean checks it. Thinned, shortened and merged for this claim.
import Derived.Test.YtooabchnbmnchaaQ0
import Derived.Test.YtooabchnbmnchaaSq
import Derived.Test.YtooabchnbmnchaaQ1
namespace Go.Proofs.Ytooabchnbmnchaa.Q
open Go.RowKit Go.Proofs.YtooabchnbmnchaaW.PrintWords Go.Proofs.YtooabchnbmnchaaW.PrintLast Go.Proofs.YtooabchnbmnchaaW.PrintMore
attribute [local go_sem] max2_int min2_int max_two min_two max_three min_three max_four min_four binOp_string_leq binOp_string_geq binOp_string_gtr   -- for this text's walks alone
set_option linter.unusedVariables false
set_option linter.unusedSimpArgs false
def slices_ContainsFunc_byte_byte.Gives (g : Nat) (p : List Int → Bool) : Prop := ∀ (v : List Int) (A : Option Addr) (c : Nat) (W : World), Calls Try.prog g #[.slice A v.length c] W fun e w' => e = .returned (.bool (p v)) ∧ Below W.heap.size W w'
def slices_ContainsFunc_byte_byte.p (g : Nat) : Option (List Int → Bool) := if g = 78 then some (fun v => decide (4096 < v.length)) else if g = 68 then some (fun v => decide (4096 < v.length)) else none
def slices_ContainsFunc_byte_byte.f (l0 : List (List Int)) (g : Nat) : Option Bool := (slices_ContainsFunc_byte_byte.p g).bind fun p => some (l0.any p)
theorem slices_ContainsFunc_byte_byte.gives_transeptwalCheck1 : slices_ContainsFunc_byte_byte.Gives 78 (fun v => decide (4096 < v.length)) := by
 intro v A c W
 go_enter Try.func78, Try.ntmps78
 go_wp2
 go_ret
 exact ⟨by first | rfl | (congr 2; simp; omega) | simp, Below.refl _ _⟩
theorem slices_ContainsFunc_byte_byte.gives_transeptwalAppend1 : slices_ContainsFunc_byte_byte.Gives 68 (fun v => decide (4096 < v.length)) := by
 intro v A c W
 go_enter Try.func68, Try.ntmps68
 go_wp2
 go_ret
 exact ⟨by first | rfl | (congr 2; simp; omega) | simp, Below.refl _ _⟩
theorem slices_ContainsFunc_byte_byte.gives {g : Nat} {p : List Int → Bool} (h : slices_ContainsFunc_byte_byte.p g = some p) : slices_ContainsFunc_byte_byte.Gives g p ∧ (∀ args w, (callFunc g args).run Try.prog w = .ok (.enter g args) w) := by
 unfold slices_ContainsFunc_byte_byte.p at h
 by_cases c0 : g = 78
 ·rw [if_pos c0] at h; cases h; subst c0; exact ⟨slices_ContainsFunc_byte_byte.gives_transeptwalCheck1, enters_of Try.func78 (by kernel_rfl) rfl⟩
 rw [if_neg c0] at h
 by_cases c1 : g = 68
 ·rw [if_pos c1] at h; cases h; subst c1; exact ⟨slices_ContainsFunc_byte_byte.gives_transeptwalAppend1, enters_of Try.func68 (by kernel_rfl) rfl⟩
 rw [if_neg c1] at h
 cases h
set_option maxHeartbeats 800000 in
theorem slices_ContainsFunc_byte_byte.idx {g : Nat} {p : List Int → Bool} (hp : slices_ContainsFunc_byte_byte.Gives g p) (eg : ∀ args w, (callFunc g args).run Try.prog w = .ok (.enter g args) w) (A0 : Option Addr) (c0 : Nat) (l0 : List (List Int)) (w : World) (hr0 : Kd.C (Kd.slice 5 (Kd.int .u8)) w A0 l0.length l0) (hc0 : l0.length ≤ c0) :
  Calls Try.prog 89 #[.slice A0 l0.length c0, .func (.func g) #[] #[]] w fun e w' => ∃ i : Int, e = .returned (.int .i64 i) ∧ decide (0 ≤ i) = l0.any p ∧ Below w.heap.size w w' := by
 have hm := Kd.C_max hr0
 have HR0 := Aside0.mk hr0
 have HC0 := Aside0.mk hc0
 have HP := Aside0.mk hp
 clear hr0 hc0 hp
 go_enter Try.func89, Try.ntmps89
 go_wp2
 go_loopg [5, 8] l0.length (fun gg _ s8 wr => ∃ kk : Nat, kk ≤ l0.length ∧ l0.length - kk ≤ gg ∧ s8 = .int .i64 kk ∧ Aside0 (Below w.heap.size w wr) ∧ Aside0 ((l0.take kk).any p = false))
 case atStart => exact ⟨0, Nat.zero_le _, by omega, rfl, ⟨Below.refl _ w⟩, ⟨by simp⟩⟩
 case round =>
  obtain ⟨kk, hkk, hg, rfl, BW, A⟩ := hrel
  by_cases hlt : kk < l0.length
  ·have hltz : (kk : Int) < (l0.length : Int) := by omega
   obtain ⟨ad, rfl, hel⟩ := HR0.out.2.2 (by omega)
   obtain ⟨cs, hcl, hK, hcs⟩ := hel kk l0[kk] (List.getElem?_eq_getElem hlt)
   obtain ⟨Av, cv, rfl, _, _⟩ := hK
   have hcell : w.cell? ((ad.add (kk * 1)).add 0) = some (.slice Av l0[kk].length cv) := hcs 0 _ rfl
   rw [Nat.mul_one, show (ad.add kk).add 0 = ad.add kk from rfl] at hcell
   have hcell' := (BW.out.cell (World.block_lt_of_cell? w _ hcell)).trans hcell
   clear hcell
   have hcall := HP.out l0[kk] Av cv wr
   cases hq : p l0[kk] with
   | true =>
    rw [hq] at hcall
    have HQ := Aside0.mk hq
    clear hq
    go_wp2_with (go_at_fn g; refine hcall.mono ?_; rintro e w' ⟨rfl, hb'⟩)
    go_ret
    refine ⟨_, rfl, ?_, BW.out.trans (hb'.mono BW.out.size)⟩
    rw [decide_eq_true (by omega)]
    exact (List.any_eq_true.2 ⟨_, List.getElem_mem hlt, HQ.out⟩).symm
   | false =>
    rw [hq] at hcall
    have HQ := Aside0.mk hq
    clear hq
    go_wp2_with (go_at_fn g; refine hcall.mono ?_; rintro e w' ⟨rfl, hb'⟩)
    go_roundg (l0.length - (kk + 1))
    case measure => omega
    case rel =>
     refine ⟨kk + 1, by omega, by omega, by go_num, ⟨BW.out.trans (hb'.mono BW.out.size)⟩, ⟨?_⟩⟩
     rw [List.take_succ_eq_append_getElem hlt, List.any_append, A.out]
     simp [HQ.out]
  ·have hltz : ¬ (kk : Int) < (l0.length : Int) := by omega
   have : kk = l0.length := by omega
   subst this
   go_wp2
   go_ret
   refine ⟨_, rfl, ?_, BW.out⟩
   rw [List.take_length] at A
   rw [A.out]
   decide
set_option maxHeartbeats 800000 in
theorem slices_ContainsFunc_byte_byte.calls (A0 : Option Addr) (c0 : Nat) (l0 : List (List Int)) (g : Nat) (r : Bool) (w : World) (hr0 : Kd.C (Kd.slice 5 (Kd.int .u8)) w A0 l0.length l0) (hc0 : l0.length ≤ c0) (h : slices_ContainsFunc_byte_byte.f l0 g = some r) :
  Calls Try.prog 67 #[.slice A0 l0.length c0, .func (.func g) #[] #[]] w fun e w' => e = .returned (.bool r) ∧ Below w.heap.size w w' := by
 unfold slices_ContainsFunc_byte_byte.f at h
 obtain ⟨p, hp, h⟩ := Option.bind_eq_some_iff.1 h
 cases h
 obtain ⟨hg, eg⟩ := slices_ContainsFunc_byte_byte.gives hp
 have hcall := slices_ContainsFunc_byte_byte.idx hg eg A0 c0 l0 w hr0 hc0
 clear hr0 hc0 hp hg eg
 go_enter Try.func67, Try.ntmps67
 go_wp2_with (go_at_call 89; refine hcall.mono ?_; rintro e w' ⟨i, rfl, hi, hb⟩)
 go_ret
 exact ⟨rfl, hb⟩
end Go.Proofs.Ytooabchnbmnchaa.Q
namespace Go.Proofs.Ytooabchnbmnchaa.Q
open Go.RowKit Go.Proofs.YtooabchnbmnchaaW.PrintWords Go.Proofs.YtooabchnbmnchaaW.PrintLast Go.Proofs.YtooabchnbmnchaaW.PrintMore
attribute [local go_sem] max2_int min2_int max_two min_two max_three min_three max_four min_four binOp_string_leq binOp_string_geq binOp_string_gtr   -- for this text's walks alone
set_option linter.unusedVariables false
set_option linter.unusedSimpArgs false
section
variable {F : Fence} {n : Nat} {P : Program}
def SeqM {α : Type} (F : Fence) (n : Nat) (P : Program) (g : Nat) (lb : Array Value) (encs : α → Array Value) (M : α → World → World → Prop) (Kp : World → World → Prop) (S : List α → Prop) (N : Nat) (w : World) : Prop :=
 ∀ (l : Nat) (J : List α → World → Prop) (W : World), Below w.heap.size w W → AbidesFrom W.heap.size J →
  (∀ pre x W0 W1, J pre W0 → Below W0.heap.size W0 W1 → M x W0 W1 → pre.length < N → YieldAt F (n - 1) P l (encs x) W1 fun e W' => e = .returned (.bool true) ∧ J (pre ++ [x]) W' ∧ Kp W1 W') →
  J [] W → CallsIn F n P g (#[.func (.yield l) #[] #[]] ++ lb) W fun e W' => (∃ v, e = .returned v) ∧ ∃ xs, S xs ∧ J xs W'
theorem grown_of_below {W W' : World} (h : Below W.heap.size W W') : W.grownBy W' none := ⟨h.os, h.tape, h.output, h.size, fun k hk _ => h.block k hk⟩
def goesOnM {α : Type} (B : Nat) (Kp : World → World → Prop) (I : List α → World → Prop) (xs : List α) (W : World) : Exit → Act → World → Prop
 | .normal, _, W' => KeepsFrom B W W' ∧ Kp W W' ∧ I xs W'
 | _, _, _ => False
theorem wpIn_rangeFunc_M {α : Type} {g : Operand} {ps : Array Tmp} {assign body : Code} {Q : Exit → Act → World → Prop} {a : Act} {w : World}
  (hro : F.round = none) (h1 : 1 ≤ n) {gf : Nat} {lb : Array Value} (hg : a.eval g = .func (.func gf) #[] lb) (hFg : F.fn gf) (eg : ∀ args w, (callFunc gf args).run P w = .ok (.enter gf args) w)
  {encs : α → Array Value} {M : α → World → World → Prop} {Kp : World → World → Prop} {S : List α → Prop} {N : Nat} {w0 : World} (hseq : SeqM F (n - 1) P gf lb encs M Kp S N w0)
  (hKt : ∀ {A B C : World}, Kp A B → Kp B C → Kp A C) (hKb : ∀ (W : World) (l : Nat) (o o' : Obj), w.heap.size ≤ l → W.heap[l]? = some o → o.isCells = false → o.isWalk = false → Kp W (W.putObj l o')) (hb0 : Below w0.heap.size w0 w) (hps : ∀ x, (encs x).size = ps.size)
  (I : List α → World → Prop) (hI : OwnFrom w.heap.size I) (h0 : I [] w) (A : List α → α → Act → World → Prop) (hA : ∀ pre x a', OwnFrom w.heap.size (fun (_ : Unit) W => A pre x a' W))
  (hassign : ∀ (l : Nat) (pre : List α) (x : α) (W0 W : World) (K : Act → World → Prop), I pre W0 → Below W0.heap.size W0 W → M x W0 W → (∀ a' W', KeepsFrom w.heap.size W W' → Kp W W' → A pre x a' W' → K a' W') →
   assign.wpIn (F.inRound l) (n - 1 - 1) P (Exit.then K (fun _ _ _ => False)) { tmps := (ps.zip (encs x)).foldl (fun t (p, v) => t.setIfInBounds p v) a.tmps, defers := [] } W)
  (hbody : ∀ (l : Nat) (pre : List α) (x : α) (a' : Act) (W : World), A pre x a' W → pre.length < N → body.wpIn (F.inRound l) (n - 1 - 1) P (goesOnM w.heap.size Kp I (pre ++ [x]) W) a' W)
  (hdone : ∀ (D : Nat) (xs : List α) (W : World), w.heap.size ≤ D → S xs → I xs W → W.heap[D]? = some (.deferred (some [])) → Q .normal { a with defers := { target := .collected D, args := #[] } :: a.defers } W) :
  (Code.rangeFunc g ps assign body).wpIn F n P Q a w := by
 refine wpIn_rangeFunc fun fn hfn => ?_
 rw [hro]
 -- the two blocks of book-keeping: the rounds' deferred calls at w.heap.size, the loop's record behind it
 let recd : LoopState → Option Code → Loop := fun st pe => { state := st, pending := pe, fn, tmps := a.tmps, params := ps, assign, body, defers := w.heap.size }
 have hrec : ∀ st pe, recd st pe = { state := st, pending := pe, fn, tmps := a.tmps, params := ps, assign, body, defers := w.heap.size } := fun _ _ => rfl
 obtain ⟨W1, hW1⟩ : ∃ W1, W1 = (w.alloc (.deferred (some []))).alloc (.loop (recd .ready none)) := ⟨_, rfl⟩
 have hL1 : W1.heap[w.heap.size + 1]? = some (.loop (recd .ready none)) := by
  have := World.alloc_heap_new (w.alloc (.deferred (some []))) (.loop (recd .ready none))
  rw [World.size_alloc] at this
  rw [hW1]; exact this
 have hD1 : W1.heap[w.heap.size]? = some (.deferred (some [])) := by
  rw [hW1]; exact (Below.heap_alloc _ _ _ (by rw [World.size_alloc]; omega)).trans (World.alloc_heap_new w _)
 have hz1 : W1.heap.size = w.heap.size + 2 := by rw [hW1, World.size_alloc, World.size_alloc]
 have hI1 : I [] W1 := by rw [hW1]; exact hI.alloc _ (hI.alloc _ h0)
 have hb1 : Below w0.heap.size w0 W1 := by
  rw [hW1]; exact hb0.trans ((((Below.refl _ w).alloc (Nat.le_refl _) _).alloc (by rw [World.size_alloc]; omega) _).mono hb0.size)
 refine ⟨w.heap.size + 1, [{ target := .collected w.heap.size, args := #[] }], W1, { target := .fn (.func gf) lb, args := #[.func (.yield (w.heap.size + 1)) #[] #[]] }, W1, gf,
  #[.func (.yield (w.heap.size + 1)) #[] #[]] ++ lb, W1, ?_, ?_, ?_, ?_, fun _ => h1, ?_⟩
 ·rw [hW1]; exact run_enterLoop_outer _ _ _ _ _
 ·simp only [resolve, hg]
  simp [go_sem]
 ·intro f' hf'
  simp [Target.leads] at hf'
  subst hf'
  exact hFg
 ·simp [invoke, go_sem, eg]
 let J : List α → World → Prop := fun pre W => I pre W ∧ W.heap[w.heap.size + 1]? = some (.loop (recd .ready none)) ∧ W.heap[w.heap.size]? = some (.deferred (some []))
 have hJ : AbidesFrom W1.heap.size J := by
  intro s X Y row hs hg' hr
  have hrow : ∀ r, row = some r → ∃ o : Obj, X.heap[r]? = some o ∧ o.isCells = false := fun r e => by
   obtain ⟨_, o, ho, hw⟩ := hr r e
   exact ⟨o, ho, Obj.not_cells_of_walk hw⟩
  have hkeep : ∀ (k : Nat) (o : Obj), X.heap[k]? = some o → o.isWalk = false → Y.heap[k]? = some o := by
   intro k o ho hw
   refine (hg'.block k (Array.getElem?_eq_some_iff.1 ho).1 (fun e => ?_)).trans ho
   obtain ⟨_, o', ho', hw'⟩ := hr k e.symm
   rw [ho] at ho'
   cases ho'
   rw [hw] at hw'
   cases hw'
  exact ⟨hI s X Y row hs.1 hg' (fun r e => ⟨by have := (hr r e).1; omega, hrow r e⟩), hkeep _ _ hs.2.1 rfl, hkeep _ _ hs.2.2 rfl⟩
 refine (hseq (w.heap.size + 1) J W1 hb1 hJ ?_ ⟨hI1, hL1, hD1⟩).mono ?_
 ·intro pre x X0 X hj hbl hM hlen
  have hl : X.heap[w.heap.size + 1]? = some (.loop (recd .ready none)) := (hbl.block _ (Array.getElem?_eq_some_iff.1 hj.2.1).1).trans hj.2.1
  have hk : X.heap[w.heap.size]? = some (.deferred (some [])) := (hbl.block _ (Array.getElem?_eq_some_iff.1 hj.2.2).1).trans hj.2.2
  refine ⟨fn, _, assign, body, run_yield (P := P) (args := encs x) hl (hps x), roundIn_of_wpIn hfn (hassign _ pre x X0 X _ hj.1 hbl hM ?_)⟩
  intro a' Y hkf hkp hax
  have hlY := hkf.same _ _ (by omega) hl rfl
  have hkY := hkf.same _ _ (Nat.le_refl _) hk rfl
  have hltY := (Array.getElem?_eq_some_iff.1 hlY).1
  refine ⟨_, run_beginRound hlY rfl, ?_⟩
  let busy : Loop := { recd .ready none with state := .busy }
  have hlZ : (Y.putObj (w.heap.size + 1) (.loop busy)).heap[w.heap.size + 1]? = some (.loop busy) := World.putObj_heap_same hltY
  have hkZ : (Y.putObj (w.heap.size + 1) (.loop busy)).heap[w.heap.size]? = some (.deferred (some [])) := (World.putObj_heap_other (by omega)).trans hkY
  refine wpIn_mono (hbody _ pre x a' _ ((hA pre x a').putObj (s := ()) _ hax (by omega) hlY rfl) hlen) ?_
  intro e a3 Z hp
  match e, hp with
  | .normal, hp =>
   obtain ⟨hk3, hkp3, hi3⟩ := hp
   have hl3 := hk3.same _ _ (by omega) hlZ rfl
   have hk4 := hk3.same _ _ (Nat.le_refl _) hkZ rfl
   have hend := run_endRound (P := P) none hl3
   refine ⟨_, _, hend, rfl, ⟨hI.putObj _ hi3 (by omega) hl3 rfl, World.putObj_heap_same (Array.getElem?_eq_some_iff.1 hl3).1, (World.putObj_heap_other (by omega)).trans hk4⟩, ?_⟩
   exact hKt hkp (hKt (hKt (hKb _ _ _ _ (by omega) hlY rfl rfl) hkp3) (hKb _ _ _ _ (by omega) hl3 rfl rfl))
 ·rintro e X ⟨⟨v, rfl⟩, xs, hS, hi, hl, hk⟩
  exact ⟨none, _, run_endLoop (P := P) hl (by simp [recd]), hdone _ xs _ (Nat.le_refl _) hS (hI.putObj _ hi (by omega) hl rfl) ((World.putObj_heap_other (by omega)).trans hk)⟩
end
section
open Go.Shelf
attribute [local go_sem] Oper.semAt_some
abbrev Fr := Int × Value × List Int × Int
def frames_Scan.l0 : Nat → List Int → Int → List (Int × List Int) → Option (List (Int × List Int) × Int)
 | 0, _, _, _ => none
 | k + 1, l0, p, acc => if 0 ≤ p ∧ p ≤ (l0.length : Int) ∧ acc.length < 4398046511104 then
   (frames_Open.f k (l0.drop p.toNat)).bind fun b => if b.2.2.2 = 0 then frames_Scan.l0 k l0 (wrap64 (p + b.2.2.1)) (acc ++ [(b.1, b.2.1)]) else (if b.2.2.1 = 0 then some (acc, p) else none)
  else none
def lastAt (xs : List Fr) : Int := (xs.getLast?.map fun x => x.2.2.2).getD 0
theorem lastAt_snoc (xs : List Fr) (x : Fr) : lastAt (xs ++ [x]) = x.2.2.2 := by simp [lastAt]
def ofFr (x : Fr) : Int × List Int := (x.1, x.2.2.1)
def encFr (x : Fr) : Array Value := #[.agg #[.int .u8 x.1, x.2.1], .int .i64 x.2.2.2]
def FrM (x : Fr) (W0 W1 : World) : Prop := Kd.R (Kd.int .u8) 5 W1 W0.heap.size (fun _ => True) x.2.1 x.2.2.1
def KeepB (lo b : Nat) (W W' : World) : Prop := Below lo W W' ∧ W'.heap[b]? = W.heap[b]?
set_option maxHeartbeats 1000000 in
theorem frames_each_in (n : Nat) (A0 : Option Addr) (m c : Nat) (w : World) :
  CallsIn Fence.wide n Try.prog 97 #[.slice A0 m c] w fun e w' => e = .returned (.func (.func 102) #[] #[.pointer (some ⟨w.heap.size, 0, none⟩)]) ∧ w' = w.alloc (.cells #[.slice A0 m c] 26) := by
 refine callsIn_of_wp Try.func97 rfl trivial ?_ rfl
 simp only [Try.ntmps97, List.size_toArray, List.length_cons, List.length_nil, Nat.reduceAdd, Nat.reduceSub, Array.replicate_succ, Array.replicate_zero, List.push_toArray, List.append_toArray, List.nil_append, List.cons_append]
 gi_wp2
 go_ret
 exact ⟨rfl, rfl⟩
theorem frames_Open_size {k : Nat} {b l : List Int} {a n e : Int} (h : frames_Open.f k b = some (a, l, n, e)) (he : e = 0) : 4 ≤ n ∧ n ≤ (b.length : Int) := by
 unfold frames_Open.f at h
 by_cases c1 : (b.length : Int) < 8
 ·rw [if_pos c1] at h; simp at h; omega
 rw [if_neg c1, if_pos (by omega), if_pos (by omega)] at h
 obtain ⟨⟨x1, x2⟩, _, h⟩ := Option.bind_eq_some_iff.1 h
 simp only at h
 obtain ⟨y, hy⟩ : ∃ y, y = wrap64 (4 + (wrap64 x1)) := ⟨_, rfl⟩
 rw [← hy] at h
 obtain ⟨z, hz⟩ : ∃ z, z = wrap64 (y + 4) := ⟨_, rfl⟩
 rw [← hz] at h
 rw [if_pos (by omega)] at h
 by_cases c2 : rd b 0 = 167
 case neg => rw [if_neg c2] at h; simp at h; omega
 rw [if_pos c2] at h
 by_cases c3 : x1 > 4096
 ·rw [if_pos c3] at h; simp at h; omega
 rw [if_neg c3] at h
 by_cases c4 : (b.length : Int) < z
 ·rw [if_pos c4] at h; simp at h; omega
 rw [if_neg c4] at h
 by_cases c5 : 0 ≤ y
 case neg => rw [if_neg c5] at h; cases h
 rw [if_pos c5] at h
 by_cases c6 : y ≤ z
 case neg => rw [if_neg c6] at h; cases h
 rw [if_pos c6] at h
 by_cases c7 : z ≤ (b.length : Int)
 case neg => rw [if_neg c7] at h; cases h
 rw [if_pos c7] at h
 obtain ⟨⟨x3, x4⟩, _, h⟩ := Option.bind_eq_some_iff.1 h
 simp only at h
 by_cases c8 : y ≤ (b.length : Int)
 case neg => rw [if_neg c8] at h; cases h
 rw [if_pos c8] at h
 obtain ⟨x5, _, h⟩ := Option.bind_eq_some_iff.1 h
 by_cases c9 : x3 % 4294967296 = x5
 case neg => rw [if_neg c9] at h; simp at h; omega
 rw [if_pos c9] at h
 by_cases c10 : 1 < (b.length : Int)
 case neg => rw [if_neg c10] at h; cases h
 rw [if_pos c10] at h
 by_cases c11 : 4 ≤ y
 case neg => rw [if_neg c11] at h; cases h
 rw [if_pos c11] at h
 obtain ⟨x6, _, h⟩ := Option.bind_eq_some_iff.1 h
 simp only [Option.some.injEq, Prod.mk.injEq] at h
 omega
set_option maxRecDepth 100000 in
set_option maxHeartbeats 2000000 in
theorem frames_each1_in (n : Nat) (hn : 1 ≤ n) (k : Nat) (l Bn lo : Nat) (A0 : Option Addr) (c0 : Nat) (l0 : List Int) (w0 : World) (hlo : lo = w0.heap.size) (hr0 : Kd.C (Kd.int .u8) w0 A0 l0.length l0) (hc0 : l0.length ≤ c0) (r : List (Int × List Int) × Int)
  (hf : frames_Scan.l0 k l0 0 [] = some r) (J : List Fr → World → Prop) (W : World) (hJ : AbidesFrom W.heap.size J)
  (hY : ∀ pre x W0 W1, J pre W0 → Below W0.heap.size W0 W1 → FrM x W0 W1 → pre.length < 4398046511104 → YieldAt Fence.wide (n - 1) Try.prog l (encFr x) W1 fun e W' => e = .returned (.bool true) ∧ J (pre ++ [x]) W' ∧ KeepB lo Bn W1 W')
  (hBW : Below lo w0 W) (hBn : W.heap[Bn]? = some (.cells #[.slice A0 l0.length c0] 26 (0, 0))) (h0 : J [] W) :
  CallsIn Fence.wide n Try.prog 102 #[.func (.yield l) #[] #[], .pointer (some ⟨Bn, 0, none⟩)] W fun e W' => (∃ v, e = .returned v) ∧ ∃ xs, (xs.map ofFr = r.1 ∧ lastAt xs = r.2) ∧ J xs W' := by
 refine callsIn_of_wp Try.func102 rfl trivial ?_ rfl
 simp only [Try.ntmps102, List.size_toArray, List.length_cons, List.length_nil, Nat.reduceAdd, Nat.reduceSub, Array.replicate_succ, Array.replicate_zero, List.push_toArray, List.append_toArray, List.nil_append, List.cons_append]
 gi_wp2
 have HF := Aside0.mk hf
 have HR0 := Aside0.mk hr0
 have HY := Aside0.mk hY
 have HJ := Aside0.mk hJ
 clear hf hr0 hY hJ
 gi_loopw [3] (fun v3 wr => ∃ (kq : Nat) (p : Int) (acc : List Fr), v3 = .int .i64 p ∧ Aside0 (frames_Scan.l0 kq l0 p (acc.map ofFr) = some r) ∧ Aside0 (p = lastAt acc) ∧ Aside0 (J acc wr) ∧ Aside0 (Below lo w0 wr) ∧ Aside0 (wr.heap[Bn]? = some (.cells #[.slice A0 l0.length c0] 26 (0, 0)))) (fun v3 _ => l0.length - (intOf v3).toNat)
 case atStart => exact ⟨k, 0, [], rfl, HF, ⟨rfl⟩, ⟨h0⟩, ⟨hBW⟩, ⟨hBn⟩⟩
 case round =>
  clear HF h0 hBW hBn
  obtain ⟨kq, p, acc, rfl, H, HP, HJr, HBW, HBn⟩ := hrel
  cases kq with
  | zero => exact absurd H.out (by simp [frames_Scan.l0])
  | succ kq =>
   have h := H.out
   clear H
   simp only [frames_Scan.l0] at h
   by_cases hp : 0 ≤ p ∧ p ≤ (l0.length : Int) ∧ (acc.map ofFr).length < 4398046511104
   case neg => rw [if_neg hp] at h; cases h
   rw [if_pos hp] at h
   obtain ⟨⟨r1, r2, r3, r4⟩, ho, h⟩ := Option.bind_eq_some_iff.1 h
   simp only at h
   obtain ⟨q, rfl⟩ : ∃ q : Nat, p = (q : Int) := ⟨p.toNat, by omega⟩
   rw [Int.toNat_natCast] at ho
   have hql : q ≤ l0.length := by omega
   have hacc : acc.length < 4398046511104 := by simpa using hp.2.2
   have hmx := Kd.C_max HR0.out
   have hcB : wr.cell? ⟨Bn, 0, none⟩ = some (.slice A0 l0.length c0) := by unfold World.cell?; rw [HBn.out]; rfl
   have HR1 := Aside0.mk (Kd.C_below HR0.out (by rw [← hlo]; exact HBW.out))
   have hinfo : (Try.prog.info? 5).map (fun i => (i.zero, i.size, i.bytes)) = some (some (.int .u8 0), 1, 1) := by kernel_rfl
   obtain ⟨i0, hi, _, hsz, _⟩ := info_parts hinfo
   obtain ⟨A1, hcut, hA1, hC1⟩ := print_drop_of (P := Try.prog) (Value.int .u8) 0 26 5 .i64 Try.underlying26 hi hsz A0 c0 l0 (q : Int) (by omega) (by omega) hc0
   simp only [Int.toNat_natCast] at hcut hA1 hC1
   have hbl : (l0.drop q).length = l0.length - q := List.length_drop
   obtain ⟨b, hb⟩ : ∃ b, b = l0.drop q := ⟨_, rfl⟩
   rw [← hb] at hcut hA1 hC1 hbl ho
   clear hb
   have HO := Aside0.mk ho
   have HRd := Aside0.mk (Kd.C_of_reads (h1 := fun _ => rfl) (hA1 _ (Kd.reads_of_C HR1.out)))
   have HC1 := Aside0.mk hC1
   clear hA1 hC1 hinfo hi hsz
   by_cases he : r4 = 0
   ·subst he
    rw [if_pos rfl] at h
    have hsz := frames_Open_size ho rfl
    rw [hbl] at hsz
    have hw : wrap64 ((q : Int) + r3) = (q : Int) + r3 := wrap64_id (by omega) (by omega)
    rw [hw] at h
    have HH := Aside0.mk h
    have HW := Aside0.mk hw
    clear h ho hw hbl
    gi_wp2_with (refine ⟨trivial, ?_⟩; gi_at_call 103; refine (callsIn_wide.2 (frames_Open.calls kq A1 (c0 - q) b r1 r2 r3 0 wr HRd.out HC1.out HO.out)).mono ?_; rintro e w2 ⟨v1, rfl, ho1, hb1⟩; obtain ⟨A2, c2, rfl⟩ := Kd.R_slice ho1; have hM : FrM (r1, .slice A2 r2.length c2, r2, (q : Int) + r3) wr (w2.alloc (.cells #[.int .u8 r1, .slice A2 r2.length c2] 117)) := Kd.R_alloc ho1 _; obtain ⟨fn, tmps, assign, body, hy, hR⟩ := HY.out acc _ wr _ HJr.out (below_alloc hb1 (.cells #[.int .u8 r1, .slice A2 r2.length c2] 117)) hM hacc; dsimp only [encFr] at hy; have HB1 := Aside0.mk hb1; clear hM ho1 hb1)
    refine hR.mono ?_
    rintro e W3 ⟨rfl, hJ3, hk3⟩
    clear hR hy
    have HJ3 := Aside0.mk hJ3
    have HK3 := Aside0.mk hk3
    clear hJ3 hk3 hcB hcut
    gi_wp2
    go_roundw
    case rel =>
     have hlt : Bn < wr.heap.size := (Array.getElem?_eq_some_iff.1 HBn.out).1
     have hb3 := HK3.out.1
     refine ⟨kq, _, acc ++ [(r1, .slice A2 r2.length c2, r2, (q : Int) + r3)], rfl, ⟨by rw [List.map_append]; exact HH.out⟩, ⟨by rw [lastAt_snoc]⟩, HJ3, ⟨(HBW.out.trans ((below_alloc HB1.out _).mono (by have := HBW.out.size; omega))).trans hb3⟩, ⟨?_⟩⟩
     ·rw [HK3.out.2]
      exact ((below_alloc HB1.out _).block _ hlt).trans HBn.out
    case measure => simp [intOf]; omega
   ·rw [if_neg he] at h
    by_cases h3 : r3 = 0
    case neg => rw [if_neg h3] at h; cases h
    rw [if_pos h3] at h
    subst h3
    have HH := Aside0.mk h
    have hr4 : (r4 != 0) = true := by simpa using he
    clear h ho hbl he
    gi_wp2_with (refine ⟨trivial, ?_⟩; gi_at_call 103; refine (callsIn_wide.2 (frames_Open.calls kq A1 (c0 - q) b r1 r2 0 r4 wr HRd.out HC1.out HO.out)).mono ?_; rintro e w2 ⟨v1, rfl, ho1, hb1⟩; obtain ⟨A2, c2, rfl⟩ := Kd.R_slice ho1; have HB1 := Aside0.mk hb1; clear ho1 hb1)
    refine ⟨fun _ h => (by cases h), ?_⟩
    gi_wp2
    refine bodyPost_ret (results_none rfl _ _ _) rfl ?_
    have hz : r = (acc.map ofFr, (q : Int)) := by have := HH.out; simp at this; exact this.symm
    refine ⟨⟨_, rfl⟩, acc, ⟨by rw [hz], by rw [hz]; exact HP.out.symm⟩, ?_⟩
    exact HJ.out _ _ _ none HJr.out (grown_of_below (below_alloc HB1.out _)) (fun _ h => by cases h)
end
section
open Go.Shelf
attribute [local go_sem] Oper.semAt_some
def toFrame (x : Fr) : S117 := ⟨x.1, x.2.2.1⟩
def frames_Scan.f (k : Nat) (l0 : List Int) : Option (List S117 × Int) := (frames_Scan.l0 k l0 0 []).bind fun r => some (r.1.map fun x => ⟨x.1, x.2⟩, r.2)
theorem frames_Scan.mono_l : ∀ k l0 p acc, LeO (frames_Scan.l0 k l0 p acc) (frames_Scan.l0 (k + 1) l0 p acc) := by
 intro k
 induction k with
 | zero => intro l0 p acc; exact LeO.none _
 | succ k ih =>
  intro l0 p acc
  show LeO (if 0 ≤ p ∧ p ≤ (l0.length : Int) ∧ acc.length < 4398046511104 then _ else _) (if 0 ≤ p ∧ p ≤ (l0.length : Int) ∧ acc.length < 4398046511104 then _ else _)
  refine LeO.ite (LeO.bind (frames_Open.mono _ _) (fun b => ?_)) (LeO.none _)
  exact LeO.ite (ih _ _ _) (LeO.refl _)
theorem frames_Scan.mono : ∀ a0 k, LeO (frames_Scan.f k a0) (frames_Scan.f (k + 1) a0) := fun a0 k => LeO.bind (frames_Scan.mono_l k a0 0 []) (fun _ => LeO.refl _)
theorem S_ownFrom {α β : Type} (d : Kd α) (e base B : Nat) (ok : Nat → Prop) (v : β → Value) (xs : β → List α) : OwnFrom B (fun s W => Kd.S d e W base ok (v s) (xs s)) := by
 intro s X Y row hs hg hr
 refine Kd.S_mono (Kd.S_grown (Kd.S_bound hs) hg (fun k hk he => ?_)) (fun k hk => hk.1)
 obtain ⟨_, o, ho, hc⟩ := hr k he.symm
 obtain ⟨_, _, _, q, _, cells, hcl⟩ := hk
 rw [hcl] at ho
 cases ho
 cases hc
theorem R_ownFrom {α β : Type} (d : Kd α) (e base B : Nat) (ok : Nat → Prop) (v : β → Value) (xs : β → List α) : OwnFrom B (fun s W => d.R e W base ok (v s) (xs s)) := by
 intro s X Y row hs hg hr
 refine Kd.R_mono (Kd.R_grown (Kd.R_bound hs) hg (fun k hk he => ?_)) (fun k hk => hk.1)
 obtain ⟨_, o, ho, hc⟩ := hr k he.symm
 obtain ⟨_, _, _, q, _, cells, hcl⟩ := hk
 rw [hcl] at ho
 cases ho
 cases hc
theorem holdsS_own {α β : Type} (d : Kd α) (e base B Bl : Nat) (t : TypeId) (ok : Nat → Prop) (xs : β → List α) : OwnFrom B (fun s W => ∃ v, Boxed W Bl t v ∧ Kd.S d e W base ok v (xs s)) := by
 intro s X Y row hs hg hr
 obtain ⟨v, hv, hS⟩ := hs
 exact ⟨v, boxed_own (β := Unit) Bl t (fun _ => v) () X Y row hv hg (fun r e => (hr r e).2), S_ownFrom d e base B ok (fun (_ : Unit) => v) (fun _ => xs s) () X Y row hS hg hr⟩
theorem block_ownFrom (B b : Nat) (cs : Array Value) (t : TypeId) : OwnFrom B (fun (_ : Unit) W => W.heap[b]? = some (.cells cs t (0, 0))) := by
 intro s X Y row hs hg hr
 refine (hg.block b (Array.getElem?_eq_some_iff.1 hs).1 (fun he => ?_)).trans hs
 obtain ⟨_, o, ho, hc⟩ := hr b he.symm
 rw [hs] at ho
 cases ho
 cases hc
theorem R_appendedT {α : Type} {d : Kd α} {e base : Nat} {okv okp : Nat → Prop} {W w1 : World} {v v1 : Value} {xs : List α} {p : α} {inner cs : List Value} (hE : ∀ q ∈ d.E, q ≠ e) (hr : Reps (d.M W base (fun k => okv k ∧ some k ≠ v.ownBlock)) d.sz xs inner) (hp : d.M W base okp p cs) (hokp : ∀ k, okp k → some k ≠ v.ownBlock)
  (hown : w1.ownsRow base e d.sz v1 (xs.length + 1) (inner ++ cs)) (hg : W.grownBy w1 v.ownBlock) : d.R e w1 base (fun _ => True) v1 (xs ++ [p]) := by
 have step : ∀ {q : α} {c : List Value} {o : Nat → Prop}, d.M W base o q c → (∀ k, o k → some k ≠ v.ownBlock) → d.M w1 base (fun k => True ∧ some k ≠ v1.ownBlock) q c := by
  intro q c o hq ho
  have h1 := d.M_move (w1 := w1) (fun k hk => hg.block k hk.2.2.1 (ho k hk.1)) (d.M_bound hq)
  refine d.M_mono (fun k hk => ⟨trivial, fun he => ?_⟩) h1
  obtain ⟨hok, _, hlt, q', hq', cells, hc⟩ := hk
  obtain ⟨cells', hc'⟩ := own_typed hown k he.symm
  rw [hg.block k hlt (ho k hok), hc] at hc'
  injection hc' with hc'
  injection hc' with _ hc' _
  exact hE q' hq' hc'
 exact ⟨fun _ _ => trivial, inner ++ cs, by rw [List.length_append, List.length_singleton]; exact hown, (hr.imp_ (fun _ _ hq => step hq (fun _ hk => hk.2))).snoc (step hp hokp) (d.K_len (d.K_of_M hp))⟩
def ScanA (z : Nat) (w : World) (tm : Nat → Value → Value → Array Value) (pre : List Fr) (x : Fr) (a' : Act) (W : World) : Prop :=
 ∃ Bx B, z + 3 ≤ Bx ∧ W.heap[Bx]? = some (.cells #[.int .u8 x.1, x.2.1] 117 (0, 0)) ∧ (∃ v, Boxed W z 128 v ∧ Kd.S k117 117 W (z + 3) (fun k => k < B) v (pre.map toFrame)) ∧
  Kd.R (Kd.int .u8) 5 W (z + 3) (fun k => B ≤ k) x.2.1 x.2.2.1 ∧ Boxed W (z + 1) 3 (.int .i64 (lastAt pre)) ∧ Below z w W ∧ a' = { tmps := tm Bx (.agg #[.int .u8 x.1, x.2.1]) (.int .i64 x.2.2.2), defers := [] }
theorem scan_close {tmps : Array Value} {z D : Nat} {w X : World} {xs : List Fr} {v : Value} {i : Int} (hz : z = w.heap.size) (hD : z + 3 ≤ D) (hDX : X.heap[D]? = some (.deferred (some [])))
  (HS : Kd.S k117 117 X (z + 3) (fun _ => True) v (xs.map toFrame)) (HV : Boxed X z 128 v) (HG : Boxed X (z + 1) 3 (.int .i64 i)) (HB : Below z w X)
  (h2 : tmps.getD 2 undef = .pointer (some ⟨z, 0, none⟩)) (h3 : tmps.getD 3 undef = .pointer (some ⟨z + 1, 0, none⟩)) :
  (results Try.f90 tmps).run Try.prog (((X.setCell ⟨z, 0, none⟩ v).setCell ⟨z + 1, 0, none⟩ (.int .i64 i)).drew.putObj D (.deferred none)) = .ok (.tuple #[v, .int .i64 i]) (((X.setCell ⟨z, 0, none⟩ v).setCell ⟨z + 1, 0, none⟩ (.int .i64 i)).drew.putObj D (.deferred none)) ∧
  Kd.S k117 117 (((X.setCell ⟨z, 0, none⟩ v).setCell ⟨z + 1, 0, none⟩ (.int .i64 i)).drew.putObj D (.deferred none)) w.heap.size (fun _ => True) v (xs.map toFrame) ∧
  Below w.heap.size w (((X.setCell ⟨z, 0, none⟩ v).setCell ⟨z + 1, 0, none⟩ (.int .i64 i)).drew.putObj D (.deferred none)) := by
 obtain ⟨Y, hY⟩ : ∃ Y, Y = ((X.setCell ⟨z, 0, none⟩ v).setCell ⟨z + 1, 0, none⟩ (.int .i64 i)).drew := ⟨_, rfl⟩
 have hDY : Y.heap[D]? = some (.deferred (some [])) := by
  rw [hY]
  show ((X.setCell ⟨z, 0, none⟩ v).setCell ⟨z + 1, 0, none⟩ (.int .i64 i)).heap[D]? = _
  rw [Below.heap_setCell _ _ _ _ (by show D ≠ z + 1; omega), Below.heap_setCell _ _ _ _ (by show D ≠ z; omega)]
  exact hDX
 have bV : Boxed Y z 128 v := by rw [hY]; exact (HV.set v).other (by omega) _
 have bG : Boxed Y (z + 1) 3 (.int .i64 i) := by rw [hY]; exact (HG.other (B' := z) (by omega) v).set _
 have bS : Kd.S k117 117 Y (z + 3) (fun _ => True) v (xs.map toFrame) := by
  rw [hY]
  exact Kd.S_mono (Kd.S_drew (Kd.S_far (Kd.S_far (Kd.S_bound HS) (p := ⟨z, 0, none⟩) (fun k hk => by show k ≠ z; have := hk.2.1; omega) _) (p := ⟨z + 1, 0, none⟩) (fun k hk => by show k ≠ z + 1; have := hk.2.1; omega) _)) (fun _ _ => trivial)
 have bB : Below z w Y := by
  rw [hY]
  exact below_drew (HB.trans (((Below.refl z _).setCell (p := ⟨z, 0, none⟩) (Nat.le_refl _) _).setCell (p := ⟨z + 1, 0, none⟩) (by show z ≤ z + 1; omega) _))
 rw [← hY]
 clear hY
 have cV : Boxed (Y.putObj D (.deferred none)) z 128 v := (World.putObj_heap_other (by omega)).trans bV
 have cG : Boxed (Y.putObj D (.deferred none)) (z + 1) 3 (.int .i64 i) := (World.putObj_heap_other (by omega)).trans bG
 refine ⟨?_, ?_, ?_⟩
 ·have hv := cV.cell
  have hg := cG.cell
  have e2 : tmps[2]?.getD undef = .pointer (some ⟨z, 0, none⟩) := by simpa using h2
  have e3 : tmps[3]?.getD undef = .pointer (some ⟨z + 1, 0, none⟩) := by simpa using h3
  simp [results, Try.results90, go_sem, e2, e3, hv, hg]
 ·have := (S_ownFrom k117 117 (z + 3) z (fun _ => True) (fun (_ : Unit) => v) (fun _ => xs.map toFrame)).putObj (s := ()) (.deferred none) bS (by omega) hDY rfl
  exact Kd.S_lower this (by omega)
 ·rw [← hz]
  exact bB.trans (belowK_b (w := w) (by omega) Y D _ _ (by omega) hDY rfl rfl)
set_option maxRecDepth 100000 in
set_option maxHeartbeats 4000000 in
theorem frames_Scan.calls (k : Nat) (A0 : Option Addr) (c0 : Nat) (l0 : List Int) (r1 : List S117) (r2 : Int) (w : World) (hr0 : Kd.C (Kd.int .u8) w A0 l0.length l0) (hc0 : l0.length ≤ c0) (h : frames_Scan.f k l0 = some (r1, r2)) : Calls Try.prog 90 #[.slice A0 l0.length c0] w fun e w' => ∃ v0_ : Value, e = .returned (.tuple #[v0_, .int .i64 r2]) ∧ Kd.S k117 117 w' w.heap.size (fun _ => True) v0_ r1 ∧ Below w.heap.size w w' := by
 unfold frames_Scan.f at h
 obtain ⟨r, hr, h⟩ := Option.bind_eq_some_iff.1 h
 simp only [Option.some.injEq, Prod.mk.injEq] at h
 obtain ⟨he1, he2⟩ := h
 have HR := Aside0.mk hr
 have HR0 := Aside0.mk hr0
 refine (callsIn_wide (n := 6)).1 ?_
 refine callsIn_of_wp_marks Try.func90 rfl trivial ?_ rfl
 simp only [Try.ntmps90, List.size_toArray, List.length_cons, List.length_nil, Nat.reduceAdd, Nat.reduceSub, Array.replicate_succ, Array.replicate_zero, List.push_toArray, List.append_toArray, List.nil_append, List.cons_append]
 gi_wp2_with (refine ⟨trivial, ?_⟩; gi_at_call 97; refine (frames_each_in 5 _ _ _ _).mono ?_; rintro e w' ⟨rfl, rfl⟩)
 obtain ⟨z, hz⟩ : ∃ z, z = w.heap.size := ⟨_, rfl⟩
 have bL := Boxed.new w 128 (.slice none 0 0)
 have bG := Boxed.new (w.alloc (.cells #[.slice none 0 0] 128)) 3 (.int .i64 0)
 have bB := Boxed.new ((w.alloc (.cells #[.slice none 0 0] 128)).alloc (.cells #[.int .i64 0] 3)) 26 (.slice A0 l0.length c0)
 rw [World.size_alloc] at bG
 rw [World.size_alloc, World.size_alloc] at bB
 obtain ⟨W3, hW3⟩ : ∃ W3, W3 = (((w.alloc (.cells #[.slice none 0 0] 128)).alloc (.cells #[.int .i64 0] 3)).alloc (.cells #[.slice A0 l0.length c0] 26)) := ⟨_, rfl⟩
 have hz3 : W3.heap.size = z + 3 := by rw [hW3, hz]; simp
 have hB3 : Below z w W3 := by rw [hW3, hz]; exact below_alloc (below_alloc (below_alloc (Below.refl _ _) _) _) _
 rw [← hW3] at bB ⊢
 replace bL : Boxed W3 z 128 (.slice none 0 0) := by rw [hW3, hz]; exact (Boxed.alloc (Boxed.alloc bL _) _)
 replace bG : Boxed W3 (z + 1) 3 (.int .i64 0) := by rw [hW3, hz]; exact Boxed.alloc bG _
 rw [show w.heap.size + 1 + 1 = z + 2 by omega] at bB ⊢
 rw [← hz]
 clear hW3
 have hinfo : (Try.prog.info? 117).map (fun i => (i.zero, i.size, i.bytes)) = some (some (.agg #[.int .u8 0, .slice none 0 0]), 2, 32) := by kernel_rfl
 obtain ⟨i0, hi, hz0, hz1, hz2⟩ := info_parts hinfo
 have HZ := Aside0.mk hz
 clear hinfo hr hz
 refine wpIn_rangeFunc_M (α := Fr) rfl (by decide) (gf := 102) (lb := #[.pointer (some ⟨z + 2, 0, none⟩)]) rfl trivial (enters_of Try.func102 (by kernel_rfl) rfl)
  (encs := encFr) (M := FrM) (Kp := KeepB z (z + 2)) (S := fun xs => xs.map ofFr = r.1 ∧ lastAt xs = r.2) (N := 4398046511104) (w0 := W3)
  (fun l J W hW hJ hY h0 => frames_each1_in _ (by decide) k l (z + 2) z A0 c0 l0 w HZ.out HR0.out hc0 r HR.out J W hJ hY (hB3.trans (hW.mono (by omega))) ((hW.block _ (by omega)).trans bB) h0)
  (fun h k => ⟨h.1.trans k.1, k.2.trans h.2⟩)
  (fun W l o o' hl ho hc hw => ⟨belowK_b (w := W3) (by omega) W l o o' hl ho hc hw, World.putObj_heap_other (by omega)⟩)
  (Below.refl _ _) (fun _ => rfl)
  (fun pre W => (∃ v, Boxed W z 128 v ∧ Kd.S k117 117 W (z + 3) (fun _ => True) v (pre.map toFrame)) ∧ Boxed W (z + 1) 3 (.int .i64 (lastAt pre)) ∧ Below z w W ∧ z + 3 ≤ W.heap.size)
  (OwnFrom.and (holdsS_own _ _ _ _ _ _ _ _) (OwnFrom.and (Own.from (boxed_own _ _ _) _) (OwnFrom.and (ownFrom_below (by have := HZ.out; omega) (by omega)) (fun _ _ _ _ hs hg _ => Nat.le_trans hs hg.size))))
  ⟨⟨_, bL, Kd.S_nil _ _ _ _ _⟩, bG, hB3, by omega⟩
  (ScanA z w (fun Bx v at_ => #[.slice A0 l0.length c0, undef, .pointer (some ⟨z, 0, none⟩), .pointer (some ⟨z + 1, 0, none⟩), .pointer (some ⟨Bx, 0, none⟩), at_, .slice A0 l0.length c0, .func (.func 102) #[] #[.pointer (some ⟨z + 2, 0, none⟩)], v, at_, undef, undef, undef, undef, undef, undef, undef]))
  ?own ?assign ?body ?done
 case own =>
  intro pre x a' s X Y row hs hg hr
  obtain ⟨Bx, B, h1, h2, h3, h4, h5, h6, h7⟩ := hs
  exact ⟨Bx, B, h1, block_ownFrom _ _ _ _ () X Y row h2 hg hr, holdsS_own _ _ _ _ _ _ _ (fun (_ : Unit) => pre.map toFrame) () X Y row h3 hg hr, R_ownFrom _ _ _ _ _ (fun (_ : Unit) => x.2.1) (fun _ => x.2.2.1) () X Y row h4 hg hr, boxed_own (β := Unit) _ _ (fun _ => .int .i64 (lastAt pre)) () X Y row h5 hg (fun r e => (hr r e).2), ownFrom_below (β := Unit) (by have := HZ.out; omega) (by omega) () X Y row h6 hg hr, h7⟩
 case assign =>
  rintro l pre ⟨kd, vd, dat, at_⟩ X0 X K ⟨⟨v, hv, hS⟩, hG, hB, hsz⟩ hbl hM hK
  simp only [FrM] at hM
  obtain ⟨A2, c2, rfl⟩ := Kd.R_slice hM
  simp only [encFr]
  have HK := Aside0.mk hK
  clear hK
  gi_wp2
  have hlt := hbl.size
  refine HK.out _ _ ((KeepsOthers.alloc _ _).from _) ⟨(Below.refl z X).alloc (by omega) _, Below.heap_alloc X _ (z + 2) (by omega)⟩ ?_
  refine ⟨X.heap.size, X0.heap.size, by omega, World.alloc_heap_new _ _, ⟨v, ?_, ?_⟩, ?_, ?_, ?_, rfl⟩
  ·exact Boxed.alloc ((hbl.block z (by omega)).trans hv) _
  ·exact Kd.S_alloc (Kd.S_mono (Kd.S_below (Kd.S_bound hS) hbl) (fun k hk => hk.2.2.1)) _
  ·exact Kd.R_alloc (Kd.R_lower (Kd.R_mono (Kd.R_bound hM) (fun k hk => hk.2.1)) (by omega)) _
  ·exact Boxed.alloc ((hbl.block (z + 1) (by omega)).trans hG) _
  ·exact (hB.trans (hbl.mono (by omega))).trans ((Below.refl z X).alloc (by omega) _)
 case body =>
  rintro l pre ⟨kd, vd, dat, at_⟩ a' X ⟨Bx, B, h1, h2, ⟨v, hv, hS⟩, hR, hG, hB, rfl⟩ hlen
  simp only at hR h2
  obtain ⟨A2, c2, rfl⟩ := Kd.R_slice hR
  have hBx := (Array.getElem?_eq_some_iff.1 h2).1
  have hc0x : X.cell? ⟨Bx, 0, none⟩ = some (.int .u8 kd) := (laid_cell h2 0).1
  have hc1x : X.cell? ⟨Bx, 1, none⟩ = some (.slice A2 dat.length c2) := (laid_cell h2 1).1
  have hvc := hv.cell
  have hGc := hG.cell
  have hGf := hG.frozen
  have hvf := hv.frozen
  obtain ⟨f, hf, hT⟩ := Kd.S_tag hS (pre.map toFrame).length (fun k => B ≤ k) (fun k q1 q2 => by omega)
  have hT2 := Kd.R_alloc hT (.cells #[.int .u8 kd, .slice A2 dat.length c2] 117)
  obtain ⟨hb0, inner, hrow, hreps⟩ := hT2
  have hcn : ∀ (j : Nat) (u : Value), ([.int .u8 kd, .slice A2 dat.length c2] : List Value)[j]? = some u → (X.alloc (.cells #[.int .u8 kd, .slice A2 dat.length c2] 117)).cell? ((⟨X.heap.size, 0, none⟩ : Addr).add j) = some u := by
   intro j u hj
   have hn := World.alloc_heap_new X (.cells #[.int .u8 kd, .slice A2 dat.length c2] 117)
   rcases j with _ | _ | j
   ·exact (laid_cell hn 0).1.trans hj
   ·exact (laid_cell hn 1).1.trans hj
   ·simp at hj
  have hzl : (pre.map toFrame).zipIdx.length = pre.length := by simp
  rw [hzl] at hrow
  have HRW := Aside0.mk hrow
  have HREP := Aside0.mk hreps
  have HCN := Aside0.mk hcn
  have HT := Aside0.mk hT
  have HS := Aside0.mk hS
  have HRR := Aside0.mk hR
  have HV := Aside0.mk hv
  have HG := Aside0.mk hG
  have HB := Aside0.mk hB
  have HF := Aside0.mk hf
  have HB0 := Aside0.mk hb0
  clear hrow hreps hcn hT hS hR hv hG hB hf hb0
  gi_wp2_with (gi_at_builtin; refine wpListIn_append_own _ rfl _ _ 128 rfl (z + 3) 117 i0 (.agg #[.int .u8 0, .slice none 0 0]) 2 32 Try.underlying128 hi hz0 hz1 hz2 rfl (by decide) v _ inner rfl HRW.out ⟨X.heap.size, 0, none⟩ 1 1 [.int .u8 kd, .slice A2 dat.length c2] rfl rfl HCN.out (by simp [Value.oneCell']) (by simp only [maxLen]; omega) (by omega) (by simp; omega) ?_; intro v' w1 hown' hgrow _; obtain ⟨g', cap', rfl⟩ := ownsRow_succ hown'; obtain ⟨inner0, hrow0⟩ := Kd.S_own HS.out; obtain ⟨hv1, hv2, hr2, hk2, hb2⟩ := HV.out.appended (W := X) (n₀ := z) (by decide) (own_weaken hrow0 (by omega)) (by have := HB.out.size; have := HZ.out; omega) (Nat.le_refl _) (own_weaken hown' (by omega)) hgrow; have hG1 := (HG.out.alloc (.cells #[.int .u8 kd, .slice A2 dat.length c2] 117)).kept hgrow (HG.out.not_row (by decide) hrow0); have hG2 := hG1.other (B' := z) (by omega) (.slice (some ⟨g', 0, none⟩) (pre.length + 1) cap'); have hc1 := hv1.cell; have hf1 := hv1.frozen; have hg2 := hG2.cell; have hgf2 := hG2.frozen; have hg1 := hG1.cell; have hgf1 := hG1.frozen; have hV3 := hv1.other (B' := z + 1) (by omega) (.int .i64 at_); have hvc3 := hV3.cell; have hvf3 := hV3.frozen; clear hV3; have HO := Aside0.mk hown'; have HGR := Aside0.mk hgrow; have HV2 := Aside0.mk hv2; have HK2 := Aside0.mk hk2; have HB2 := Aside0.mk hb2; have HG2 := Aside0.mk hG2; clear hown' hgrow hv1 hv2 hr2 hk2 hb2 hG1 hG2 hrow0)
  have hM : (Kd.tag f k117).M (X.alloc (.cells #[.int .u8 kd, .slice A2 dat.length c2] 117)) (z + 3) (fun k => B ≤ k) (toFrame (kd, .slice A2 dat.length c2, dat, at_), (pre.map toFrame).length) [.int .u8 kd, .slice A2 dat.length c2] :=
   ⟨[.int .u8 kd], [.slice A2 dat.length c2], rfl, rfl, ⟨_, rfl, Kd.R_mono (Kd.R_alloc HRR.out _) (fun k hk => ⟨hk, HF.out k hk⟩)⟩⟩
  have hne : ∀ k, B ≤ k → some k ≠ v.ownBlock := fun k hk he => by have := HB0.out k he.symm; omega
  have hS1 := R_appendedT (d := Kd.tag f k117) (show ∀ q ∈ k117.E, q ≠ 117 from by decide) HREP.out hM hne (by rw [hzl]; exact HO.out) HGR.out
  rw [← Kd.zip_snoc] at hS1
  have hS2 : Kd.S k117 117 w1 (z + 3) (fun k => z + 3 ≤ k) (.slice (some ⟨g', 0, none⟩) (pre.length + 1) cap') ((pre ++ [((kd, Value.slice A2 dat.length c2, dat, at_) : Fr)]).map toFrame) := by
   rw [List.map_append]
   exact Kd.S_mono (Kd.S_bound ⟨f, hS1⟩) (fun k hk => hk.2.1)
  have hs2 : z + 2 < X.heap.size := by omega
  have hsz : X.heap.size ≤ w1.heap.size := by have := HGR.out.size; rw [World.size_alloc] at this; omega
  have hb5 := Kd.S_base HS.out
  refine ⟨(HK2.out.trans (KeepsOthers.setCell _ _ _)).from _, ⟨HB2.out.trans ((Below.refl z _).setCell (p := ⟨z + 1, 0, none⟩) (by show z ≤ z + 1; omega) _), ?_⟩, ⟨_, HV2.out.other (by omega) _, ?_⟩, ?_, ?_, ?_⟩
  ·rw [Below.heap_setCell _ _ _ _ (by show z + 2 ≠ z + 1; omega), Below.heap_setCell _ _ _ _ (by show z + 2 ≠ z; omega), HGR.out.block (z + 2) (by rw [World.size_alloc]; omega) (fun he => by have := hb5 _ he.symm; omega)]
   exact Below.heap_alloc _ _ _ hs2
  ·refine Kd.S_mono (Kd.S_far (Kd.S_far hS2 (p := ⟨z, 0, none⟩) (fun k hk => by show k ≠ z; omega) _) (p := ⟨z + 1, 0, none⟩) (fun k hk => by show k ≠ z + 1; omega) _) (fun _ _ => trivial)
  ·rw [lastAt_snoc]
   exact HG2.out.set _
  ·exact (HB.out.trans HB2.out).trans ((Below.refl z _).setCell (p := ⟨z + 1, 0, none⟩) (by show z ≤ z + 1; omega) _)
  ·simp; omega
 case done =>
  rintro D xs X hD ⟨hS1, hS2⟩ ⟨⟨v, hv, hS⟩, hG, hB, hsz⟩ hK
  obtain ⟨Av, cv, rfl⟩ := Kd.S_slice hS
  have hvc := hv.cell
  have hGc := hG.cell
  have hGf := hG.frozen
  have hvf := hv.frozen
  have HS := Aside0.mk hS
  have HV := Aside0.mk hv
  have HG := Aside0.mk hG
  have HB := Aside0.mk hB
  clear hS hv hG hB
  have hc1 : (X.setCell ⟨z, 0, none⟩ (.slice Av (xs.map toFrame).length cv)).cell? ⟨z + 1, 0, none⟩ = some (.int .i64 (lastAt xs)) := (HG.out.other (B' := z) (by omega) _).cell
  have hf1 : (X.setCell ⟨z, 0, none⟩ (.slice Av (xs.map toFrame).length cv)).frozen? ⟨z + 1, 0, none⟩ = false := (HG.out.other (B' := z) (by omega) _).frozen
  gi_wp2
  refine wpIn_region_any (by kernel_rfl) ?_
  refine wpAnyIn_ready (rs := [0, 1]) (by kernel_rfl) (by simp) ?_
  refine AllReadyIn.cons rfl (fun K hK => ?_) ?_
  ·go_simp
   refine hK _ _ ?_
   clear hK K
   refine wpAnyIn_ready (rs := [1, 2]) (by kernel_rfl) (by simp) ?_
   refine AllReadyIn.cons rfl (fun K hK => ?_) ?_
   ·go_simp
    refine hK _ _ ?_
    clear hK K
    refine wpAnyIn_ready (rs := [2]) (by kernel_rfl) (by simp) ?_
    refine AllReadyIn.cons rfl (fun K hK => ?_) ?_
    ·go_simp
     refine hK _ _ ?_
     clear hK K
     refine wpAnyIn_ready (rs := [3]) (by kernel_rfl) (by simp) ?_
     refine AllReadyIn.cons rfl (fun K hK => ?_) ?_
     ·go_simp
      refine hK _ _ ?_
      clear hK K
      refine wpAnyIn_done (by kernel_rfl) ?_ _
      rename_i K1 hK1
      refine hK1 _ _ ?_
      gi_wp2
      obtain ⟨q1, q2, q3⟩ := scan_close (tmps := #[Value.slice A0 l0.length c0, undef, .pointer (some ⟨z, 0, none⟩), .pointer (some ⟨z + 1, 0, none⟩), undef, undef, .slice A0 l0.length c0, .func (.func 102) #[] #[.pointer (some ⟨z + 2, 0, none⟩)], undef, undef, undef, undef, undef, undef, undef, .slice Av xs.length cv, .int .i64 r2]) HZ.out (by omega) hK HS.out HV.out HG.out HB.out rfl rfl
      rw [List.length_map] at q1 q2 q3
      rw [hS2, he2] at q1 q2 q3
      refine ⟨by simp, .inl ⟨_, _, rfl, run_takeDeferred (show _ = some (Obj.deferred (some [])) from ?_), ?_⟩⟩
      ·show ((X.setCell ⟨z, 0, none⟩ (.slice Av xs.length cv)).setCell ⟨z + 1, 0, none⟩ (.int .i64 r2)).heap[D]? = _
       rw [Below.heap_setCell _ _ _ _ (by show D ≠ z + 1; omega), Below.heap_setCell _ _ _ _ (by show D ≠ z; omega)]
       exact hK
      ·have hr1 : xs.map toFrame = r1 := by rw [← he1, ← hS1, List.map_map]; rfl
       rw [hr1] at q2
       exact ⟨_, q1, _, rfl, q2, q3⟩
     exact AllReadyIn.nil
    exact AllReadyIn.nil
   refine AllReadyIn.cons rfl (fun K hK => ?_) ?_
   ·go_simp
    refine hK _ _ ?_
    clear hK K
    refine wpAnyIn_ready (rs := [1]) (by kernel_rfl) (by simp) ?_
    refine AllReadyIn.cons rfl (fun K hK => ?_) ?_
    ·go_simp
     refine hK _ _ ?_
     clear hK K
     refine wpAnyIn_ready (rs := [3]) (by kernel_rfl) (by simp) ?_
     refine AllReadyIn.cons rfl (fun K hK => ?_) ?_
     ·go_simp
      refine hK _ _ ?_
      clear hK K
      refine wpAnyIn_done (by kernel_rfl) ?_ _
      rename_i K1 hK1
      refine hK1 _ _ ?_
      gi_wp2
      obtain ⟨q1, q2, q3⟩ := scan_close (tmps := #[Value.slice A0 l0.length c0, undef, .pointer (some ⟨z, 0, none⟩), .pointer (some ⟨z + 1, 0, none⟩), undef, undef, .slice A0 l0.length c0, .func (.func 102) #[] #[.pointer (some ⟨z + 2, 0, none⟩)], undef, undef, undef, undef, undef, undef, undef, .slice Av xs.length cv, .int .i64 r2]) HZ.out (by omega) hK HS.out HV.out HG.out HB.out rfl rfl
      rw [List.length_map] at q1 q2 q3
      rw [hS2, he2] at q1 q2 q3
      refine ⟨by simp, .inl ⟨_, _, rfl, run_takeDeferred (show _ = some (Obj.deferred (some [])) from ?_), ?_⟩⟩
      ·show ((X.setCell ⟨z, 0, none⟩ (.slice Av xs.length cv)).setCell ⟨z + 1, 0, none⟩ (.int .i64 r2)).heap[D]? = _
       rw [Below.heap_setCell _ _ _ _ (by show D ≠ z + 1; omega), Below.heap_setCell _ _ _ _ (by show D ≠ z; omega)]
       exact hK
      ·have hr1 : xs.map toFrame = r1 := by rw [← he1, ← hS1, List.map_map]; rfl
       rw [hr1] at q2
       exact ⟨_, q1, _, rfl, q2, q3⟩
     exact AllReadyIn.nil
    exact AllReadyIn.nil
   exact AllReadyIn.nil
  refine AllReadyIn.cons rfl (fun K hK => ?_) ?_
  ·go_simp
   refine hK _ _ ?_
   clear hK K
   refine wpAnyIn_ready (rs := [0]) (by kernel_rfl) (by simp) ?_
   refine AllReadyIn.cons rfl (fun K hK => ?_) ?_
   ·go_simp
    refine hK _ _ ?_
    clear hK K
    refine wpAnyIn_ready (rs := [2]) (by kernel_rfl) (by simp) ?_
    refine AllReadyIn.cons rfl (fun K hK => ?_) ?_
    ·go_simp
     refine hK _ _ ?_
     clear hK K
     refine wpAnyIn_ready (rs := [3]) (by kernel_rfl) (by simp) ?_
     refine AllReadyIn.cons rfl (fun K hK => ?_) ?_
     ·go_simp
      refine hK _ _ ?_
      clear hK K
      refine wpAnyIn_done (by kernel_rfl) ?_ _
      rename_i K1 hK1
      refine hK1 _ _ ?_
      gi_wp2
      obtain ⟨q1, q2, q3⟩ := scan_close (tmps := #[Value.slice A0 l0.length c0, undef, .pointer (some ⟨z, 0, none⟩), .pointer (some ⟨z + 1, 0, none⟩), undef, undef, .slice A0 l0.length c0, .func (.func 102) #[] #[.pointer (some ⟨z + 2, 0, none⟩)], undef, undef, undef, undef, undef, undef, undef, .slice Av xs.length cv, .int .i64 r2]) HZ.out (by omega) hK HS.out HV.out HG.out HB.out rfl rfl
      rw [List.length_map] at q1 q2 q3
      rw [hS2, he2] at q1 q2 q3
      refine ⟨by simp, .inl ⟨_, _, rfl, run_takeDeferred (show _ = some (Obj.deferred (some [])) from ?_), ?_⟩⟩
      ·show ((X.setCell ⟨z, 0, none⟩ (.slice Av xs.length cv)).setCell ⟨z + 1, 0, none⟩ (.int .i64 r2)).heap[D]? = _
       rw [Below.heap_setCell _ _ _ _ (by show D ≠ z + 1; omega), Below.heap_setCell _ _ _ _ (by show D ≠ z; omega)]
       exact hK
      ·have hr1 : xs.map toFrame = r1 := by rw [← he1, ← hS1, List.map_map]; rfl
       rw [hr1] at q2
       exact ⟨_, q1, _, rfl, q2, q3⟩
     exact AllReadyIn.nil
    exact AllReadyIn.nil
   exact AllReadyIn.nil
  exact AllReadyIn.nil
end
end Go.Proofs.Ytooabchnbmnchaa.Q
namespace Go.Proofs.Ytooabchnbmnchaa.Q
open Go.RowKit Go.Proofs.YtooabchnbmnchaaW.PrintWords Go.Proofs.YtooabchnbmnchaaW.PrintLast Go.Proofs.YtooabchnbmnchaaW.PrintMore
attribute [local go_sem] max2_int min2_int max_two min_two max_three min_three max_four min_four binOp_string_leq binOp_string_geq binOp_string_gtr   -- for this text's walks alone
set_option linter.unusedVariables false
set_option linter.unusedSimpArgs false
def wal_records.l0 : Nat → List (List Int) → Int → List (S117) → Int → Int → Option ((List (List Int)) × Int)
 | 0, _, _, _, _, _ => none
 | k + 1, x2, x3, x13, x14, x15 => if x15 < x14 then (if 0 ≤ x15 then (if x15 < (x13.length : Int) then (if ((rd_T117 x13 x15).f0) = 1 then (if x2.length < 5864062014805 then (wal_records.l0 k (x2 ++ [(rd_T117 x13 x15).f1]) (wrap64 (x3 + (wrap64 ((((rd_T117 x13 x15).f1).length : Int) + 8)))) x13 x14 (wrap64 (x15 + 1))) else (none)) else (some (x2, x3))) else (none)) else (none)) else (some (x2, x3))
def wal_records.f (k : Nat) (l0 : List Int) : Option ((List (List Int)) × Int) := (frames_Scan.f k l0).bind fun bt117 => (wal_records.l0 k ([] : List (List Int)) 0 bt117.1 (bt117.1.length : Int) 0)
theorem wal_records.mono_l : ∀ k, (∀ y0 y1 y2 y3 y4, LeO (wal_records.l0 k y0 y1 y2 y3 y4) (wal_records.l0 (k + 1) y0 y1 y2 y3 y4))
 | 0 => fun _ _ _ _ _ r h => by simp [wal_records.l0] at h
 | k + 1 => by
  have ih0 := wal_records.mono_l k
  ·intro y0 y1 y2 y3 y4
   unfold wal_records.l0
   repeat' first
   | (with_reducible exact ih0 _ _ _ _ _)
   | (with_reducible exact frames_Scan.mono _ _)
   | (with_reducible exact LeO.refl _)
   | (with_reducible exact LeO.none _)
   | (with_reducible refine LeO.ite ?_ ?_)
   | (with_reducible refine LeO.bind ?_ (fun _ => ?_))
   | exact ih0 _ _ _ _ _
   | exact frames_Scan.mono _ _
   | exact LeO.none _
   | refine LeO.ite ?_ ?_
   | refine LeO.bind ?_ (fun _ => ?_)
theorem wal_records.mono : ∀ a0 k, LeO (wal_records.f k a0) (wal_records.f (k + 1) a0) := by
 intro a0 k
 have ih0 := wal_records.mono_l k
 unfold wal_records.f
 repeat' first
   | (with_reducible exact ih0 _ _ _ _ _)
   | (with_reducible exact frames_Scan.mono _ _)
   | (with_reducible exact LeO.refl _)
   | (with_reducible exact LeO.none _)
   | (with_reducible refine LeO.ite ?_ ?_)
   | (with_reducible refine LeO.bind ?_ (fun _ => ?_))
   | exact ih0 _ _ _ _ _
   | exact frames_Scan.mono _ _
   | exact LeO.none _
   | refine LeO.ite ?_ ?_
   | refine LeO.bind ?_ (fun _ => ?_)
set_option maxHeartbeats 8000000 in
set_option maxRecDepth 100000 in
theorem wal_records.calls (k : Nat) (A0 : Option Addr) (c0 : Nat) (l0 : List Int) (r1 : List (List Int)) (r2 : Int) (w : World) (hr0 : Kd.C (Kd.int .u8) w A0 l0.length l0) (hc0 : l0.length ≤ c0) (h : wal_records.f k l0 = some (r1, r2)) :
  Calls Try.prog 73 #[.slice A0 l0.length c0] w fun e w' => ∃ v0_ : Value, e = .returned (.tuple #[v0_, .int .i64 r2]) ∧ Kd.N (Kd.slice 5 (Kd.int .u8)) 26 w' w.heap.size (fun k_ => (w.heap.size ≤ k_)) v0_ r1 ∧ Below w.heap.size w w' := by
 have hu117 := Try.underlying117
 have HR0 := Aside0.mk hr0
 have HC0 := Aside0.mk hc0
 clear hr0 hc0
 have HB := Aside0.mk (Below.refl w.heap.size w)
 have H : ((frames_Scan.f k l0).bind fun bt117 => (wal_records.l0 k ([] : List (List Int)) 0 bt117.1 (bt117.1.length : Int) 0)) = some (r1, r2) := h
 clear h
 replace H := Option.bind_eq_some_iff.mp H
 obtain ⟨⟨t117, t118⟩, A20, H⟩ := H
 replace H : (wal_records.l0 k ([] : List (List Int)) 0 t117 (t117.length : Int) 0) = some (r1, r2) := H
 have A2 := Aside0.mk A20
 clear A20
 have H' := Aside0.mk H
 clear H
 go_enter Try.func73, Try.ntmps73
 go_wp2_with (first | ((with_reducible refine gate_callee (f := 90) rfl ?_); refine gL_ (some 10) Try.func90 #[.slice A0 l0.length c0] ?_; (with_reducible refine (frames_Scan.calls k _ _ l0 t117 t118 _ ?_ ?_ A2.out).mono ?_); exact cO_ HR0.out; exact HC0.out; rintro e w3 ⟨v119, rfl, ho0, hb⟩; refine ⟨_, rfl, ?_⟩; have HO120 := Aside0.mk (Kd.N_lower (Kd.N_mono (ok' := fun k_ => (w.heap.size ≤ k_)) (Kd.S_N (Kd.S_bound ho0)) (fun k_ hk_ => (Nat.le_trans (bs_ HB) hk_.2.1))) (bs_ HB)); replace HB := bS_ HB hb; (try clear hb ho0); obtain ⟨Ao4, co4, eo4⟩ := Kd.N_slice HO120.out; subst eo4))
 go_loopg [2, 3, 15] k (fun kq v2 v3 v15 w' => ∃ (x2_1 : List (List Int)) (x3_1 : Int) (x15_1 : Int), v3 = .int .i64 x3_1 ∧ v15 = .int .i64 x15_1 ∧ Aside0 (wal_records.l0 kq x2_1 x3_1 t117 (t117.length : Int) x15_1 = some (r1, r2)) ∧ Aside0 (kq ≤ k) ∧ Aside0 (Kd.N (Kd.slice 5 (Kd.int .u8)) 26 w' w.heap.size (fun k_ => (w.heap.size ≤ k_) ∧ some k_ ≠ ((.slice Ao4 t117.length co4) : Value).ownBlock) v2 x2_1) ∧ Aside0 (Kd.N k117 117 w' w.heap.size (fun k_ => (w.heap.size ≤ k_) ∧ some k_ ≠ (v2 : Value).ownBlock) (.slice Ao4 t117.length co4) t117) ∧ Aside0 (Below w.heap.size w w'))
 case atStart => exact ⟨(([] : List (List Int))), (0), (0), (by first | rfl | (simp; done) | (simp [*]; done)), (by first | rfl | (simp; done) | (simp [*]; done)), H', ⟨Nat.le_refl _⟩, ⟨nil_⟩, ⟨by (with_reducible repeat (first | apply Kd.N_alloc | apply Kd.N_drewN | apply Kd.N_drew)); exact Kd.N_mono HO120.out (fun _ hk => ⟨hk, (by simp [Value.ownBlock])⟩)⟩, ⟨bl_ HB⟩⟩
 case round =>
  clear H'
  try clear p2
  obtain ⟨x2_1, x3_1, x15_1, rfl, rfl, HA, HK1, HO_2, HO_13, HB⟩ := hrel
  cases gk with
  | zero => exact absurd HA.out (by simp [wal_records.l0])
  | succ k1 =>
   have H := HA.out
   clear HA
   simp only [wal_records.l0] at H
   by_cases c5 : x15_1 < (t117.length : Int)
   ·rw [if_pos c5] at H
    have c5b0 : decide (x15_1 < (t117.length : Int)) = true := decide_eq_true c5
    clear c5
    by_cases c6 : 0 ≤ x15_1
    ·rw [if_pos c6] at H
     have c6b0 : decide (0 ≤ x15_1) = true := decide_eq_true c6
     clear c6
     by_cases c7 : x15_1 < (t117.length : Int)
     ·rw [if_pos c7] at H
      have c7b0 : decide (x15_1 < (t117.length : Int)) = true := decide_eq_true c7
      clear c7
      by_cases c8 : ((rd_T117 t117 x15_1).f0) = 1
      ·rw [if_pos c8] at H
       have c8b0 : (((rd_T117 t117 x15_1).f0) == 1) = true := beq_iff_eq.mpr c8
       have c8b1 : (((rd_T117 t117 x15_1).f0) != 1) = false := bne_eq_false_iff_eq.mpr c8
       clear c8
       by_cases c9 : x2_1.length < 5864062014805
       ·rw [if_pos c9] at H
        have LMc9 := Aside0.mk c9
        clear c9
        obtain ⟨y123, hy123⟩ : ∃ y_ : List (List Int), y_ = (x2_1 ++ [(rd_T117 t117 x15_1).f1]) := ⟨_, rfl⟩
        replace H : (wal_records.l0 k1 y123 (wrap64 (x3_1 + (wrap64 ((((rd_T117 t117 x15_1).f1).length : Int) + 8)))) t117 (t117.length : Int) (wrap64 (x15_1 + 1))) = some (r1, r2) := by first | (rw [hy123]; with_reducible exact H) | (have H2_ := (Option.bind_some _ _).symm.trans H; rw [hy123]; with_reducible exact H2_) | (have H2_ := (Option.bind_some _ _).symm.trans H; with_reducible exact H2_) | with_reducible exact H | (rw [hy123]; exact H) | exact H
        have Ny123 := Aside0.mk hy123
        clear hy123
        have H' := Aside0.mk H
        clear H
        have p121 : 0 ≤ (x15_1 : Int) := of_decide_eq_true (by first | (with_reducible assumption) | assumption)
        have q121 : x15_1 < (t117.length : Int) := of_decide_eq_true (by first | (with_reducible assumption) | assumption)
        obtain ⟨ad121, A121_1, c121_1, e121, hx121_0, hx121_1, hl121_1, hi121_1⟩ := at_T117 (Kd.N_reads' HO_13.out).2.2 x15_1 p121 q121
        cases e121
        obtain ⟨ce121, hce121, hMe121, hcc121⟩ := Kd.N_get HO_13.out z117 x15_1 p121 (by first | exact q121 | exact of_decide_eq_true (by first | (with_reducible assumption) | assumption) | (have e_ := (Kd.N_reads' HO_13.out).1; omega))
        obtain ⟨ua121_1, uc121_1, rfl, ul121_1, ge121_1⟩ := k117_openF hMe121
        have hv121_1 := hcc121 1 _ rfl
        rw [add_field _ _ 1 (by omega)] at hv121_1
        replace hv121_1 := Option.some.inj (hv121_1.symm.trans hx121_1)
        injection hv121_1 with hva_ hvn_ hvc_
        rw [hva_] at ge121_1
        rw [hvc_] at ul121_1
        have HL121_1 := Aside0.mk (show Kd.V (Kd.int .u8) 5 _ w.heap.size _ _ ((rd_T117 t117 x15_1).f1) from Kd.V_mk ul121_1 ge121_1)
        clear hva_ hvn_ hvc_ ge121_1 ul121_1
        clear hcc121 hce121
        have HR121_1 := Aside0.mk hi121_1
        have HC121_1 := Aside0.mk hl121_1
        clear hi121_1 hl121_1
        replace p121 := eq_true p121
        replace q121 := eq_true q121
        go_wp2_with (first | ((with_reducible refine gate_dst (N := 7) rfl ?_); refine bx_ 7 #[.int .u8 0, .slice none 0 0] 117 ?_; intro gb122 hg w10 hbox hb; replace HO_2 := Aside0.mk (Kd.N_below (Kd.N_elderB (nA_ HO_2) gb122 (Nat.le_of_eq hg.symm)) hb); replace HO_13 := Aside0.mk (Kd.N_below (Kd.N_elderB (nA_ HO_13) gb122 (Nat.le_of_eq hg.symm)) hb); replace HL121_1 := Aside0.mk (Kd.V_below (Kd.V_elderB (vA_ HL121_1) gb122 (Nat.le_of_eq hg.symm)) hb); replace HR121_1 := Aside0.mk (Kd.C_below (by repeat (first | (with_reducible exact HR121_1.out) | (with_reducible refine Kd.C_alloc ?_ _) | (with_reducible refine Kd.C_drewN ?_ _) | (with_reducible refine Kd.C_drew ?_) | exact HR121_1.out)) hb); have BK122 := Aside0.mk (hbox); have GW122 := bG_ HB hg; have GE122 := bG_ HB hg; replace HB := bS_ HB hb; clear hb hbox hg; obtain ⟨hcz11_0, hcz11_1, hfz11_0, hfz11_1⟩ := cz2_ BK122) | ((with_reducible refine gate_store (t := 117) (p := 7) rfl ?_); refine store_event (t := 117) (p := 7) (v := ?vo_w12) (w1 := ((w10.setCell ⟨gb122, 0, none⟩ (.int .u8 ((rd_T117 t117 x15_1).f0))).setCell ⟨gb122, 1, none⟩ (.slice A121_1 ((rd_T117 t117 x15_1).f1).length c121_1))) ?hg ?ho ?hn ?hr ?_; (case ho => rfl); (case hg => rfl); (case hn => rfl); (case hr => first | (go_simp; done) | (go_simp; rfl)); intro w12 hw; replace HO_2 : Aside0 (Kd.N (Kd.slice 5 (Kd.int .u8)) 26 w12 w.heap.size (fun k_ => (w.heap.size ≤ k_) ∧ some k_ ≠ (.slice (some ad121) t117.length co4 : Value).ownBlock ∧ k_ ≠ gb122) u2 x2_1) := ⟨(by rw [hw]; exact (Kd.N_mono (nD_ HO_2 (fun k_ hk => hk.2)) (fun _ hk => ⟨hk.1.1.1, ⟨hk.1.1.2, hk.1.2⟩⟩)))⟩; replace HO_13 : Aside0 (Kd.N k117 117 w12 w.heap.size (fun k_ => (w.heap.size ≤ k_) ∧ some k_ ≠ (u2 : Value).ownBlock ∧ k_ ≠ gb122) (.slice (some ad121) t117.length co4) t117) := ⟨(by rw [hw]; exact (Kd.N_mono (nD_ HO_13 (fun k_ hk => hk.2)) (fun _ hk => ⟨hk.1.1.1, ⟨hk.1.1.2, hk.1.2⟩⟩)))⟩; replace HL121_1 : Aside0 (Kd.V (Kd.int .u8) 5 w12 w.heap.size (fun k_ => (w.heap.size ≤ k_) ∧ some k_ ≠ (u2 : Value).ownBlock ∧ some k_ ≠ (.slice (some ad121) t117.length co4 : Value).ownBlock ∧ k_ ≠ gb122) (.slice A121_1 ((rd_T117 t117 x15_1).f1).length c121_1) ((rd_T117 t117 x15_1).f1)) := ⟨(by rw [hw]; exact (Kd.V_mono (vD_ HL121_1 (fun k_ hk => hk.2)) (fun _ hk => ⟨hk.1.1.1.1, ⟨hk.1.1.1.2, ⟨hk.1.1.2, hk.1.2⟩⟩⟩)))⟩; replace BK122 : Aside0 (w12.heap[gb122]? = some (.cells #[.int .u8 ((rd_T117 t117 x15_1).f0), .slice A121_1 ((rd_T117 t117 x15_1).f1).length c121_1] 117 (0, 0))) := ⟨(by rw [hw]; exact (by (with_reducible repeat (first | refine blk_drewN ?_ _ | refine blk_drew ?_ | refine blk_alloc ?_ _)); refine blk_put (cs := #[.int .u8 ((rd_T117 t117 x15_1).f0), .slice none 0 0]) ?_ 1 _ rfl; (with_reducible repeat (first | refine blk_drewN ?_ _ | refine blk_drew ?_ | refine blk_alloc ?_ _)); refine blk_put (cs := #[.int .u8 0, .slice none 0 0]) ?_ 0 _ rfl; (with_reducible repeat (first | refine blk_drewN ?_ _ | refine blk_drew ?_ | refine blk_alloc ?_ _)); exact BK122.out))⟩; replace HB : Aside0 (Below w.heap.size w w12) := ⟨(by rw [hw]; exact (bl_ HB))⟩; clear hw; obtain ⟨hcz13_0, hcz13_1, hfz13_0, hfz13_1⟩ := cz2_ BK122) | ((with_reducible refine gate_builtin (b := .append) (xs := #[.tmp 22, .tmp 25]) rfl ?_); at_builtin; refine Kd.N_append (Kd.slice 5 (Kd.int .u8)) (w0 := w) w.heap.size rfl (.tmp 22) (.tmp 25) 56 26 (.slice none 0 0) 24 rfl Try.underlying56 info26 rfl (by decide) (by omega) u2 x2_1 ((rd_T117 t117 x15_1).f1) [.slice A121_1 ((rd_T117 t117 x15_1).f1).length c121_1] (fun k_ => (w.heap.size ≤ k_) ∧ some k_ ≠ (.slice (some ad121) t117.length co4 : Value).ownBlock ∧ k_ ≠ gb122) (fun k_ => ((fun k_ => (w.heap.size ≤ k_) ∧ some k_ ≠ (.slice (some ad121) t117.length co4 : Value).ownBlock ∧ k_ ≠ gb122)) k_ ∧ some k_ ≠ (u2 : Value).ownBlock) rfl rfl ?aP (fun _ hk => hk) ?aF ?aO ?aB ?aS ?aL ?_; (case aP => exact (Kd.FK_slice_mk (Kd.V_reads' (Kd.V_mono (ok' := (fun k_ => ((fun k_ => (w.heap.size ≤ k_) ∧ some k_ ≠ (.slice (some ad121) t117.length co4 : Value).ownBlock ∧ k_ ≠ gb122)) k_ ∧ some k_ ≠ (u2 : Value).ownBlock)) (HL121_1.out) (fun k_ hk => ⟨⟨hk.1, ⟨hk.2.2.1, hk.2.2.2⟩⟩, hk.2.1⟩))).2.1 (Kd.V_F (Kd.V_mono (ok' := (fun k_ => ((fun k_ => (w.heap.size ≤ k_) ∧ some k_ ≠ (.slice (some ad121) t117.length co4 : Value).ownBlock ∧ k_ ≠ gb122)) k_ ∧ some k_ ≠ (u2 : Value).ownBlock)) (HL121_1.out) (fun k_ hk => ⟨⟨hk.1, ⟨hk.2.2.1, hk.2.2.2⟩⟩, hk.2.1⟩))))); (case aB => exact (bl_ HB)); (case aF => exact (fun k_ hk => ⟨(Nat.le_trans (bs_ HB) hk), Kd.fresh' (Kd.N_lt (nA_ HO_13)) k_ hk, Kd.freshB (bA_ BK122) k_ hk⟩)); (case aO => exact (nA_ HO_2)); (case aS => exact (bs_ HB)); (case aL => have := LMc9.out; omega); intro v124 w14 ho hb hg hat; rw [← Ny123.out] at ho; replace HO_13 := Aside0.mk (Kd.N_afterv (ok := (fun k_ => (w.heap.size ≤ k_) ∧ k_ ≠ gb122)) (by (with_reducible repeat (first | apply Kd.N_alloc | apply Kd.N_drewN | apply Kd.N_drew)); exact Kd.N_mono HO_13.out (fun _ hk => ⟨⟨hk.1, hk.2.2⟩, hk.2.1⟩)) hg hat); replace HL121_1 := Aside0.mk (Kd.V_afterv (ok := (fun k_ => (w.heap.size ≤ k_) ∧ some k_ ≠ (.slice (some ad121) t117.length co4 : Value).ownBlock ∧ k_ ≠ gb122)) (by (with_reducible repeat (first | apply Kd.V_alloc | apply Kd.V_drewN | apply Kd.V_drew)); exact Kd.V_mono HL121_1.out (fun _ hk => ⟨⟨hk.1, ⟨hk.2.2.1, hk.2.2.2⟩⟩, hk.2.1⟩)) hg hat); replace BK122 := Aside0.mk (blk_grown (bA_ BK122) hg (Kd.N_ne HO_2.out BK122.out (by decide))); replace HB := Aside0.mk (hb); have HO125 := Aside0.mk (ho); clear HO_2; clear ho hb hg hat; obtain ⟨hcz15_0, hcz15_1, hfz15_0, hfz15_1⟩ := cz2_ BK122))
        go_roundg k1
        case measure => have := HK1.out; omega
        case rel => exact ⟨(y123), (wrap64 (x3_1 + (wrap64 ((((rd_T117 t117 x15_1).f1).length : Int) + 8)))), (wrap64 (x15_1 + 1)), (by first | rfl | (simp; done) | (simp [*]; done)), (by first | rfl | (simp; done) | (simp [*]; done)), H', ⟨by have := HK1.out; omega⟩, ⟨by (with_reducible repeat (first | apply Kd.N_alloc | apply Kd.N_drewN | apply Kd.N_drew)); exact Kd.N_mono HO125.out (fun _ hk => ⟨hk.1, hk.2.1⟩)⟩, ⟨by (with_reducible repeat (first | apply Kd.N_alloc | apply Kd.N_drewN | apply Kd.N_drew)); exact Kd.N_mono HO_13.out (fun _ hk => ⟨hk.1.1, hk.2⟩)⟩, ⟨bl_ HB⟩⟩
       ·rw [if_neg c9] at H
        exact absurd H (by simp)
      ·rw [if_neg c8] at H
       have c8b0 : (((rd_T117 t117 x15_1).f0) == 1) = false := beq_eq_false_iff_ne.mpr c8
       have c8b1 : (((rd_T117 t117 x15_1).f0) != 1) = true := bne_iff_ne.mpr c8
       simp only [Option.some.injEq, Prod.mk.injEq] at H
       obtain ⟨rfl, rfl⟩ := H
       have p121 : 0 ≤ (x15_1 : Int) := of_decide_eq_true (by first | (with_reducible assumption) | assumption)
       have q121 : x15_1 < (t117.length : Int) := of_decide_eq_true (by first | (with_reducible assumption) | assumption)
       obtain ⟨ad121, A121_1, c121_1, e121, hx121_0, hx121_1, hl121_1, hi121_1⟩ := at_T117 (Kd.N_reads' HO_13.out).2.2 x15_1 p121 q121
       cases e121
       obtain ⟨ce121, hce121, hMe121, hcc121⟩ := Kd.N_get HO_13.out z117 x15_1 p121 (by first | exact q121 | exact of_decide_eq_true (by first | (with_reducible assumption) | assumption) | (have e_ := (Kd.N_reads' HO_13.out).1; omega))
       obtain ⟨ua121_1, uc121_1, rfl, ul121_1, ge121_1⟩ := k117_openF hMe121
       have hv121_1 := hcc121 1 _ rfl
       rw [add_field _ _ 1 (by omega)] at hv121_1
       replace hv121_1 := Option.some.inj (hv121_1.symm.trans hx121_1)
       injection hv121_1 with hva_ hvn_ hvc_
       rw [hva_] at ge121_1
       rw [hvc_] at ul121_1
       have HL121_1 := Aside0.mk (show Kd.V (Kd.int .u8) 5 _ w.heap.size _ _ ((rd_T117 t117 x15_1).f1) from Kd.V_mk ul121_1 ge121_1)
       clear hva_ hvn_ hvc_ ge121_1 ul121_1
       clear hcc121 hce121
       have HR121_1 := Aside0.mk hi121_1
       have HC121_1 := Aside0.mk hl121_1
       clear hi121_1 hl121_1
       replace p121 := eq_true p121
       replace q121 := eq_true q121
       go_wp2_with (first | ((with_reducible refine gate_dst (N := 7) rfl ?_); refine bx_ 7 #[.int .u8 0, .slice none 0 0] 117 ?_; intro gb122 hg w16 hbox hb; replace HO_2 := Aside0.mk (Kd.N_below (Kd.N_elderB (nA_ HO_2) gb122 (Nat.le_of_eq hg.symm)) hb); replace HO_13 := Aside0.mk (Kd.N_below (Kd.N_elderB (nA_ HO_13) gb122 (Nat.le_of_eq hg.symm)) hb); replace HL121_1 := Aside0.mk (Kd.V_below (Kd.V_elderB (vA_ HL121_1) gb122 (Nat.le_of_eq hg.symm)) hb); replace HR121_1 := Aside0.mk (Kd.C_below (by repeat (first | (with_reducible exact HR121_1.out) | (with_reducible refine Kd.C_alloc ?_ _) | (with_reducible refine Kd.C_drewN ?_ _) | (with_reducible refine Kd.C_drew ?_) | exact HR121_1.out)) hb); have BK122 := Aside0.mk (hbox); have GW122 := bG_ HB hg; have GE122 := bG_ HB hg; replace HB := bS_ HB hb; clear hb hbox hg; obtain ⟨hcz17_0, hcz17_1, hfz17_0, hfz17_1⟩ := cz2_ BK122))
       go_ret2
       exact ⟨_, fin_, Kd.N_mono (nD_ HO_2 (fun k_ hk => hk.2)) (fun _ hk => hk.1.1.1), bl_ HB⟩
     ·rw [if_neg c7] at H
      exact absurd H (by simp)
    ·rw [if_neg c6] at H
     exact absurd H (by simp)
   ·rw [if_neg c5] at H
    have c5b0 : decide (x15_1 < (t117.length : Int)) = false := decide_eq_false c5
    clear c5
    simp only [Option.some.injEq, Prod.mk.injEq] at H
    obtain ⟨rfl, rfl⟩ := H
    go_wp2
    go_ret2
    exact ⟨_, fin_, by (with_reducible repeat (first | apply Kd.N_alloc | apply Kd.N_drewN | apply Kd.N_drew)); exact Kd.N_mono HO_2.out (fun _ hk => hk.1), bl_ HB⟩
end Go.Proofs.Ytooabchnbmnchaa.Q
namespace Go.Proofs.Ytooabchnbmnchaa.Q
open Go.RowKit Go.Proofs.YtooabchnbmnchaaW.PrintWords Go.Proofs.YtooabchnbmnchaaW.PrintLast Go.Proofs.YtooabchnbmnchaaW.PrintMore
attribute [local go_sem] max2_int min2_int max_two min_two max_three min_three max_four min_four binOp_string_leq binOp_string_geq binOp_string_gtr   -- for this text's walks alone
set_option linter.unusedVariables false
set_option linter.unusedSimpArgs false
def wal_index.f (a0 : Int) : Option (Bool) := if a0 ≥ 0 then (some (decide (a0 ≤ 1099511627776))) else (some false)
set_option maxHeartbeats 8000000 in
set_option maxRecDepth 100000 in
theorem wal_index.calls (a0 : Int) (r : Bool) (w : World) (h : wal_index.f a0 = some r) :
  Calls Try.prog 74 #[.int .i64 a0] w fun e w' => e = .returned (.bool r) ∧ Drawn0 w w' := by
 have H : (if a0 ≥ 0 then (some (decide (a0 ≤ 1099511627776))) else (some false)) = some r := h
 clear h
 by_cases c2 : a0 ≥ 0
 ·rw [if_pos c2] at H
  have c2b0 : decide (0 ≤ a0) = true := decide_eq_true c2
  clear c2
  obtain rfl := Option.some.inj H
  go_enter Try.func74, Try.ntmps74
  go_wp2
  go_ret
  exact ⟨by first | rfl | (simp; done) | (simp [*]; done), by repeat (first | exact Drawn0.refl _ | apply Drawn0.step)⟩
 ·rw [if_neg c2] at H
  have c2b0 : decide (0 ≤ a0) = false := decide_eq_false c2
  clear c2
  obtain rfl := Option.some.inj H
  go_enter Try.func74, Try.ntmps74
  go_wp2
  go_ret
  exact ⟨by first | rfl | (simp; done) | (simp [*]; done), by repeat (first | exact Drawn0.refl _ | apply Drawn0.step)⟩
end Go.Proofs.Ytooabchnbmnchaa.Q
