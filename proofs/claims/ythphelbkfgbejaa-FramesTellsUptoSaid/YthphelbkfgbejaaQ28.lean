-- Laid by this session's own program (wip/tools) out of the translation; Lean checks it.
import Derived.Test.YthphelbkfgbejaaQ0
import Derived.Test.YthphelbkfgbejaaQ11
import Derived.Test.YthphelbkfgbejaaQ16
namespace Go.Proofs.Ythphelbkfgbejaa.Q
open Go.RowKit Go.Proofs.YthphelbkfgbejaaW.PrintWords Go.Proofs.YthphelbkfgbejaaW.PrintLast Go.Proofs.YthphelbkfgbejaaW.PrintMore
attribute [local go_sem] max2_int min2_int max_two min_two max_three min_three max_four min_four   -- for this text's walks alone
set_option linter.unusedVariables false
set_option linter.unusedSimpArgs false

/-! ### frames_Scan: function 42 (by hand) -/
section
variable {F : Fence} {n : Nat} {P : Program}
/-- An iterator that hands memory over: x comes in W1, made since W0, where J held; M says what. The loop's body always goes on. -/
def SeqM {α : Type} (F : Fence) (n : Nat) (P : Program) (g : Nat) (lb : Array Value) (encs : α → Array Value) (M : α → World → World → Prop) (Kp : World → World → Prop) (S : List α → Prop) (N : Nat) (w : World) : Prop :=
  ∀ (l : Nat) (J : List α → World → Prop) (W : World), Below w.heap.size w W → AbidesFrom W.heap.size J →
    (∀ pre x W0 W1, J pre W0 → Below W0.heap.size W0 W1 → M x W0 W1 → pre.length < N → YieldAt F (n - 1) P l (encs x) W1 fun e W' => e = .returned (.bool true) ∧ J (pre ++ [x]) W' ∧ Kp W1 W') →
    J [] W → CallsIn F n P g (#[.func (.yield l) #[] #[]] ++ lb) W fun e W' => (∃ v, e = .returned v) ∧ ∃ xs, S xs ∧ J xs W'
theorem grown_of_below {W W' : World} (h : Below W.heap.size W W') : W.grownBy W' none := ⟨h.os, h.tape, h.output, h.size, fun k hk _ => h.block k hk⟩
/-- How the body of such a loop ends. -/
def goesOnM {α : Type} (B : Nat) (Kp : World → World → Prop) (I : List α → World → Prop) (xs : List α) (W : World) : Exit → Act → World → Prop
  | .normal, _, W' => KeepsFrom B W W' ∧ Kp W W' ∧ I xs W'
  | _, _, _ => False
theorem wpIn_rangeFunc_M {α : Type} {g : Operand} {ps : Array Tmp} {assign body : Code} {Q : Exit → Act → World → Prop} {a : Act} {w : World}
    (hro : F.round = none) (h1 : 1 ≤ n) {gf : Nat} {lb : Array Value} (hg : a.eval g = .func (.func gf) #[] lb) (hFg : F.fn gf) (eg : ∀ args w, (callFunc gf args).run P w = .ok (.enter gf args) w)
    {encs : α → Array Value} {M : α → World → World → Prop} {Kp : World → World → Prop} {S : List α → Prop} {N : Nat} {w0 : World} (hseq : SeqM F (n - 1) P gf lb encs M Kp S N w0)
    (hKt : ∀ {A B C : World}, Kp A B → Kp B C → Kp A C) (hKb : ∀ (W : World) (l : Nat) (o o' : Obj), w.heap.size ≤ l → W.heap[l]? = some o → o.isCells = false → o.isWalk = false → Kp W (W.putObj l o')) (hb0 : Below w0.heap.size w0 w) (hps : ∀ x, (encs x).size = ps.size)
    (I : List α → World → Prop) (hI : OwnFrom w.heap.size I) (h0 : I [] w) (A : List α → α → Act → World → Prop) (hA : ∀ pre x a', OwnFrom w.heap.size (fun (_ : Unit) W => A pre x a' W))
    (hassign : ∀ (l : Nat) (pre : List α) (x : α) (W0 W : World) (K : Act → World → Prop), I pre W0 → Below W0.heap.size W0 W → M x W0 W → (∀ a' W', KeepsFrom w.heap.size W W' → Kp W W' → A pre x a' W' → K a' W') →
      assign.wpIn (F.inRound l) (n - 1 - 1) P (Exit.then K (fun _ _ _ => False)) { tmps := (ps.zip (encs x)).foldl (fun t (p, v) => t.setIfInBounds p v) a.tmps, defers := [] } W)
    (hbody : ∀ (l : Nat) (pre : List α) (x : α) (a' : Act) (W : World), A pre x a' W → pre.length < N → body.wpIn (F.inRound l) (n - 1 - 1) P (goesOnM w.heap.size Kp I (pre ++ [x]) W) a' W)
    (hdone : ∀ (D : Nat) (xs : List α) (W : World), w.heap.size ≤ D → S xs → I xs W → W.heap[D]? = some (.deferred (some [])) → Q .normal { a with defers := { target := .collected D, args := #[] } :: a.defers } W) :
    (Code.rangeFunc g ps assign body).wpIn F n P Q a w := by
  refine wpIn_rangeFunc fun fn hfn => ?_
  rw [hro]
  -- the two blocks of book-keeping: the rounds' deferred calls at w.heap.size, the loop's record behind it
  let recd : LoopState → Option Code → Loop := fun st pe => { state := st, pending := pe, fn, tmps := a.tmps, params := ps, assign, body, defers := w.heap.size }
  have hrec : ∀ st pe, recd st pe = { state := st, pending := pe, fn, tmps := a.tmps, params := ps, assign, body, defers := w.heap.size } := fun _ _ => rfl
  obtain ⟨W1, hW1⟩ : ∃ W1, W1 = (w.alloc (.deferred (some []))).alloc (.loop (recd .ready none)) := ⟨_, rfl⟩
  have hL1 : W1.heap[w.heap.size + 1]? = some (.loop (recd .ready none)) := by
    have := World.alloc_heap_new (w.alloc (.deferred (some []))) (.loop (recd .ready none))
    rw [World.size_alloc] at this
    rw [hW1]; exact this
  have hD1 : W1.heap[w.heap.size]? = some (.deferred (some [])) := by
    rw [hW1]; exact (Below.heap_alloc _ _ _ (by rw [World.size_alloc]; omega)).trans (World.alloc_heap_new w _)
  have hz1 : W1.heap.size = w.heap.size + 2 := by rw [hW1, World.size_alloc, World.size_alloc]
  have hI1 : I [] W1 := by rw [hW1]; exact hI.alloc _ (hI.alloc _ h0)
  have hb1 : Below w0.heap.size w0 W1 := by
    rw [hW1]; exact hb0.trans ((((Below.refl _ w).alloc (Nat.le_refl _) _).alloc (by rw [World.size_alloc]; omega) _).mono hb0.size)
  refine ⟨w.heap.size + 1, [{ target := .collected w.heap.size, args := #[] }], W1, { target := .fn (.func gf) lb, args := #[.func (.yield (w.heap.size + 1)) #[] #[]] }, W1, gf,
    #[.func (.yield (w.heap.size + 1)) #[] #[]] ++ lb, W1, ?_, ?_, ?_, ?_, fun _ => h1, ?_⟩
  · rw [hW1]; exact run_enterLoop_outer _ _ _ _ _
  · simp only [resolve, hg]
    simp [go_sem]
  · intro f' hf'
    simp [Target.leads] at hf'
    subst hf'
    exact hFg
  · simp [invoke, go_sem, eg]
  let J : List α → World → Prop := fun pre W => I pre W ∧ W.heap[w.heap.size + 1]? = some (.loop (recd .ready none)) ∧ W.heap[w.heap.size]? = some (.deferred (some []))
  have hJ : AbidesFrom W1.heap.size J := by
    intro s X Y row hs hg' hr
    have hrow : ∀ r, row = some r → ∃ o : Obj, X.heap[r]? = some o ∧ o.isCells = false := fun r e => by
      obtain ⟨_, o, ho, hw⟩ := hr r e
      exact ⟨o, ho, Obj.not_cells_of_walk hw⟩
    have hkeep : ∀ (k : Nat) (o : Obj), X.heap[k]? = some o → o.isWalk = false → Y.heap[k]? = some o := by
      intro k o ho hw
      refine (hg'.block k (Array.getElem?_eq_some_iff.1 ho).1 (fun e => ?_)).trans ho
      obtain ⟨_, o', ho', hw'⟩ := hr k e.symm
      rw [ho] at ho'
      cases ho'
      rw [hw] at hw'
      cases hw'
    exact ⟨hI s X Y row hs.1 hg' (fun r e => ⟨by have := (hr r e).1; omega, hrow r e⟩), hkeep _ _ hs.2.1 rfl, hkeep _ _ hs.2.2 rfl⟩
  refine (hseq (w.heap.size + 1) J W1 hb1 hJ ?_ ⟨hI1, hL1, hD1⟩).mono ?_
  · intro pre x X0 X hj hbl hM hlen
    have hl : X.heap[w.heap.size + 1]? = some (.loop (recd .ready none)) := (hbl.block _ (Array.getElem?_eq_some_iff.1 hj.2.1).1).trans hj.2.1
    have hk : X.heap[w.heap.size]? = some (.deferred (some [])) := (hbl.block _ (Array.getElem?_eq_some_iff.1 hj.2.2).1).trans hj.2.2
    refine ⟨fn, _, assign, body, run_yield (P := P) (args := encs x) hl (hps x), roundIn_of_wpIn hfn (hassign _ pre x X0 X _ hj.1 hbl hM ?_)⟩
    intro a' Y hkf hkp hax
    have hlY := hkf.same _ _ (by omega) hl rfl
    have hkY := hkf.same _ _ (Nat.le_refl _) hk rfl
    have hltY := (Array.getElem?_eq_some_iff.1 hlY).1
    refine ⟨_, run_beginRound hlY rfl, ?_⟩
    let busy : Loop := { recd .ready none with state := .busy }
    have hlZ : (Y.putObj (w.heap.size + 1) (.loop busy)).heap[w.heap.size + 1]? = some (.loop busy) := World.putObj_heap_same hltY
    have hkZ : (Y.putObj (w.heap.size + 1) (.loop busy)).heap[w.heap.size]? = some (.deferred (some [])) := (World.putObj_heap_other (by omega)).trans hkY
    refine wpIn_mono (hbody _ pre x a' _ ((hA pre x a').putObj (s := ()) _ hax (by omega) hlY rfl) hlen) ?_
    intro e a3 Z hp
    match e, hp with
    | .normal, hp =>
      obtain ⟨hk3, hkp3, hi3⟩ := hp
      have hl3 := hk3.same _ _ (by omega) hlZ rfl
      have hk4 := hk3.same _ _ (Nat.le_refl _) hkZ rfl
      have hend := run_endRound (P := P) none hl3
      refine ⟨_, _, hend, rfl, ⟨hI.putObj _ hi3 (by omega) hl3 rfl, World.putObj_heap_same (Array.getElem?_eq_some_iff.1 hl3).1, (World.putObj_heap_other (by omega)).trans hk4⟩, ?_⟩
      exact hKt hkp (hKt (hKt (hKb _ _ _ _ (by omega) hlY rfl rfl) hkp3) (hKb _ _ _ _ (by omega) hl3 rfl rfl))
  · rintro e X ⟨⟨v, rfl⟩, xs, hS, hi, hl, hk⟩
    exact ⟨none, _, run_endLoop (P := P) hl (by simp [recd]), hdone _ xs _ (Nat.le_refl _) hS (hI.putObj _ hi (by omega) hl rfl) ((World.putObj_heap_other (by omega)).trans hk)⟩
end
section
open Go.Shelf
attribute [local go_sem] Oper.semAt_some
/-- a frame on its way: its kind, its data's slice and what it holds, where it ends -/
abbrev Fr := Int × Value × List Int × Int
def frames_Scan.l0 : Nat → List Int → Int → List (Int × List Int) → Option (List (Int × List Int) × Int)
  | 0, _, _, _ => none
  | k + 1, l0, p, acc => if 0 ≤ p ∧ p ≤ (l0.length : Int) ∧ acc.length < 4398046511104 then
      (frames_Open.f k (l0.drop p.toNat)).bind fun b => if b.2.2.2 = 0 then frames_Scan.l0 k l0 (wrap64 (p + b.2.2.1)) (acc ++ [(b.1, b.2.1)]) else (if b.2.2.1 = 0 then some (acc, p) else none)
    else none
def lastAt (xs : List Fr) : Int := (xs.getLast?.map fun x => x.2.2.2).getD 0
theorem lastAt_snoc (xs : List Fr) (x : Fr) : lastAt (xs ++ [x]) = x.2.2.2 := by simp [lastAt]
def ofFr (x : Fr) : Int × List Int := (x.1, x.2.2.1)
def encFr (x : Fr) : Array Value := #[.agg #[.int .u8 x.1, x.2.1], .int .i64 x.2.2.2]
def FrM (x : Fr) (W0 W1 : World) : Prop := Kd.R (Kd.int .u8) 5 W1 W0.heap.size (fun _ => True) x.2.1 x.2.2.1
def KeepB (lo b : Nat) (W W' : World) : Prop := Below lo W W' ∧ W'.heap[b]? = W.heap[b]?
set_option maxHeartbeats 1000000 in
theorem frames_each_in (n : Nat) (A0 : Option Addr) (m c : Nat) (w : World) :
    CallsIn Fence.wide n Try.prog 58 #[.slice A0 m c] w fun e w' => e = .returned (.func (.func 63) #[] #[.pointer (some ⟨w.heap.size, 0, none⟩)]) ∧ w' = w.alloc (.cells #[.slice A0 m c] 22) := by
  refine callsIn_of_wp Try.func58 rfl trivial ?_ rfl
  simp only [Try.ntmps58, List.size_toArray, List.length_cons, List.length_nil, Nat.reduceAdd, Nat.reduceSub, Array.replicate_succ, Array.replicate_zero, List.push_toArray, List.append_toArray, List.nil_append, List.cons_append]
  gi_wp2
  go_ret
  exact ⟨rfl, rfl⟩
theorem frames_Open_size {k : Nat} {b l : List Int} {a n e : Int} (h : frames_Open.f k b = some (a, l, n, e)) (he : e = 0) : 4 ≤ n ∧ n ≤ (b.length : Int) := by
  unfold frames_Open.f at h
  by_cases c1 : (b.length : Int) < 8
  · rw [if_pos c1] at h; simp at h; omega
  rw [if_neg c1, if_pos (by omega), if_pos (by omega)] at h
  obtain ⟨⟨x1, x2⟩, _, h⟩ := Option.bind_eq_some_iff.1 h
  simp only at h
  obtain ⟨y, hy⟩ : ∃ y, y = wrap64 (4 + (wrap64 x1)) := ⟨_, rfl⟩
  rw [← hy] at h
  obtain ⟨z, hz⟩ : ∃ z, z = wrap64 (y + 4) := ⟨_, rfl⟩
  rw [← hz] at h
  rw [if_pos (by omega)] at h
  by_cases c2 : rd b 0 = 167
  case neg => rw [if_neg c2] at h; simp at h; omega
  rw [if_pos c2] at h
  by_cases c3 : x1 > 4096
  · rw [if_pos c3] at h; simp at h; omega
  rw [if_neg c3] at h
  by_cases c4 : (b.length : Int) < z
  · rw [if_pos c4] at h; simp at h; omega
  rw [if_neg c4] at h
  by_cases c5 : 0 ≤ y
  case neg => rw [if_neg c5] at h; cases h
  rw [if_pos c5] at h
  by_cases c6 : y ≤ z
  case neg => rw [if_neg c6] at h; cases h
  rw [if_pos c6] at h
  by_cases c7 : z ≤ (b.length : Int)
  case neg => rw [if_neg c7] at h; cases h
  rw [if_pos c7] at h
  obtain ⟨⟨x3, x4⟩, _, h⟩ := Option.bind_eq_some_iff.1 h
  simp only at h
  by_cases c8 : y ≤ (b.length : Int)
  case neg => rw [if_neg c8] at h; cases h
  rw [if_pos c8] at h
  obtain ⟨x5, _, h⟩ := Option.bind_eq_some_iff.1 h
  by_cases c9 : x3 % 4294967296 = x5
  case neg => rw [if_neg c9] at h; simp at h; omega
  rw [if_pos c9] at h
  by_cases c10 : 1 < (b.length : Int)
  case neg => rw [if_neg c10] at h; cases h
  rw [if_pos c10] at h
  by_cases c11 : 4 ≤ y
  case neg => rw [if_neg c11] at h; cases h
  rw [if_pos c11] at h
  obtain ⟨x6, _, h⟩ := Option.bind_eq_some_iff.1 h
  simp only [Option.some.injEq, Prod.mk.injEq] at h
  omega
set_option maxRecDepth 100000 in
set_option maxHeartbeats 2000000 in
theorem frames_each1_in (n : Nat) (hn : 1 ≤ n) (k : Nat) (l Bn lo : Nat) (A0 : Option Addr) (c0 : Nat) (l0 : List Int) (w0 : World) (hlo : lo = w0.heap.size) (hr0 : Kd.C (Kd.int .u8) w0 A0 l0.length l0) (hc0 : l0.length ≤ c0) (r : List (Int × List Int) × Int)
    (hf : frames_Scan.l0 k l0 0 [] = some r) (J : List Fr → World → Prop) (W : World) (hJ : AbidesFrom W.heap.size J)
    (hY : ∀ pre x W0 W1, J pre W0 → Below W0.heap.size W0 W1 → FrM x W0 W1 → pre.length < 4398046511104 → YieldAt Fence.wide (n - 1) Try.prog l (encFr x) W1 fun e W' => e = .returned (.bool true) ∧ J (pre ++ [x]) W' ∧ KeepB lo Bn W1 W')
    (hBW : Below lo w0 W) (hBn : W.heap[Bn]? = some (.cells #[.slice A0 l0.length c0] 22 (0, 0))) (h0 : J [] W) :
    CallsIn Fence.wide n Try.prog 63 #[.func (.yield l) #[] #[], .pointer (some ⟨Bn, 0, none⟩)] W fun e W' => (∃ v, e = .returned v) ∧ ∃ xs, (xs.map ofFr = r.1 ∧ lastAt xs = r.2) ∧ J xs W' := by
  refine callsIn_of_wp Try.func63 rfl trivial ?_ rfl
  simp only [Try.ntmps63, List.size_toArray, List.length_cons, List.length_nil, Nat.reduceAdd, Nat.reduceSub, Array.replicate_succ, Array.replicate_zero, List.push_toArray, List.append_toArray, List.nil_append, List.cons_append]
  gi_wp2
  have HF := Aside0.mk hf
  have HR0 := Aside0.mk hr0
  have HY := Aside0.mk hY
  have HJ := Aside0.mk hJ
  clear hf hr0 hY hJ
  gi_loopw [3] (fun v3 wr => ∃ (kq : Nat) (p : Int) (acc : List Fr), v3 = .int .i64 p ∧ Aside0 (frames_Scan.l0 kq l0 p (acc.map ofFr) = some r) ∧ Aside0 (p = lastAt acc) ∧ Aside0 (J acc wr) ∧ Aside0 (Below lo w0 wr) ∧ Aside0 (wr.heap[Bn]? = some (.cells #[.slice A0 l0.length c0] 22 (0, 0)))) (fun v3 _ => l0.length - (intOf v3).toNat)
  case atStart => exact ⟨k, 0, [], rfl, HF, ⟨rfl⟩, ⟨h0⟩, ⟨hBW⟩, ⟨hBn⟩⟩
  case round =>
    clear HF h0 hBW hBn
    obtain ⟨kq, p, acc, rfl, H, HP, HJr, HBW, HBn⟩ := hrel
    cases kq with
    | zero => exact absurd H.out (by simp [frames_Scan.l0])
    | succ kq =>
      have h := H.out
      clear H
      simp only [frames_Scan.l0] at h
      by_cases hp : 0 ≤ p ∧ p ≤ (l0.length : Int) ∧ (acc.map ofFr).length < 4398046511104
      case neg => rw [if_neg hp] at h; cases h
      rw [if_pos hp] at h
      obtain ⟨⟨r1, r2, r3, r4⟩, ho, h⟩ := Option.bind_eq_some_iff.1 h
      simp only at h
      obtain ⟨q, rfl⟩ : ∃ q : Nat, p = (q : Int) := ⟨p.toNat, by omega⟩
      rw [Int.toNat_natCast] at ho
      have hql : q ≤ l0.length := by omega
      have hacc : acc.length < 4398046511104 := by simpa using hp.2.2
      have hmx := Kd.C_max HR0.out
      have hcB : wr.cell? ⟨Bn, 0, none⟩ = some (.slice A0 l0.length c0) := by unfold World.cell?; rw [HBn.out]; rfl
      have HR1 := Aside0.mk (Kd.C_below HR0.out (by rw [← hlo]; exact HBW.out))
      have hinfo : (Try.prog.info? 5).map (fun i => (i.zero, i.size, i.bytes)) = some (some (.int .u8 0), 1, 1) := by kernel_rfl
      obtain ⟨i0, hi, _, hsz, _⟩ := info_parts hinfo
      obtain ⟨A1, hcut, hA1, hC1⟩ := print_drop_of (P := Try.prog) (Value.int .u8) 0 22 5 .i64 Try.underlying22 hi hsz A0 c0 l0 (q : Int) (by omega) (by omega) hc0
      simp only [Int.toNat_natCast] at hcut hA1 hC1
      have hbl : (l0.drop q).length = l0.length - q := List.length_drop
      obtain ⟨b, hb⟩ : ∃ b, b = l0.drop q := ⟨_, rfl⟩
      rw [← hb] at hcut hA1 hC1 hbl ho
      clear hb
      have HO := Aside0.mk ho
      have HRd := Aside0.mk (Kd.C_of_reads (h1 := fun _ => rfl) (hA1 _ (Kd.reads_of_C HR1.out)))
      have HC1 := Aside0.mk hC1
      clear hA1 hC1 hinfo hi hsz
      by_cases he : r4 = 0
      · subst he
        rw [if_pos rfl] at h
        have hsz := frames_Open_size ho rfl
        rw [hbl] at hsz
        have hw : wrap64 ((q : Int) + r3) = (q : Int) + r3 := wrap64_id (by omega) (by omega)
        rw [hw] at h
        have HH := Aside0.mk h
        have HW := Aside0.mk hw
        clear h ho hw hbl
        gi_wp2_with (refine ⟨trivial, ?_⟩; gi_at_call 38; refine (callsIn_wide.2 (frames_Open.calls kq A1 (c0 - q) b r1 r2 r3 0 wr HRd.out HC1.out HO.out)).mono ?_; rintro e w2 ⟨v1, rfl, ho1, hb1⟩; obtain ⟨A2, c2, rfl⟩ := Kd.R_slice ho1; have hM : FrM (r1, .slice A2 r2.length c2, r2, (q : Int) + r3) wr (w2.alloc (.cells #[.int .u8 r1, .slice A2 r2.length c2] 58)) := Kd.R_alloc ho1 _; obtain ⟨fn, tmps, assign, body, hy, hR⟩ := HY.out acc _ wr _ HJr.out (below_alloc hb1 (.cells #[.int .u8 r1, .slice A2 r2.length c2] 58)) hM hacc; dsimp only [encFr] at hy; have HB1 := Aside0.mk hb1; clear hM ho1 hb1)
        refine hR.mono ?_
        rintro e W3 ⟨rfl, hJ3, hk3⟩
        clear hR hy
        have HJ3 := Aside0.mk hJ3
        have HK3 := Aside0.mk hk3
        clear hJ3 hk3 hcB hcut
        gi_wp2
        go_roundw
        case rel =>
          have hlt : Bn < wr.heap.size := (Array.getElem?_eq_some_iff.1 HBn.out).1
          have hb3 := HK3.out.1
          refine ⟨kq, _, acc ++ [(r1, .slice A2 r2.length c2, r2, (q : Int) + r3)], rfl, ⟨by rw [List.map_append]; exact HH.out⟩, ⟨by rw [lastAt_snoc]⟩, HJ3, ⟨(HBW.out.trans ((below_alloc HB1.out _).mono (by have := HBW.out.size; omega))).trans hb3⟩, ⟨?_⟩⟩
          · rw [HK3.out.2]
            exact ((below_alloc HB1.out _).block _ hlt).trans HBn.out
        case measure => simp [intOf]; omega
      · rw [if_neg he] at h
        by_cases h3 : r3 = 0
        case neg => rw [if_neg h3] at h; cases h
        rw [if_pos h3] at h
        subst h3
        have HH := Aside0.mk h
        have hr4 : (r4 != 0) = true := by simpa using he
        clear h ho hbl he
        gi_wp2_with (refine ⟨trivial, ?_⟩; gi_at_call 38; refine (callsIn_wide.2 (frames_Open.calls kq A1 (c0 - q) b r1 r2 0 r4 wr HRd.out HC1.out HO.out)).mono ?_; rintro e w2 ⟨v1, rfl, ho1, hb1⟩; obtain ⟨A2, c2, rfl⟩ := Kd.R_slice ho1; have HB1 := Aside0.mk hb1; clear ho1 hb1)
        refine ⟨fun _ h => (by cases h), ?_⟩
        gi_wp2
        refine bodyPost_ret (results_none rfl _ _ _) rfl ?_
        have hz : r = (acc.map ofFr, (q : Int)) := by have := HH.out; simp at this; exact this.symm
        refine ⟨⟨_, rfl⟩, acc, ⟨by rw [hz], by rw [hz]; exact HP.out.symm⟩, ?_⟩
        exact HJ.out _ _ _ none HJr.out (grown_of_below (below_alloc HB1.out _)) (fun _ h => by cases h)
end
section
open Go.Shelf
attribute [local go_sem] Oper.semAt_some
def toFrame (x : Fr) : S58 := ⟨x.1, x.2.2.1⟩
def frames_Scan.f (k : Nat) (l0 : List Int) : Option (List S58 × Int) := (frames_Scan.l0 k l0 0 []).bind fun r => some (r.1.map fun x => ⟨x.1, x.2⟩, r.2)
theorem frames_Scan.mono_l : ∀ k l0 p acc, LeO (frames_Scan.l0 k l0 p acc) (frames_Scan.l0 (k + 1) l0 p acc) := by
  intro k
  induction k with
  | zero => intro l0 p acc; exact LeO.none _
  | succ k ih =>
    intro l0 p acc
    show LeO (if 0 ≤ p ∧ p ≤ (l0.length : Int) ∧ acc.length < 4398046511104 then _ else _) (if 0 ≤ p ∧ p ≤ (l0.length : Int) ∧ acc.length < 4398046511104 then _ else _)
    refine LeO.ite (LeO.bind (frames_Open.mono _ _) (fun b => ?_)) (LeO.none _)
    exact LeO.ite (ih _ _ _) (LeO.refl _)
theorem frames_Scan.mono : ∀ a0 k, LeO (frames_Scan.f k a0) (frames_Scan.f (k + 1) a0) := fun a0 k => LeO.bind (frames_Scan.mono_l k a0 0 []) (fun _ => LeO.refl _)
/-- A row of one's own abides a turn of what is no cells. -/
theorem S_ownFrom {α β : Type} (d : Kd α) (e base B : Nat) (ok : Nat → Prop) (v : β → Value) (xs : β → List α) : OwnFrom B (fun s W => Kd.S d e W base ok (v s) (xs s)) := by
  intro s X Y row hs hg hr
  refine Kd.S_mono (Kd.S_grown (Kd.S_bound hs) hg (fun k hk he => ?_)) (fun k hk => hk.1)
  obtain ⟨_, o, ho, hc⟩ := hr k he.symm
  obtain ⟨_, _, _, q, _, cells, hcl⟩ := hk
  rw [hcl] at ho
  cases ho
  cases hc
theorem R_ownFrom {α β : Type} (d : Kd α) (e base B : Nat) (ok : Nat → Prop) (v : β → Value) (xs : β → List α) : OwnFrom B (fun s W => d.R e W base ok (v s) (xs s)) := by
  intro s X Y row hs hg hr
  refine Kd.R_mono (Kd.R_grown (Kd.R_bound hs) hg (fun k hk he => ?_)) (fun k hk => hk.1)
  obtain ⟨_, o, ho, hc⟩ := hr k he.symm
  obtain ⟨_, _, _, q, _, cells, hcl⟩ := hk
  rw [hcl] at ho
  cases ho
  cases hc
theorem holdsS_own {α β : Type} (d : Kd α) (e base B Bl : Nat) (t : TypeId) (ok : Nat → Prop) (xs : β → List α) : OwnFrom B (fun s W => ∃ v, Boxed W Bl t v ∧ Kd.S d e W base ok v (xs s)) := by
  intro s X Y row hs hg hr
  obtain ⟨v, hv, hS⟩ := hs
  exact ⟨v, boxed_own (β := Unit) Bl t (fun _ => v) () X Y row hv hg (fun r e => (hr r e).2), S_ownFrom d e base B ok (fun (_ : Unit) => v) (fun _ => xs s) () X Y row hS hg hr⟩
theorem block_ownFrom (B b : Nat) (cs : Array Value) (t : TypeId) : OwnFrom B (fun (_ : Unit) W => W.heap[b]? = some (.cells cs t (0, 0))) := by
  intro s X Y row hs hg hr
  refine (hg.block b (Array.getElem?_eq_some_iff.1 hs).1 (fun he => ?_)).trans hs
  obtain ⟨_, o, ho, hc⟩ := hr b he.symm
  rw [hs] at ho
  cases ho
  cases hc
theorem R_appendedT {α : Type} {d : Kd α} {e base : Nat} {okv okp : Nat → Prop} {W w1 : World} {v v1 : Value} {xs : List α} {p : α} {inner cs : List Value} (hE : ∀ q ∈ d.E, q ≠ e) (hr : Reps (d.M W base (fun k => okv k ∧ some k ≠ v.ownBlock)) d.sz xs inner) (hp : d.M W base okp p cs) (hokp : ∀ k, okp k → some k ≠ v.ownBlock)
    (hown : w1.ownsRow base e d.sz v1 (xs.length + 1) (inner ++ cs)) (hg : W.grownBy w1 v.ownBlock) : d.R e w1 base (fun _ => True) v1 (xs ++ [p]) := by
  have step : ∀ {q : α} {c : List Value} {o : Nat → Prop}, d.M W base o q c → (∀ k, o k → some k ≠ v.ownBlock) → d.M w1 base (fun k => True ∧ some k ≠ v1.ownBlock) q c := by
    intro q c o hq ho
    have h1 := d.M_move (w1 := w1) (fun k hk => hg.block k hk.2.2.1 (ho k hk.1)) (d.M_bound hq)
    refine d.M_mono (fun k hk => ⟨trivial, fun he => ?_⟩) h1
    obtain ⟨hok, _, hlt, q', hq', cells, hc⟩ := hk
    obtain ⟨cells', hc'⟩ := own_typed hown k he.symm
    rw [hg.block k hlt (ho k hok), hc] at hc'
    injection hc' with hc'
    injection hc' with _ hc' _
    exact hE q' hq' hc'
  exact ⟨fun _ _ => trivial, inner ++ cs, by rw [List.length_append, List.length_singleton]; exact hown, (hr.imp_ (fun _ _ hq => step hq (fun _ hk => hk.2))).snoc (step hp hokp) (d.K_len (d.K_of_M hp))⟩
/-- What the body finds: f's box, the list so far, the new frame's data apart from it. -/
def ScanA (z : Nat) (w : World) (tm : Nat → Value → Value → Array Value) (pre : List Fr) (x : Fr) (a' : Act) (W : World) : Prop :=
  ∃ Bx B, z + 3 ≤ Bx ∧ W.heap[Bx]? = some (.cells #[.int .u8 x.1, x.2.1] 58 (0, 0)) ∧ (∃ v, Boxed W z 67 v ∧ Kd.S k58 58 W (z + 3) (fun k => k < B) v (pre.map toFrame)) ∧
    Kd.R (Kd.int .u8) 5 W (z + 3) (fun k => B ≤ k) x.2.1 x.2.2.1 ∧ Boxed W (z + 1) 3 (.int .i64 (lastAt pre)) ∧ Below z w W ∧ a' = { tmps := tm Bx (.agg #[.int .u8 x.1, x.2.1]) (.int .i64 x.2.2.2), defers := [] }
theorem scan_close {tmps : Array Value} {z D : Nat} {w X : World} {xs : List Fr} {v : Value} {i : Int} (hz : z = w.heap.size) (hD : z + 3 ≤ D) (hDX : X.heap[D]? = some (.deferred (some [])))
    (HS : Kd.S k58 58 X (z + 3) (fun _ => True) v (xs.map toFrame)) (HV : Boxed X z 67 v) (HG : Boxed X (z + 1) 3 (.int .i64 i)) (HB : Below z w X)
    (h2 : tmps.getD 2 undef = .pointer (some ⟨z, 0, none⟩)) (h3 : tmps.getD 3 undef = .pointer (some ⟨z + 1, 0, none⟩)) :
    (results Try.f42 tmps).run Try.prog (((X.setCell ⟨z, 0, none⟩ v).setCell ⟨z + 1, 0, none⟩ (.int .i64 i)).drew.putObj D (.deferred none)) = .ok (.tuple #[v, .int .i64 i]) (((X.setCell ⟨z, 0, none⟩ v).setCell ⟨z + 1, 0, none⟩ (.int .i64 i)).drew.putObj D (.deferred none)) ∧
    Kd.S k58 58 (((X.setCell ⟨z, 0, none⟩ v).setCell ⟨z + 1, 0, none⟩ (.int .i64 i)).drew.putObj D (.deferred none)) w.heap.size (fun _ => True) v (xs.map toFrame) ∧
    Below w.heap.size w (((X.setCell ⟨z, 0, none⟩ v).setCell ⟨z + 1, 0, none⟩ (.int .i64 i)).drew.putObj D (.deferred none)) := by
  obtain ⟨Y, hY⟩ : ∃ Y, Y = ((X.setCell ⟨z, 0, none⟩ v).setCell ⟨z + 1, 0, none⟩ (.int .i64 i)).drew := ⟨_, rfl⟩
  have hDY : Y.heap[D]? = some (.deferred (some [])) := by
    rw [hY]
    show ((X.setCell ⟨z, 0, none⟩ v).setCell ⟨z + 1, 0, none⟩ (.int .i64 i)).heap[D]? = _
    rw [Below.heap_setCell _ _ _ _ (by show D ≠ z + 1; omega), Below.heap_setCell _ _ _ _ (by show D ≠ z; omega)]
    exact hDX
  have bV : Boxed Y z 67 v := by rw [hY]; exact (HV.set v).other (by omega) _
  have bG : Boxed Y (z + 1) 3 (.int .i64 i) := by rw [hY]; exact (HG.other (B' := z) (by omega) v).set _
  have bS : Kd.S k58 58 Y (z + 3) (fun _ => True) v (xs.map toFrame) := by
    rw [hY]
    exact Kd.S_mono (Kd.S_drew (Kd.S_far (Kd.S_far (Kd.S_bound HS) (p := ⟨z, 0, none⟩) (fun k hk => by show k ≠ z; have := hk.2.1; omega) _) (p := ⟨z + 1, 0, none⟩) (fun k hk => by show k ≠ z + 1; have := hk.2.1; omega) _)) (fun _ _ => trivial)
  have bB : Below z w Y := by
    rw [hY]
    exact below_drew (HB.trans (((Below.refl z _).setCell (p := ⟨z, 0, none⟩) (Nat.le_refl _) _).setCell (p := ⟨z + 1, 0, none⟩) (by show z ≤ z + 1; omega) _))
  rw [← hY]
  clear hY
  have cV : Boxed (Y.putObj D (.deferred none)) z 67 v := (World.putObj_heap_other (by omega)).trans bV
  have cG : Boxed (Y.putObj D (.deferred none)) (z + 1) 3 (.int .i64 i) := (World.putObj_heap_other (by omega)).trans bG
  refine ⟨?_, ?_, ?_⟩
  · have hv := cV.cell
    have hg := cG.cell
    have e2 : tmps[2]?.getD undef = .pointer (some ⟨z, 0, none⟩) := by simpa using h2
    have e3 : tmps[3]?.getD undef = .pointer (some ⟨z + 1, 0, none⟩) := by simpa using h3
    simp [results, Try.results42, go_sem, e2, e3, hv, hg]
  · have := (S_ownFrom k58 58 (z + 3) z (fun _ => True) (fun (_ : Unit) => v) (fun _ => xs.map toFrame)).putObj (s := ()) (.deferred none) bS (by omega) hDY rfl
    exact Kd.S_lower this (by omega)
  · rw [← hz]
    exact bB.trans (belowK_b (w := w) (by omega) Y D _ _ (by omega) hDY rfl rfl)
set_option maxRecDepth 100000 in
set_option maxHeartbeats 4000000 in
theorem frames_Scan.calls (k : Nat) (A0 : Option Addr) (c0 : Nat) (l0 : List Int) (r1 : List S58) (r2 : Int) (w : World) (hr0 : Kd.C (Kd.int .u8) w A0 l0.length l0) (hc0 : l0.length ≤ c0) (h : frames_Scan.f k l0 = some (r1, r2)) : Calls Try.prog 42 #[.slice A0 l0.length c0] w fun e w' => ∃ v0_ : Value, e = .returned (.tuple #[v0_, .int .i64 r2]) ∧ Kd.S k58 58 w' w.heap.size (fun _ => True) v0_ r1 ∧ Below w.heap.size w w' := by
  unfold frames_Scan.f at h
  obtain ⟨r, hr, h⟩ := Option.bind_eq_some_iff.1 h
  simp only [Option.some.injEq, Prod.mk.injEq] at h
  obtain ⟨he1, he2⟩ := h
  have HR := Aside0.mk hr
  have HR0 := Aside0.mk hr0
  refine (callsIn_wide (n := 6)).1 ?_
  refine callsIn_of_wp_marks Try.func42 rfl trivial ?_ rfl
  simp only [Try.ntmps42, List.size_toArray, List.length_cons, List.length_nil, Nat.reduceAdd, Nat.reduceSub, Array.replicate_succ, Array.replicate_zero, List.push_toArray, List.append_toArray, List.nil_append, List.cons_append]
  gi_wp2_with (refine ⟨trivial, ?_⟩; gi_at_call 58; refine (frames_each_in 5 _ _ _ _).mono ?_; rintro e w' ⟨rfl, rfl⟩)
  obtain ⟨z, hz⟩ : ∃ z, z = w.heap.size := ⟨_, rfl⟩
  have bL := Boxed.new w 67 (.slice none 0 0)
  have bG := Boxed.new (w.alloc (.cells #[.slice none 0 0] 67)) 3 (.int .i64 0)
  have bB := Boxed.new ((w.alloc (.cells #[.slice none 0 0] 67)).alloc (.cells #[.int .i64 0] 3)) 22 (.slice A0 l0.length c0)
  rw [World.size_alloc] at bG
  rw [World.size_alloc, World.size_alloc] at bB
  obtain ⟨W3, hW3⟩ : ∃ W3, W3 = (((w.alloc (.cells #[.slice none 0 0] 67)).alloc (.cells #[.int .i64 0] 3)).alloc (.cells #[.slice A0 l0.length c0] 22)) := ⟨_, rfl⟩
  have hz3 : W3.heap.size = z + 3 := by rw [hW3, hz]; simp
  have hB3 : Below z w W3 := by rw [hW3, hz]; exact below_alloc (below_alloc (below_alloc (Below.refl _ _) _) _) _
  rw [← hW3] at bB ⊢
  replace bL : Boxed W3 z 67 (.slice none 0 0) := by rw [hW3, hz]; exact (Boxed.alloc (Boxed.alloc bL _) _)
  replace bG : Boxed W3 (z + 1) 3 (.int .i64 0) := by rw [hW3, hz]; exact Boxed.alloc bG _
  rw [show w.heap.size + 1 + 1 = z + 2 by omega] at bB ⊢
  rw [← hz]
  clear hW3
  have hinfo : (Try.prog.info? 58).map (fun i => (i.zero, i.size, i.bytes)) = some (some (.agg #[.int .u8 0, .slice none 0 0]), 2, 32) := by kernel_rfl
  obtain ⟨i0, hi, hz0, hz1, hz2⟩ := info_parts hinfo
  have HZ := Aside0.mk hz
  clear hinfo hr hz
  refine wpIn_rangeFunc_M (α := Fr) rfl (by decide) (gf := 63) (lb := #[.pointer (some ⟨z + 2, 0, none⟩)]) rfl trivial (enters_of Try.func63 (by kernel_rfl) rfl)
    (encs := encFr) (M := FrM) (Kp := KeepB z (z + 2)) (S := fun xs => xs.map ofFr = r.1 ∧ lastAt xs = r.2) (N := 4398046511104) (w0 := W3)
    (fun l J W hW hJ hY h0 => frames_each1_in _ (by decide) k l (z + 2) z A0 c0 l0 w HZ.out HR0.out hc0 r HR.out J W hJ hY (hB3.trans (hW.mono (by omega))) ((hW.block _ (by omega)).trans bB) h0)
    (fun h k => ⟨h.1.trans k.1, k.2.trans h.2⟩)
    (fun W l o o' hl ho hc hw => ⟨belowK_b (w := W3) (by omega) W l o o' hl ho hc hw, World.putObj_heap_other (by omega)⟩)
    (Below.refl _ _) (fun _ => rfl)
    (fun pre W => (∃ v, Boxed W z 67 v ∧ Kd.S k58 58 W (z + 3) (fun _ => True) v (pre.map toFrame)) ∧ Boxed W (z + 1) 3 (.int .i64 (lastAt pre)) ∧ Below z w W ∧ z + 3 ≤ W.heap.size)
    (OwnFrom.and (holdsS_own _ _ _ _ _ _ _ _) (OwnFrom.and (Own.from (boxed_own _ _ _) _) (OwnFrom.and (ownFrom_below (by have := HZ.out; omega) (by omega)) (fun _ _ _ _ hs hg _ => Nat.le_trans hs hg.size))))
    ⟨⟨_, bL, Kd.S_nil _ _ _ _ _⟩, bG, hB3, by omega⟩
    (ScanA z w (fun Bx v at_ => #[.slice A0 l0.length c0, undef, .pointer (some ⟨z, 0, none⟩), .pointer (some ⟨z + 1, 0, none⟩), .pointer (some ⟨Bx, 0, none⟩), at_, .slice A0 l0.length c0, .func (.func 63) #[] #[.pointer (some ⟨z + 2, 0, none⟩)], v, at_, undef, undef, undef, undef, undef, undef, undef]))
    ?own ?assign ?body ?done
  case own =>
    intro pre x a' s X Y row hs hg hr
    obtain ⟨Bx, B, h1, h2, h3, h4, h5, h6, h7⟩ := hs
    exact ⟨Bx, B, h1, block_ownFrom _ _ _ _ () X Y row h2 hg hr, holdsS_own _ _ _ _ _ _ _ (fun (_ : Unit) => pre.map toFrame) () X Y row h3 hg hr, R_ownFrom _ _ _ _ _ (fun (_ : Unit) => x.2.1) (fun _ => x.2.2.1) () X Y row h4 hg hr, boxed_own (β := Unit) _ _ (fun _ => .int .i64 (lastAt pre)) () X Y row h5 hg (fun r e => (hr r e).2), ownFrom_below (β := Unit) (by have := HZ.out; omega) (by omega) () X Y row h6 hg hr, h7⟩
  case assign =>
    rintro l pre ⟨kd, vd, dat, at_⟩ X0 X K ⟨⟨v, hv, hS⟩, hG, hB, hsz⟩ hbl hM hK
    simp only [FrM] at hM
    obtain ⟨A2, c2, rfl⟩ := Kd.R_slice hM
    simp only [encFr]
    have HK := Aside0.mk hK
    clear hK
    gi_wp2
    have hlt := hbl.size
    refine HK.out _ _ ((KeepsOthers.alloc _ _).from _) ⟨(Below.refl z X).alloc (by omega) _, Below.heap_alloc X _ (z + 2) (by omega)⟩ ?_
    refine ⟨X.heap.size, X0.heap.size, by omega, World.alloc_heap_new _ _, ⟨v, ?_, ?_⟩, ?_, ?_, ?_, rfl⟩
    · exact Boxed.alloc ((hbl.block z (by omega)).trans hv) _
    · exact Kd.S_alloc (Kd.S_mono (Kd.S_below (Kd.S_bound hS) hbl) (fun k hk => hk.2.2.1)) _
    · exact Kd.R_alloc (Kd.R_lower (Kd.R_mono (Kd.R_bound hM) (fun k hk => hk.2.1)) (by omega)) _
    · exact Boxed.alloc ((hbl.block (z + 1) (by omega)).trans hG) _
    · exact (hB.trans (hbl.mono (by omega))).trans ((Below.refl z X).alloc (by omega) _)
  case body =>
    rintro l pre ⟨kd, vd, dat, at_⟩ a' X ⟨Bx, B, h1, h2, ⟨v, hv, hS⟩, hR, hG, hB, rfl⟩ hlen
    simp only at hR h2
    obtain ⟨A2, c2, rfl⟩ := Kd.R_slice hR
    have hBx := (Array.getElem?_eq_some_iff.1 h2).1
    have hc0x : X.cell? ⟨Bx, 0, none⟩ = some (.int .u8 kd) := (laid_cell h2 0).1
    have hc1x : X.cell? ⟨Bx, 1, none⟩ = some (.slice A2 dat.length c2) := (laid_cell h2 1).1
    have hvc := hv.cell
    have hGc := hG.cell
    have hGf := hG.frozen
    have hvf := hv.frozen
    obtain ⟨f, hf, hT⟩ := Kd.S_tag hS (pre.map toFrame).length (fun k => B ≤ k) (fun k q1 q2 => by omega)
    have hT2 := Kd.R_alloc hT (.cells #[.int .u8 kd, .slice A2 dat.length c2] 58)
    obtain ⟨hb0, inner, hrow, hreps⟩ := hT2
    have hcn : ∀ (j : Nat) (u : Value), ([.int .u8 kd, .slice A2 dat.length c2] : List Value)[j]? = some u → (X.alloc (.cells #[.int .u8 kd, .slice A2 dat.length c2] 58)).cell? ((⟨X.heap.size, 0, none⟩ : Addr).add j) = some u := by
      intro j u hj
      have hn := World.alloc_heap_new X (.cells #[.int .u8 kd, .slice A2 dat.length c2] 58)
      rcases j with _ | _ | j
      · exact (laid_cell hn 0).1.trans hj
      · exact (laid_cell hn 1).1.trans hj
      · simp at hj
    have hzl : (pre.map toFrame).zipIdx.length = pre.length := by simp
    rw [hzl] at hrow
    have HRW := Aside0.mk hrow
    have HREP := Aside0.mk hreps
    have HCN := Aside0.mk hcn
    have HT := Aside0.mk hT
    have HS := Aside0.mk hS
    have HRR := Aside0.mk hR
    have HV := Aside0.mk hv
    have HG := Aside0.mk hG
    have HB := Aside0.mk hB
    have HF := Aside0.mk hf
    have HB0 := Aside0.mk hb0
    clear hrow hreps hcn hT hS hR hv hG hB hf hb0
    gi_wp2_with (gi_at_builtin; refine wpListIn_append_own _ rfl _ _ 67 rfl (z + 3) 58 i0 (.agg #[.int .u8 0, .slice none 0 0]) 2 32 Try.underlying67 hi hz0 hz1 hz2 rfl (by decide) v _ inner rfl HRW.out ⟨X.heap.size, 0, none⟩ 1 1 [.int .u8 kd, .slice A2 dat.length c2] rfl rfl HCN.out (by simp [Value.oneCell']) (by simp only [maxLen]; omega) (by omega) (by simp; omega) ?_; intro v' w1 hown' hgrow _; obtain ⟨g', cap', rfl⟩ := ownsRow_succ hown'; obtain ⟨inner0, hrow0⟩ := Kd.S_own HS.out; obtain ⟨hv1, hv2, hr2, hk2, hb2⟩ := HV.out.appended (W := X) (n₀ := z) (by decide) (own_weaken hrow0 (by omega)) (by have := HB.out.size; have := HZ.out; omega) (Nat.le_refl _) (own_weaken hown' (by omega)) hgrow; have hG1 := (HG.out.alloc (.cells #[.int .u8 kd, .slice A2 dat.length c2] 58)).kept hgrow (HG.out.not_row (by decide) hrow0); have hG2 := hG1.other (B' := z) (by omega) (.slice (some ⟨g', 0, none⟩) (pre.length + 1) cap'); have hc1 := hv1.cell; have hf1 := hv1.frozen; have hg2 := hG2.cell; have hgf2 := hG2.frozen; have hg1 := hG1.cell; have hgf1 := hG1.frozen; have hV3 := hv1.other (B' := z + 1) (by omega) (.int .i64 at_); have hvc3 := hV3.cell; have hvf3 := hV3.frozen; clear hV3; have HO := Aside0.mk hown'; have HGR := Aside0.mk hgrow; have HV2 := Aside0.mk hv2; have HK2 := Aside0.mk hk2; have HB2 := Aside0.mk hb2; have HG2 := Aside0.mk hG2; clear hown' hgrow hv1 hv2 hr2 hk2 hb2 hG1 hG2 hrow0)
    have hM : (Kd.tag f k58).M (X.alloc (.cells #[.int .u8 kd, .slice A2 dat.length c2] 58)) (z + 3) (fun k => B ≤ k) (toFrame (kd, .slice A2 dat.length c2, dat, at_), (pre.map toFrame).length) [.int .u8 kd, .slice A2 dat.length c2] :=
      ⟨[.int .u8 kd], [.slice A2 dat.length c2], rfl, rfl, ⟨_, rfl, Kd.R_mono (Kd.R_alloc HRR.out _) (fun k hk => ⟨hk, HF.out k hk⟩)⟩⟩
    have hne : ∀ k, B ≤ k → some k ≠ v.ownBlock := fun k hk he => by have := HB0.out k he.symm; omega
    have hS1 := R_appendedT (d := Kd.tag f k58) (show ∀ q ∈ k58.E, q ≠ 58 from by decide) HREP.out hM hne (by rw [hzl]; exact HO.out) HGR.out
    rw [← Kd.zip_snoc] at hS1
    have hS2 : Kd.S k58 58 w1 (z + 3) (fun k => z + 3 ≤ k) (.slice (some ⟨g', 0, none⟩) (pre.length + 1) cap') ((pre ++ [((kd, Value.slice A2 dat.length c2, dat, at_) : Fr)]).map toFrame) := by
      rw [List.map_append]
      exact Kd.S_mono (Kd.S_bound ⟨f, hS1⟩) (fun k hk => hk.2.1)
    have hs2 : z + 2 < X.heap.size := by omega
    have hsz : X.heap.size ≤ w1.heap.size := by have := HGR.out.size; rw [World.size_alloc] at this; omega
    have hb5 := Kd.S_base HS.out
    refine ⟨(HK2.out.trans (KeepsOthers.setCell _ _ _)).from _, ⟨HB2.out.trans ((Below.refl z _).setCell (p := ⟨z + 1, 0, none⟩) (by show z ≤ z + 1; omega) _), ?_⟩, ⟨_, HV2.out.other (by omega) _, ?_⟩, ?_, ?_, ?_⟩
    · rw [Below.heap_setCell _ _ _ _ (by show z + 2 ≠ z + 1; omega), Below.heap_setCell _ _ _ _ (by show z + 2 ≠ z; omega), HGR.out.block (z + 2) (by rw [World.size_alloc]; omega) (fun he => by have := hb5 _ he.symm; omega)]
      exact Below.heap_alloc _ _ _ hs2
    · refine Kd.S_mono (Kd.S_far (Kd.S_far hS2 (p := ⟨z, 0, none⟩) (fun k hk => by show k ≠ z; omega) _) (p := ⟨z + 1, 0, none⟩) (fun k hk => by show k ≠ z + 1; omega) _) (fun _ _ => trivial)
    · rw [lastAt_snoc]
      exact HG2.out.set _
    · exact (HB.out.trans HB2.out).trans ((Below.refl z _).setCell (p := ⟨z + 1, 0, none⟩) (by show z ≤ z + 1; omega) _)
    · simp; omega
  case done =>
    rintro D xs X hD ⟨hS1, hS2⟩ ⟨⟨v, hv, hS⟩, hG, hB, hsz⟩ hK
    obtain ⟨Av, cv, rfl⟩ := Kd.S_slice hS
    have hvc := hv.cell
    have hGc := hG.cell
    have hGf := hG.frozen
    have hvf := hv.frozen
    have HS := Aside0.mk hS
    have HV := Aside0.mk hv
    have HG := Aside0.mk hG
    have HB := Aside0.mk hB
    clear hS hv hG hB
    have hc1 : (X.setCell ⟨z, 0, none⟩ (.slice Av (xs.map toFrame).length cv)).cell? ⟨z + 1, 0, none⟩ = some (.int .i64 (lastAt xs)) := (HG.out.other (B' := z) (by omega) _).cell
    have hf1 : (X.setCell ⟨z, 0, none⟩ (.slice Av (xs.map toFrame).length cv)).frozen? ⟨z + 1, 0, none⟩ = false := (HG.out.other (B' := z) (by omega) _).frozen
    gi_wp2
    refine wpIn_region_any (by kernel_rfl) ?_
    refine wpAnyIn_ready (rs := [0, 1]) (by kernel_rfl) (by simp) ?_
    refine AllReadyIn.cons rfl (fun K hK => ?_) ?_
    · go_simp
      refine hK _ _ ?_
      clear hK K
      refine wpAnyIn_ready (rs := [1, 2]) (by kernel_rfl) (by simp) ?_
      refine AllReadyIn.cons rfl (fun K hK => ?_) ?_
      · go_simp
        refine hK _ _ ?_
        clear hK K
        refine wpAnyIn_ready (rs := [2]) (by kernel_rfl) (by simp) ?_
        refine AllReadyIn.cons rfl (fun K hK => ?_) ?_
        · go_simp
          refine hK _ _ ?_
          clear hK K
          refine wpAnyIn_ready (rs := [3]) (by kernel_rfl) (by simp) ?_
          refine AllReadyIn.cons rfl (fun K hK => ?_) ?_
          · go_simp
            refine hK _ _ ?_
            clear hK K
            refine wpAnyIn_done (by kernel_rfl) ?_ _
            rename_i K1 hK1
            refine hK1 _ _ ?_
            gi_wp2
            obtain ⟨q1, q2, q3⟩ := scan_close (tmps := #[Value.slice A0 l0.length c0, undef, .pointer (some ⟨z, 0, none⟩), .pointer (some ⟨z + 1, 0, none⟩), undef, undef, .slice A0 l0.length c0, .func (.func 63) #[] #[.pointer (some ⟨z + 2, 0, none⟩)], undef, undef, undef, undef, undef, undef, undef, .slice Av xs.length cv, .int .i64 r2]) HZ.out (by omega) hK HS.out HV.out HG.out HB.out rfl rfl
            rw [List.length_map] at q1 q2 q3
            rw [hS2, he2] at q1 q2 q3
            refine ⟨by simp, .inl ⟨_, _, rfl, run_takeDeferred (show _ = some (Obj.deferred (some [])) from ?_), ?_⟩⟩
            · show ((X.setCell ⟨z, 0, none⟩ (.slice Av xs.length cv)).setCell ⟨z + 1, 0, none⟩ (.int .i64 r2)).heap[D]? = _
              rw [Below.heap_setCell _ _ _ _ (by show D ≠ z + 1; omega), Below.heap_setCell _ _ _ _ (by show D ≠ z; omega)]
              exact hK
            · have hr1 : xs.map toFrame = r1 := by rw [← he1, ← hS1, List.map_map]; rfl
              rw [hr1] at q2
              exact ⟨_, q1, _, rfl, q2, q3⟩
          exact AllReadyIn.nil
        exact AllReadyIn.nil
      refine AllReadyIn.cons rfl (fun K hK => ?_) ?_
      · go_simp
        refine hK _ _ ?_
        clear hK K
        refine wpAnyIn_ready (rs := [1]) (by kernel_rfl) (by simp) ?_
        refine AllReadyIn.cons rfl (fun K hK => ?_) ?_
        · go_simp
          refine hK _ _ ?_
          clear hK K
          refine wpAnyIn_ready (rs := [3]) (by kernel_rfl) (by simp) ?_
          refine AllReadyIn.cons rfl (fun K hK => ?_) ?_
          · go_simp
            refine hK _ _ ?_
            clear hK K
            refine wpAnyIn_done (by kernel_rfl) ?_ _
            rename_i K1 hK1
            refine hK1 _ _ ?_
            gi_wp2
            obtain ⟨q1, q2, q3⟩ := scan_close (tmps := #[Value.slice A0 l0.length c0, undef, .pointer (some ⟨z, 0, none⟩), .pointer (some ⟨z + 1, 0, none⟩), undef, undef, .slice A0 l0.length c0, .func (.func 63) #[] #[.pointer (some ⟨z + 2, 0, none⟩)], undef, undef, undef, undef, undef, undef, undef, .slice Av xs.length cv, .int .i64 r2]) HZ.out (by omega) hK HS.out HV.out HG.out HB.out rfl rfl
            rw [List.length_map] at q1 q2 q3
            rw [hS2, he2] at q1 q2 q3
            refine ⟨by simp, .inl ⟨_, _, rfl, run_takeDeferred (show _ = some (Obj.deferred (some [])) from ?_), ?_⟩⟩
            · show ((X.setCell ⟨z, 0, none⟩ (.slice Av xs.length cv)).setCell ⟨z + 1, 0, none⟩ (.int .i64 r2)).heap[D]? = _
              rw [Below.heap_setCell _ _ _ _ (by show D ≠ z + 1; omega), Below.heap_setCell _ _ _ _ (by show D ≠ z; omega)]
              exact hK
            · have hr1 : xs.map toFrame = r1 := by rw [← he1, ← hS1, List.map_map]; rfl
              rw [hr1] at q2
              exact ⟨_, q1, _, rfl, q2, q3⟩
          exact AllReadyIn.nil
        exact AllReadyIn.nil
      exact AllReadyIn.nil
    refine AllReadyIn.cons rfl (fun K hK => ?_) ?_
    · go_simp
      refine hK _ _ ?_
      clear hK K
      refine wpAnyIn_ready (rs := [0]) (by kernel_rfl) (by simp) ?_
      refine AllReadyIn.cons rfl (fun K hK => ?_) ?_
      · go_simp
        refine hK _ _ ?_
        clear hK K
        refine wpAnyIn_ready (rs := [2]) (by kernel_rfl) (by simp) ?_
        refine AllReadyIn.cons rfl (fun K hK => ?_) ?_
        · go_simp
          refine hK _ _ ?_
          clear hK K
          refine wpAnyIn_ready (rs := [3]) (by kernel_rfl) (by simp) ?_
          refine AllReadyIn.cons rfl (fun K hK => ?_) ?_
          · go_simp
            refine hK _ _ ?_
            clear hK K
            refine wpAnyIn_done (by kernel_rfl) ?_ _
            rename_i K1 hK1
            refine hK1 _ _ ?_
            gi_wp2
            obtain ⟨q1, q2, q3⟩ := scan_close (tmps := #[Value.slice A0 l0.length c0, undef, .pointer (some ⟨z, 0, none⟩), .pointer (some ⟨z + 1, 0, none⟩), undef, undef, .slice A0 l0.length c0, .func (.func 63) #[] #[.pointer (some ⟨z + 2, 0, none⟩)], undef, undef, undef, undef, undef, undef, undef, .slice Av xs.length cv, .int .i64 r2]) HZ.out (by omega) hK HS.out HV.out HG.out HB.out rfl rfl
            rw [List.length_map] at q1 q2 q3
            rw [hS2, he2] at q1 q2 q3
            refine ⟨by simp, .inl ⟨_, _, rfl, run_takeDeferred (show _ = some (Obj.deferred (some [])) from ?_), ?_⟩⟩
            · show ((X.setCell ⟨z, 0, none⟩ (.slice Av xs.length cv)).setCell ⟨z + 1, 0, none⟩ (.int .i64 r2)).heap[D]? = _
              rw [Below.heap_setCell _ _ _ _ (by show D ≠ z + 1; omega), Below.heap_setCell _ _ _ _ (by show D ≠ z; omega)]
              exact hK
            · have hr1 : xs.map toFrame = r1 := by rw [← he1, ← hS1, List.map_map]; rfl
              rw [hr1] at q2
              exact ⟨_, q1, _, rfl, q2, q3⟩
          exact AllReadyIn.nil
        exact AllReadyIn.nil
      exact AllReadyIn.nil
    exact AllReadyIn.nil
end


end Go.Proofs.Ythphelbkfgbejaa.Q
