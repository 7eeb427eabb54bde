/- A range over a function whose iterator writes cells of its own: the statement's law and the iterator's word, at the wide fence, over numbers. The caller speaks of blocks below the loop's own alone. -/
import Derived.RangeFuncNested
import Derived.RangeFuncBound
import Derived.RangeFuncCalls
import Derived.RangeFuncLeaves
import Derived.Shelf.Abstract
import Derived.WalkKit
import Derived.OwnWalkIn
import Derived.TacticsInMore
import Derived.LoopNIn
import Derived.LoopIn
import Derived.Below
namespace Go.Proofs.Ytjabbppmkepgdaa.Rf
open Go.RowKit Go.Shelf
set_option linter.unusedVariables false
variable {P : Program} {n : Nat}

/-- What it tells of a world, it tells of each that keeps all below B. -/
def Stable {β : Type} (B : Nat) (J : β → World → Prop) : Prop := ∀ s W W', J s W → Below B W W' → J s W'

/-- Every block of W but number l is as it was. -/
def But (l : Nat) (W W' : World) : Prop := W.heap.size ≤ W'.heap.size ∧ ∀ k, k ≠ l → k < W.heap.size → W'.heap[k]? = W.heap[k]?

/-- The iterator's word: it hands on the numbers xs, one behind the other, until a round says 'no more'. -/
def Word (n : Nat) (P : Program) (g : Nat) (lb : Array Value) (xs : List Int) (w : World) : Prop :=
  ∀ (l : Nat) (J : List Int → World → Prop) (Jx : Unit → World → Prop) (W : World), l < W.heap.size → Below w.heap.size w W → Stable W.heap.size J → Stable W.heap.size Jx →
    (∀ pre x W1, J pre W1 → pre ++ [x] <+: xs → YieldAt Fence.wide (n - 1) P l #[.int .i64 x] W1 fun e W' =>
      (e = .returned (.bool true) ∧ J (pre ++ [x]) W' ∧ But l W1 W') ∨ (e = .returned (.bool false) ∧ Jx () W')) →
    J [] W →
    CallsIn Fence.wide n P g (#[.func (.yield l) #[] #[]] ++ lb) W fun e W' => (∃ v, e = .returned v) ∧ (J xs W' ∨ Jx () W')

def bodyEnds (N : Nat) (I : List Int → World → Prop) (Ix : Unit → World → Prop) (xs : List Int) (W : World) : Exit → Act → World → Prop
  | .normal, _, W' => Below W.heap.size W W' ∧ I xs W'
  | .ret, _, W' => W.heap.size ≤ W'.heap.size ∧ (∀ k, N ≤ k → k < W.heap.size → W'.heap[k]? = W.heap[k]?) ∧ Ix () W'
  | _, _, _ => False

theorem below_put {B : Nat} {W : World} {l : Nat} (o : Obj) (hl : B ≤ l) (h : l < W.heap.size) : Below B W (W.putObj l o) :=
  (Below.refl B W).grown (grownBy_putObj' W l o) (by omega) (fun k e => by cases e; omega)

theorem wpIn_range {g : Operand} {ps : Array Tmp} {assign body : Code} {Q : Exit → Act → World → Prop} {a : Act} {w : World} {gf : Nat} {lb : Array Value}
    (hg : a.eval g = .func (.func gf) #[] lb) (eg : ∀ args w, (callFunc gf args).run P w = .ok (.enter gf args) w) {xs : List Int} (hseq : Word (n - 1) P gf lb xs w) (hps : ps.size = 1)
    (I : List Int → World → Prop) (Ix : Unit → World → Prop) (hI : Stable w.heap.size I) (hIx : Stable w.heap.size Ix) (h0 : I [] w) (a₁ : Int → Act)
    (hassign : ∀ (l : Nat) (x : Int) (W : World) (K : Act → World → Prop), K (a₁ x) W →
      assign.wpIn (Fence.wide.inRound l) (n - 1 - 1) P (Exit.then K (fun _ _ _ => False)) { tmps := (ps.zip #[.int .i64 x]).foldl (fun t (p, v) => t.setIfInBounds p v) a.tmps, defers := [] } W)
    (hbody : ∀ (l : Nat) (pre : List Int) (x : Int) (W : World), w.heap.size ≤ W.heap.size → I pre W → pre ++ [x] <+: xs → body.wpIn (Fence.wide.inRound l) (n - 1 - 1) P (bodyEnds w.heap.size I Ix (pre ++ [x]) W) (a₁ x) W)
    (hdone : ∀ (W : World), w.heap.size < W.heap.size → I xs W → W.heap[w.heap.size]? = some (.deferred (some [])) → Q .normal { a with defers := { target := .collected w.heap.size, args := #[] } :: a.defers } W)
    (hstop : ∀ (W : World), w.heap.size < W.heap.size → Ix () W → W.heap[w.heap.size]? = some (.deferred (some [])) → Code.ret.wpIn Fence.wide n P Q { a with defers := { target := .collected w.heap.size, args := #[] } :: a.defers } W) :
    (Code.rangeFunc g ps assign body).wpIn Fence.wide n P Q a w := by
  refine wpIn_rangeFunc ?_
  intro fn hfn
  obtain ⟨rec, hrec⟩ : ∃ rec : LoopState → Option Code → Loop, rec = fun st pe => { state := st, pending := pe, fn, tmps := a.tmps, params := ps, assign, body, defers := w.heap.size } := ⟨_, rfl⟩
  obtain ⟨W1, hW1⟩ : ∃ W1, (w.alloc (.deferred (some []))).alloc (.loop (rec .ready none)) = W1 := ⟨_, rfl⟩
  have hs1 : W1.heap.size = w.heap.size + 2 := by rw [← hW1, World.size_alloc, World.size_alloc]
  have hL1 : W1.heap[w.heap.size + 1]? = some (.loop (rec .ready none)) := by
    rw [← hW1]; have := World.alloc_heap_new (w.alloc (.deferred (some []))) (.loop (rec .ready none)); rwa [World.size_alloc] at this
  have hK1 : W1.heap[w.heap.size]? = some (.deferred (some [])) := by
    rw [← hW1]; exact (Below.heap_alloc _ _ _ (by simp)).trans (World.alloc_heap_new w _)
  have hb1 : Below w.heap.size w W1 := by
    rw [← hW1]; exact ((Below.refl _ w).alloc (Nat.le_refl _) _).alloc (by simp) _
  refine ⟨w.heap.size + 1, [{ target := .collected w.heap.size, args := #[] }], W1, { target := .fn (.func gf) lb, args := #[.func (.yield (w.heap.size + 1)) #[] #[]] }, W1, gf,
    #[.func (.yield (w.heap.size + 1)) #[] #[]] ++ lb, W1, ?_, ?_, fun _ _ => trivial, ?_, fun h => by simp [Fence.wide] at h, ?_⟩
  · rw [← hW1, hrec]; exact run_enterLoop_outer _ _ _ _ _
  · simp only [resolve, hg]
    simp [go_sem]
  · simp [invoke, go_sem, eg]
  · refine (hseq (w.heap.size + 1)
      (fun pre W => w.heap.size + 2 ≤ W.heap.size ∧ I pre W ∧ W.heap[w.heap.size + 1]? = some (.loop (rec .ready none)) ∧ W.heap[w.heap.size]? = some (.deferred (some [])))
      (fun _ W => w.heap.size + 2 ≤ W.heap.size ∧ Ix () W ∧ W.heap[w.heap.size + 1]? = some (.loop (rec .done (some .ret))) ∧ W.heap[w.heap.size]? = some (.deferred (some [])))
      W1 (by omega) hb1
      (fun s A B hs hb => ⟨by have := hb.size; have := hs.1; omega, hI s A B hs.2.1 (hb.mono (by omega)), (hb.block _ (by omega)).trans hs.2.2.1, (hb.block _ (by omega)).trans hs.2.2.2⟩)
      (fun s A B hs hb => ⟨by have := hb.size; have := hs.1; omega, hIx s A B hs.2.1 (hb.mono (by omega)), (hb.block _ (by omega)).trans hs.2.2.1, (hb.block _ (by omega)).trans hs.2.2.2⟩)
      ?_ ⟨by omega, hI _ _ _ h0 hb1, hL1, hK1⟩).mono ?_
    · rintro pre x W ⟨hz, hi, hl, hk⟩ hlen
      have hy := run_yield (P := P) (args := #[.int .i64 x]) hl (by rw [hrec]; exact hps.symm)
      rw [hrec] at hy
      refine ⟨fn, _, assign, body, hy, roundIn_of_wpIn hfn (hassign _ x W _ ⟨_, run_beginRound hl (by rw [hrec]), ?_⟩)⟩
      obtain ⟨W2, hW2⟩ : ∃ W2, W.putObj (w.heap.size + 1) (.loop { rec .ready none with state := .busy }) = W2 := ⟨_, rfl⟩
      rw [hW2]
      have hb2 : Below w.heap.size W W2 := by rw [← hW2]; exact below_put _ (by omega) (by omega)
      have hz2 : w.heap.size + 2 ≤ W2.heap.size := by have := hb2.size; omega
      have hl2 : W2.heap[w.heap.size + 1]? = some (.loop { rec .ready none with state := .busy }) := by rw [← hW2]; exact World.putObj_heap_same (by omega)
      have hk2 : W2.heap[w.heap.size]? = some (.deferred (some [])) := by rw [← hW2]; exact (World.putObj_heap_other (by omega)).trans hk
      have ho2 : ∀ k, k ≠ w.heap.size + 1 → W2.heap[k]? = W.heap[k]? := fun k hk => by rw [← hW2]; exact World.putObj_heap_other hk
      refine wpIn_mono (hbody _ pre x _ (by omega) (hI _ _ _ hi hb2) hlen) ?_
      rintro e a3 W3 hp
      cases e with
      | normal =>
        obtain ⟨hb3, hi3⟩ := hp
        have hl3 := (hb3.block (w.heap.size + 1) (by omega)).trans hl2
        have hk3 := (hb3.block (w.heap.size) (by omega)).trans hk2
        have hz3 := hb3.size
        have hr := run_endRound (P := P) none hl3
        rw [hrec] at hr
        obtain ⟨W4, hW4⟩ : ∃ W4, W3.putObj (w.heap.size + 1) (.loop (rec .ready none)) = W4 := ⟨_, rfl⟩
        have hb4 : Below w.heap.size W3 W4 := by rw [← hW4]; exact below_put _ (by omega) (by omega)
        refine ⟨_, W4, by rw [← hW4, hrec]; exact hr, .inl ⟨rfl, ⟨by have := hb4.size; omega, hI _ _ _ hi3 hb4, by rw [← hW4]; exact World.putObj_heap_same (by omega), by rw [← hW4]; exact (World.putObj_heap_other (by omega)).trans hk3⟩, ?_⟩⟩
        refine ⟨by have := hb4.size; have := hb2.size; omega, fun k h1 h2 => ?_⟩
        have e1 : W4.heap[k]? = W3.heap[k]? := by rw [← hW4]; exact World.putObj_heap_other h1
        exact e1.trans ((hb3.block k (by have := hb2.size; omega)).trans (ho2 k h1))
      | ret =>
        obtain ⟨hz3, hk3, hi3⟩ := hp
        have hl4 := (hk3 (w.heap.size + 1) (by omega) (by omega)).trans hl2
        have hk4 := (hk3 w.heap.size (by omega) (by omega)).trans hk2
        have hr := run_endRound (P := P) (some .ret) hl4
        rw [hrec] at hr
        obtain ⟨W4, hW4⟩ : ∃ W4, W3.putObj (w.heap.size + 1) (.loop (rec .done (some .ret))) = W4 := ⟨_, rfl⟩
        have hb4 : Below w.heap.size W3 W4 := by rw [← hW4]; exact below_put _ (by omega) (by omega)
        exact ⟨_, W4, by rw [← hW4, hrec]; exact hr, .inr ⟨rfl, by have := hb4.size; omega, hIx _ _ _ hi3 hb4, by rw [← hW4]; exact World.putObj_heap_same (by omega), by rw [← hW4]; exact (World.putObj_heap_other (by omega)).trans hk4⟩⟩
      | exit id => exact hp.elim
      | goto t => exact hp.elim
      | panic ch => exact hp.elim
      | outgrown => exact hp.elim
    · rintro e W2 ⟨⟨v, rfl⟩, (⟨hz, hi, hl, hk⟩ | ⟨hz, hi, hl, hk⟩)⟩
      · have hr := run_endLoop (P := P) hl (by rw [hrec]; simp)
        rw [hrec] at hr
        refine ⟨none, _, hr, ?_⟩
        have hb : Below w.heap.size W2 (W2.putObj (w.heap.size + 1) (.loop { state := .exhausted, pending := none, fn, tmps := a.tmps, params := ps, assign, body, defers := w.heap.size })) := below_put _ (by omega) (by omega)
        exact hdone _ (Nat.lt_of_lt_of_le (show w.heap.size < W2.heap.size by omega) hb.size) (hI _ _ _ hi hb) ((World.putObj_heap_other (by omega)).trans hk)
      · have hr := run_endLoop (P := P) hl (by rw [hrec]; simp)
        rw [hrec] at hr
        refine ⟨some .ret, _, hr, ?_⟩
        have hb : Below w.heap.size W2 (W2.putObj (w.heap.size + 1) (.loop { state := .exhausted, pending := some .ret, fn, tmps := a.tmps, params := ps, assign, body, defers := w.heap.size })) := below_put _ (by omega) (by omega)
        exact hstop _ (Nat.lt_of_lt_of_le (show w.heap.size < W2.heap.size by omega) hb.size) (hIx _ _ _ hi hb) ((World.putObj_heap_other (by omega)).trans hk)
end Go.Proofs.Ytjabbppmkepgdaa.Rf
