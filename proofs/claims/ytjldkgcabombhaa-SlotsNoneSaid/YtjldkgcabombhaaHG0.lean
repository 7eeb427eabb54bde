/- block.File as Lean sees it, and the contracts of Size, New and the closure of may. -/
import Derived.Test.YtjldkgcabombhaaProg
import Derived.Below
import Derived.Deep.Draws
import Derived.OwnWalk
import Derived.Tactics
import Derived.WalkKit
import Derived.WalkSpells
import Derived.WalkLawsBesides
import Derived.KernelRfl
import Derived.RowKit3
import Derived.Deep.LoopGhost
import Derived.Deep.QuietTactic
import Derived.BigQuiet
import Derived.WideLaws
import Derived.Deep.DeepCutAuto
import Derived.Deep.CutBlock
import Derived.Deep.RegionHeld3
import Derived.Lib.Hide
import Derived.IntWalk
import Derived.Outline
import Derived.Test.YtjldkgcabombhaaWWords
import Derived.Test.YtjldkgcabombhaaWLast
import Derived.Test.YtjldkgcabombhaaWMore
import Derived.Laws.CopyRow
import Derived.Test.YtjldkgcabombhaaHC
namespace Go.Proofs.Ytjldkgcabombhaa
open Go.RowKit Go.Proofs.YtjldkgcabombhaaW.PrintWords Go.Proofs.YtjldkgcabombhaaW.PrintLast Go.Proofs.YtjldkgcabombhaaW.PrintMore
set_option linter.unusedVariables false
set_option linter.unusedSimpArgs false

/-- A file: its 4096 bytes, and its five cells. -/
structure Fs where
  b : List Int
  size : Int
  set : Bool
  pre : Int
  down : Bool
  wr : Int
def Fs.tail (s : Fs) : List Value := [.int .i64 s.size, .bool s.set, .int .i64 s.pre, .bool s.down, .int .i64 s.wr]
def Fs.cells (s : Fs) : Array Value := (nums .u8 s.b ++ s.tail).toArray
def Fs.new (size : Int) : Fs := ⟨List.replicate 4096 0, size, false, 0, false, 0⟩
theorem Fs.zero : (Try.prog.info? 101).map (fun i => (i.zero, i.size, i.bytes)) = some (some (.agg (Fs.new 0).cells), 4101, 4136) := by kernel_rfl
/-- The file lies in block g. -/
def Fs.At (s : Fs) (w : World) (g : Nat) : Prop := w.heap[g]? = some (.cells s.cells 101 (0, 0)) ∧ s.b.length = 4096
theorem Fs.cell_tail {s : Fs} {w : World} {g : Nat} (h : s.At w g) (i : Nat) : w.cell? ⟨g, 4096 + i, none⟩ = s.tail[i]? := by
  rw [blk_cell h.1]
  unfold Fs.cells
  have hl : (nums .u8 s.b).length = 4096 := by simp [nums, h.2]
  rw [List.getElem?_toArray, List.getElem?_append_right (by omega), hl, Nat.add_sub_cancel_left]
theorem Fs.c_size {s : Fs} {w : World} {g : Nat} (h : s.At w g) : w.cell? ⟨g, 4096, none⟩ = some (.int .i64 s.size) := Fs.cell_tail h 0
theorem Fs.c_set {s : Fs} {w : World} {g : Nat} (h : s.At w g) : w.cell? ⟨g, 4097, none⟩ = some (.bool s.set) := Fs.cell_tail h 1
theorem Fs.c_pre {s : Fs} {w : World} {g : Nat} (h : s.At w g) : w.cell? ⟨g, 4098, none⟩ = some (.int .i64 s.pre) := Fs.cell_tail h 2
theorem Fs.c_down {s : Fs} {w : World} {g : Nat} (h : s.At w g) : w.cell? ⟨g, 4099, none⟩ = some (.bool s.down) := Fs.cell_tail h 3
theorem Fs.c_wr {s : Fs} {w : World} {g : Nat} (h : s.At w g) : w.cell? ⟨g, 4100, none⟩ = some (.int .i64 s.wr) := Fs.cell_tail h 4
theorem Fs.put_tail {s s' : Fs} {w : World} {g : Nat} (h : s.At w g) (i : Nat) (v : Value) (hb : s'.b = s.b) (ht : s.tail.set i v = s'.tail) : s'.At (w.setCell ⟨g, 4096 + i, none⟩ v) g := by
  refine ⟨?_, by rw [hb]; exact h.2⟩
  have hl : (nums .u8 s.b).length = 4096 := by simp [nums, h.2]
  refine blk_put h.1 _ _ ?_
  unfold Fs.cells
  rw [List.setIfInBounds_toArray, List.set_append_right _ _ (by omega), hl, Nat.add_sub_cancel_left, ht, hb]
theorem Fs.below {s : Fs} {w w1 : World} {g : Nat} (h : s.At w g) (hb : Below w.heap.size w w1) : s.At w1 g := ⟨blk_below h.1 hb, h.2⟩

set_option maxHeartbeats 8000000 in
set_option maxRecDepth 100000 in
theorem Fs.size_nil (w : World) : Calls Try.prog 43 #[.pointer none] w fun e w' => e = .returned (.int .i64 0) ∧ w' = w := by
  go_enter Try.func43, Try.ntmps43
  go_wp2
  go_ret
  exact ⟨rfl, rfl⟩
set_option maxHeartbeats 8000000 in
set_option maxRecDepth 100000 in
theorem Fs.size_calls {s : Fs} {w : World} {g : Nat} (h : s.At w g) : Calls Try.prog 43 #[.pointer (some ⟨g, 0, none⟩)] w fun e w' => e = .returned (.int .i64 s.size) ∧ w' = w := by
  have hu := Try.underlying101
  have c0 := Fs.c_size h
  clear h
  go_enter Try.func43, Try.ntmps43
  go_wp2
  go_ret
  exact ⟨rfl, rfl⟩
theorem Fs.build (size : Int) : Try.zeroCells101.setIfInBounds 4096 (.int .i64 size) = (Fs.new size).cells := by kernel_rfl
set_option maxHeartbeats 8000000 in
set_option maxRecDepth 100000 in
theorem Fs.new_bad (size : Int) (w : World) (h : size < 1 ∨ 4096 < size) : Calls Try.prog 30 #[.int .i64 size] w fun e w' => e = .returned (.tuple #[.pointer none, .int .i64 2]) ∧ w' = w := by
  rcases Int.lt_or_le size 1 with c | c
  · have d1 : decide (size < 1) = true := decide_eq_true c
    go_enter Try.func30, Try.ntmps30
    go_wp2
    go_ret2
    exact ⟨rfl, rfl⟩
  · have d1 : decide (size < 1) = false := decide_eq_false (by omega)
    have d2 : decide (4096 < size) = true := decide_eq_true (by omega)
    go_enter Try.func30, Try.ntmps30
    go_wp2
    go_ret2
    exact ⟨rfl, rfl⟩
set_option maxHeartbeats 8000000 in
set_option maxRecDepth 100000 in
theorem Fs.new_calls (size : Int) (w : World) (h : 1 ≤ size ∧ size ≤ 4096) : Calls Try.prog 30 #[.int .i64 size] w fun e w' => e = .returned (.tuple #[.pointer (some ⟨w.heap.size, 0, none⟩), .int .i64 0]) ∧ (Fs.new size).At w' w.heap.size ∧ Below w.heap.size w w' := by
  have d1 : decide (size < 1) = false := decide_eq_false (by omega)
  have d2 : decide (4096 < size) = false := decide_eq_false (by omega)
  clear h
  go_enter Try.func30, Try.ntmps30
  go_wp2
  go_ret2
  exact ⟨rfl, ⟨by rw [← Fs.build]; exact blk_new w _, by simp [Fs.new]⟩, below_alloc (Below.refl _ _) _⟩

/-! ### the closure of may -/
def Fs.inn (s : Fs) (x : Int) : Bool := decide (0 ≤ x) && decide (x ≤ s.size)
set_option maxHeartbeats 8000000 in
set_option maxRecDepth 100000 in
theorem Fs.in_calls {s : Fs} {w : World} {g b : Nat} (x : Int) (h : s.At w g) (hb : w.cell? ⟨b, 0, none⟩ = some (.pointer (some ⟨g, 0, none⟩))) :
    Calls Try.prog 69 #[.int .i64 x, .pointer (some ⟨b, 0, none⟩)] w fun e w' => e = .returned (.bool (s.inn x)) ∧ Below w.heap.size w w' := by
  have hu := Try.underlying101
  have c0 := Fs.c_size h
  clear h
  unfold Fs.inn
  by_cases c : 0 ≤ x
  · have d1 : decide (0 ≤ x) = true := decide_eq_true c
    rw [d1]
    go_enter Try.func69, Try.ntmps69
    go_wp2
    go_ret
    exact ⟨rfl, by first | exact Below.refl _ _ | exact below_drew1 (Below.refl _ _)⟩
  · have d1 : decide (0 ≤ x) = false := decide_eq_false c
    rw [d1]
    go_enter Try.func69, Try.ntmps69
    go_wp2
    go_ret
    exact ⟨rfl, by first | exact Below.refl _ _ | exact below_drew1 (Below.refl _ _)⟩
end Go.Proofs.Ytjldkgcabombhaa
