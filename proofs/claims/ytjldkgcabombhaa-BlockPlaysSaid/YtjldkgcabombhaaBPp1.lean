/- The document's file as Lean sees it, and the contracts of its Crash, Read and Copy, walked by hand. -/
import Derived.Test.YtjldkgcabombhaaProg
import Derived.Below
import Derived.Deep.Draws
import Derived.OwnWalk
import Derived.Tactics
import Derived.WalkKit
import Derived.WalkSpells
import Derived.WalkLawsBesides
import Derived.KernelRfl
import Derived.RowKit3
import Derived.Deep.LoopGhost
import Derived.Deep.QuietTactic
import Derived.BigQuiet
import Derived.WideLaws
import Derived.Deep.DeepCutAuto
import Derived.Deep.CutBlock
import Derived.Deep.RegionHeld3
import Derived.Lib.Hide
import Derived.IntWalk
import Derived.Outline
import Derived.Test.YtjldkgcabombhaaWWords
import Derived.Test.YtjldkgcabombhaaWLast
import Derived.Test.YtjldkgcabombhaaWMore
import Derived.Deep.RegionWith
import Derived.Laws.Rows
import Derived.Lib.Strings
import Derived.Lib.IndexBytes
import Derived.Test.YtjldkgcabombhaaBPp0
import Derived.Deep.AppendLies
import Derived.Maps.AppendAt
import Derived.Laws.BytesArg
import Derived.Laws.MakeOwn
import Derived.Laws.OwnMore
import Derived.Deep.OwnRows
import Derived.Lib.ConvBytes
import Derived.Laws.Slices
import Derived.Lib.AppendStr
import Derived.ArgAppend
import Derived.Laws.IdiomCopy
import Derived.OrdersHeld
import Derived.Laws.BitsLemmas
import Derived.RowKit
import Derived.Test.YtjldkgcabombhaaWTab
import Derived.Test.YtjldkgcabombhaaWFour
import Derived.Test.YtjldkgcabombhaaWQPut
import Derived.Test.YtjldkgcabombhaaWApart
import Derived.Test.YtjldkgcabombhaaWArr
import Derived.Test.YtjldkgcabombhaaWZeros
import Derived.Test.YtjldkgcabombhaaWFoot
import Derived.Test.YtjldkgcabombhaaWKept
import Derived.Test.YtjldkgcabombhaaWShare
import Derived.Test.YtjldkgcabombhaaWN
import Derived.Test.YtjldkgcabombhaaWFootNe
import Derived.Test.YtjldkgcabombhaaWAt
import Derived.Test.YtjldkgcabombhaaWEqStruct
import Derived.Test.YtjldkgcabombhaaWRepsOne
import Derived.Test.YtjldkgcabombhaaWInv
import Derived.Test.YtjldkgcabombhaaWInvWords
import Derived.Test.YtjldkgcabombhaaWGuard
import Derived.Test.YtjldkgcabombhaaWNEv
namespace Go.Proofs.Ytjldkgcabombhaa
open Go.RowKit Go.Proofs.YtjldkgcabombhaaW.PrintWords Go.Proofs.YtjldkgcabombhaaW.PrintLast Go.Proofs.YtjldkgcabombhaaW.PrintMore
set_option linter.unusedVariables false
set_option linter.unusedSimpArgs false

/-! ### strings of numbers -/
theorem Dz.bext {s t : ByteArray} (h : s.data.toList = t.data.toList) : s = t := by
  obtain ⟨⟨l⟩⟩ := s
  obtain ⟨⟨m⟩⟩ := t
  obtain rfl : l = m := h
  rfl
theorem Dz.sub (xs : List Int) (a b : Nat) : (strOfNums xs).extract a b = strOfNums ((xs.drop a).take (b - a)) := by
  refine Dz.bext ?_
  rw [Lib.extract_data, strOfNums_data, strOfNums_data, List.map_take, List.map_drop]
theorem Dz.app (xs ys : List Int) : strOfNums xs ++ strOfNums ys = strOfNums (xs ++ ys) := by
  refine Dz.bext ?_
  rw [ByteArray.data_append, Array.toList_append, strOfNums_data, strOfNums_data, strOfNums_data, List.map_append]

/-- The document's file. -/
structure Dz where
  b : List Int
  set : Bool
  pre : Int
  down : Bool
  wr : Int
def Dz.cells (d : Dz) : Array Value := #[.string (strOfNums d.b), .bool d.set, .int .i64 d.pre, .bool d.down, .int .i64 d.wr]
def Dz.At (d : Dz) (w : World) (g : Nat) : Prop := w.heap[g]? = some (.cells d.cells 67 (0, 0))
theorem Dz.below {d : Dz} {w w1 : World} {g : Nat} (h : d.At w g) (hb : Below w.heap.size w w1) : d.At w1 g := blk_below h hb
theorem Dz.c_b {d : Dz} {w : World} {g : Nat} (h : d.At w g) : w.cell? ⟨g, 0, none⟩ = some (.string (strOfNums d.b)) := blk_cell h 0
theorem Dz.c_set {d : Dz} {w : World} {g : Nat} (h : d.At w g) : w.cell? ⟨g, 1, none⟩ = some (.bool d.set) := blk_cell h 1
theorem Dz.c_pre {d : Dz} {w : World} {g : Nat} (h : d.At w g) : w.cell? ⟨g, 2, none⟩ = some (.int .i64 d.pre) := blk_cell h 2
theorem Dz.c_down {d : Dz} {w : World} {g : Nat} (h : d.At w g) : w.cell? ⟨g, 3, none⟩ = some (.bool d.down) := blk_cell h 3
theorem Dz.c_wr {d : Dz} {w : World} {g : Nat} (h : d.At w g) : w.cell? ⟨g, 4, none⟩ = some (.int .i64 d.wr) := blk_cell h 4
theorem Dz.put {d d' : Dz} {w : World} {g : Nat} (h : d.At w g) (i : Nat) (v : Value) (ht : d.cells.setIfInBounds i v = d'.cells) : d'.At (w.setCell ⟨g, i, none⟩ v) g := blk_put h i v ht

/-! ### Crash -/
def Dz.crash (d : Dz) (p : Int) : Dz := {d with set := true, pre := p}
set_option maxHeartbeats 400000 in
set_option maxRecDepth 100000 in
theorem Dz.crash_down {d : Dz} {w : World} {g : Nat} (p : Int) (h : d.At w g) (hd : d.down = true) : Calls Try.prog 37 #[.pointer (some ⟨g, 0, none⟩), .int .i64 p] w fun e w' => e = .returned (.int .i64 10) ∧ w' = w := by
  have hu := Try.underlying67
  have c3 := Dz.c_down h
  rw [hd] at c3
  clear h
  go_enter Try.func37, Try.ntmps37
  go_wp2
  go_ret
  exact ⟨rfl, rfl⟩
set_option maxHeartbeats 400000 in
set_option maxRecDepth 100000 in
theorem Dz.crash_neg {d : Dz} {w : World} {g : Nat} (p : Int) (h : d.At w g) (hd : d.down = false) (hp : p < 0) : Calls Try.prog 37 #[.pointer (some ⟨g, 0, none⟩), .int .i64 p] w fun e w' => e = .returned (.int .i64 2) ∧ w' = w := by
  have hu := Try.underlying67
  have c3 := Dz.c_down h
  rw [hd] at c3
  have d1 : decide (p < 0) = true := decide_eq_true hp
  clear h hp
  go_enter Try.func37, Try.ntmps37
  go_wp2
  go_ret
  exact ⟨rfl, rfl⟩
set_option maxHeartbeats 400000 in
set_option maxRecDepth 100000 in
theorem Dz.crash_ok {d : Dz} {w : World} {g : Nat} (p : Int) (h : d.At w g) (hd : d.down = false) (hp : 0 ≤ p) : Calls Try.prog 37 #[.pointer (some ⟨g, 0, none⟩), .int .i64 p] w fun e w' => e = .returned (.int .i64 0) ∧ (d.crash p).At w' g ∧ Fs.Fr g w w' := by
  have hu := Try.underlying67
  have HA := Aside0.mk h
  have c1 := Dz.c_set h
  have c2 := Dz.c_pre h
  have c3 := Dz.c_down h
  rw [hd] at c3
  have f1 := blk_frozen h 1
  have f2 := blk_frozen h 2
  have d1 : decide (p < 0) = false := decide_eq_false (by omega)
  clear h hp
  go_enter Try.func37, Try.ntmps37
  go_wp2
  go_ret
  exact ⟨rfl, Dz.put (d := {d with set := true}) (d' := d.crash p) (Dz.put (d := d) (d' := {d with set := true}) HA.out 1 (.bool true) rfl) 2 (.int .i64 p) rfl, Fs.fr_set (Fs.fr_set (Fs.fr_refl g w) _ _) _ _⟩

/-! ### Read -/
def Dz.may (d : Dz) (at' n : Int) : Int := if d.down = true then 10 else if at' < 0 then 2 else if n < 0 then 2 else if (d.b.length : Int) < at' then 2 else if wrap64 ((d.b.length : Int) - at') < n then 2 else 0
theorem Dz.may_zero {d : Dz} {at' n : Int} (hl : d.b.length ≤ 4096) (h : d.may at' n = 0) : d.down = false ∧ 0 ≤ at' ∧ 0 ≤ n ∧ at' + n ≤ d.b.length := by
  unfold Dz.may at h
  cases hd : d.down with
  | true => rw [hd, if_pos rfl] at h; exact absurd h (by decide)
  | false =>
    rw [hd, if_neg (by decide)] at h
    by_cases c1 : at' < 0
    · rw [if_pos c1] at h; exact absurd h (by decide)
    rw [if_neg c1] at h
    by_cases c2 : n < 0
    · rw [if_pos c2] at h; exact absurd h (by decide)
    rw [if_neg c2] at h
    by_cases c3 : (d.b.length : Int) < at'
    · rw [if_pos c3] at h; exact absurd h (by decide)
    rw [if_neg c3] at h
    rw [Rc.w64 _ (by omega)] at h
    by_cases c4 : (d.b.length : Int) - at' < n
    · rw [if_pos c4] at h; exact absurd h (by decide)
    exact ⟨rfl, by omega, by omega, by omega⟩
set_option maxHeartbeats 400000 in
set_option maxRecDepth 100000 in
theorem Dz.read_0 {d : Dz} {w : World} {g : Nat} (at' n : Int) (h : d.At w g) (hd : d.down = true) : Calls Try.prog 35 #[.pointer (some ⟨g, 0, none⟩), .int .i64 at', .int .i64 n] w fun e w' => e = .returned (.tuple #[.string ByteArray.empty, .int .i64 10]) ∧ w' = w := by
  have hu := Try.underlying67
  have c0 := Dz.c_b h
  have c3 := Dz.c_down h
  rw [hd] at c3
  have hz : (strOfNums d.b).size = d.b.length := strOfNums_size _
  clear h
  go_enter Try.func35, Try.ntmps35
  go_wp2
  go_ret2
  exact ⟨rfl, rfl⟩
set_option maxHeartbeats 400000 in
set_option maxRecDepth 100000 in
theorem Dz.read_1 {d : Dz} {w : World} {g : Nat} (at' n : Int) (h : d.At w g) (hd : d.down = false) (k1 : at' < 0) : Calls Try.prog 35 #[.pointer (some ⟨g, 0, none⟩), .int .i64 at', .int .i64 n] w fun e w' => e = .returned (.tuple #[.string ByteArray.empty, .int .i64 2]) ∧ w' = w := by
  have hu := Try.underlying67
  have c0 := Dz.c_b h
  have c3 := Dz.c_down h
  rw [hd] at c3
  have hz : (strOfNums d.b).size = d.b.length := strOfNums_size _
  have d1 : decide (at' < 0) = true := decide_eq_true k1
  clear k1
  clear h
  go_enter Try.func35, Try.ntmps35
  go_wp2
  go_ret2
  exact ⟨rfl, rfl⟩
set_option maxHeartbeats 400000 in
set_option maxRecDepth 100000 in
theorem Dz.read_2 {d : Dz} {w : World} {g : Nat} (at' n : Int) (h : d.At w g) (hd : d.down = false) (k1 : ¬ at' < 0) (k2 : n < 0) : Calls Try.prog 35 #[.pointer (some ⟨g, 0, none⟩), .int .i64 at', .int .i64 n] w fun e w' => e = .returned (.tuple #[.string ByteArray.empty, .int .i64 2]) ∧ w' = w := by
  have hu := Try.underlying67
  have c0 := Dz.c_b h
  have c3 := Dz.c_down h
  rw [hd] at c3
  have hz : (strOfNums d.b).size = d.b.length := strOfNums_size _
  have d1 : decide (at' < 0) = false := decide_eq_false k1
  have d2 : decide (n < 0) = true := decide_eq_true k2
  clear k1 k2
  clear h
  go_enter Try.func35, Try.ntmps35
  go_wp2
  go_ret2
  exact ⟨rfl, rfl⟩
set_option maxHeartbeats 400000 in
set_option maxRecDepth 100000 in
theorem Dz.read_3 {d : Dz} {w : World} {g : Nat} (at' n : Int) (h : d.At w g) (hd : d.down = false) (k1 : ¬ at' < 0) (k2 : ¬ n < 0) (k3 : (d.b.length : Int) < at') : Calls Try.prog 35 #[.pointer (some ⟨g, 0, none⟩), .int .i64 at', .int .i64 n] w fun e w' => e = .returned (.tuple #[.string ByteArray.empty, .int .i64 2]) ∧ w' = w := by
  have hu := Try.underlying67
  have c0 := Dz.c_b h
  have c3 := Dz.c_down h
  rw [hd] at c3
  have hz : (strOfNums d.b).size = d.b.length := strOfNums_size _
  have d1 : decide (at' < 0) = false := decide_eq_false k1
  have d2 : decide (n < 0) = false := decide_eq_false k2
  have d3 : decide ((d.b.length : Int) < at') = true := decide_eq_true k3
  clear k1 k2 k3
  clear h
  go_enter Try.func35, Try.ntmps35
  go_wp2
  go_ret2
  exact ⟨rfl, rfl⟩
set_option maxHeartbeats 400000 in
set_option maxRecDepth 100000 in
theorem Dz.read_4 {d : Dz} {w : World} {g : Nat} (at' n : Int) (h : d.At w g) (hd : d.down = false) (k1 : ¬ at' < 0) (k2 : ¬ n < 0) (k3 : ¬ (d.b.length : Int) < at') (k4 : wrap64 ((d.b.length : Int) - at') < n) : Calls Try.prog 35 #[.pointer (some ⟨g, 0, none⟩), .int .i64 at', .int .i64 n] w fun e w' => e = .returned (.tuple #[.string ByteArray.empty, .int .i64 2]) ∧ w' = w := by
  have hu := Try.underlying67
  have c0 := Dz.c_b h
  have c3 := Dz.c_down h
  rw [hd] at c3
  have hz : (strOfNums d.b).size = d.b.length := strOfNums_size _
  have d1 : decide (at' < 0) = false := decide_eq_false k1
  have d2 : decide (n < 0) = false := decide_eq_false k2
  have d3 : decide ((d.b.length : Int) < at') = false := decide_eq_false k3
  have d4 : decide (wrap64 ((d.b.length : Int) - at') < n) = true := decide_eq_true k4
  clear k1 k2 k3 k4
  clear h
  go_enter Try.func35, Try.ntmps35
  go_wp2
  go_ret2
  exact ⟨rfl, rfl⟩
theorem Dz.read_bad {d : Dz} {w : World} {g : Nat} (at' n : Int) (h : d.At w g) (hm : d.may at' n ≠ 0) : Calls Try.prog 35 #[.pointer (some ⟨g, 0, none⟩), .int .i64 at', .int .i64 n] w fun e w' => e = .returned (.tuple #[.string ByteArray.empty, .int .i64 (d.may at' n)]) ∧ w' = w := by
  unfold Dz.may at hm ⊢
  cases hd : d.down with
  | true => rw [if_pos rfl]; exact Dz.read_0 at' n h hd
  | false =>
    rw [hd, if_neg (by decide)] at hm
    rw [if_neg (by decide)]
    by_cases k1 : at' < 0
    · rw [if_pos k1]; exact Dz.read_1 at' n h hd k1
    rw [if_neg k1] at hm ⊢
    by_cases k2 : n < 0
    · rw [if_pos k2]; exact Dz.read_2 at' n h hd k1 k2
    rw [if_neg k2] at hm ⊢
    by_cases k3 : (d.b.length : Int) < at'
    · rw [if_pos k3]; exact Dz.read_3 at' n h hd k1 k2 k3
    rw [if_neg k3] at hm ⊢
    by_cases k4 : wrap64 ((d.b.length : Int) - at') < n
    · rw [if_pos k4]; exact Dz.read_4 at' n h hd k1 k2 k3 k4
    rw [if_neg k4] at hm
    exact absurd rfl hm
set_option maxHeartbeats 400000 in
set_option maxRecDepth 100000 in
theorem Dz.read_ok {d : Dz} {w : World} {g : Nat} (at' n : Int) (h : d.At w g) (hl : d.b.length ≤ 4096) (hm : d.may at' n = 0) : Calls Try.prog 35 #[.pointer (some ⟨g, 0, none⟩), .int .i64 at', .int .i64 n] w fun e w' => e = .returned (.tuple #[.string (strOfNums ((d.b.drop at'.toNat).take n.toNat)), .int .i64 0]) ∧ Below w.heap.size w w' := by
  obtain ⟨zd, z0, z1, z2⟩ := Dz.may_zero hl hm
  have hu := Try.underlying67
  have c0 := Dz.c_b h
  have c3 := Dz.c_down h
  rw [zd] at c3
  have hz : (strOfNums d.b).size = d.b.length := strOfNums_size _
  have hw1 := Rc.w64 ((d.b.length : Int) - at') (by omega)
  have hw2 := Rc.w64 (at' + n) (by omega)
  have d1 : decide (at' < 0) = false := decide_eq_false (by omega)
  have d2 : decide (n < 0) = false := decide_eq_false (by omega)
  have d3 : decide ((d.b.length : Int) < at') = false := decide_eq_false (by omega)
  have d4 : decide (wrap64 ((d.b.length : Int) - at') < n) = false := by rw [hw1]; exact decide_eq_false (by omega)
  have hsl : ∀ W, (Instr.slice 9 (.string (strOfNums d.b)) (some (.int .i64 at')) (some (.int .i64 (wrap64 (at' + n)))) none).run Try.prog W = .ok (.string (strOfNums ((d.b.drop at'.toNat).take n.toNat))) W := fun W => by
    rw [hw2, run_slice_string (P := Try.prog) (w := W) 9 (strOfNums d.b) .i64 .i64 at' (at' + n) Try.underlying9 (by omega) (by omega) (by rw [hz]; omega), Dz.sub]
    congr 4
    omega
  clear h hm zd z0 z1 z2 hw1 hw2 hl
  go_enter Try.func35, Try.ntmps35
  go_wp2
  go_ret2
  exact ⟨rfl, Below.refl _ _⟩
/-! ### Copy -/
set_option maxHeartbeats 400000 in
set_option maxRecDepth 100000 in
theorem Dz.copy_calls {d : Dz} {w : World} {g : Nat} (h : d.At w g) : Calls Try.prog 40 #[.pointer (some ⟨g, 0, none⟩)] w fun e w' => ∃ c : Nat, e = .returned (.pointer (some ⟨c, 0, none⟩)) ∧ d.At w' c ∧ Below w.heap.size w w' ∧ w.heap.size ≤ c := by
  have hu := Try.underlying67
  have c0 := Dz.c_b h
  have c1 := Dz.c_set h
  have c2 := Dz.c_pre h
  have c3 := Dz.c_down h
  have c4 := Dz.c_wr h
  clear h
  go_enter Try.func40, Try.ntmps40
  go_wp2
  go_ret
  exact ⟨_, rfl, blk_new w _, below_alloc (Below.refl _ _) _, Nat.le_refl _⟩
end Go.Proofs.Ytjldkgcabombhaa

/- The contract of the document's Write (ref25), walked by hand. -/
namespace Go.Proofs.Ytjldkgcabombhaa
open Go.RowKit Go.Proofs.YtjldkgcabombhaaW.PrintWords Go.Proofs.YtjldkgcabombhaaW.PrintLast Go.Proofs.YtjldkgcabombhaaW.PrintMore
set_option linter.unusedVariables false
set_option linter.unusedSimpArgs false

def Dz.lay (d : Dz) (l n : Nat) (xs : List Int) : Dz := {d with b := d.b.take l ++ xs ++ d.b.drop (l + n)}
def Dz.wrote (d : Dz) (l : Nat) (xs : List Int) : Dz := {d.lay l xs.length xs with wr := wrap64 (d.wr + 1)}
def Dz.torn (d : Dz) (l : Nat) (xs : List Int) : Dz := {d.lay l xs.length xs with set := false, down := true}
theorem Dz.to (d : Dz) (l : Int) (h0 : 0 ≤ l) (h1 : l ≤ d.b.length) (W : World) : (Instr.slice 9 (.string (strOfNums d.b)) none (some (.int .i64 l)) none).run Try.prog W = .ok (.string (strOfNums (d.b.take l.toNat))) W := by
  rw [run_slice_string_h (P := Try.prog) (w := W) (t := 9) (s := strOfNums d.b) (ht := Try.underlying9) (kh := .i64) (h := l) h0 (by rw [strOfNums_size]; exact h1), Dz.sub, List.drop_zero, Nat.sub_zero]
theorem Dz.from (d : Dz) (l : Int) (h0 : 0 ≤ l) (h1 : l ≤ d.b.length) (W : World) : (Instr.slice 9 (.string (strOfNums d.b)) (some (.int .i64 l)) none none).run Try.prog W = .ok (.string (strOfNums (d.b.drop l.toNat))) W := by
  rw [run_slice_string_l (P := Try.prog) (w := W) (t := 9) (s := strOfNums d.b) (ht := Try.underlying9) (kl := .i64) (l := l) h0 (by rw [strOfNums_size]; exact h1), Dz.sub, strOfNums_size, List.take_of_length_le (by rw [List.length_drop]; omega)]
theorem Dz.join (d : Dz) (l n : Nat) (xs : List Int) : strOfNums (d.b.take l) ++ strOfNums xs ++ strOfNums (d.b.drop (l + n)) = strOfNums (d.lay l n xs).b := by rw [Dz.app, Dz.app]; rfl

set_option maxHeartbeats 400000 in
set_option maxRecDepth 100000 in
theorem Dz.write_bad {d : Dz} {w : World} {g : Nat} (at' : Int) (A : Option Addr) (n c : Nat) (h : d.At w g) (hm : d.may at' n ≠ 0) : Calls Try.prog 33 #[.pointer (some ⟨g, 0, none⟩), .int .i64 at', .slice A n c] w fun e w' => e = .returned (.int .i64 (d.may at' n)) ∧ Below w.heap.size w w' := by
  obtain ⟨m, hme⟩ : ∃ m, d.may at' n = m := ⟨_, rfl⟩
  have HM := Aside0.mk (Dz.read_bad at' n h hm)
  rw [hme] at hm HM ⊢
  have d1 : (m != 0) = true := bne_iff_ne.mpr hm
  have d2 : (m == 0) = false := beq_eq_false_iff_ne.mpr hm
  clear h hm hme
  go_enter Try.func33, Try.ntmps33
  go_wp2_with (first
    | (go_at_call 35; (refine HM.out.mono ?_)
       rintro e w1 ⟨rfl, rfl⟩))
  go_ret
  exact ⟨rfl, Below.refl _ _⟩
set_option maxHeartbeats 400000 in
set_option maxRecDepth 100000 in
theorem Dz.write_ok {d : Dz} {w : World} {g : Nat} (at' : Int) (A : Option Addr) (c : Nat) (xs : List Int) (h : d.At w g) (hl : d.b.length ≤ 4096) (hm : d.may at' xs.length = 0) (hs : d.set = false) (hC : Kd.C (Kd.int .u8) w A xs.length xs) (hc : xs.length ≤ c) : Calls Try.prog 33 #[.pointer (some ⟨g, 0, none⟩), .int .i64 at', .slice A xs.length c] w fun e w' => e = .returned (.int .i64 0) ∧ (d.wrote at'.toNat xs).At w' g ∧ Fs.Fr g w w' := by
  have HM := Aside0.mk (Dz.read_ok at' xs.length h hl hm)
  have HA := Aside0.mk h
  have HC := Aside0.mk hC
  obtain ⟨zd, z0, z1, z2⟩ := Dz.may_zero hl hm
  have hu := Try.underlying67
  have hw := Rc.w64 (at' + xs.length) (by omega)
  obtain ⟨i0, hi, hz0, hz1, hz2⟩ := info_parts Rc.info5
  have hst := (print_take_int (P := Try.prog) (k := .u8) 25 5 Try.underlying25 hi hz1 A c xs (xs.length : Int) (by omega) (Int.le_refl _) hc).1
  rw [Int.toNat_natCast, List.take_length] at hst
  have sl1 := Dz.to d at' z0 (by omega)
  have sl2 := Dz.from d (wrap64 (at' + xs.length)) (by rw [hw]; omega) (by rw [hw]; omega)
  have e2 : (wrap64 (at' + xs.length)).toNat = at'.toNat + xs.length := by rw [hw]; omega
  rw [e2] at sl2
  have HS := Aside0.mk hs
  have k1 : (strOfNums (d.b.take at'.toNat)).size ≤ 4096 := by rw [strOfNums_size, List.length_take]; omega
  have k2 : (strOfNums (d.b.drop (at'.toNat + xs.length))).size ≤ 4096 := by rw [strOfNums_size, List.length_drop]; omega
  have k3 : (strOfNums xs).size ≤ 4096 := by rw [strOfNums_size]; omega
  have n1 : ¬ 9223372036854775807 < (strOfNums (d.b.take at'.toNat)).size + (strOfNums xs).size := by omega
  have n2 : ¬ 9223372036854775807 < (strOfNums (d.b.take at'.toNat) ++ strOfNums xs).size + (strOfNums (d.b.drop (at'.toNat + xs.length))).size := by rw [ByteArray.size_append]; omega
  have n3 : ¬ 9223372036854775807 < (strOfNums (d.b.take at'.toNat)).size + (strOfNums xs).size + (strOfNums (d.b.drop (at'.toNat + xs.length))).size := by omega
  clear h hm zd z0 z1 z2 hC hs hi hz0 hz1 hz2 hc hw e2 hl k1 k2 k3
  go_enter Try.func33, Try.ntmps33
  go_upto_region 5 with (first
    | (go_at_call 35; (refine HM.out.mono ?_)
       rintro e w1 ⟨rfl, hb⟩
       have HF := Aside0.mk (Fs.fr_of_below g hb)
       have HA1 := Aside0.mk (Dz.below HA.out hb)
       have HC1 := Aside0.mk (Kd.C_below HC.out hb)
       have c1 := Dz.c_set HA1.out
       rw [HS.out] at c1
       clear hb))
  have c0 := Dz.c_b HA1.out
  have c4 := Dz.c_wr HA1.out
  have f0 := blk_frozen HA1.out 0
  have f4 := blk_frozen HA1.out 4
  have cv : ∀ W, Below w1.heap.size w1 W → (convert 25 9 (.slice A xs.length c)).run Try.prog W = .ok (.string (strOfNums xs)) W := fun W hW => Kd.C_string (P := Try.prog) (A := A) (c := c) Try.underlying25 Try.underlying5 Try.underlying9 (Kd.C_below HC1.out hW)
  have cv0 := cv w1 (Below.refl _ _)
  have cv1 := cv w1.drew (below_drew1 (Below.refl _ _))
  clear cv
  go_upto_region 9 with (fail)
  clear c1 c4 f4
  go_cut [61] (fun s61 wr => Aside0 ((d.lay at'.toNat xs.length xs).At wr g ∧ Fs.Fr g w wr))
  case first =>
    go_region
    all_goals (go_wp2_with fail; go_meet)
    all_goals exact ⟨⟨Dz.put (d := d) (d' := d.lay at'.toNat xs.length xs) (Dz.below HA1.out (below_drew1 (Below.refl _ _))) 0 _ (by rw [Dz.join]; rfl), Fs.fr_set (Fs.fr_drew HF.out) _ _⟩⟩
  case rest =>
    clear HA1 HF HC1 c0 f0 cv0 cv1
    rename World => w2
    have HA2 := hcut
    have c1 : w2.cell? ⟨g, 1, none⟩ = some (.bool d.set) := Dz.c_set (d := d.lay at'.toNat xs.length xs) HA2.out.1
    rw [HS.out] at c1
    have c4 : w2.cell? ⟨g, 4, none⟩ = some (.int .i64 d.wr) := Dz.c_wr (d := d.lay at'.toNat xs.length xs) HA2.out.1
    have f4 := blk_frozen HA2.out.1 4
    go_wp2
    go_ret
    exact ⟨rfl, Dz.put (d := d.lay at'.toNat xs.length xs) (d' := d.wrote at'.toNat xs) HA2.out.1 4 _ rfl, Fs.fr_set HA2.out.2 _ _⟩
set_option maxHeartbeats 400000 in
set_option maxRecDepth 100000 in
theorem Dz.torn_pre {d : Dz} {w : World} {g : Nat} (at' : Int) (A : Option Addr) (c : Nat) (xs ys : List Int) (h : d.At w g) (hl : d.b.length ≤ 4096) (hm : d.may at' xs.length = 0) (hs : d.set = true) (hp : 0 ≤ d.pre) (k : d.pre < (xs.length : Int)) (hy : xs.take (d.pre).toNat = ys) (hC : Kd.C (Kd.int .u8) w A xs.length xs) (hc : xs.length ≤ c) : Calls Try.prog 33 #[.pointer (some ⟨g, 0, none⟩), .int .i64 at', .slice A xs.length c] w fun e w' => e = .returned (.int .i64 10) ∧ (d.torn at'.toNat ys).At w' g ∧ Fs.Fr g w w' := by
  have HM := Aside0.mk (Dz.read_ok at' xs.length h hl hm)
  have HA := Aside0.mk h
  obtain ⟨zd, z0, z1, z2⟩ := Dz.may_zero hl hm
  have hu := Try.underlying67
  have hyl : (ys.length : Int) = d.pre := by rw [← hy, List.length_take]; omega
  have hw := Rc.w64 (at' + d.pre) (by omega)
  have d1 : decide (d.pre < (xs.length : Int)) = true := decide_eq_true k
  obtain ⟨i0, hi, hz0, hz1, hz2⟩ := info_parts Rc.info5
  have hst := (print_take_int (P := Try.prog) (k := .u8) 25 5 Try.underlying25 hi hz1 A c xs (d.pre) (by omega) (by omega) hc).1
  rw [hy] at hst
  have HC := Aside0.mk (show Kd.C (Kd.int .u8) w A ys.length ys by
    have := Kd.C_take (m := (d.pre).toNat) hC (by omega)
    rw [hy] at this
    exact this)
  have sl1 := Dz.to d at' z0 (by omega)
  have sl2 := Dz.from d (wrap64 (at' + d.pre)) (by rw [hw]; omega) (by rw [hw]; omega)
  have e2 : (wrap64 (at' + d.pre)).toNat = at'.toNat + ys.length := by rw [hw]; omega
  rw [e2] at sl2
  have HS := Aside0.mk hs
  have k1 : (strOfNums (d.b.take at'.toNat)).size ≤ 4096 := by rw [strOfNums_size, List.length_take]; omega
  have k2 : (strOfNums (d.b.drop (at'.toNat + ys.length))).size ≤ 4096 := by rw [strOfNums_size, List.length_drop]; omega
  have k3 : (strOfNums ys).size ≤ 4096 := by rw [strOfNums_size]; omega
  have n1 : ¬ 9223372036854775807 < (strOfNums (d.b.take at'.toNat)).size + (strOfNums ys).size := by omega
  have n2 : ¬ 9223372036854775807 < (strOfNums (d.b.take at'.toNat) ++ strOfNums ys).size + (strOfNums (d.b.drop (at'.toNat + ys.length))).size := by rw [ByteArray.size_append]; omega
  have n3 : ¬ 9223372036854775807 < (strOfNums (d.b.take at'.toNat)).size + (strOfNums ys).size + (strOfNums (d.b.drop (at'.toNat + ys.length))).size := by omega
  clear h hm zd z0 z1 z2 hC hs hi hz0 hz1 hz2 hc hw e2 hl k1 k2 k3 hy hyl k hp
  go_enter Try.func33, Try.ntmps33
  go_upto_region 5 with (first
    | (go_at_call 35; (refine HM.out.mono ?_)
       rintro e w1 ⟨rfl, hb⟩
       have HF := Aside0.mk (Fs.fr_of_below g hb)
       have HA1 := Aside0.mk (Dz.below HA.out hb)
       have HC1 := Aside0.mk (Kd.C_below HC.out hb)
       have c1 := Dz.c_set HA1.out
       rw [HS.out] at c1
       clear hb))
  have c2 := Dz.c_pre HA1.out
  go_upto_region 9 with (fail)
  clear c1 c2
  have c0 := Dz.c_b HA1.out
  have f0 := blk_frozen HA1.out 0
  have cv : ∀ W, Below w1.heap.size w1 W → (convert 25 9 (.slice A ys.length c)).run Try.prog W = .ok (.string (strOfNums ys)) W := fun W hW => Kd.C_string (P := Try.prog) (A := A) (c := c) Try.underlying25 Try.underlying5 Try.underlying9 (Kd.C_below HC1.out hW)
  have cv1 := cv w1.drew (below_drew1 (Below.refl _ _))
  clear cv
  go_cut [61] (fun s61 wr => Aside0 ((d.lay at'.toNat ys.length ys).At wr g ∧ Fs.Fr g w wr))
  case first =>
    go_region
    all_goals (go_wp2_with fail; go_meet)
    all_goals exact ⟨⟨Dz.put (d := d) (d' := d.lay at'.toNat ys.length ys) (Dz.below HA1.out (below_drew1 (Below.refl _ _))) 0 _ (by rw [Dz.join]; rfl), Fs.fr_set (Fs.fr_drew HF.out) _ _⟩⟩
  case rest =>
    clear HA1 HF HC1 c0 f0 cv1
    rename World => w2
    have HA2 := hcut
    have c1 : w2.cell? ⟨g, 1, none⟩ = some (.bool d.set) := Dz.c_set (d := d.lay at'.toNat ys.length ys) HA2.out.1
    rw [HS.out] at c1
    have f1 := blk_frozen HA2.out.1 1
    have c3 : w2.cell? ⟨g, 3, none⟩ = some (.bool d.down) := Dz.c_down (d := d.lay at'.toNat ys.length ys) HA2.out.1
    have f3 := blk_frozen HA2.out.1 3
    go_wp2
    go_ret
    exact ⟨rfl, Dz.put (d := {d.lay at'.toNat ys.length ys with set := false}) (d' := d.torn at'.toNat ys) (Dz.put (d := d.lay at'.toNat ys.length ys) (d' := {d.lay at'.toNat ys.length ys with set := false}) HA2.out.1 1 (.bool false) rfl) 3 (.bool true) rfl, Fs.fr_set (Fs.fr_set HA2.out.2 _ _) _ _⟩
set_option maxHeartbeats 400000 in
set_option maxRecDepth 100000 in
theorem Dz.torn_all {d : Dz} {w : World} {g : Nat} (at' : Int) (A : Option Addr) (c : Nat) (xs ys : List Int) (h : d.At w g) (hl : d.b.length ≤ 4096) (hm : d.may at' xs.length = 0) (hs : d.set = true) (hp : 0 ≤ d.pre) (k : ¬ d.pre < (xs.length : Int)) (hy : xs.take ((xs.length : Int)).toNat = ys) (hC : Kd.C (Kd.int .u8) w A xs.length xs) (hc : xs.length ≤ c) : Calls Try.prog 33 #[.pointer (some ⟨g, 0, none⟩), .int .i64 at', .slice A xs.length c] w fun e w' => e = .returned (.int .i64 10) ∧ (d.torn at'.toNat ys).At w' g ∧ Fs.Fr g w w' := by
  have HM := Aside0.mk (Dz.read_ok at' xs.length h hl hm)
  have HA := Aside0.mk h
  obtain ⟨zd, z0, z1, z2⟩ := Dz.may_zero hl hm
  have hu := Try.underlying67
  have hyl : (ys.length : Int) = (xs.length : Int) := by rw [← hy, List.length_take]; omega
  have hw := Rc.w64 (at' + (xs.length : Int)) (by omega)
  have d1 : decide (d.pre < (xs.length : Int)) = false := decide_eq_false k
  obtain ⟨i0, hi, hz0, hz1, hz2⟩ := info_parts Rc.info5
  have hst := (print_take_int (P := Try.prog) (k := .u8) 25 5 Try.underlying25 hi hz1 A c xs ((xs.length : Int)) (by omega) (by omega) hc).1
  rw [hy] at hst
  have HC := Aside0.mk (show Kd.C (Kd.int .u8) w A ys.length ys by
    have := Kd.C_take (m := ((xs.length : Int)).toNat) hC (by omega)
    rw [hy] at this
    exact this)
  have sl1 := Dz.to d at' z0 (by omega)
  have sl2 := Dz.from d (wrap64 (at' + (xs.length : Int))) (by rw [hw]; omega) (by rw [hw]; omega)
  have e2 : (wrap64 (at' + (xs.length : Int))).toNat = at'.toNat + ys.length := by rw [hw]; omega
  rw [e2] at sl2
  have HS := Aside0.mk hs
  have k1 : (strOfNums (d.b.take at'.toNat)).size ≤ 4096 := by rw [strOfNums_size, List.length_take]; omega
  have k2 : (strOfNums (d.b.drop (at'.toNat + ys.length))).size ≤ 4096 := by rw [strOfNums_size, List.length_drop]; omega
  have k3 : (strOfNums ys).size ≤ 4096 := by rw [strOfNums_size]; omega
  have n1 : ¬ 9223372036854775807 < (strOfNums (d.b.take at'.toNat)).size + (strOfNums ys).size := by omega
  have n2 : ¬ 9223372036854775807 < (strOfNums (d.b.take at'.toNat) ++ strOfNums ys).size + (strOfNums (d.b.drop (at'.toNat + ys.length))).size := by rw [ByteArray.size_append]; omega
  have n3 : ¬ 9223372036854775807 < (strOfNums (d.b.take at'.toNat)).size + (strOfNums ys).size + (strOfNums (d.b.drop (at'.toNat + ys.length))).size := by omega
  clear h hm zd z0 z1 z2 hC hs hi hz0 hz1 hz2 hc hw e2 hl k1 k2 k3 hy hyl k hp
  go_enter Try.func33, Try.ntmps33
  go_upto_region 5 with (first
    | (go_at_call 35; (refine HM.out.mono ?_)
       rintro e w1 ⟨rfl, hb⟩
       have HF := Aside0.mk (Fs.fr_of_below g hb)
       have HA1 := Aside0.mk (Dz.below HA.out hb)
       have HC1 := Aside0.mk (Kd.C_below HC.out hb)
       have c1 := Dz.c_set HA1.out
       rw [HS.out] at c1
       clear hb))
  have c2 := Dz.c_pre HA1.out
  go_upto_region 9 with (fail)
  clear c1 c2
  have c0 := Dz.c_b HA1.out
  have f0 := blk_frozen HA1.out 0
  have cv : ∀ W, Below w1.heap.size w1 W → (convert 25 9 (.slice A ys.length c)).run Try.prog W = .ok (.string (strOfNums ys)) W := fun W hW => Kd.C_string (P := Try.prog) (A := A) (c := c) Try.underlying25 Try.underlying5 Try.underlying9 (Kd.C_below HC1.out hW)
  have cv1 := cv w1.drew (below_drew1 (Below.refl _ _))
  clear cv
  go_cut [61] (fun s61 wr => Aside0 ((d.lay at'.toNat ys.length ys).At wr g ∧ Fs.Fr g w wr))
  case first =>
    go_region
    all_goals (go_wp2_with fail; go_meet)
    all_goals exact ⟨⟨Dz.put (d := d) (d' := d.lay at'.toNat ys.length ys) (Dz.below HA1.out (below_drew1 (Below.refl _ _))) 0 _ (by rw [Dz.join]; rfl), Fs.fr_set (Fs.fr_drew HF.out) _ _⟩⟩
  case rest =>
    clear HA1 HF HC1 c0 f0 cv1
    rename World => w2
    have HA2 := hcut
    have c1 : w2.cell? ⟨g, 1, none⟩ = some (.bool d.set) := Dz.c_set (d := d.lay at'.toNat ys.length ys) HA2.out.1
    rw [HS.out] at c1
    have f1 := blk_frozen HA2.out.1 1
    have c3 : w2.cell? ⟨g, 3, none⟩ = some (.bool d.down) := Dz.c_down (d := d.lay at'.toNat ys.length ys) HA2.out.1
    have f3 := blk_frozen HA2.out.1 3
    go_wp2
    go_ret
    exact ⟨rfl, Dz.put (d := {d.lay at'.toNat ys.length ys with set := false}) (d' := d.torn at'.toNat ys) (Dz.put (d := d.lay at'.toNat ys.length ys) (d' := {d.lay at'.toNat ys.length ys with set := false}) HA2.out.1 1 (.bool false) rfl) 3 (.bool true) rfl, Fs.fr_set (Fs.fr_set HA2.out.2 _ _) _ _⟩
theorem Dz.write_torn {d : Dz} {w : World} {g : Nat} (at' : Int) (A : Option Addr) (c : Nat) (xs : List Int) (h : d.At w g) (hl : d.b.length ≤ 4096) (hm : d.may at' xs.length = 0) (hs : d.set = true) (hp : 0 ≤ d.pre) (hC : Kd.C (Kd.int .u8) w A xs.length xs) (hc : xs.length ≤ c) : Calls Try.prog 33 #[.pointer (some ⟨g, 0, none⟩), .int .i64 at', .slice A xs.length c] w fun e w' => e = .returned (.int .i64 10) ∧ (d.torn at'.toNat (xs.take (if (xs.length : Int) < d.pre then (xs.length : Int) else d.pre).toNat)).At w' g ∧ Fs.Fr g w w' := by
  by_cases k : d.pre < (xs.length : Int)
  · rw [if_neg (by omega)]
    exact Dz.torn_pre at' A c xs _ h hl hm hs hp k rfl hC hc
  · have e : xs.take (if (xs.length : Int) < d.pre then (xs.length : Int) else d.pre).toNat = xs := by
      rw [List.take_of_length_le]
      split <;> omega
    rw [e]
    exact Dz.torn_all at' A c xs xs h hl hm hs hp k (by rw [Int.toNat_natCast, List.take_length]) hC hc
end Go.Proofs.Ytjldkgcabombhaa

/- Written by a program of this session: Go functions as Lean functions, and proofs that each Go function comes to what its Lean function tells, where that tells something (a row: the Go law of its name answers true at every input). -/
namespace Go.Proofs.Ytjldkgcabombhaa.QK
open Go.Proofs.Ytjldkgcabombhaa.QJ
open Go.RowKit Go.Proofs.YtjldkgcabombhaaW.PrintWords Go.Proofs.YtjldkgcabombhaaW.PrintLast Go.Proofs.YtjldkgcabombhaaW.PrintMore
attribute [local go_sem] max2_int min2_int max_two min_two max_three min_three max_four min_four   -- for this text's walks alone
set_option linter.unusedVariables false
set_option linter.unusedSimpArgs false



def errW : Option Int → Value
  | none => .nilIface
  | some c => .iface 0 (.int .i64 c)
theorem errW_none : errW none = .nilIface := rfl
theorem errW_some (c : Int) : errW (some c) = .iface 0 (.int .i64 c) := rfl

theorem info5 : (Try.prog.info? 5).map (fun i => (i.zero, i.size, i.bytes)) = some (some (.int .u8 0), 1, 1) := by kernel_rfl
-- the values' own types
/-! #### struct type 24 -/
structure S24 where
  f0 : Int
  f1 : Int
  f2 : Int
  f3 : Int
def z24 : S24 := ⟨(0 : Int), (0 : Int), (0 : Int), (0 : Int)⟩
def k24 : Kd S24 := Kd.iso (Kd.pair (Kd.int .u32) (Kd.pair (Kd.int .i64) (Kd.pair (Kd.int .i64) (Kd.int .i64)))) (fun x : S24 => (x.f0, x.f1, x.f2, x.f3))
theorem k24_open {w : World} {x : S24} {cs : List Value} (h : k24.K w x cs) : cs = [.int .u32 x.f0, .int .i64 x.f1, .int .i64 x.f2, .int .i64 x.f3] := by
  obtain ⟨_, _, rfl, rfl, ⟨_, _, rfl, rfl, ⟨_, _, rfl, rfl, rfl⟩⟩⟩ := h
  exact rfl
theorem k24_openM {w : World} {base : Nat} {ok : Nat → Prop} {x : S24} {cs : List Value} (h : k24.M w base ok x cs) : cs = [.int .u32 x.f0, .int .i64 x.f1, .int .i64 x.f2, .int .i64 x.f3] := by
  obtain ⟨_, _, rfl, rfl, ⟨_, _, rfl, rfl, ⟨_, _, rfl, rfl, rfl⟩⟩⟩ := h
  exact rfl
theorem k24_mk (w : World) (x : S24)  : k24.K w x [.int .u32 x.f0, .int .i64 x.f1, .int .i64 x.f2, .int .i64 x.f3] := ⟨[.int .u32 x.f0], [.int .i64 x.f1, .int .i64 x.f2, .int .i64 x.f3], rfl, rfl, ⟨[.int .i64 x.f1], [.int .i64 x.f2, .int .i64 x.f3], rfl, rfl, ⟨[.int .i64 x.f2], [.int .i64 x.f3], rfl, rfl, rfl⟩⟩⟩
theorem k24_mkM (w : World) (base : Nat) (ok : Nat → Prop) (x : S24)  : k24.M w base ok x [.int .u32 x.f0, .int .i64 x.f1, .int .i64 x.f2, .int .i64 x.f3] := ⟨[.int .u32 x.f0], [.int .i64 x.f1, .int .i64 x.f2, .int .i64 x.f3], rfl, rfl, ⟨[.int .i64 x.f1], [.int .i64 x.f2, .int .i64 x.f3], rfl, rfl, ⟨[.int .i64 x.f2], [.int .i64 x.f3], rfl, rfl, rfl⟩⟩⟩
def rd_T24 (xs : List S24) (i : Int) : S24 := xs.getD i.toNat z24
theorem at_T24 {w : World} {A : Option Addr} {n : Nat} {xs : List S24} (h : Kd.C k24 w A n xs) (i : Int) (h0 : 0 ≤ i) (h1 : i < n) : ∃ ad , A = some ad ∧ w.cell? (ad.add (i.toNat * 4)) = some (.int .u32 (rd_T24 xs i).f0) ∧ w.cell? ⟨(ad.add (i.toNat * 4)).block, (ad.add (i.toNat * 4)).off + 1, none⟩ = some (.int .i64 (rd_T24 xs i).f1) ∧ w.cell? ⟨(ad.add (i.toNat * 4)).block, (ad.add (i.toNat * 4)).off + 2, none⟩ = some (.int .i64 (rd_T24 xs i).f2) ∧ w.cell? ⟨(ad.add (i.toNat * 4)).block, (ad.add (i.toNat * 4)).off + 3, none⟩ = some (.int .i64 (rd_T24 xs i).f3) := by
  obtain ⟨ad, c, e, _, hK, hc0⟩ := Kd.C_get h z24 i h0 h1
  have hc : ∀ j u, c[j]? = some u → w.cell? (ad.add (i.toNat * 4 + j)) = some u := hc0
  obtain rfl := k24_open hK
  exact ⟨ad, e, hc 0 _ rfl, by rw [← add_field _ _ 1 (by omega)]; exact hc 1 _ rfl, by rw [← add_field _ _ 2 (by omega)]; exact hc 2 _ rfl, by rw [← add_field _ _ 3 (by omega)]; exact hc 3 _ rfl⟩

def rd_L4 (xs : List (List Int)) (i : Int) : (List Int) := xs.getD i.toNat ([] : List Int)
theorem at_L4 {w : World} {A : Option Addr} {n : Nat} {xs : List (List Int)} (h : Kd.C (Kd.slice 5 (Kd.int .u8)) w A n xs) (i : Int) (h0 : 0 ≤ i) (h1 : i < n) : ∃ ad A0 c0, A = some ad ∧ w.cell? (ad.add i.toNat) = some (.slice A0 (rd_L4 xs i).length c0) ∧ (rd_L4 xs i).length ≤ c0 ∧ (Kd.int .u8).C w A0 (rd_L4 xs i).length (rd_L4 xs i) := by
  obtain ⟨ad, c, e, _, hK, hc0⟩ := Kd.C_get h ([] : List Int) i h0 h1
  have hc : ∀ j u, c[j]? = some u → w.cell? (ad.add (i.toNat * 1 + j)) = some u := hc0
  obtain ⟨A0, c0, rfl, l0, g0⟩ := hK
  exact ⟨ad, A0, c0, e, by have hq := hc 0 _ rfl; rwa [Nat.mul_one, Nat.add_zero] at hq, l0, g0⟩

end Go.Proofs.Ytjldkgcabombhaa.QK
