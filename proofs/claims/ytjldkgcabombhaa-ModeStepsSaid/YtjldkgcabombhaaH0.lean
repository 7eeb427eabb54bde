/- Contract of mode.May, walked by hand: it comes to the Bool that the plain Lean function of its name tells, at every input; and lookups in a map of closures that the call makes. -/
import Derived.Test.YtjldkgcabombhaaProg
import Derived.Below
import Derived.Deep.Draws
import Derived.OwnWalk
import Derived.Tactics
import Derived.WalkKit
import Derived.WalkSpells
import Derived.WalkLawsBesides
import Derived.KernelRfl
import Derived.RowKit3
import Derived.Deep.LoopGhost
import Derived.Deep.QuietTactic
import Derived.BigQuiet
import Derived.WideLaws
import Derived.Deep.DeepCutAuto
import Derived.Deep.CutBlock
import Derived.Deep.RegionHeld3
import Derived.Lib.Hide
import Derived.IntWalk
import Derived.Outline
import Derived.Test.YtjldkgcabombhaaWWords
import Derived.Test.YtjldkgcabombhaaWLast
import Derived.Test.YtjldkgcabombhaaWMore
import Derived.Maps.OwnRows
namespace Go.Proofs.Ytjldkgcabombhaa
open Go.RowKit Go.Proofs.YtjldkgcabombhaaW.PrintWords Go.Proofs.YtjldkgcabombhaaW.PrintLast Go.Proofs.YtjldkgcabombhaaW.PrintMore
set_option linter.unusedVariables false
set_option linter.unusedSimpArgs false

theorem Md.check (e : Bool) (k : Int) (w : World) : (Instr.checkKey e 10000 5 (.int .u8 k)).run Try.prog w = .ok () w := by
  have h : ∀ n, (Instr.checkKey e (n + 1) 5 (.int .u8 k)).run Try.prog w = .ok () w := fun n => by
    rw [Instr.checkKey]
    simp [run_underlying Try.underlying5]
  exact h 9999
theorem Md.find (k : Int) (es : List MapEntry) (r : Option (Nat × Value)) (hf : Instr.findNow (.int .u8) (.int .u8 k) es 0 = some r) (w : World) : (Instr.findKey 5 (.int .u8 k) es).run Try.prog w = .ok r w := by
  simp [Instr.findKey, run_underlying Try.underlying5, hf]
theorem push_put {α : Type} (xs : Array α) (a b : α) : (xs.push a).setIfInBounds xs.size b = xs.push b := by
  obtain ⟨l⟩ := xs
  simp
theorem Md.upd (W : World) (b : Nat) (es : Array MapEntry) (c : Nat) (k : Int) (v : Value) (hb : W.heap.size = b) (hf : Instr.findNow (.int .u8) (.int .u8 k) es.toList 0 = some none) :
    (Instr.mapUpdate 96 (.map (some b)) (.int .u8 k) v).run Try.prog (W.alloc (.map es c)) = .ok () (W.alloc (.map (es.push ⟨.int .u8 k, v, c⟩) (c + 1))) := by
  subst hb
  have h1 : (W.alloc (.map es c)).heap[W.heap.size]? = some (.map es c) := heap_alloc_new W _
  simp only [Instr.mapUpdate, Sem.run_bind, run_underlying Try.underlying96, MapKept.run_getObj_map h1, Md.check, Md.find k _ _ hf, MapKept.run_setObj_map _ h1, Result.andThen]
  rw [show (W.alloc (Obj.map es c)).heap.setIfInBounds W.heap.size (Obj.map (es.push ⟨.int .u8 k, v, c⟩) (c + 1)) = (W.alloc (Obj.map (es.push ⟨.int .u8 k, v, c⟩) (c + 1))).heap from push_put _ _ _]
  rfl
theorem Md.look (W : World) (b : Nat) (es : Array MapEntry) (c : Nat) (k : Int) (i : Nat) (v : Value) (hb : W.heap.size = b) (hf : Instr.findNow (.int .u8) (.int .u8 k) es.toList 0 = some (some (i, v))) :
    (Instr.lookup 96 (.map (some b)) (.int .u8 k) true).run Try.prog (W.alloc (.map es c)) = .ok (.tuple #[v, .bool true]) (W.alloc (.map es c)) := by
  subst hb
  have h1 : (W.alloc (.map es c)).heap[W.heap.size]? = some (.map es c) := heap_alloc_new W _
  simp [Instr.lookup, run_underlying Try.underlying96, MapKept.run_getObj_map h1, Md.check, Md.find k _ _ hf, Result.andThen]
theorem Md.look_no (W : World) (b : Nat) (es : Array MapEntry) (c : Nat) (k : Int) (hb : W.heap.size = b) (hf : Instr.findNow (.int .u8) (.int .u8 k) es.toList 0 = some none) :
    (Instr.lookup 96 (.map (some b)) (.int .u8 k) true).run Try.prog (W.alloc (.map es c)) = .ok (.tuple #[.nilFunc, .bool false]) (W.alloc (.map es c)) := by
  subst hb
  have h1 : (W.alloc (.map es c)).heap[W.heap.size]? = some (.map es c) := heap_alloc_new W _
  have hz : ∀ w, (zeroValue 30).run Try.prog w = .ok .nilFunc w := fun w => by kernel_rfl
  simp [Instr.lookup, run_underlying Try.underlying96, MapKept.run_getObj_map h1, Md.check, Md.find k _ _ hf, Result.andThen, hz]

theorem Md.upd0 (W : World) (b : Nat) (v : Value) (hb : W.heap.size = b) :
    (Instr.mapUpdate 96 (.map (some b)) (.int .u8 0) v).run Try.prog (W.alloc (.map #[] 0)) = .ok () (W.alloc (.map #[⟨.int .u8 0, v, 0⟩] 1)) := Md.upd W b #[] 0 0 v hb rfl
theorem Md.upd1 (W : World) (b : Nat) (v0 v : Value) (hb : W.heap.size = b) :
    (Instr.mapUpdate 96 (.map (some b)) (.int .u8 1) v).run Try.prog (W.alloc (.map #[⟨.int .u8 0, v0, 0⟩] 1)) = .ok () (W.alloc (.map #[⟨.int .u8 0, v0, 0⟩, ⟨.int .u8 1, v, 1⟩] 2)) := Md.upd W b _ 1 1 v hb rfl
theorem Md.upd2 (W : World) (b : Nat) (v0 v1 v : Value) (hb : W.heap.size = b) :
    (Instr.mapUpdate 96 (.map (some b)) (.int .u8 2) v).run Try.prog (W.alloc (.map #[⟨.int .u8 0, v0, 0⟩, ⟨.int .u8 1, v1, 1⟩] 2)) = .ok () (W.alloc (.map #[⟨.int .u8 0, v0, 0⟩, ⟨.int .u8 1, v1, 1⟩, ⟨.int .u8 2, v, 2⟩] 3)) := Md.upd W b _ 2 2 v hb rfl
theorem Md.upd3 (W : World) (b : Nat) (v0 v1 v2 v : Value) (hb : W.heap.size = b) :
    (Instr.mapUpdate 96 (.map (some b)) (.int .u8 3) v).run Try.prog (W.alloc (.map #[⟨.int .u8 0, v0, 0⟩, ⟨.int .u8 1, v1, 1⟩, ⟨.int .u8 2, v2, 2⟩] 3)) = .ok () (W.alloc (.map #[⟨.int .u8 0, v0, 0⟩, ⟨.int .u8 1, v1, 1⟩, ⟨.int .u8 2, v2, 2⟩, ⟨.int .u8 3, v, 3⟩] 4)) := Md.upd W b _ 3 3 v hb rfl
theorem Md.upd4 (W : World) (b : Nat) (v0 v1 v2 v3 v : Value) (hb : W.heap.size = b) :
    (Instr.mapUpdate 96 (.map (some b)) (.int .u8 4) v).run Try.prog (W.alloc (.map #[⟨.int .u8 0, v0, 0⟩, ⟨.int .u8 1, v1, 1⟩, ⟨.int .u8 2, v2, 2⟩, ⟨.int .u8 3, v3, 3⟩] 4)) = .ok () (W.alloc (.map #[⟨.int .u8 0, v0, 0⟩, ⟨.int .u8 1, v1, 1⟩, ⟨.int .u8 2, v2, 2⟩, ⟨.int .u8 3, v3, 3⟩, ⟨.int .u8 4, v, 4⟩] 5)) := Md.upd W b _ 4 4 v hb rfl
theorem Md.look0 (W : World) (b : Nat) (v0 v1 v2 v3 v4 : Value) (hb : W.heap.size = b) :
    (Instr.lookup 96 (.map (some b)) (.int .u8 0) true).run Try.prog (W.alloc (.map #[⟨.int .u8 0, v0, 0⟩, ⟨.int .u8 1, v1, 1⟩, ⟨.int .u8 2, v2, 2⟩, ⟨.int .u8 3, v3, 3⟩, ⟨.int .u8 4, v4, 4⟩] 5)) = .ok (.tuple #[v0, .bool true]) (W.alloc (.map #[⟨.int .u8 0, v0, 0⟩, ⟨.int .u8 1, v1, 1⟩, ⟨.int .u8 2, v2, 2⟩, ⟨.int .u8 3, v3, 3⟩, ⟨.int .u8 4, v4, 4⟩] 5)) := Md.look W b _ 5 0 0 v0 hb rfl
theorem Md.look1 (W : World) (b : Nat) (v0 v1 v2 v3 v4 : Value) (hb : W.heap.size = b) :
    (Instr.lookup 96 (.map (some b)) (.int .u8 1) true).run Try.prog (W.alloc (.map #[⟨.int .u8 0, v0, 0⟩, ⟨.int .u8 1, v1, 1⟩, ⟨.int .u8 2, v2, 2⟩, ⟨.int .u8 3, v3, 3⟩, ⟨.int .u8 4, v4, 4⟩] 5)) = .ok (.tuple #[v1, .bool true]) (W.alloc (.map #[⟨.int .u8 0, v0, 0⟩, ⟨.int .u8 1, v1, 1⟩, ⟨.int .u8 2, v2, 2⟩, ⟨.int .u8 3, v3, 3⟩, ⟨.int .u8 4, v4, 4⟩] 5)) := Md.look W b _ 5 1 1 v1 hb rfl
theorem Md.look2 (W : World) (b : Nat) (v0 v1 v2 v3 v4 : Value) (hb : W.heap.size = b) :
    (Instr.lookup 96 (.map (some b)) (.int .u8 2) true).run Try.prog (W.alloc (.map #[⟨.int .u8 0, v0, 0⟩, ⟨.int .u8 1, v1, 1⟩, ⟨.int .u8 2, v2, 2⟩, ⟨.int .u8 3, v3, 3⟩, ⟨.int .u8 4, v4, 4⟩] 5)) = .ok (.tuple #[v2, .bool true]) (W.alloc (.map #[⟨.int .u8 0, v0, 0⟩, ⟨.int .u8 1, v1, 1⟩, ⟨.int .u8 2, v2, 2⟩, ⟨.int .u8 3, v3, 3⟩, ⟨.int .u8 4, v4, 4⟩] 5)) := Md.look W b _ 5 2 2 v2 hb rfl
theorem Md.look3 (W : World) (b : Nat) (v0 v1 v2 v3 v4 : Value) (hb : W.heap.size = b) :
    (Instr.lookup 96 (.map (some b)) (.int .u8 3) true).run Try.prog (W.alloc (.map #[⟨.int .u8 0, v0, 0⟩, ⟨.int .u8 1, v1, 1⟩, ⟨.int .u8 2, v2, 2⟩, ⟨.int .u8 3, v3, 3⟩, ⟨.int .u8 4, v4, 4⟩] 5)) = .ok (.tuple #[v3, .bool true]) (W.alloc (.map #[⟨.int .u8 0, v0, 0⟩, ⟨.int .u8 1, v1, 1⟩, ⟨.int .u8 2, v2, 2⟩, ⟨.int .u8 3, v3, 3⟩, ⟨.int .u8 4, v4, 4⟩] 5)) := Md.look W b _ 5 3 3 v3 hb rfl
theorem Md.look4 (W : World) (b : Nat) (v0 v1 v2 v3 v4 : Value) (hb : W.heap.size = b) :
    (Instr.lookup 96 (.map (some b)) (.int .u8 4) true).run Try.prog (W.alloc (.map #[⟨.int .u8 0, v0, 0⟩, ⟨.int .u8 1, v1, 1⟩, ⟨.int .u8 2, v2, 2⟩, ⟨.int .u8 3, v3, 3⟩, ⟨.int .u8 4, v4, 4⟩] 5)) = .ok (.tuple #[v4, .bool true]) (W.alloc (.map #[⟨.int .u8 0, v0, 0⟩, ⟨.int .u8 1, v1, 1⟩, ⟨.int .u8 2, v2, 2⟩, ⟨.int .u8 3, v3, 3⟩, ⟨.int .u8 4, v4, 4⟩] 5)) := Md.look W b _ 5 4 4 v4 hb rfl
theorem Md.lookN (W : World) (b : Nat) (v0 v1 v2 v3 v4 : Value) (k : Int) (h0 : (k == 0) = false) (h1 : (k == 1) = false) (h2 : (k == 2) = false) (h3 : (k == 3) = false) (h4 : (k == 4) = false) (hb : W.heap.size = b) :
    (Instr.lookup 96 (.map (some b)) (.int .u8 k) true).run Try.prog (W.alloc (.map #[⟨.int .u8 0, v0, 0⟩, ⟨.int .u8 1, v1, 1⟩, ⟨.int .u8 2, v2, 2⟩, ⟨.int .u8 3, v3, 3⟩, ⟨.int .u8 4, v4, 4⟩] 5)) = .ok (.tuple #[.nilFunc, .bool false]) (W.alloc (.map #[⟨.int .u8 0, v0, 0⟩, ⟨.int .u8 1, v1, 1⟩, ⟨.int .u8 2, v2, 2⟩, ⟨.int .u8 3, v3, 3⟩, ⟨.int .u8 4, v4, 4⟩] 5)) :=
  Md.look_no W b _ 5 k hb (by simp [Instr.findNow, Instr.sameNow, h0, h1, h2, h3, h4])

/-- What mode.May tells. -/
def Md.may (st cnt last need lim : Int) : Bool :=
  if need < 2 ∨ 16 < need ∨ lim < 1000000 ∨ 1000000000 < lim ∨ last < 0 then false
  else if st = 0 then (cnt == 0 && last == 0) else if st = 1 then (decide (1 ≤ cnt) && decide (cnt < need))
  else if st = 2 then cnt == need else if st = 3 then cnt == need else if st = 4 then cnt == 0 else false
def mode_May.f (st cnt last need lim : Int) : Option Bool := some (Md.may st cnt last need lim)

set_option maxHeartbeats 8000000 in
set_option maxRecDepth 100000 in
theorem Md.walk_no0 (st cnt last need lim : Int) (w : World) (k0 : decide (need < 2) = true) :
    Calls Try.prog 21 #[.agg #[.int .u8 st, .int .i64 cnt, .int .i64 last], .agg #[.int .i64 need, .int .i64 lim]] w fun e w' => e = .returned (.bool false) ∧ Below w.heap.size w w' := by
  have hmf : ∀ (fn : Fn) (first cap : Array Value) (w : World), (Instr.makeFunc fn first cap).run Try.prog w = .ok (.func fn first cap) w := fun _ _ _ _ => rfl
  have hmm := @run_makeMap Try.prog
  have hu1 := Try.underlying36
  have hu2 := Try.underlying38
  have hu3 := Try.underlying96
  go_enter Try.func21, Try.ntmps21
  go_wp2
  go_ret
  exact ⟨by first | rfl | (simp; done) | (simp [*]; done), by repeat (first | exact Below.refl _ _ | apply pw_below_drewN | apply below_alloc)⟩

set_option maxHeartbeats 8000000 in
set_option maxRecDepth 100000 in
theorem Md.walk_no1 (st cnt last need lim : Int) (w : World) (k0 : decide (need < 2) = false) (k1 : decide (16 < need) = true) :
    Calls Try.prog 21 #[.agg #[.int .u8 st, .int .i64 cnt, .int .i64 last], .agg #[.int .i64 need, .int .i64 lim]] w fun e w' => e = .returned (.bool false) ∧ Below w.heap.size w w' := by
  have hmf : ∀ (fn : Fn) (first cap : Array Value) (w : World), (Instr.makeFunc fn first cap).run Try.prog w = .ok (.func fn first cap) w := fun _ _ _ _ => rfl
  have hmm := @run_makeMap Try.prog
  have hu1 := Try.underlying36
  have hu2 := Try.underlying38
  have hu3 := Try.underlying96
  go_enter Try.func21, Try.ntmps21
  go_wp2
  go_ret
  exact ⟨by first | rfl | (simp; done) | (simp [*]; done), by repeat (first | exact Below.refl _ _ | apply pw_below_drewN | apply below_alloc)⟩

set_option maxHeartbeats 8000000 in
set_option maxRecDepth 100000 in
theorem Md.walk_no2 (st cnt last need lim : Int) (w : World) (k0 : decide (need < 2) = false) (k1 : decide (16 < need) = false) (k2 : decide (lim < 1000000) = true) :
    Calls Try.prog 21 #[.agg #[.int .u8 st, .int .i64 cnt, .int .i64 last], .agg #[.int .i64 need, .int .i64 lim]] w fun e w' => e = .returned (.bool false) ∧ Below w.heap.size w w' := by
  have hmf : ∀ (fn : Fn) (first cap : Array Value) (w : World), (Instr.makeFunc fn first cap).run Try.prog w = .ok (.func fn first cap) w := fun _ _ _ _ => rfl
  have hmm := @run_makeMap Try.prog
  have hu1 := Try.underlying36
  have hu2 := Try.underlying38
  have hu3 := Try.underlying96
  go_enter Try.func21, Try.ntmps21
  go_wp2
  go_ret
  exact ⟨by first | rfl | (simp; done) | (simp [*]; done), by repeat (first | exact Below.refl _ _ | apply pw_below_drewN | apply below_alloc)⟩

set_option maxHeartbeats 8000000 in
set_option maxRecDepth 100000 in
theorem Md.walk_no3 (st cnt last need lim : Int) (w : World) (k0 : decide (need < 2) = false) (k1 : decide (16 < need) = false) (k2 : decide (lim < 1000000) = false) (k3 : decide (1000000000 < lim) = true) :
    Calls Try.prog 21 #[.agg #[.int .u8 st, .int .i64 cnt, .int .i64 last], .agg #[.int .i64 need, .int .i64 lim]] w fun e w' => e = .returned (.bool false) ∧ Below w.heap.size w w' := by
  have hmf : ∀ (fn : Fn) (first cap : Array Value) (w : World), (Instr.makeFunc fn first cap).run Try.prog w = .ok (.func fn first cap) w := fun _ _ _ _ => rfl
  have hmm := @run_makeMap Try.prog
  have hu1 := Try.underlying36
  have hu2 := Try.underlying38
  have hu3 := Try.underlying96
  go_enter Try.func21, Try.ntmps21
  go_wp2
  go_ret
  exact ⟨by first | rfl | (simp; done) | (simp [*]; done), by repeat (first | exact Below.refl _ _ | apply pw_below_drewN | apply below_alloc)⟩

set_option maxHeartbeats 8000000 in
set_option maxRecDepth 100000 in
theorem Md.walk_no4 (st cnt last need lim : Int) (w : World) (k0 : decide (need < 2) = false) (k1 : decide (16 < need) = false) (k2 : decide (lim < 1000000) = false) (k3 : decide (1000000000 < lim) = false) (k4 : decide (last < 0) = true) :
    Calls Try.prog 21 #[.agg #[.int .u8 st, .int .i64 cnt, .int .i64 last], .agg #[.int .i64 need, .int .i64 lim]] w fun e w' => e = .returned (.bool false) ∧ Below w.heap.size w w' := by
  have hmf : ∀ (fn : Fn) (first cap : Array Value) (w : World), (Instr.makeFunc fn first cap).run Try.prog w = .ok (.func fn first cap) w := fun _ _ _ _ => rfl
  have hmm := @run_makeMap Try.prog
  have hu1 := Try.underlying36
  have hu2 := Try.underlying38
  have hu3 := Try.underlying96
  go_enter Try.func21, Try.ntmps21
  go_wp2
  go_ret
  exact ⟨by first | rfl | (simp; done) | (simp [*]; done), by repeat (first | exact Below.refl _ _ | apply pw_below_drewN | apply below_alloc)⟩

set_option maxHeartbeats 8000000 in
set_option maxRecDepth 100000 in
theorem Md.walk0a (cnt last need lim : Int) (w : World) (k0 : decide (need < 2) = false) (k1 : decide (16 < need) = false) (k2 : decide (lim < 1000000) = false) (k3 : decide (1000000000 < lim) = false) (k4 : decide (last < 0) = false) (h : ((cnt : Int) == 0) = true) :
    Calls Try.prog 21 #[.agg #[.int .u8 0, .int .i64 cnt, .int .i64 last], .agg #[.int .i64 need, .int .i64 lim]] w fun e w' => e = .returned (.bool (last == 0)) ∧ Below w.heap.size w w' := by
  have hmf : ∀ (fn : Fn) (first cap : Array Value) (w : World), (Instr.makeFunc fn first cap).run Try.prog w = .ok (.func fn first cap) w := fun _ _ _ _ => rfl
  have hmm := @run_makeMap Try.prog
  have hu1 := Try.underlying36
  have hu2 := Try.underlying38
  have hu3 := Try.underlying96
  have hU0 := Md.upd0
  have hU1 := Md.upd1
  have hU2 := Md.upd2
  have hU3 := Md.upd3
  have hU4 := Md.upd4
  have hL := Md.look0
  go_enter Try.func21, Try.ntmps21
  go_wp2
  go_ret
  exact ⟨by first | rfl | (simp; done) | (simp [*]; done), by repeat (first | exact Below.refl _ _ | apply pw_below_drewN | apply below_alloc)⟩

set_option maxHeartbeats 8000000 in
set_option maxRecDepth 100000 in
theorem Md.walk0b (cnt last need lim : Int) (w : World) (k0 : decide (need < 2) = false) (k1 : decide (16 < need) = false) (k2 : decide (lim < 1000000) = false) (k3 : decide (1000000000 < lim) = false) (k4 : decide (last < 0) = false) (h : ((cnt : Int) == 0) = false) :
    Calls Try.prog 21 #[.agg #[.int .u8 0, .int .i64 cnt, .int .i64 last], .agg #[.int .i64 need, .int .i64 lim]] w fun e w' => e = .returned (.bool false) ∧ Below w.heap.size w w' := by
  have hmf : ∀ (fn : Fn) (first cap : Array Value) (w : World), (Instr.makeFunc fn first cap).run Try.prog w = .ok (.func fn first cap) w := fun _ _ _ _ => rfl
  have hmm := @run_makeMap Try.prog
  have hu1 := Try.underlying36
  have hu2 := Try.underlying38
  have hu3 := Try.underlying96
  have hU0 := Md.upd0
  have hU1 := Md.upd1
  have hU2 := Md.upd2
  have hU3 := Md.upd3
  have hU4 := Md.upd4
  have hL := Md.look0
  go_enter Try.func21, Try.ntmps21
  go_wp2
  go_ret
  exact ⟨by first | rfl | (simp; done) | (simp [*]; done), by repeat (first | exact Below.refl _ _ | apply pw_below_drewN | apply below_alloc)⟩

set_option maxHeartbeats 8000000 in
set_option maxRecDepth 100000 in
theorem Md.walk1a (cnt last need lim : Int) (w : World) (k0 : decide (need < 2) = false) (k1 : decide (16 < need) = false) (k2 : decide (lim < 1000000) = false) (k3 : decide (1000000000 < lim) = false) (k4 : decide (last < 0) = false) (h : decide (1 ≤ cnt) = true) :
    Calls Try.prog 21 #[.agg #[.int .u8 1, .int .i64 cnt, .int .i64 last], .agg #[.int .i64 need, .int .i64 lim]] w fun e w' => e = .returned (.bool (decide (cnt < need))) ∧ Below w.heap.size w w' := by
  have hmf : ∀ (fn : Fn) (first cap : Array Value) (w : World), (Instr.makeFunc fn first cap).run Try.prog w = .ok (.func fn first cap) w := fun _ _ _ _ => rfl
  have hmm := @run_makeMap Try.prog
  have hu1 := Try.underlying36
  have hu2 := Try.underlying38
  have hu3 := Try.underlying96
  have hU0 := Md.upd0
  have hU1 := Md.upd1
  have hU2 := Md.upd2
  have hU3 := Md.upd3
  have hU4 := Md.upd4
  have hL := Md.look1
  go_enter Try.func21, Try.ntmps21
  go_wp2
  go_ret
  exact ⟨by first | rfl | (simp; done) | (simp [*]; done), by repeat (first | exact Below.refl _ _ | apply pw_below_drewN | apply below_alloc)⟩

set_option maxHeartbeats 8000000 in
set_option maxRecDepth 100000 in
theorem Md.walk1b (cnt last need lim : Int) (w : World) (k0 : decide (need < 2) = false) (k1 : decide (16 < need) = false) (k2 : decide (lim < 1000000) = false) (k3 : decide (1000000000 < lim) = false) (k4 : decide (last < 0) = false) (h : decide (1 ≤ cnt) = false) :
    Calls Try.prog 21 #[.agg #[.int .u8 1, .int .i64 cnt, .int .i64 last], .agg #[.int .i64 need, .int .i64 lim]] w fun e w' => e = .returned (.bool false) ∧ Below w.heap.size w w' := by
  have hmf : ∀ (fn : Fn) (first cap : Array Value) (w : World), (Instr.makeFunc fn first cap).run Try.prog w = .ok (.func fn first cap) w := fun _ _ _ _ => rfl
  have hmm := @run_makeMap Try.prog
  have hu1 := Try.underlying36
  have hu2 := Try.underlying38
  have hu3 := Try.underlying96
  have hU0 := Md.upd0
  have hU1 := Md.upd1
  have hU2 := Md.upd2
  have hU3 := Md.upd3
  have hU4 := Md.upd4
  have hL := Md.look1
  go_enter Try.func21, Try.ntmps21
  go_wp2
  go_ret
  exact ⟨by first | rfl | (simp; done) | (simp [*]; done), by repeat (first | exact Below.refl _ _ | apply pw_below_drewN | apply below_alloc)⟩

set_option maxHeartbeats 8000000 in
set_option maxRecDepth 100000 in
theorem Md.walk2 (cnt last need lim : Int) (w : World) (k0 : decide (need < 2) = false) (k1 : decide (16 < need) = false) (k2 : decide (lim < 1000000) = false) (k3 : decide (1000000000 < lim) = false) (k4 : decide (last < 0) = false)  :
    Calls Try.prog 21 #[.agg #[.int .u8 2, .int .i64 cnt, .int .i64 last], .agg #[.int .i64 need, .int .i64 lim]] w fun e w' => e = .returned (.bool (cnt == need)) ∧ Below w.heap.size w w' := by
  have hmf : ∀ (fn : Fn) (first cap : Array Value) (w : World), (Instr.makeFunc fn first cap).run Try.prog w = .ok (.func fn first cap) w := fun _ _ _ _ => rfl
  have hmm := @run_makeMap Try.prog
  have hu1 := Try.underlying36
  have hu2 := Try.underlying38
  have hu3 := Try.underlying96
  have hU0 := Md.upd0
  have hU1 := Md.upd1
  have hU2 := Md.upd2
  have hU3 := Md.upd3
  have hU4 := Md.upd4
  have hL := Md.look2
  go_enter Try.func21, Try.ntmps21
  go_wp2
  go_ret
  exact ⟨by first | rfl | (simp; done) | (simp [*]; done), by repeat (first | exact Below.refl _ _ | apply pw_below_drewN | apply below_alloc)⟩

set_option maxHeartbeats 8000000 in
set_option maxRecDepth 100000 in
theorem Md.walk3 (cnt last need lim : Int) (w : World) (k0 : decide (need < 2) = false) (k1 : decide (16 < need) = false) (k2 : decide (lim < 1000000) = false) (k3 : decide (1000000000 < lim) = false) (k4 : decide (last < 0) = false)  :
    Calls Try.prog 21 #[.agg #[.int .u8 3, .int .i64 cnt, .int .i64 last], .agg #[.int .i64 need, .int .i64 lim]] w fun e w' => e = .returned (.bool (cnt == need)) ∧ Below w.heap.size w w' := by
  have hmf : ∀ (fn : Fn) (first cap : Array Value) (w : World), (Instr.makeFunc fn first cap).run Try.prog w = .ok (.func fn first cap) w := fun _ _ _ _ => rfl
  have hmm := @run_makeMap Try.prog
  have hu1 := Try.underlying36
  have hu2 := Try.underlying38
  have hu3 := Try.underlying96
  have hU0 := Md.upd0
  have hU1 := Md.upd1
  have hU2 := Md.upd2
  have hU3 := Md.upd3
  have hU4 := Md.upd4
  have hL := Md.look3
  go_enter Try.func21, Try.ntmps21
  go_wp2
  go_ret
  exact ⟨by first | rfl | (simp; done) | (simp [*]; done), by repeat (first | exact Below.refl _ _ | apply pw_below_drewN | apply below_alloc)⟩

set_option maxHeartbeats 8000000 in
set_option maxRecDepth 100000 in
theorem Md.walk4 (cnt last need lim : Int) (w : World) (k0 : decide (need < 2) = false) (k1 : decide (16 < need) = false) (k2 : decide (lim < 1000000) = false) (k3 : decide (1000000000 < lim) = false) (k4 : decide (last < 0) = false)  :
    Calls Try.prog 21 #[.agg #[.int .u8 4, .int .i64 cnt, .int .i64 last], .agg #[.int .i64 need, .int .i64 lim]] w fun e w' => e = .returned (.bool (cnt == 0)) ∧ Below w.heap.size w w' := by
  have hmf : ∀ (fn : Fn) (first cap : Array Value) (w : World), (Instr.makeFunc fn first cap).run Try.prog w = .ok (.func fn first cap) w := fun _ _ _ _ => rfl
  have hmm := @run_makeMap Try.prog
  have hu1 := Try.underlying36
  have hu2 := Try.underlying38
  have hu3 := Try.underlying96
  have hU0 := Md.upd0
  have hU1 := Md.upd1
  have hU2 := Md.upd2
  have hU3 := Md.upd3
  have hU4 := Md.upd4
  have hL := Md.look4
  go_enter Try.func21, Try.ntmps21
  go_wp2
  go_ret
  exact ⟨by first | rfl | (simp; done) | (simp [*]; done), by repeat (first | exact Below.refl _ _ | apply pw_below_drewN | apply below_alloc)⟩

set_option maxHeartbeats 8000000 in
set_option maxRecDepth 100000 in
theorem Md.walkN (st cnt last need lim : Int) (w : World) (k0 : decide (need < 2) = false) (k1 : decide (16 < need) = false) (k2 : decide (lim < 1000000) = false) (k3 : decide (1000000000 < lim) = false) (k4 : decide (last < 0) = false) (h0 : (st == 0) = false) (h1 : (st == 1) = false) (h2 : (st == 2) = false) (h3 : (st == 3) = false) (h4 : (st == 4) = false) :
    Calls Try.prog 21 #[.agg #[.int .u8 st, .int .i64 cnt, .int .i64 last], .agg #[.int .i64 need, .int .i64 lim]] w fun e w' => e = .returned (.bool false) ∧ Below w.heap.size w w' := by
  have hmf : ∀ (fn : Fn) (first cap : Array Value) (w : World), (Instr.makeFunc fn first cap).run Try.prog w = .ok (.func fn first cap) w := fun _ _ _ _ => rfl
  have hmm := @run_makeMap Try.prog
  have hu1 := Try.underlying36
  have hu2 := Try.underlying38
  have hu3 := Try.underlying96
  have hU0 := Md.upd0
  have hU1 := Md.upd1
  have hU2 := Md.upd2
  have hU3 := Md.upd3
  have hU4 := Md.upd4
  have hL := fun W b v0 v1 v2 v3 v4 => Md.lookN W b v0 v1 v2 v3 v4 st h0 h1 h2 h3 h4
  clear h0 h1 h2 h3 h4
  go_enter Try.func21, Try.ntmps21
  go_wp2
  go_ret
  exact ⟨by first | rfl | (simp; done) | (simp [*]; done), by repeat (first | exact Below.refl _ _ | apply pw_below_drewN | apply below_alloc)⟩

theorem mode_May.calls (st cnt last need lim : Int) (r : Bool) (w : World) (h : mode_May.f st cnt last need lim = some r) :
    Calls Try.prog 21 #[.agg #[.int .u8 st, .int .i64 cnt, .int .i64 last], .agg #[.int .i64 need, .int .i64 lim]] w fun e w' => e = .returned (.bool r) ∧ Below w.heap.size w w' := by
  obtain rfl := Option.some.inj h
  clear h
  unfold Md.may
  by_cases h0 : need < 2
  · rw [if_pos (.inl h0)]; exact Md.walk_no0 st cnt last need lim w (decide_eq_true h0)
  by_cases h1 : 16 < need
  · rw [if_pos (.inr (.inl h1))]; exact Md.walk_no1 st cnt last need lim w (decide_eq_false h0) (decide_eq_true h1)
  by_cases h2 : lim < 1000000
  · rw [if_pos (.inr (.inr (.inl h2)))]; exact Md.walk_no2 st cnt last need lim w (decide_eq_false h0) (decide_eq_false h1) (decide_eq_true h2)
  by_cases h3 : 1000000000 < lim
  · rw [if_pos (.inr (.inr (.inr (.inl h3))))]; exact Md.walk_no3 st cnt last need lim w (decide_eq_false h0) (decide_eq_false h1) (decide_eq_false h2) (decide_eq_true h3)
  by_cases h4 : last < 0
  · rw [if_pos (.inr (.inr (.inr (.inr h4))))]; exact Md.walk_no4 st cnt last need lim w (decide_eq_false h0) (decide_eq_false h1) (decide_eq_false h2) (decide_eq_false h3) (decide_eq_true h4)
  rw [if_neg (by omega)]
  have k0 := decide_eq_false h0
  have k1 := decide_eq_false h1
  have k2 := decide_eq_false h2
  have k3 := decide_eq_false h3
  have k4 := decide_eq_false h4
  by_cases s0 : st = 0
  · subst s0
    rw [if_pos rfl]
    by_cases hc : cnt = 0
    · rw [show (cnt == 0) = true from beq_iff_eq.mpr hc, Bool.true_and]; exact Md.walk0a cnt last need lim w k0 k1 k2 k3 k4 (beq_iff_eq.mpr hc)
    · rw [show (cnt == 0) = false from beq_eq_false_iff_ne.mpr hc, Bool.false_and]; exact Md.walk0b cnt last need lim w k0 k1 k2 k3 k4 (beq_eq_false_iff_ne.mpr hc)
  rw [if_neg s0]
  by_cases s1 : st = 1
  · subst s1
    rw [if_pos rfl]
    by_cases hc : 1 ≤ cnt
    · rw [decide_eq_true hc, Bool.true_and]; exact Md.walk1a cnt last need lim w k0 k1 k2 k3 k4 (decide_eq_true hc)
    · rw [decide_eq_false hc, Bool.false_and]; exact Md.walk1b cnt last need lim w k0 k1 k2 k3 k4 (decide_eq_false hc)
  rw [if_neg s1]
  by_cases s2 : st = 2
  · subst s2; rw [if_pos rfl]; exact Md.walk2 cnt last need lim w k0 k1 k2 k3 k4
  rw [if_neg s2]
  by_cases s3 : st = 3
  · subst s3; rw [if_pos rfl]; exact Md.walk3 cnt last need lim w k0 k1 k2 k3 k4
  rw [if_neg s3]
  by_cases s4 : st = 4
  · subst s4; rw [if_pos rfl]; exact Md.walk4 cnt last need lim w k0 k1 k2 k3 k4
  rw [if_neg s4]
  exact Md.walkN st cnt last need lim w k0 k1 k2 k3 k4 (beq_eq_false_iff_ne.mpr s0) (beq_eq_false_iff_ne.mpr s1) (beq_eq_false_iff_ne.mpr s2) (beq_eq_false_iff_ne.mpr s3) (beq_eq_false_iff_ne.mpr s4)
end Go.Proofs.Ytjldkgcabombhaa
