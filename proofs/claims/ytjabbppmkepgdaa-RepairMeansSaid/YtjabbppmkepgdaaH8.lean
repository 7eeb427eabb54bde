/- repair.GPS walked by hand, over its iterators: it comes to what the plain Lean function Rp.gps tells. -/
import Derived.Test.YtjabbppmkepgdaaProg
import Derived.Below
import Derived.Deep.Draws
import Derived.OwnWalk
import Derived.Tactics
import Derived.WalkKit
import Derived.WalkSpells
import Derived.WalkLawsBesides
import Derived.KernelRfl
import Derived.RowKit3
import Derived.Deep.LoopGhost
import Derived.Deep.QuietTactic
import Derived.BigQuiet
import Derived.WideLaws
import Derived.Deep.DeepCutAuto
import Derived.Deep.CutBlock
import Derived.Deep.RegionHeld3
import Derived.Lib.Hide
import Derived.IntWalk
import Derived.Outline
import Derived.Test.YtjabbppmkepgdaaWWords
import Derived.Test.YtjabbppmkepgdaaWLast
import Derived.Test.YtjabbppmkepgdaaWMore
import Derived.Test.YtjabbppmkepgdaaH7
import Derived.Test.YtjabbppmkepgdaaH5
import Derived.Test.YtjabbppmkepgdaaH1
namespace Go.Proofs.Ytjabbppmkepgdaa
open Go.RowKit Go.Shelf Go.Proofs.YtjabbppmkepgdaaW.PrintWords Go.Proofs.YtjabbppmkepgdaaW.PrintLast Go.Proofs.YtjabbppmkepgdaaW.PrintMore Go.Proofs.Ytjabbppmkepgdaa.QC Go.Proofs.Ytjabbppmkepgdaa.Pure
set_option linter.unusedVariables false
set_option linter.unusedSimpArgs false

theorem Rp.res (fn : Func) (hfn : fn.results = #[.cell 4 2, .cell 5 22]) (tmps : Array Value) (w : World) (b4 b5 : Nat) (v4 v5 : Int) (h4 : tmps.getD 4 undef = .pointer (some ⟨b4, 0, none⟩)) (h5 : tmps.getD 5 undef = .pointer (some ⟨b5, 0, none⟩))
    (c4 : w.cell? ⟨b4, 0, none⟩ = some (.int .i64 v4)) (c5 : w.cell? ⟨b5, 0, none⟩ = some (.int .i64 v5)) :
    (results fn tmps).run Try.prog w = .ok (.tuple #[.int .i64 v4, .int .i64 v5]) w := by
  have hu2 := Try.underlying2
  have hu22 := Try.underlying22
  have h4' : tmps[4]?.getD undef = .pointer (some ⟨b4, 0, none⟩) := by simpa using h4
  have h5' : tmps[5]?.getD undef = .pointer (some ⟨b5, 0, none⟩) := by simpa using h5
  simp only [results, hfn]
  simp [Sem.run_bind, Result.andThen, h4', h5', asAddr, go_sem, c4, c5, hu2, hu22]

theorem Rp.four (w : World) (o1 o2 : Obj) (v4 v5 : Int) : ((((w.alloc o1).alloc o2).alloc (.cells #[.int .i64 v4] 2 (0, 0))).alloc (.cells #[.int .i64 v5] 22 (0, 0))).cell? ⟨w.heap.size + 1 + 1, 0, none⟩ = some (.int .i64 v4) ∧
    ((((w.alloc o1).alloc o2).alloc (.cells #[.int .i64 v4] 2 (0, 0))).alloc (.cells #[.int .i64 v5] 22 (0, 0))).cell? ⟨w.heap.size + 1 + 1 + 1, 0, none⟩ = some (.int .i64 v5) ∧
    Below w.heap.size w ((((w.alloc o1).alloc o2).alloc (.cells #[.int .i64 v4] 2 (0, 0))).alloc (.cells #[.int .i64 v5] 22 (0, 0))) := by
  have e2 : ((w.alloc o1).alloc o2).heap.size = w.heap.size + 1 + 1 := by rw [World.size_alloc, World.size_alloc]
  have e3 : (((w.alloc o1).alloc o2).alloc (.cells #[.int .i64 v4] 2 (0, 0))).heap.size = w.heap.size + 1 + 1 + 1 := by rw [World.size_alloc, e2]
  have h4 := blk_alloc (blk_new ((w.alloc o1).alloc o2) (.cells #[.int .i64 v4] 2 (0, 0))) (.cells #[.int .i64 v5] 22 (0, 0))
  have h5 := blk_new (((w.alloc o1).alloc o2).alloc (.cells #[.int .i64 v4] 2 (0, 0))) (.cells #[.int .i64 v5] 22 (0, 0))
  rw [e2] at h4
  rw [e3] at h5
  exact ⟨(blk_cell h4 0).trans rfl, (blk_cell h5 0).trans rfl, below_alloc (below_alloc (below_alloc (below_alloc (Below.refl _ _) _) _) _) _⟩

set_option maxHeartbeats 8000000 in
set_option maxRecDepth 100000 in
theorem Rp.gps_a (kind : Int) (utc : Bool) (sec : Int) (leap : Bool) (cyc : Int) (nxt : Bool) (floor : Int) (w : World) (k1 : decide (floor < 0) = true) :
    Calls Try.prog 45 #[.agg #[.int .u8 kind, .bool utc, .int .i64 sec, .bool leap, .int .i64 cyc, .bool nxt], .int .i64 floor] w fun e w' => e = .returned (.tuple #[.int .i64 0, .int .i64 2]) ∧ Below w.heap.size w w' := by
  have hu61 := Try.underlying61
  refine (callsIn_wide (n := 3)).1 ?_
  refine callsIn_of_wp_marks Try.func45 rfl trivial ?_ rfl
  simp only [Try.ntmps45, List.size_toArray, List.length_cons, List.length_nil, Nat.reduceAdd, Nat.reduceSub, Array.replicate_succ, Array.replicate_zero, List.push_toArray, List.append_toArray, List.nil_append, List.cons_append]
  gi_wp2
  obtain ⟨f1, f2, f3⟩ := Rp.four w (.cells #[.int .u8 kind, .bool utc, .int .i64 sec, .bool leap, .int .i64 cyc, .bool nxt] 61 (0, 0)) (.cells #[.int .i64 floor] 2 (0, 0)) 0 2
  exact ⟨_, Rp.res _ rfl _ _ _ _ _ _ rfl rfl f1 f2, rfl, f3⟩

set_option maxHeartbeats 8000000 in
set_option maxRecDepth 100000 in
theorem Rp.gps_b (kind : Int) (utc : Bool) (sec : Int) (leap : Bool) (cyc : Int) (nxt : Bool) (floor : Int) (w : World) (k1 : decide (floor < 0) = false) (k2 : decide (6000000000 < floor) = true) :
    Calls Try.prog 45 #[.agg #[.int .u8 kind, .bool utc, .int .i64 sec, .bool leap, .int .i64 cyc, .bool nxt], .int .i64 floor] w fun e w' => e = .returned (.tuple #[.int .i64 0, .int .i64 2]) ∧ Below w.heap.size w w' := by
  have hu61 := Try.underlying61
  refine (callsIn_wide (n := 3)).1 ?_
  refine callsIn_of_wp_marks Try.func45 rfl trivial ?_ rfl
  simp only [Try.ntmps45, List.size_toArray, List.length_cons, List.length_nil, Nat.reduceAdd, Nat.reduceSub, Array.replicate_succ, Array.replicate_zero, List.push_toArray, List.append_toArray, List.nil_append, List.cons_append]
  gi_wp2
  obtain ⟨f1, f2, f3⟩ := Rp.four w (.cells #[.int .u8 kind, .bool utc, .int .i64 sec, .bool leap, .int .i64 cyc, .bool nxt] 61 (0, 0)) (.cells #[.int .i64 floor] 2 (0, 0)) 0 2
  exact ⟨_, Rp.res _ rfl _ _ _ _ _ _ rfl rfl f1 f2, rfl, f3⟩

set_option maxHeartbeats 8000000 in
set_option maxRecDepth 100000 in
theorem Rp.gps_c (kind : Int) (utc : Bool) (sec : Int) (leap : Bool) (cyc : Int) (nxt : Bool) (floor : Int) (w : World) (k1 : decide (floor < 0) = false) (k2 : decide (6000000000 < floor) = false) (h0 : (cyc != 0) = true) (h1 : (cyc != 100) = true) (h2 : (cyc != 1024) = true) :
    Calls Try.prog 45 #[.agg #[.int .u8 kind, .bool utc, .int .i64 sec, .bool leap, .int .i64 cyc, .bool nxt], .int .i64 floor] w fun e w' => e = .returned (.tuple #[.int .i64 0, .int .i64 2]) ∧ Below w.heap.size w w' := by
  have hu61 := Try.underlying61
  refine (callsIn_wide (n := 3)).1 ?_
  refine callsIn_of_wp_marks Try.func45 rfl trivial ?_ rfl
  simp only [Try.ntmps45, List.size_toArray, List.length_cons, List.length_nil, Nat.reduceAdd, Nat.reduceSub, Array.replicate_succ, Array.replicate_zero, List.push_toArray, List.append_toArray, List.nil_append, List.cons_append]
  gi_wp2
  obtain ⟨f1, f2, f3⟩ := Rp.four w (.cells #[.int .u8 kind, .bool utc, .int .i64 sec, .bool leap, .int .i64 cyc, .bool nxt] 61 (0, 0)) (.cells #[.int .i64 floor] 2 (0, 0)) 0 2
  exact ⟨_, Rp.res _ rfl _ _ _ _ _ _ rfl rfl f1 f2, rfl, f3⟩

set_option maxHeartbeats 8000000 in
set_option maxRecDepth 100000 in
theorem Rp.gps_d (kind : Int) (utc : Bool) (sec : Int) (leap : Bool) (cyc : Int) (nxt : Bool) (floor : Int) (w : World) (k1 : decide (floor < 0) = false) (k2 : decide (6000000000 < floor) = false) (hu : utc = false) (h0 : cyc = 100) :
    Calls Try.prog 45 #[.agg #[.int .u8 kind, .bool utc, .int .i64 sec, .bool leap, .int .i64 cyc, .bool nxt], .int .i64 floor] w fun e w' => e = .returned (.tuple #[.int .i64 0, .int .i64 2]) ∧ Below w.heap.size w w' := by
  have hu61 := Try.underlying61
  subst hu h0
  refine (callsIn_wide (n := 3)).1 ?_
  refine callsIn_of_wp_marks Try.func45 rfl trivial ?_ rfl
  simp only [Try.ntmps45, List.size_toArray, List.length_cons, List.length_nil, Nat.reduceAdd, Nat.reduceSub, Array.replicate_succ, Array.replicate_zero, List.push_toArray, List.append_toArray, List.nil_append, List.cons_append]
  gi_wp2
  obtain ⟨f1, f2, f3⟩ := Rp.four w (.cells #[.int .u8 kind, .bool false, .int .i64 sec, .bool leap, .int .i64 100, .bool nxt] 61 (0, 0)) (.cells #[.int .i64 floor] 2 (0, 0)) 0 2
  exact ⟨_, Rp.res _ rfl _ _ _ _ _ _ rfl rfl f1 f2, rfl, f3⟩

set_option maxHeartbeats 8000000 in
set_option maxRecDepth 100000 in
theorem Rp.gps_e (kind : Int) (utc : Bool) (sec : Int) (leap : Bool) (cyc : Int) (nxt : Bool) (floor : Int) (w : World) (k1 : decide (floor < 0) = false) (k2 : decide (6000000000 < floor) = false) (hu : utc = false) (h0 : cyc = 0 ∨ cyc = 1024) (hl : leap = true) :
    Calls Try.prog 45 #[.agg #[.int .u8 kind, .bool utc, .int .i64 sec, .bool leap, .int .i64 cyc, .bool nxt], .int .i64 floor] w fun e w' => e = .returned (.tuple #[.int .i64 0, .int .i64 2]) ∧ Below w.heap.size w w' := by
  have hu61 := Try.underlying61
  subst hu hl
  rcases h0 with rfl | rfl
  · skip
    refine (callsIn_wide (n := 3)).1 ?_
    refine callsIn_of_wp_marks Try.func45 rfl trivial ?_ rfl
    simp only [Try.ntmps45, List.size_toArray, List.length_cons, List.length_nil, Nat.reduceAdd, Nat.reduceSub, Array.replicate_succ, Array.replicate_zero, List.push_toArray, List.append_toArray, List.nil_append, List.cons_append]
    gi_wp2
    obtain ⟨f1, f2, f3⟩ := Rp.four w (.cells #[.int .u8 kind, .bool false, .int .i64 sec, .bool true, .int .i64 0, .bool nxt] 61 (0, 0)) (.cells #[.int .i64 floor] 2 (0, 0)) 0 2
    exact ⟨_, Rp.res _ rfl _ _ _ _ _ _ rfl rfl f1 f2, rfl, f3⟩
  · skip
    refine (callsIn_wide (n := 3)).1 ?_
    refine callsIn_of_wp_marks Try.func45 rfl trivial ?_ rfl
    simp only [Try.ntmps45, List.size_toArray, List.length_cons, List.length_nil, Nat.reduceAdd, Nat.reduceSub, Array.replicate_succ, Array.replicate_zero, List.push_toArray, List.append_toArray, List.nil_append, List.cons_append]
    gi_wp2
    obtain ⟨f1, f2, f3⟩ := Rp.four w (.cells #[.int .u8 kind, .bool false, .int .i64 sec, .bool true, .int .i64 1024, .bool nxt] 61 (0, 0)) (.cells #[.int .i64 floor] 2 (0, 0)) 0 2
    exact ⟨_, Rp.res _ rfl _ _ _ _ _ _ rfl rfl f1 f2, rfl, f3⟩

set_option maxHeartbeats 8000000 in
set_option maxRecDepth 100000 in
theorem Rp.over1_t0 (kind : Int) (sec : Int) (leap : Bool) (nxt : Bool) (floor : Int) (w : World) (k1 : decide (floor < 0) = false) (k2 : decide (6000000000 < floor) = false) (k3 : decide (sec < -1099511627776) = true) :
    Calls Try.prog 45 #[.agg #[.int .u8 kind, .bool true, .int .i64 sec, .bool leap, .int .i64 0, .bool nxt], .int .i64 floor] w fun e w' => e = .returned (.tuple #[.int .i64 0, .int .i64 9]) ∧ Below w.heap.size w w' := by
  have hu61 := Try.underlying61
  refine (callsIn_wide (n := 3)).1 ?_
  refine callsIn_of_wp_marks Try.func45 rfl trivial ?_ rfl
  simp only [Try.ntmps45, List.size_toArray, List.length_cons, List.length_nil, Nat.reduceAdd, Nat.reduceSub, Array.replicate_succ, Array.replicate_zero, List.push_toArray, List.append_toArray, List.nil_append, List.cons_append]
  gi_wp2
  obtain ⟨f1, f2, f3⟩ := Rp.four w (.cells #[.int .u8 kind, .bool true, .int .i64 sec, .bool leap, .int .i64 0, .bool nxt] 61 (0, 0)) (.cells #[.int .i64 floor] 2 (0, 0)) 0 9
  exact ⟨_, Rp.res _ rfl _ _ _ _ _ _ rfl rfl f1 f2, rfl, f3⟩

set_option maxHeartbeats 8000000 in
set_option maxRecDepth 100000 in
theorem Rp.over2_t0 (kind : Int) (sec : Int) (leap : Bool) (nxt : Bool) (floor : Int) (w : World) (k1 : decide (floor < 0) = false) (k2 : decide (6000000000 < floor) = false) (k3 : decide (sec < -1099511627776) = false) (k4 : decide (1099511627776 < sec) = true) :
    Calls Try.prog 45 #[.agg #[.int .u8 kind, .bool true, .int .i64 sec, .bool leap, .int .i64 0, .bool nxt], .int .i64 floor] w fun e w' => e = .returned (.tuple #[.int .i64 0, .int .i64 9]) ∧ Below w.heap.size w w' := by
  have hu61 := Try.underlying61
  refine (callsIn_wide (n := 3)).1 ?_
  refine callsIn_of_wp_marks Try.func45 rfl trivial ?_ rfl
  simp only [Try.ntmps45, List.size_toArray, List.length_cons, List.length_nil, Nat.reduceAdd, Nat.reduceSub, Array.replicate_succ, Array.replicate_zero, List.push_toArray, List.append_toArray, List.nil_append, List.cons_append]
  gi_wp2
  obtain ⟨f1, f2, f3⟩ := Rp.four w (.cells #[.int .u8 kind, .bool true, .int .i64 sec, .bool leap, .int .i64 0, .bool nxt] 61 (0, 0)) (.cells #[.int .i64 floor] 2 (0, 0)) 0 9
  exact ⟨_, Rp.res _ rfl _ _ _ _ _ _ rfl rfl f1 f2, rfl, f3⟩

set_option maxHeartbeats 8000000 in
set_option maxRecDepth 100000 in
theorem Rp.over1_tk (kind : Int) (sec : Int) (leap : Bool) (nxt : Bool) (floor : Int) (w : World) (k1 : decide (floor < 0) = false) (k2 : decide (6000000000 < floor) = false) (k3 : decide (sec < -1099511627776) = true) :
    Calls Try.prog 45 #[.agg #[.int .u8 kind, .bool true, .int .i64 sec, .bool leap, .int .i64 1024, .bool nxt], .int .i64 floor] w fun e w' => e = .returned (.tuple #[.int .i64 0, .int .i64 9]) ∧ Below w.heap.size w w' := by
  have hu61 := Try.underlying61
  refine (callsIn_wide (n := 3)).1 ?_
  refine callsIn_of_wp_marks Try.func45 rfl trivial ?_ rfl
  simp only [Try.ntmps45, List.size_toArray, List.length_cons, List.length_nil, Nat.reduceAdd, Nat.reduceSub, Array.replicate_succ, Array.replicate_zero, List.push_toArray, List.append_toArray, List.nil_append, List.cons_append]
  gi_wp2
  obtain ⟨f1, f2, f3⟩ := Rp.four w (.cells #[.int .u8 kind, .bool true, .int .i64 sec, .bool leap, .int .i64 1024, .bool nxt] 61 (0, 0)) (.cells #[.int .i64 floor] 2 (0, 0)) 0 9
  exact ⟨_, Rp.res _ rfl _ _ _ _ _ _ rfl rfl f1 f2, rfl, f3⟩

set_option maxHeartbeats 8000000 in
set_option maxRecDepth 100000 in
theorem Rp.over2_tk (kind : Int) (sec : Int) (leap : Bool) (nxt : Bool) (floor : Int) (w : World) (k1 : decide (floor < 0) = false) (k2 : decide (6000000000 < floor) = false) (k3 : decide (sec < -1099511627776) = false) (k4 : decide (1099511627776 < sec) = true) :
    Calls Try.prog 45 #[.agg #[.int .u8 kind, .bool true, .int .i64 sec, .bool leap, .int .i64 1024, .bool nxt], .int .i64 floor] w fun e w' => e = .returned (.tuple #[.int .i64 0, .int .i64 9]) ∧ Below w.heap.size w w' := by
  have hu61 := Try.underlying61
  refine (callsIn_wide (n := 3)).1 ?_
  refine callsIn_of_wp_marks Try.func45 rfl trivial ?_ rfl
  simp only [Try.ntmps45, List.size_toArray, List.length_cons, List.length_nil, Nat.reduceAdd, Nat.reduceSub, Array.replicate_succ, Array.replicate_zero, List.push_toArray, List.append_toArray, List.nil_append, List.cons_append]
  gi_wp2
  obtain ⟨f1, f2, f3⟩ := Rp.four w (.cells #[.int .u8 kind, .bool true, .int .i64 sec, .bool leap, .int .i64 1024, .bool nxt] 61 (0, 0)) (.cells #[.int .i64 floor] 2 (0, 0)) 0 9
  exact ⟨_, Rp.res _ rfl _ _ _ _ _ _ rfl rfl f1 f2, rfl, f3⟩

set_option maxHeartbeats 8000000 in
set_option maxRecDepth 100000 in
theorem Rp.over1_th (kind : Int) (sec : Int) (leap : Bool) (nxt : Bool) (floor : Int) (w : World) (k1 : decide (floor < 0) = false) (k2 : decide (6000000000 < floor) = false) (k3 : decide (sec < -1099511627776) = true) :
    Calls Try.prog 45 #[.agg #[.int .u8 kind, .bool true, .int .i64 sec, .bool leap, .int .i64 100, .bool nxt], .int .i64 floor] w fun e w' => e = .returned (.tuple #[.int .i64 0, .int .i64 9]) ∧ Below w.heap.size w w' := by
  have hu61 := Try.underlying61
  refine (callsIn_wide (n := 3)).1 ?_
  refine callsIn_of_wp_marks Try.func45 rfl trivial ?_ rfl
  simp only [Try.ntmps45, List.size_toArray, List.length_cons, List.length_nil, Nat.reduceAdd, Nat.reduceSub, Array.replicate_succ, Array.replicate_zero, List.push_toArray, List.append_toArray, List.nil_append, List.cons_append]
  gi_wp2
  obtain ⟨f1, f2, f3⟩ := Rp.four w (.cells #[.int .u8 kind, .bool true, .int .i64 sec, .bool leap, .int .i64 100, .bool nxt] 61 (0, 0)) (.cells #[.int .i64 floor] 2 (0, 0)) 0 9
  exact ⟨_, Rp.res _ rfl _ _ _ _ _ _ rfl rfl f1 f2, rfl, f3⟩

set_option maxHeartbeats 8000000 in
set_option maxRecDepth 100000 in
theorem Rp.over2_th (kind : Int) (sec : Int) (leap : Bool) (nxt : Bool) (floor : Int) (w : World) (k1 : decide (floor < 0) = false) (k2 : decide (6000000000 < floor) = false) (k3 : decide (sec < -1099511627776) = false) (k4 : decide (1099511627776 < sec) = true) :
    Calls Try.prog 45 #[.agg #[.int .u8 kind, .bool true, .int .i64 sec, .bool leap, .int .i64 100, .bool nxt], .int .i64 floor] w fun e w' => e = .returned (.tuple #[.int .i64 0, .int .i64 9]) ∧ Below w.heap.size w w' := by
  have hu61 := Try.underlying61
  refine (callsIn_wide (n := 3)).1 ?_
  refine callsIn_of_wp_marks Try.func45 rfl trivial ?_ rfl
  simp only [Try.ntmps45, List.size_toArray, List.length_cons, List.length_nil, Nat.reduceAdd, Nat.reduceSub, Array.replicate_succ, Array.replicate_zero, List.push_toArray, List.append_toArray, List.nil_append, List.cons_append]
  gi_wp2
  obtain ⟨f1, f2, f3⟩ := Rp.four w (.cells #[.int .u8 kind, .bool true, .int .i64 sec, .bool leap, .int .i64 100, .bool nxt] 61 (0, 0)) (.cells #[.int .i64 floor] 2 (0, 0)) 0 9
  exact ⟨_, Rp.res _ rfl _ _ _ _ _ _ rfl rfl f1 f2, rfl, f3⟩

set_option maxHeartbeats 8000000 in
set_option maxRecDepth 100000 in
theorem Rp.over1_f0 (kind : Int) (sec : Int) (nxt : Bool) (floor : Int) (w : World) (k1 : decide (floor < 0) = false) (k2 : decide (6000000000 < floor) = false) (k3 : decide (sec < -1099511627776) = true) :
    Calls Try.prog 45 #[.agg #[.int .u8 kind, .bool false, .int .i64 sec, .bool false, .int .i64 0, .bool nxt], .int .i64 floor] w fun e w' => e = .returned (.tuple #[.int .i64 0, .int .i64 9]) ∧ Below w.heap.size w w' := by
  have hu61 := Try.underlying61
  refine (callsIn_wide (n := 3)).1 ?_
  refine callsIn_of_wp_marks Try.func45 rfl trivial ?_ rfl
  simp only [Try.ntmps45, List.size_toArray, List.length_cons, List.length_nil, Nat.reduceAdd, Nat.reduceSub, Array.replicate_succ, Array.replicate_zero, List.push_toArray, List.append_toArray, List.nil_append, List.cons_append]
  gi_wp2
  obtain ⟨f1, f2, f3⟩ := Rp.four w (.cells #[.int .u8 kind, .bool false, .int .i64 sec, .bool false, .int .i64 0, .bool nxt] 61 (0, 0)) (.cells #[.int .i64 floor] 2 (0, 0)) 0 9
  exact ⟨_, Rp.res _ rfl _ _ _ _ _ _ rfl rfl f1 f2, rfl, f3⟩

set_option maxHeartbeats 8000000 in
set_option maxRecDepth 100000 in
theorem Rp.over2_f0 (kind : Int) (sec : Int) (nxt : Bool) (floor : Int) (w : World) (k1 : decide (floor < 0) = false) (k2 : decide (6000000000 < floor) = false) (k3 : decide (sec < -1099511627776) = false) (k4 : decide (1099511627776 < sec) = true) :
    Calls Try.prog 45 #[.agg #[.int .u8 kind, .bool false, .int .i64 sec, .bool false, .int .i64 0, .bool nxt], .int .i64 floor] w fun e w' => e = .returned (.tuple #[.int .i64 0, .int .i64 9]) ∧ Below w.heap.size w w' := by
  have hu61 := Try.underlying61
  refine (callsIn_wide (n := 3)).1 ?_
  refine callsIn_of_wp_marks Try.func45 rfl trivial ?_ rfl
  simp only [Try.ntmps45, List.size_toArray, List.length_cons, List.length_nil, Nat.reduceAdd, Nat.reduceSub, Array.replicate_succ, Array.replicate_zero, List.push_toArray, List.append_toArray, List.nil_append, List.cons_append]
  gi_wp2
  obtain ⟨f1, f2, f3⟩ := Rp.four w (.cells #[.int .u8 kind, .bool false, .int .i64 sec, .bool false, .int .i64 0, .bool nxt] 61 (0, 0)) (.cells #[.int .i64 floor] 2 (0, 0)) 0 9
  exact ⟨_, Rp.res _ rfl _ _ _ _ _ _ rfl rfl f1 f2, rfl, f3⟩

set_option maxHeartbeats 8000000 in
set_option maxRecDepth 100000 in
theorem Rp.over1_fk (kind : Int) (sec : Int) (nxt : Bool) (floor : Int) (w : World) (k1 : decide (floor < 0) = false) (k2 : decide (6000000000 < floor) = false) (k3 : decide (sec < -1099511627776) = true) :
    Calls Try.prog 45 #[.agg #[.int .u8 kind, .bool false, .int .i64 sec, .bool false, .int .i64 1024, .bool nxt], .int .i64 floor] w fun e w' => e = .returned (.tuple #[.int .i64 0, .int .i64 9]) ∧ Below w.heap.size w w' := by
  have hu61 := Try.underlying61
  refine (callsIn_wide (n := 3)).1 ?_
  refine callsIn_of_wp_marks Try.func45 rfl trivial ?_ rfl
  simp only [Try.ntmps45, List.size_toArray, List.length_cons, List.length_nil, Nat.reduceAdd, Nat.reduceSub, Array.replicate_succ, Array.replicate_zero, List.push_toArray, List.append_toArray, List.nil_append, List.cons_append]
  gi_wp2
  obtain ⟨f1, f2, f3⟩ := Rp.four w (.cells #[.int .u8 kind, .bool false, .int .i64 sec, .bool false, .int .i64 1024, .bool nxt] 61 (0, 0)) (.cells #[.int .i64 floor] 2 (0, 0)) 0 9
  exact ⟨_, Rp.res _ rfl _ _ _ _ _ _ rfl rfl f1 f2, rfl, f3⟩

set_option maxHeartbeats 8000000 in
set_option maxRecDepth 100000 in
theorem Rp.over2_fk (kind : Int) (sec : Int) (nxt : Bool) (floor : Int) (w : World) (k1 : decide (floor < 0) = false) (k2 : decide (6000000000 < floor) = false) (k3 : decide (sec < -1099511627776) = false) (k4 : decide (1099511627776 < sec) = true) :
    Calls Try.prog 45 #[.agg #[.int .u8 kind, .bool false, .int .i64 sec, .bool false, .int .i64 1024, .bool nxt], .int .i64 floor] w fun e w' => e = .returned (.tuple #[.int .i64 0, .int .i64 9]) ∧ Below w.heap.size w w' := by
  have hu61 := Try.underlying61
  refine (callsIn_wide (n := 3)).1 ?_
  refine callsIn_of_wp_marks Try.func45 rfl trivial ?_ rfl
  simp only [Try.ntmps45, List.size_toArray, List.length_cons, List.length_nil, Nat.reduceAdd, Nat.reduceSub, Array.replicate_succ, Array.replicate_zero, List.push_toArray, List.append_toArray, List.nil_append, List.cons_append]
  gi_wp2
  obtain ⟨f1, f2, f3⟩ := Rp.four w (.cells #[.int .u8 kind, .bool false, .int .i64 sec, .bool false, .int .i64 1024, .bool nxt] 61 (0, 0)) (.cells #[.int .i64 floor] 2 (0, 0)) 0 9
  exact ⟨_, Rp.res _ rfl _ _ _ _ _ _ rfl rfl f1 f2, rfl, f3⟩
end Go.Proofs.Ytjabbppmkepgdaa
