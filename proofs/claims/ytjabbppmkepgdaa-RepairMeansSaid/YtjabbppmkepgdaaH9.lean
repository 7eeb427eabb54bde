/- repair.GPS walked by hand, second part: messages of GPS time. -/
import Derived.Test.YtjabbppmkepgdaaProg
import Derived.Below
import Derived.Deep.Draws
import Derived.OwnWalk
import Derived.Tactics
import Derived.WalkKit
import Derived.WalkSpells
import Derived.WalkLawsBesides
import Derived.KernelRfl
import Derived.RowKit3
import Derived.Deep.LoopGhost
import Derived.Deep.QuietTactic
import Derived.BigQuiet
import Derived.WideLaws
import Derived.Deep.DeepCutAuto
import Derived.Deep.CutBlock
import Derived.Deep.RegionHeld3
import Derived.Lib.Hide
import Derived.IntWalk
import Derived.Outline
import Derived.Test.YtjabbppmkepgdaaWWords
import Derived.Test.YtjabbppmkepgdaaWLast
import Derived.Test.YtjabbppmkepgdaaWMore
import Derived.Test.YtjabbppmkepgdaaH8
namespace Go.Proofs.Ytjabbppmkepgdaa
open Go.RowKit Go.Shelf Go.Proofs.YtjabbppmkepgdaaW.PrintWords Go.Proofs.YtjabbppmkepgdaaW.PrintLast Go.Proofs.YtjabbppmkepgdaaW.PrintMore Go.Proofs.Ytjabbppmkepgdaa.QC Go.Proofs.Ytjabbppmkepgdaa.Pure
set_option linter.unusedVariables false
set_option linter.unusedSimpArgs false

theorem Rp.four' (w : World) (o1 o2 : Obj) (v4 v5 : Int) : ((((w.alloc o1).alloc o2).alloc (.cells #[.int .i64 v4] 2 (0, 0))).alloc (.cells #[.int .i64 v5] 22 (0, 0))).heap[w.heap.size + 1 + 1]? = some (.cells #[.int .i64 v4] 2 (0, 0)) ∧
    ((((w.alloc o1).alloc o2).alloc (.cells #[.int .i64 v4] 2 (0, 0))).alloc (.cells #[.int .i64 v5] 22 (0, 0))).heap[w.heap.size + 1 + 1 + 1]? = some (.cells #[.int .i64 v5] 22 (0, 0)) := by
  have e2 : ((w.alloc o1).alloc o2).heap.size = w.heap.size + 1 + 1 := by rw [World.size_alloc, World.size_alloc]
  have e3 : (((w.alloc o1).alloc o2).alloc (.cells #[.int .i64 v4] 2 (0, 0))).heap.size = w.heap.size + 1 + 1 + 1 := by rw [World.size_alloc, e2]
  have h4 := blk_alloc (blk_new ((w.alloc o1).alloc o2) (.cells #[.int .i64 v4] 2 (0, 0))) (.cells #[.int .i64 v5] 22 (0, 0))
  have h5 := blk_new (((w.alloc o1).alloc o2).alloc (.cells #[.int .i64 v4] 2 (0, 0))) (.cells #[.int .i64 v5] 22 (0, 0))
  rw [e2] at h4
  rw [e3] at h5
  exact ⟨h4, h5⟩

theorem Rp.sets (w w1 : World) (x4 x5 : Value) (h4 : w1.heap[w.heap.size + 1 + 1]? = some (.cells #[x4] 2 (0, 0))) (h5 : w1.heap[w.heap.size + 1 + 1 + 1]? = some (.cells #[x5] 22 (0, 0))) (hb : Below w.heap.size w w1) (v4 v5 : Int) :
    ((w1.setCell ⟨w.heap.size + 1 + 1, 0, none⟩ (.int .i64 v4)).setCell ⟨w.heap.size + 1 + 1 + 1, 0, none⟩ (.int .i64 v5)).cell? ⟨w.heap.size + 1 + 1, 0, none⟩ = some (.int .i64 v4) ∧
    ((w1.setCell ⟨w.heap.size + 1 + 1, 0, none⟩ (.int .i64 v4)).setCell ⟨w.heap.size + 1 + 1 + 1, 0, none⟩ (.int .i64 v5)).cell? ⟨w.heap.size + 1 + 1 + 1, 0, none⟩ = some (.int .i64 v5) ∧
    Below w.heap.size w ((w1.setCell ⟨w.heap.size + 1 + 1, 0, none⟩ (.int .i64 v4)).setCell ⟨w.heap.size + 1 + 1 + 1, 0, none⟩ (.int .i64 v5)) := by
  have g4 := blk_far (blk_put h4 0 (.int .i64 v4) rfl) (p := ⟨w.heap.size + 1 + 1 + 1, 0, none⟩) (show w.heap.size + 1 + 1 ≠ w.heap.size + 1 + 1 + 1 by omega) (.int .i64 v5)
  have g5 := blk_put (blk_far h5 (p := ⟨w.heap.size + 1 + 1, 0, none⟩) (show w.heap.size + 1 + 1 + 1 ≠ w.heap.size + 1 + 1 by omega) (.int .i64 v4)) 0 (.int .i64 v5) rfl
  exact ⟨(blk_cell g4 0).trans rfl, (blk_cell g5 0).trans rfl, (hb.setCell (p := ⟨w.heap.size + 1 + 1, 0, none⟩) (by show w.heap.size ≤ w.heap.size + 1 + 1; omega) _).setCell (p := ⟨w.heap.size + 1 + 1 + 1, 0, none⟩) (by show w.heap.size ≤ w.heap.size + 1 + 1 + 1; omega) _⟩

set_option maxHeartbeats 8000000 in
set_option maxRecDepth 100000 in
theorem Rp.nearok_f0 (kind : Int) (sec : Int) (nxt : Bool) (floor : Int) (w : World) (k1 : decide (floor < 0) = false) (k2 : decide (6000000000 < floor) = false) (k3 : decide (sec < -1099511627776) = false) (k4 : decide (1099511627776 < sec) = false) (g : Int) (HN : Aside0 (week_Near.f sec 1024 floor = some (g, 0))) :
    Calls Try.prog 45 #[.agg #[.int .u8 kind, .bool false, .int .i64 sec, .bool false, .int .i64 0, .bool nxt], .int .i64 floor] w fun e w' => e = .returned (.tuple #[.int .i64 g, .int .i64 0]) ∧ Below w.heap.size w w' := by
  have hu61 := Try.underlying61
  refine (callsIn_wide (n := 3)).1 ?_
  refine callsIn_of_wp_marks Try.func45 rfl trivial ?_ rfl
  simp only [Try.ntmps45, List.size_toArray, List.length_cons, List.length_nil, Nat.reduceAdd, Nat.reduceSub, Array.replicate_succ, Array.replicate_zero, List.push_toArray, List.append_toArray, List.nil_append, List.cons_append]
  gi_wp2_with (refine ⟨trivial, ?_⟩; gi_at_call 20; (with_reducible refine (callsIn_wide.2 (week_Near.calls sec 1024 floor g 0 _ HN.out)).mono ?_); rintro e w1 ⟨rfl, hb1⟩
               have HB := Aside0.mk hb1
               have HK4 := Aside0.mk (blk_below (Rp.four' w (.cells #[.int .u8 kind, .bool false, .int .i64 sec, .bool false, .int .i64 0, .bool nxt] 61 (0, 0)) (.cells #[.int .i64 floor] 2 (0, 0)) 0 0).1 hb1)
               have HK5 := Aside0.mk (blk_below (Rp.four' w (.cells #[.int .u8 kind, .bool false, .int .i64 sec, .bool false, .int .i64 0, .bool nxt] 61 (0, 0)) (.cells #[.int .i64 floor] 2 (0, 0)) 0 0).2 hb1)
               have HB1 := Aside0.mk (below_then (Rp.four w (.cells #[.int .u8 kind, .bool false, .int .i64 sec, .bool false, .int .i64 0, .bool nxt] 61 (0, 0)) (.cells #[.int .i64 floor] 2 (0, 0)) 0 0).2.2 (Rp.four w (.cells #[.int .u8 kind, .bool false, .int .i64 sec, .bool false, .int .i64 0, .bool nxt] 61 (0, 0)) (.cells #[.int .i64 floor] 2 (0, 0)) 0 0).2.2.size hb1)
               have c4 := blk_cell HK4.out 0
               have f4 := blk_frozen HK4.out 0
               have c5 := blk_cell HK5.out 0
               have f5 := blk_frozen HK5.out 0
               clear hb1)
  obtain ⟨f1, f2, f3⟩ := Rp.sets w w1 _ _ HK4.out HK5.out HB1.out g 0
  exact ⟨_, Rp.res _ rfl _ _ _ _ _ _ rfl rfl f1 f2, rfl, f3⟩

set_option maxHeartbeats 8000000 in
set_option maxRecDepth 100000 in
theorem Rp.near_f0 (kind : Int) (sec : Int) (nxt : Bool) (floor : Int) (w : World) (k1 : decide (floor < 0) = false) (k2 : decide (6000000000 < floor) = false) (k3 : decide (sec < -1099511627776) = false) (k4 : decide (1099511627776 < sec) = false) (g er : Int) (d1 : (er != 0) = true) (HN : Aside0 (week_Near.f sec 1024 floor = some (g, er))) :
    Calls Try.prog 45 #[.agg #[.int .u8 kind, .bool false, .int .i64 sec, .bool false, .int .i64 0, .bool nxt], .int .i64 floor] w fun e w' => e = .returned (.tuple #[.int .i64 0, .int .i64 7]) ∧ Below w.heap.size w w' := by
  have hu61 := Try.underlying61
  refine (callsIn_wide (n := 3)).1 ?_
  refine callsIn_of_wp_marks Try.func45 rfl trivial ?_ rfl
  simp only [Try.ntmps45, List.size_toArray, List.length_cons, List.length_nil, Nat.reduceAdd, Nat.reduceSub, Array.replicate_succ, Array.replicate_zero, List.push_toArray, List.append_toArray, List.nil_append, List.cons_append]
  gi_wp2_with (refine ⟨trivial, ?_⟩; gi_at_call 20; (with_reducible refine (callsIn_wide.2 (week_Near.calls sec 1024 floor g er _ HN.out)).mono ?_); rintro e w1 ⟨rfl, hb1⟩
               have HB := Aside0.mk hb1
               have HK4 := Aside0.mk (blk_below (Rp.four' w (.cells #[.int .u8 kind, .bool false, .int .i64 sec, .bool false, .int .i64 0, .bool nxt] 61 (0, 0)) (.cells #[.int .i64 floor] 2 (0, 0)) 0 0).1 hb1)
               have HK5 := Aside0.mk (blk_below (Rp.four' w (.cells #[.int .u8 kind, .bool false, .int .i64 sec, .bool false, .int .i64 0, .bool nxt] 61 (0, 0)) (.cells #[.int .i64 floor] 2 (0, 0)) 0 0).2 hb1)
               have HB1 := Aside0.mk (below_then (Rp.four w (.cells #[.int .u8 kind, .bool false, .int .i64 sec, .bool false, .int .i64 0, .bool nxt] 61 (0, 0)) (.cells #[.int .i64 floor] 2 (0, 0)) 0 0).2.2 (Rp.four w (.cells #[.int .u8 kind, .bool false, .int .i64 sec, .bool false, .int .i64 0, .bool nxt] 61 (0, 0)) (.cells #[.int .i64 floor] 2 (0, 0)) 0 0).2.2.size hb1)
               have c4 := blk_cell HK4.out 0
               have f4 := blk_frozen HK4.out 0
               have c5 := blk_cell HK5.out 0
               have f5 := blk_frozen HK5.out 0
               clear hb1)
  obtain ⟨f1, f2, f3⟩ := Rp.sets w w1 _ _ HK4.out HK5.out HB1.out 0 7
  exact ⟨_, Rp.res _ rfl _ _ _ _ _ _ rfl rfl f1 f2, rfl, f3⟩

set_option maxHeartbeats 8000000 in
set_option maxRecDepth 100000 in
theorem Rp.nearok_fk (kind : Int) (sec : Int) (nxt : Bool) (floor : Int) (w : World) (k1 : decide (floor < 0) = false) (k2 : decide (6000000000 < floor) = false) (k3 : decide (sec < -1099511627776) = false) (k4 : decide (1099511627776 < sec) = false) (g : Int) (HN : Aside0 (week_Near.f sec 1024 floor = some (g, 0))) :
    Calls Try.prog 45 #[.agg #[.int .u8 kind, .bool false, .int .i64 sec, .bool false, .int .i64 1024, .bool nxt], .int .i64 floor] w fun e w' => e = .returned (.tuple #[.int .i64 g, .int .i64 0]) ∧ Below w.heap.size w w' := by
  have hu61 := Try.underlying61
  refine (callsIn_wide (n := 3)).1 ?_
  refine callsIn_of_wp_marks Try.func45 rfl trivial ?_ rfl
  simp only [Try.ntmps45, List.size_toArray, List.length_cons, List.length_nil, Nat.reduceAdd, Nat.reduceSub, Array.replicate_succ, Array.replicate_zero, List.push_toArray, List.append_toArray, List.nil_append, List.cons_append]
  gi_wp2_with (refine ⟨trivial, ?_⟩; gi_at_call 20; (with_reducible refine (callsIn_wide.2 (week_Near.calls sec 1024 floor g 0 _ HN.out)).mono ?_); rintro e w1 ⟨rfl, hb1⟩
               have HB := Aside0.mk hb1
               have HK4 := Aside0.mk (blk_below (Rp.four' w (.cells #[.int .u8 kind, .bool false, .int .i64 sec, .bool false, .int .i64 1024, .bool nxt] 61 (0, 0)) (.cells #[.int .i64 floor] 2 (0, 0)) 0 0).1 hb1)
               have HK5 := Aside0.mk (blk_below (Rp.four' w (.cells #[.int .u8 kind, .bool false, .int .i64 sec, .bool false, .int .i64 1024, .bool nxt] 61 (0, 0)) (.cells #[.int .i64 floor] 2 (0, 0)) 0 0).2 hb1)
               have HB1 := Aside0.mk (below_then (Rp.four w (.cells #[.int .u8 kind, .bool false, .int .i64 sec, .bool false, .int .i64 1024, .bool nxt] 61 (0, 0)) (.cells #[.int .i64 floor] 2 (0, 0)) 0 0).2.2 (Rp.four w (.cells #[.int .u8 kind, .bool false, .int .i64 sec, .bool false, .int .i64 1024, .bool nxt] 61 (0, 0)) (.cells #[.int .i64 floor] 2 (0, 0)) 0 0).2.2.size hb1)
               have c4 := blk_cell HK4.out 0
               have f4 := blk_frozen HK4.out 0
               have c5 := blk_cell HK5.out 0
               have f5 := blk_frozen HK5.out 0
               clear hb1)
  obtain ⟨f1, f2, f3⟩ := Rp.sets w w1 _ _ HK4.out HK5.out HB1.out g 0
  exact ⟨_, Rp.res _ rfl _ _ _ _ _ _ rfl rfl f1 f2, rfl, f3⟩

set_option maxHeartbeats 8000000 in
set_option maxRecDepth 100000 in
theorem Rp.near_fk (kind : Int) (sec : Int) (nxt : Bool) (floor : Int) (w : World) (k1 : decide (floor < 0) = false) (k2 : decide (6000000000 < floor) = false) (k3 : decide (sec < -1099511627776) = false) (k4 : decide (1099511627776 < sec) = false) (g er : Int) (d1 : (er != 0) = true) (HN : Aside0 (week_Near.f sec 1024 floor = some (g, er))) :
    Calls Try.prog 45 #[.agg #[.int .u8 kind, .bool false, .int .i64 sec, .bool false, .int .i64 1024, .bool nxt], .int .i64 floor] w fun e w' => e = .returned (.tuple #[.int .i64 0, .int .i64 7]) ∧ Below w.heap.size w w' := by
  have hu61 := Try.underlying61
  refine (callsIn_wide (n := 3)).1 ?_
  refine callsIn_of_wp_marks Try.func45 rfl trivial ?_ rfl
  simp only [Try.ntmps45, List.size_toArray, List.length_cons, List.length_nil, Nat.reduceAdd, Nat.reduceSub, Array.replicate_succ, Array.replicate_zero, List.push_toArray, List.append_toArray, List.nil_append, List.cons_append]
  gi_wp2_with (refine ⟨trivial, ?_⟩; gi_at_call 20; (with_reducible refine (callsIn_wide.2 (week_Near.calls sec 1024 floor g er _ HN.out)).mono ?_); rintro e w1 ⟨rfl, hb1⟩
               have HB := Aside0.mk hb1
               have HK4 := Aside0.mk (blk_below (Rp.four' w (.cells #[.int .u8 kind, .bool false, .int .i64 sec, .bool false, .int .i64 1024, .bool nxt] 61 (0, 0)) (.cells #[.int .i64 floor] 2 (0, 0)) 0 0).1 hb1)
               have HK5 := Aside0.mk (blk_below (Rp.four' w (.cells #[.int .u8 kind, .bool false, .int .i64 sec, .bool false, .int .i64 1024, .bool nxt] 61 (0, 0)) (.cells #[.int .i64 floor] 2 (0, 0)) 0 0).2 hb1)
               have HB1 := Aside0.mk (below_then (Rp.four w (.cells #[.int .u8 kind, .bool false, .int .i64 sec, .bool false, .int .i64 1024, .bool nxt] 61 (0, 0)) (.cells #[.int .i64 floor] 2 (0, 0)) 0 0).2.2 (Rp.four w (.cells #[.int .u8 kind, .bool false, .int .i64 sec, .bool false, .int .i64 1024, .bool nxt] 61 (0, 0)) (.cells #[.int .i64 floor] 2 (0, 0)) 0 0).2.2.size hb1)
               have c4 := blk_cell HK4.out 0
               have f4 := blk_frozen HK4.out 0
               have c5 := blk_cell HK5.out 0
               have f5 := blk_frozen HK5.out 0
               clear hb1)
  obtain ⟨f1, f2, f3⟩ := Rp.sets w w1 _ _ HK4.out HK5.out HB1.out 0 7
  exact ⟨_, Rp.res _ rfl _ _ _ _ _ _ rfl rfl f1 f2, rfl, f3⟩

/-! ### meant, years: what they hand back -/
set_option maxHeartbeats 8000000 in
set_option maxRecDepth 100000 in
theorem Rp.years_calls (sec : Int) (w : World) :
    Calls Try.prog 77 #[.int .i64 sec] w fun e w' => ∃ bs : Nat, e = .returned (.func (.func 79) #[] #[.pointer (some ⟨bs, 0, none⟩)]) ∧ w'.cell? ⟨bs, 0, none⟩ = some (.int .i64 sec) ∧ Below w.heap.size w w' := by
  have hmf : ∀ (fn : Fn) (first cap : Array Value) (w : World), (Instr.makeFunc fn first cap).run Try.prog w = .ok (.func fn first cap) w := fun _ _ _ _ => rfl
  go_enter Try.func77, Try.ntmps77
  go_wp2
  go_ret
  exact ⟨w.heap.size, by first | rfl | (simp; done), (blk_cell (blk_new w (.cells #[.int .i64 sec] 2 (0, 0))) 0).trans rfl, below_alloc (Below.refl _ _) _⟩

set_option maxHeartbeats 8000000 in
set_option maxRecDepth 100000 in
theorem Rp.meant_calls (kind : Int) (utc : Bool) (sec : Int) (leap : Bool) (cyc : Int) (nxt : Bool) (floor : Int) (w : World) (h1 : (cyc == 100) = false) :
    Calls Try.prog 65 #[.agg #[.int .u8 kind, .bool utc, .int .i64 sec, .bool leap, .int .i64 cyc, .bool nxt], .int .i64 floor] w fun e w' => (∃ bf bm : Nat, e = .returned (.func (.func 78) #[] #[.pointer (some ⟨bf, 0, none⟩), .pointer (some ⟨bm, 0, none⟩)]) ∧ w'.cell? ⟨bf, 0, none⟩ = some (.int .i64 floor) ∧ w'.cell? ⟨bm, 2, none⟩ = some (.int .i64 sec)) ∧ Below w.heap.size w w' := by
  have hu61 := Try.underlying61
  have hmf : ∀ (fn : Fn) (first cap : Array Value) (w : World), (Instr.makeFunc fn first cap).run Try.prog w = .ok (.func fn first cap) w := fun _ _ _ _ => rfl
  go_enter Try.func65, Try.ntmps65
  go_wp2_with (fail)
  go_ret
  exact ⟨⟨w.heap.size + 1, w.heap.size, by first | rfl | (simp; done), by have := blk_cell (blk_new (w.alloc (.cells #[.int .u8 kind, .bool utc, .int .i64 sec, .bool leap, .int .i64 cyc, .bool nxt] 61 (0, 0))) (.cells #[.int .i64 floor] 2 (0, 0))) 0; rw [World.size_alloc] at this; exact this, (blk_cell (blk_alloc (blk_new w (.cells #[.int .u8 kind, .bool utc, .int .i64 sec, .bool leap, .int .i64 cyc, .bool nxt] 61 (0, 0))) (.cells #[.int .i64 floor] 2 (0, 0))) 2).trans rfl⟩, below_alloc (below_alloc (Below.refl _ _) _) _⟩

set_option maxHeartbeats 8000000 in
set_option maxRecDepth 100000 in
theorem Rp.meant100_calls (kind : Int) (utc : Bool) (sec : Int) (leap : Bool) (cyc : Int) (nxt : Bool) (floor : Int) (w : World) (h1 : (cyc == 100) = true) :
    Calls Try.prog 65 #[.agg #[.int .u8 kind, .bool utc, .int .i64 sec, .bool leap, .int .i64 cyc, .bool nxt], .int .i64 floor] w fun e w' => (∃ bs : Nat, e = .returned (.func (.func 79) #[] #[.pointer (some ⟨bs, 0, none⟩)]) ∧ w'.cell? ⟨bs, 0, none⟩ = some (.int .i64 sec)) ∧ Below w.heap.size w w' := by
  have hu61 := Try.underlying61
  have hmf : ∀ (fn : Fn) (first cap : Array Value) (w : World), (Instr.makeFunc fn first cap).run Try.prog w = .ok (.func fn first cap) w := fun _ _ _ _ => rfl
  go_enter Try.func65, Try.ntmps65
  go_wp2_with (go_at_call 77; (with_reducible refine (Rp.years_calls sec _).mono ?_); rintro e w1 ⟨bs, rfl, hc, hb⟩; have HC := Aside0.mk hc; have HB := Aside0.mk (below_then (below_alloc (below_alloc (Below.refl w.heap.size w) _) _) (below_alloc (below_alloc (Below.refl w.heap.size w) _) _).size hb); clear hc hb)
  go_ret
  exact ⟨⟨bs, by first | rfl | (simp; done), HC.out⟩, HB.out⟩
end Go.Proofs.Ytjabbppmkepgdaa
