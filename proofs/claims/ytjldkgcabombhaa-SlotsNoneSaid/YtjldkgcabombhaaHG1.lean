/- The contract of block's may, walked by hand. -/
import Derived.Test.YtjldkgcabombhaaProg
import Derived.Below
import Derived.Deep.Draws
import Derived.OwnWalk
import Derived.Tactics
import Derived.WalkKit
import Derived.WalkSpells
import Derived.WalkLawsBesides
import Derived.KernelRfl
import Derived.RowKit3
import Derived.Deep.LoopGhost
import Derived.Deep.QuietTactic
import Derived.BigQuiet
import Derived.WideLaws
import Derived.Deep.DeepCutAuto
import Derived.Deep.CutBlock
import Derived.Deep.RegionHeld3
import Derived.Lib.Hide
import Derived.IntWalk
import Derived.Outline
import Derived.Test.YtjldkgcabombhaaWWords
import Derived.Test.YtjldkgcabombhaaWLast
import Derived.Test.YtjldkgcabombhaaWMore
import Derived.Deep.RegionWith
import Derived.Test.YtjldkgcabombhaaHG0
namespace Go.Proofs.Ytjldkgcabombhaa
open Go.RowKit Go.Proofs.YtjldkgcabombhaaW.PrintWords Go.Proofs.YtjldkgcabombhaaW.PrintLast Go.Proofs.YtjldkgcabombhaaW.PrintMore
set_option linter.unusedVariables false
set_option linter.unusedSimpArgs false

def Fs.may (s : Fs) (at' n : Int) : Int := if s.down = true then 10 else if s.inn at' = false then 2 else if s.inn n = false then 2 else if s.inn (wrap64 (at' + n)) = false then 2 else 0
def Fs.M (s : Fs) (w W : World) (g : Nat) : Prop := s.At W g ∧ W.heap[w.heap.size]? = some (.cells #[.pointer (some ⟨g, 0, none⟩)] 53 (0, 0)) ∧ Below w.heap.size w W
theorem Fs.m_start {s : Fs} {w : World} {g : Nat} (h : s.At w g) : s.M w (w.alloc (.cells #[.pointer (some ⟨g, 0, none⟩)] 53 (0, 0))) g := ⟨⟨blk_alloc h.1 _, h.2⟩, blk_new w _, below_alloc (Below.refl _ _) _⟩
theorem Fs.m_step {s : Fs} {w W W1 : World} {g : Nat} (h : s.M w W g) (hb : Below W.heap.size W W1) : s.M w W1 g := ⟨Fs.below h.1 hb, blk_below h.2.1 hb, below_step h.2.2 hb⟩
theorem Fs.m_drew {s : Fs} {w W : World} {g : Nat} (h : s.M w W g) : s.M w W.drew g := ⟨⟨blk_drew h.1.1, h.1.2⟩, blk_drew h.2.1, below_drew1 h.2.2⟩
theorem Fs.m_drewN {s : Fs} {w W : World} {g : Nat} (h : s.M w W g) (n : Nat) : s.M w (W.drewN n) g := ⟨⟨blk_drewN h.1.1 n, h.1.2⟩, blk_drewN h.2.1 n, pw_below_drewN h.2.2 n⟩
theorem Fs.m_in {s : Fs} {w W : World} {g : Nat} (h : s.M w W g) (x : Int) :
    Calls Try.prog 69 #[.int .i64 x, .pointer (some ⟨w.heap.size, 0, none⟩)] W fun e W' => e = .returned (.bool (s.inn x)) ∧ s.M w W' g :=
  (Fs.in_calls x h.1 (blk_cell h.2.1 0)).mono (fun _ _ ⟨he, hb⟩ => ⟨he, Fs.m_step h hb⟩)

set_option maxHeartbeats 8000000 in
set_option maxRecDepth 100000 in
theorem Fs.may_nil (at' n : Int) (w : World) : Calls Try.prog 63 #[.pointer none, .int .i64 at', .int .i64 n] w fun e w' => e = .returned (.int .i64 1) ∧ Below w.heap.size w w' := by
  have hmf : ∀ (fn : Fn) (first cap : Array Value) (w : World), (Instr.makeFunc fn first cap).run Try.prog w = .ok (.func fn first cap) w := fun _ _ _ _ => rfl
  go_enter Try.func63, Try.ntmps63
  go_wp2
  go_ret
  exact ⟨rfl, below_alloc (Below.refl _ _) _⟩
set_option maxHeartbeats 8000000 in
set_option maxRecDepth 100000 in
theorem Fs.may_down {s : Fs} {w : World} {g : Nat} (at' n : Int) (h : s.At w g) (hd : s.down = true) : Calls Try.prog 63 #[.pointer (some ⟨g, 0, none⟩), .int .i64 at', .int .i64 n] w fun e w' => e = .returned (.int .i64 10) ∧ Below w.heap.size w w' := by
  have hmf : ∀ (fn : Fn) (first cap : Array Value) (w : World), (Instr.makeFunc fn first cap).run Try.prog w = .ok (.func fn first cap) w := fun _ _ _ _ => rfl
  have hu := Try.underlying101
  have HS := Aside0.mk (Fs.m_start h)
  have c3 := Fs.c_down HS.out.1
  rw [hd] at c3
  clear h
  go_enter Try.func63, Try.ntmps63
  go_wp2
  go_ret
  exact ⟨rfl, below_alloc (Below.refl _ _) _⟩
set_option maxHeartbeats 8000000 in
set_option maxRecDepth 100000 in
theorem Fs.may_1 {s : Fs} {w : World} {g : Nat} (at' n : Int) (h : s.At w g) (hd : s.down = false) (d1 : s.inn at' = false) : Calls Try.prog 63 #[.pointer (some ⟨g, 0, none⟩), .int .i64 at', .int .i64 n] w fun e w' => e = .returned (.int .i64 2) ∧ Below w.heap.size w w' := by
  have hmf : ∀ (fn : Fn) (first cap : Array Value) (w : World), (Instr.makeFunc fn first cap).run Try.prog w = .ok (.func fn first cap) w := fun _ _ _ _ => rfl
  have hu := Try.underlying101
  have HS := Aside0.mk (Fs.m_start h)
  have c3 := Fs.c_down HS.out.1
  rw [hd] at c3
  clear h hd
  go_enter Try.func63, Try.ntmps63
  go_upto_region 6 with (fail)
  generalize (w.alloc (.cells #[.pointer (some ⟨g, 0, none⟩)] 53)) = w5 at HS c3 ⊢
  clear c3
  go_wp2_with (first
      | (go_at_call 69; (refine (Fs.m_in (w := w) (s := s) (g := g) (by first | exact HS.out | exact Fs.m_drew HS.out | exact Fs.m_drewN HS.out _) _).mono ?_)
         rintro e w6 ⟨he, hm⟩
         (try rw [d1] at he)
         (try rw [d2] at he)
         (try rw [d3] at he)
         subst he
         clear HS
         have HS := Aside0.mk hm
         clear hm))
  go_ret
  exact ⟨rfl, HS.out.2.2⟩
set_option maxHeartbeats 8000000 in
set_option maxRecDepth 100000 in
theorem Fs.may_2 {s : Fs} {w : World} {g : Nat} (at' n : Int) (h : s.At w g) (hd : s.down = false) (d1 : s.inn at' = true) (d2 : s.inn n = false) : Calls Try.prog 63 #[.pointer (some ⟨g, 0, none⟩), .int .i64 at', .int .i64 n] w fun e w' => e = .returned (.int .i64 2) ∧ Below w.heap.size w w' := by
  have hmf : ∀ (fn : Fn) (first cap : Array Value) (w : World), (Instr.makeFunc fn first cap).run Try.prog w = .ok (.func fn first cap) w := fun _ _ _ _ => rfl
  have hu := Try.underlying101
  have HS := Aside0.mk (Fs.m_start h)
  have c3 := Fs.c_down HS.out.1
  rw [hd] at c3
  clear h hd
  go_enter Try.func63, Try.ntmps63
  go_upto_region 6 with (fail)
  generalize (w.alloc (.cells #[.pointer (some ⟨g, 0, none⟩)] 53)) = w5 at HS c3 ⊢
  clear c3
  go_wp2_with (first
      | (go_at_call 69; (refine (Fs.m_in (w := w) (s := s) (g := g) (by first | exact HS.out | exact Fs.m_drew HS.out | exact Fs.m_drewN HS.out _) _).mono ?_)
         rintro e w6 ⟨he, hm⟩
         (try rw [d1] at he)
         (try rw [d2] at he)
         (try rw [d3] at he)
         subst he
         clear HS
         have HS := Aside0.mk hm
         clear hm))
  go_ret
  exact ⟨rfl, HS.out.2.2⟩
set_option maxHeartbeats 8000000 in
set_option maxRecDepth 100000 in
theorem Fs.may_3 {s : Fs} {w : World} {g : Nat} (at' n : Int) (h : s.At w g) (hd : s.down = false) (d1 : s.inn at' = true) (d2 : s.inn n = true) (d3 : s.inn (wrap64 (at' + n)) = false) : Calls Try.prog 63 #[.pointer (some ⟨g, 0, none⟩), .int .i64 at', .int .i64 n] w fun e w' => e = .returned (.int .i64 2) ∧ Below w.heap.size w w' := by
  have hmf : ∀ (fn : Fn) (first cap : Array Value) (w : World), (Instr.makeFunc fn first cap).run Try.prog w = .ok (.func fn first cap) w := fun _ _ _ _ => rfl
  have hu := Try.underlying101
  have HS := Aside0.mk (Fs.m_start h)
  have c3 := Fs.c_down HS.out.1
  rw [hd] at c3
  clear h hd
  go_enter Try.func63, Try.ntmps63
  go_upto_region 6 with (fail)
  generalize (w.alloc (.cells #[.pointer (some ⟨g, 0, none⟩)] 53)) = w5 at HS c3 ⊢
  clear c3
  go_wp2_with (first
      | (go_at_call 69; (refine (Fs.m_in (w := w) (s := s) (g := g) (by first | exact HS.out | exact Fs.m_drew HS.out | exact Fs.m_drewN HS.out _) _).mono ?_)
         rintro e w6 ⟨he, hm⟩
         (try rw [d1] at he)
         (try rw [d2] at he)
         (try rw [d3] at he)
         subst he
         clear HS
         have HS := Aside0.mk hm
         clear hm))
  go_ret
  exact ⟨rfl, HS.out.2.2⟩
set_option maxHeartbeats 8000000 in
set_option maxRecDepth 100000 in
theorem Fs.may_4 {s : Fs} {w : World} {g : Nat} (at' n : Int) (h : s.At w g) (hd : s.down = false) (d1 : s.inn at' = true) (d2 : s.inn n = true) (d3 : s.inn (wrap64 (at' + n)) = true) : Calls Try.prog 63 #[.pointer (some ⟨g, 0, none⟩), .int .i64 at', .int .i64 n] w fun e w' => e = .returned (.int .i64 0) ∧ Below w.heap.size w w' := by
  have hmf : ∀ (fn : Fn) (first cap : Array Value) (w : World), (Instr.makeFunc fn first cap).run Try.prog w = .ok (.func fn first cap) w := fun _ _ _ _ => rfl
  have hu := Try.underlying101
  have HS := Aside0.mk (Fs.m_start h)
  have c3 := Fs.c_down HS.out.1
  rw [hd] at c3
  clear h hd
  go_enter Try.func63, Try.ntmps63
  go_upto_region 6 with (fail)
  generalize (w.alloc (.cells #[.pointer (some ⟨g, 0, none⟩)] 53)) = w5 at HS c3 ⊢
  clear c3
  go_wp2_with (first
      | (go_at_call 69; (refine (Fs.m_in (w := w) (s := s) (g := g) (by first | exact HS.out | exact Fs.m_drew HS.out | exact Fs.m_drewN HS.out _) _).mono ?_)
         rintro e w6 ⟨he, hm⟩
         (try rw [d1] at he)
         (try rw [d2] at he)
         (try rw [d3] at he)
         subst he
         clear HS
         have HS := Aside0.mk hm
         clear hm))
  go_ret
  exact ⟨rfl, HS.out.2.2⟩

theorem Fs.may_calls {s : Fs} {w : World} {g : Nat} (at' n : Int) (h : s.At w g) : Calls Try.prog 63 #[.pointer (some ⟨g, 0, none⟩), .int .i64 at', .int .i64 n] w fun e w' => e = .returned (.int .i64 (s.may at' n)) ∧ Below w.heap.size w w' := by
  unfold Fs.may
  cases hd : s.down with
  | true => exact Fs.may_down at' n h hd
  | false =>
    rw [if_neg (by decide)]
    cases d1 : s.inn at' with
    | false => exact Fs.may_1 at' n h hd d1
    | true =>
      rw [if_neg (by decide)]
      cases d2 : s.inn n with
      | false => exact Fs.may_2 at' n h hd d1 d2
      | true =>
        rw [if_neg (by decide)]
        cases d3 : s.inn (wrap64 (at' + n)) with
        | false => exact Fs.may_3 at' n h hd d1 d2 d3
        | true => exact Fs.may_4 at' n h hd d1 d2 d3
end Go.Proofs.Ytjldkgcabombhaa
