/- The contracts of slots' held and of its closure, walked by hand. -/
import Derived.Test.YtjldkgcabombhaaProg
import Derived.Below
import Derived.Deep.Draws
import Derived.OwnWalk
import Derived.Tactics
import Derived.WalkKit
import Derived.WalkSpells
import Derived.WalkLawsBesides
import Derived.KernelRfl
import Derived.RowKit3
import Derived.Deep.LoopGhost
import Derived.Deep.QuietTactic
import Derived.BigQuiet
import Derived.WideLaws
import Derived.Deep.DeepCutAuto
import Derived.Deep.CutBlock
import Derived.Deep.RegionHeld3
import Derived.Lib.Hide
import Derived.IntWalk
import Derived.Outline
import Derived.Test.YtjldkgcabombhaaWWords
import Derived.Test.YtjldkgcabombhaaWLast
import Derived.Test.YtjldkgcabombhaaWMore
import Derived.Test.YtjldkgcabombhaaHG4
namespace Go.Proofs.Ytjldkgcabombhaa
open Go.RowKit Go.Proofs.YtjldkgcabombhaaW.PrintWords Go.Proofs.YtjldkgcabombhaaW.PrintLast Go.Proofs.YtjldkgcabombhaaW.PrintMore
set_option linter.unusedVariables false
set_option linter.unusedSimpArgs false

def Sl.ahead (a0 : Int) (wa : Bool) (b0 : Int) (wb : Bool) : Bool := wa && (!wb || decide (b0 ≤ a0))
def Sl.now (a0 : Int) (wa : Bool) (b0 : Int) (wb : Bool) : Int := if Sl.ahead a0 wa b0 wb = true then 0 else 1
def Sl.next (a0 : Int) (wa : Bool) (b0 : Int) (wb : Bool) : Int := if wa = false then 0 else if (!wb || decide (b0 < a0)) = true then 1 else 0

set_option maxHeartbeats 8000000 in
set_option maxRecDepth 100000 in
theorem Sl.clo (a0 a1 a2 a3 : Int) (wa : Bool) (b0 b1 b2 b3 : Int) (wb : Bool) (w : World) : Calls Try.prog 70 #[.agg #[.int .u32 a0, .int .i64 a1, .int .i64 a2, .int .i64 a3, .bool wa], .agg #[.int .u32 b0, .int .i64 b1, .int .i64 b2, .int .i64 b3, .bool wb]] w fun e w' => e = .returned (.bool (Sl.ahead a0 wa b0 wb)) ∧ Below w.heap.size w w' := by
  have hu := Try.underlying105
  have hu2 := Try.underlying24
  unfold Sl.ahead
  cases wa <;> cases wb <;> (
    go_enter Try.func70, Try.ntmps70
    go_wp2
    go_ret
    exact ⟨by simp, below_alloc (below_alloc (Below.refl _ _) _) _⟩)

set_option maxHeartbeats 8000000 in
set_option maxRecDepth 100000 in
theorem Sl.held (a0 a1 a2 a3 : Int) (wa : Bool) (b0 b1 b2 b3 : Int) (wb : Bool) (w : World) : Calls Try.prog 66 #[.agg #[.int .u32 a0, .int .i64 a1, .int .i64 a2, .int .i64 a3, .bool wa, .int .u32 b0, .int .i64 b1, .int .i64 b2, .int .i64 b3, .bool wb]] w fun e w' => e = .returned (.tuple #[.int .i64 (Sl.now a0 wa b0 wb), .int .i64 (Sl.next a0 wa b0 wb)]) ∧ Below w.heap.size w w' := by
  have hu := Try.underlying105
  have hu2 := Try.underlying24
  have HB := Aside0.mk (below_alloc (Below.refl w.heap.size w) (.cells #[.int .u32 a0, .int .i64 a1, .int .i64 a2, .int .i64 a3, .bool wa, .int .u32 b0, .int .i64 b1, .int .i64 b2, .int .i64 b3, .bool wb] 106 (0, 0)))
  have HK := Aside0.mk (blk_new w (.cells #[.int .u32 a0, .int .i64 a1, .int .i64 a2, .int .i64 a3, .bool wa, .int .u32 b0, .int .i64 b1, .int .i64 b2, .int .i64 b3, .bool wb] 106 (0, 0)))
  obtain ⟨ah, hah⟩ : ∃ ah, Sl.ahead a0 wa b0 wb = ah := ⟨_, rfl⟩
  have HC := Aside0.mk (fun W => Sl.clo a0 a1 a2 a3 wa b0 b1 b2 b3 wb W)
  rw [hah] at HC
  unfold Sl.now Sl.next
  rw [hah]
  clear hah
  by_cases c : b0 < a0
  · have d1 : decide (b0 < a0) = true := decide_eq_true c
    rw [d1]
    clear c
    cases ah <;> cases wa <;> cases wb <;> (
      go_enter Try.func66, Try.ntmps66
      go_wp2_with (first
        | (go_at_call 70; (refine (HC.out _).mono ?_)
           rintro e w1 ⟨rfl, hb⟩
           have HB1 := Aside0.mk (below_step HB.out hb)
           have hk := blk_below HK.out hb
           have e0 := blk_cell hk 0
           have e4 := blk_cell hk 4
           have e5 := blk_cell hk 5
           have e9 := blk_cell hk 9
           clear hb HB HC hk))
      go_ret2
      exact ⟨by simp, HB1.out⟩)
  · have d1 : decide (b0 < a0) = false := decide_eq_false c
    rw [d1]
    clear c
    cases ah <;> cases wa <;> cases wb <;> (
      go_enter Try.func66, Try.ntmps66
      go_wp2_with (first
        | (go_at_call 70; (refine (HC.out _).mono ?_)
           rintro e w1 ⟨rfl, hb⟩
           have HB1 := Aside0.mk (below_step HB.out hb)
           have hk := blk_below HK.out hb
           have e0 := blk_cell hk 0
           have e4 := blk_cell hk 4
           have e5 := blk_cell hk 5
           have e9 := blk_cell hk 9
           clear hb HB HC hk))
      go_ret2
      exact ⟨by simp, HB1.out⟩)
end Go.Proofs.Ytjldkgcabombhaa
