/- The contract of slots.Save where there is no store, walked by hand. -/
import Derived.Test.YtjldkgcabombhaaProg
import Derived.Below
import Derived.Deep.Draws
import Derived.OwnWalk
import Derived.Tactics
import Derived.WalkKit
import Derived.WalkSpells
import Derived.WalkLawsBesides
import Derived.KernelRfl
import Derived.RowKit3
import Derived.Deep.LoopGhost
import Derived.Deep.QuietTactic
import Derived.BigQuiet
import Derived.WideLaws
import Derived.Deep.DeepCutAuto
import Derived.Deep.CutBlock
import Derived.Deep.RegionHeld3
import Derived.Lib.Hide
import Derived.IntWalk
import Derived.Outline
import Derived.Test.YtjldkgcabombhaaWWords
import Derived.Test.YtjldkgcabombhaaWLast
import Derived.Test.YtjldkgcabombhaaWMore
import Derived.Deep.RegionWith
import Derived.Test.YtjldkgcabombhaaHS4
namespace Go.Proofs.Ytjldkgcabombhaa
open Go.RowKit Go.Proofs.YtjldkgcabombhaaW.PrintWords Go.Proofs.YtjldkgcabombhaaW.PrintLast Go.Proofs.YtjldkgcabombhaaW.PrintMore
set_option linter.unusedVariables false
set_option linter.unusedSimpArgs false

theorem Sv.new (w : World) (r0 r1 r2 r3 : Int) : ((w.alloc (.cells #[.int .u32 r0, .int .i64 r1, .int .i64 r2, .int .i64 r3] 24 (0, 0))).alloc (.cells #[.int .u32 0, .int .i64 0, .int .i64 0, .int .i64 0] 24 (0, 0))).heap[w.heap.size + 1]? = some (.cells #[.int .u32 0, .int .i64 0, .int .i64 0, .int .i64 0] 24 (0, 0)) := by
  have := blk_new (w.alloc (.cells #[.int .u32 r0, .int .i64 r1, .int .i64 r2, .int .i64 r3] 24 (0, 0))) (.cells #[.int .u32 0, .int .i64 0, .int .i64 0, .int .i64 0] 24 (0, 0))
  rw [World.size_alloc] at this
  exact this
set_option maxHeartbeats 1000000 in
set_option maxRecDepth 100000 in
theorem Sv.nil (w : World) (r0 r1 r2 r3 : Int) : Calls Try.prog 45 #[.pointer none, .agg #[.int .u32 r0, .int .i64 r1, .int .i64 r2, .int .i64 r3]] w fun e w' => e = .returned (.tuple #[.agg #[.int .u32 0, .int .i64 0, .int .i64 0, .int .i64 0], .int .i64 1]) ∧ Below w.heap.size w w' := by
  have hu2 := Try.underlying24
  have HC := Aside0.mk (Sq.nil ((w.alloc (.cells #[.int .u32 r0, .int .i64 r1, .int .i64 r2, .int .i64 r3] 24 (0, 0))).alloc (.cells #[.int .u32 0, .int .i64 0, .int .i64 0, .int .i64 0] 24 (0, 0))))
  have HN := Aside0.mk (Sv.new w r0 r1 r2 r3)
  go_enter Try.func45, Try.ntmps45
  go_wp2_with (first
    | (go_at_call 47; (refine HC.out.mono ?_)
       rintro e w1 ⟨rfl, hb⟩
       have HB := Aside0.mk (below_alloc (below_step (below_alloc (below_alloc (Below.refl w.heap.size w) (.cells #[.int .u32 r0, .int .i64 r1, .int .i64 r2, .int .i64 r3] 24 (0, 0))) (.cells #[.int .u32 0, .int .i64 0, .int .i64 0, .int .i64 0] 24 (0, 0))) hb) (.cells #[.int .u32 0, .int .i64 0, .int .i64 0, .int .i64 0] 24 (0, 0)))
       have HK := Aside0.mk (blk_alloc (blk_below HN.out hb) (.cells #[.int .u32 0, .int .i64 0, .int .i64 0, .int .i64 0] 24 (0, 0)))
       have k0 := blk_cell HK.out 0
       have f0 := blk_frozen HK.out 0
       have k1 := blk_cell HK.out 1
       have f1 := blk_frozen HK.out 1
       have k2 := blk_cell HK.out 2
       have f2 := blk_frozen HK.out 2
       have k3 := blk_cell HK.out 3
       have f3 := blk_frozen HK.out 3
       clear hb))
  obtain ⟨hx, hy⟩ := Sq.set4 (y0 := .int .u32 0) (y1 := .int .i64 0) (y2 := .int .i64 0) (y3 := .int .i64 0) (Nat.le_succ w.heap.size) HK.out HB.out
  generalize (((((w1.alloc (.cells #[.int .u32 0, .int .i64 0, .int .i64 0, .int .i64 0] 24)).setCell ⟨w.heap.size + 1, 0, none⟩ (.int .u32 0)).setCell ⟨w.heap.size + 1, 1, none⟩ (.int .i64 0)).setCell ⟨w.heap.size + 1, 2, none⟩ (.int .i64 0)).setCell ⟨w.heap.size + 1, 3, none⟩ (.int .i64 0)) = w9 at hx hy ⊢
  refine bodyPost_ret (results_ct rfl _ _ (w.heap.size + 1) 24 #[.int .u32 0, .int .i64 0, .int .i64 0, .int .i64 0] (0, 0) _ rfl hx Try.underlying24 rfl (by kernel_rfl)) rfl ?_
  exact ⟨rfl, hy⟩
set_option maxHeartbeats 1000000 in
set_option maxRecDepth 100000 in
theorem Sv.other {s : Fs} {w : World} {g : Nat} (h : s.At w g) (hz : s.size ≠ 128) (r0 r1 r2 r3 : Int) : Calls Try.prog 45 #[.pointer (some ⟨g, 0, none⟩), .agg #[.int .u32 r0, .int .i64 r1, .int .i64 r2, .int .i64 r3]] w fun e w' => e = .returned (.tuple #[.agg #[.int .u32 0, .int .i64 0, .int .i64 0, .int .i64 0], .int .i64 2]) ∧ Below w.heap.size w w' := by
  have hu2 := Try.underlying24
  have HC := Aside0.mk (Sq.other (w := ((w.alloc (.cells #[.int .u32 r0, .int .i64 r1, .int .i64 r2, .int .i64 r3] 24 (0, 0))).alloc (.cells #[.int .u32 0, .int .i64 0, .int .i64 0, .int .i64 0] 24 (0, 0)))) ⟨blk_alloc (blk_alloc h.1 _) _, h.2⟩ hz)
  have HN := Aside0.mk (Sv.new w r0 r1 r2 r3)
  go_enter Try.func45, Try.ntmps45
  go_wp2_with (first
    | (go_at_call 47; (refine HC.out.mono ?_)
       rintro e w1 ⟨rfl, hb⟩
       have HB := Aside0.mk (below_alloc (below_step (below_alloc (below_alloc (Below.refl w.heap.size w) (.cells #[.int .u32 r0, .int .i64 r1, .int .i64 r2, .int .i64 r3] 24 (0, 0))) (.cells #[.int .u32 0, .int .i64 0, .int .i64 0, .int .i64 0] 24 (0, 0))) hb) (.cells #[.int .u32 0, .int .i64 0, .int .i64 0, .int .i64 0] 24 (0, 0)))
       have HK := Aside0.mk (blk_alloc (blk_below HN.out hb) (.cells #[.int .u32 0, .int .i64 0, .int .i64 0, .int .i64 0] 24 (0, 0)))
       have k0 := blk_cell HK.out 0
       have f0 := blk_frozen HK.out 0
       have k1 := blk_cell HK.out 1
       have f1 := blk_frozen HK.out 1
       have k2 := blk_cell HK.out 2
       have f2 := blk_frozen HK.out 2
       have k3 := blk_cell HK.out 3
       have f3 := blk_frozen HK.out 3
       clear hb))
  obtain ⟨hx, hy⟩ := Sq.set4 (y0 := .int .u32 0) (y1 := .int .i64 0) (y2 := .int .i64 0) (y3 := .int .i64 0) (Nat.le_succ w.heap.size) HK.out HB.out
  generalize (((((w1.alloc (.cells #[.int .u32 0, .int .i64 0, .int .i64 0, .int .i64 0] 24)).setCell ⟨w.heap.size + 1, 0, none⟩ (.int .u32 0)).setCell ⟨w.heap.size + 1, 1, none⟩ (.int .i64 0)).setCell ⟨w.heap.size + 1, 2, none⟩ (.int .i64 0)).setCell ⟨w.heap.size + 1, 3, none⟩ (.int .i64 0)) = w9 at hx hy ⊢
  refine bodyPost_ret (results_ct rfl _ _ (w.heap.size + 1) 24 #[.int .u32 0, .int .i64 0, .int .i64 0, .int .i64 0] (0, 0) _ rfl hx Try.underlying24 rfl (by kernel_rfl)) rfl ?_
  exact ⟨rfl, hy⟩
end Go.Proofs.Ytjldkgcabombhaa
