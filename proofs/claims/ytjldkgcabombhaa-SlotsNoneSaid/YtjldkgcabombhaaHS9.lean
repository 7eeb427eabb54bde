/- law27's known and SlotsNone, walked by hand. -/
import Derived.Test.YtjldkgcabombhaaProg
import Derived.Below
import Derived.Deep.Draws
import Derived.OwnWalk
import Derived.Tactics
import Derived.WalkKit
import Derived.WalkSpells
import Derived.WalkLawsBesides
import Derived.KernelRfl
import Derived.RowKit3
import Derived.Deep.LoopGhost
import Derived.Deep.QuietTactic
import Derived.BigQuiet
import Derived.WideLaws
import Derived.Deep.DeepCutAuto
import Derived.Deep.CutBlock
import Derived.Deep.RegionHeld3
import Derived.Lib.Hide
import Derived.IntWalk
import Derived.Outline
import Derived.Test.YtjldkgcabombhaaWWords
import Derived.Test.YtjldkgcabombhaaWLast
import Derived.Test.YtjldkgcabombhaaWMore
import Derived.Test.YtjldkgcabombhaaHS8
namespace Go.Proofs.Ytjldkgcabombhaa
open Go.RowKit Go.Proofs.Ytjldkgcabombhaa.Rec Go.Proofs.YtjldkgcabombhaaW.PrintWords Go.Proofs.YtjldkgcabombhaaW.PrintLast Go.Proofs.YtjldkgcabombhaaW.PrintMore
set_option linter.unusedVariables false
set_option linter.unusedSimpArgs false

theorem Kn.at_alloc {s : Fs} {w : World} {g : Nat} (h : s.At w g) (o : Obj) : s.At (w.alloc o) g := ⟨blk_alloc h.1 _, h.2⟩
theorem Kn.step {w W X : World} (h : Below w.heap.size w W) (hF : Fs.Fr w.heap.size W X) : Below w.heap.size w X := h.trans (Fs.fr_below hF (Nat.le_refl _) h.size)
theorem Kn.may2 : Kn.s2.may 0 0 = 0 := by decide +kernel
set_option maxHeartbeats 1000000 in
set_option maxRecDepth 100000 in
theorem Kn.known (w : World) : Calls Try.prog 44 #[] w fun e w' => e = .returned (.bool true) ∧ Below w.heap.size w w' := by
  have hu2 := Try.underlying24
  go_enter Try.func44, Try.ntmps44
  go_wp2_with (first
    | (go_at_call 30; (refine (Fs.new_calls 128 _ (by decide)).mono ?_)
       rintro e w1 ⟨rfl, hA, hb⟩
       have H0 := Aside0.mk (show Kn.s0.At w1 w.heap.size from hA)
       have B0 := Aside0.mk hb
       clear hA hb)
    | (go_at_call 45; (refine (Kn.save1 H0.out).mono ?_)
       rintro e w2 ⟨rfl, hA, hF⟩
       have H1 := Aside0.mk (Kn.at_alloc hA (.cells #[.int .u32 1, .int .i64 5, .int .i64 0, .int .i64 0] 24 (0, 0)))
       have B1 := Aside0.mk (below_alloc (Kn.step B0.out hF) (.cells #[.int .u32 1, .int .i64 5, .int .i64 0, .int .i64 0] 24 (0, 0)))
       clear hA hF H0 B0)
    | (go_at_call 45; (refine (Kn.save2 H1.out).mono ?_)
       rintro e w3 ⟨rfl, hA, hF⟩
       have H2 := Aside0.mk (Kn.at_alloc hA (.cells #[.int .u32 2, .int .i64 6, .int .i64 0, .int .i64 0] 24 (0, 0)))
       have B2 := Aside0.mk (below_alloc (Kn.step B1.out hF) (.cells #[.int .u32 2, .int .i64 6, .int .i64 0, .int .i64 0] 24 (0, 0)))
       clear hA hF H1 B1)
    | (go_at_call 36; (refine (Fs.crash_ok 10 H2.out Kn.may2 (by decide)).mono ?_)
       rintro e w4 ⟨rfl, hA, hF⟩
       have H3 := Aside0.mk (show Kn.s3.At w4 w.heap.size from hA)
       have B3 := Aside0.mk (Kn.step B2.out hF)
       clear hA hF H2 B2)
    | (go_at_call 45; (refine (Kn.save3 H3.out).mono ?_)
       rintro e w5 ⟨rfl, hA, hF⟩
       have H4 := Aside0.mk (Kn.at_alloc hA (.cells #[.int .u32 0, .int .i64 0, .int .i64 0, .int .i64 0] 24 (0, 0)))
       have B4 := Aside0.mk (below_alloc (Kn.step B3.out hF) (.cells #[.int .u32 0, .int .i64 0, .int .i64 0, .int .i64 0] 24 (0, 0)))
       clear hA hF H3 B3)
    | (go_at_call 38; (refine (Fs.up_calls H4.out).mono ?_)
       rintro e w6 ⟨rfl, he⟩
       have H5 := Aside0.mk (show Kn.s5.At w6 w.heap.size by rw [he]; exact Kn.up H4.out)
       have B5 := Aside0.mk (show Below w.heap.size w w6 by rw [he]; exact B4.out.setCell (p := ⟨w.heap.size, 4099, none⟩) (Nat.le_refl _) _)
       clear he H4 B4)
    | (go_at_call 47; (refine (Kn.load H5.out).mono ?_)
       rintro e w7 ⟨rfl, hb⟩
       have B6 := Aside0.mk (below_alloc (below_step B5.out hb) (.cells #[.int .u32 2, .int .i64 6, .int .i64 0, .int .i64 0] 24 (0, 0)))
       clear hb H5 B5))
  go_ret
  exact ⟨rfl, B6.out⟩

/-! ### SlotsNone -/
set_option maxHeartbeats 2000000 in
set_option maxRecDepth 100000 in
theorem Kn.bad (size r0 r1 r2 r3 : Int) (w : World) (h : size < 1 ∨ 4096 < size) : Calls Try.prog 11 #[.int .i64 size, .agg #[.int .u32 r0, .int .i64 r1, .int .i64 r2, .int .i64 r3]] w fun e w' => e = .returned (.bool true) ∧ Below w.heap.size w w' := by
  have hu2 := Try.underlying24
  have HH := Aside0.mk h
  clear h
  go_enter Try.func11, Try.ntmps11
  go_wp2_with (first
    | (go_at_call 47; (refine (Sq.nil _).mono ?_)
       rintro e w1 ⟨rfl, hb⟩
       have B0 := Aside0.mk (below_alloc (below_step (below_alloc (Below.refl w.heap.size w) (.cells #[.int .u32 r0, .int .i64 r1, .int .i64 r2, .int .i64 r3] 24 (0, 0))) hb) (.cells #[.int .u32 0, .int .i64 0, .int .i64 0, .int .i64 0] 24 (0, 0)))
       have HK := Aside0.mk (blk_alloc (blk_below (blk_new w (.cells #[.int .u32 r0, .int .i64 r1, .int .i64 r2, .int .i64 r3] 24 (0, 0))) hb) (.cells #[.int .u32 0, .int .i64 0, .int .i64 0, .int .i64 0] 24 (0, 0)))
       clear hb)
    | (go_at_call 48; (refine (Sn.nil _).mono ?_)
       rintro e w2 ⟨rfl, hb⟩
       have B1 := Aside0.mk (below_step B0.out hb)
       have HK1 := Aside0.mk (blk_below HK.out hb)
       have k0 := blk_cell HK1.out 0
       have k1 := blk_cell HK1.out 1
       have k2 := blk_cell HK1.out 2
       have k3 := blk_cell HK1.out 3
       clear hb B0 HK)
    | (go_at_call 45; (refine (Sv.nil _ r0 r1 r2 r3).mono ?_)
       rintro e w3 ⟨rfl, hb⟩
       have B2 := Aside0.mk (below_alloc (below_step B1.out hb) (.cells #[.int .u32 0, .int .i64 0, .int .i64 0, .int .i64 0] 24 (0, 0)))
       have HK2 := Aside0.mk (blk_alloc (blk_below HK1.out hb) (.cells #[.int .u32 0, .int .i64 0, .int .i64 0, .int .i64 0] 24 (0, 0)))
       clear hb B1 HK1 k0 k1 k2 k3)
    | (go_at_call 30; (refine (Fs.new_bad size _ HH.out).mono ?_)
       rintro e w4 ⟨rfl, rfl⟩
       have B3 := B2)
    | (go_at_call 44; (refine (Kn.known _).mono ?_)
       rintro e w9 ⟨rfl, hb⟩
       have B9 := Aside0.mk (below_step B3.out hb)
       clear hb))
  go_ret
  exact ⟨rfl, B9.out⟩
set_option maxHeartbeats 2000000 in
set_option maxRecDepth 100000 in
theorem Kn.same (size r0 r1 r2 r3 : Int) (w : World) (h : size = 128) : Calls Try.prog 11 #[.int .i64 size, .agg #[.int .u32 r0, .int .i64 r1, .int .i64 r2, .int .i64 r3]] w fun e w' => e = .returned (.bool true) ∧ Below w.heap.size w w' := by
  have hu2 := Try.underlying24
  subst h
  go_enter Try.func11, Try.ntmps11
  go_wp2_with (first
    | (go_at_call 47; (refine (Sq.nil _).mono ?_)
       rintro e w1 ⟨rfl, hb⟩
       have B0 := Aside0.mk (below_alloc (below_step (below_alloc (Below.refl w.heap.size w) (.cells #[.int .u32 r0, .int .i64 r1, .int .i64 r2, .int .i64 r3] 24 (0, 0))) hb) (.cells #[.int .u32 0, .int .i64 0, .int .i64 0, .int .i64 0] 24 (0, 0)))
       have HK := Aside0.mk (blk_alloc (blk_below (blk_new w (.cells #[.int .u32 r0, .int .i64 r1, .int .i64 r2, .int .i64 r3] 24 (0, 0))) hb) (.cells #[.int .u32 0, .int .i64 0, .int .i64 0, .int .i64 0] 24 (0, 0)))
       clear hb)
    | (go_at_call 48; (refine (Sn.nil _).mono ?_)
       rintro e w2 ⟨rfl, hb⟩
       have B1 := Aside0.mk (below_step B0.out hb)
       have HK1 := Aside0.mk (blk_below HK.out hb)
       have k0 := blk_cell HK1.out 0
       have k1 := blk_cell HK1.out 1
       have k2 := blk_cell HK1.out 2
       have k3 := blk_cell HK1.out 3
       clear hb B0 HK)
    | (go_at_call 45; (refine (Sv.nil _ r0 r1 r2 r3).mono ?_)
       rintro e w3 ⟨rfl, hb⟩
       have B2 := Aside0.mk (below_alloc (below_step B1.out hb) (.cells #[.int .u32 0, .int .i64 0, .int .i64 0, .int .i64 0] 24 (0, 0)))
       have HK2 := Aside0.mk (blk_alloc (blk_below HK1.out hb) (.cells #[.int .u32 0, .int .i64 0, .int .i64 0, .int .i64 0] 24 (0, 0)))
       clear hb B1 HK1 k0 k1 k2 k3)
    | (go_at_call 30; (refine (Fs.new_calls 128 _ (by decide)).mono ?_)
       rintro e w4 ⟨rfl, hA, hb⟩
       have B3 := Aside0.mk (below_step B2.out hb)
       clear hA hb)
    | (go_at_call 44; (refine (Kn.known _).mono ?_)
       rintro e w9 ⟨rfl, hb⟩
       have B9 := Aside0.mk (below_step B3.out hb)
       clear hb))
  go_ret
  exact ⟨rfl, B9.out⟩
end Go.Proofs.Ytjldkgcabombhaa
