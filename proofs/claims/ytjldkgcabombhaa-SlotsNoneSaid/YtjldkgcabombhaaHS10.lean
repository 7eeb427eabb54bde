/- SlotsNone answers true. -/
import Derived.Test.YtjldkgcabombhaaProg
import Derived.Below
import Derived.Deep.Draws
import Derived.OwnWalk
import Derived.Tactics
import Derived.WalkKit
import Derived.WalkSpells
import Derived.WalkLawsBesides
import Derived.KernelRfl
import Derived.RowKit3
import Derived.Deep.LoopGhost
import Derived.Deep.QuietTactic
import Derived.BigQuiet
import Derived.WideLaws
import Derived.Deep.DeepCutAuto
import Derived.Deep.CutBlock
import Derived.Deep.RegionHeld3
import Derived.Lib.Hide
import Derived.IntWalk
import Derived.Outline
import Derived.Test.YtjldkgcabombhaaWWords
import Derived.Test.YtjldkgcabombhaaWLast
import Derived.Test.YtjldkgcabombhaaWMore
import Derived.Test.YtjldkgcabombhaaHS9
import Derived.OpenShut
namespace Go.Proofs.Ytjldkgcabombhaa
open Go.RowKit Go.Proofs.Ytjldkgcabombhaa.Rec Go.Proofs.YtjldkgcabombhaaW.PrintWords Go.Proofs.YtjldkgcabombhaaW.PrintLast Go.Proofs.YtjldkgcabombhaaW.PrintMore
set_option linter.unusedVariables false
set_option linter.unusedSimpArgs false

theorem Fs.new_ex (size : Int) (w : World) (h : 1 ≤ size ∧ size ≤ 4096) : Calls Try.prog 30 #[.int .i64 size] w fun e w' => ∃ g : Nat, e = .returned (.tuple #[.pointer (some ⟨g, 0, none⟩), .int .i64 0]) ∧ (Fs.new size).At w' g ∧ Below w.heap.size w w' :=
  (Fs.new_calls size w h).mono (fun _ _ ⟨he, hA, hb⟩ => ⟨_, he, hA, hb⟩)
set_option maxHeartbeats 2000000 in
set_option maxRecDepth 100000 in
theorem Kn.other (size r0 r1 r2 r3 : Int) (w : World) (h : 1 ≤ size ∧ size ≤ 4096) (hz : size ≠ 128) : Calls Try.prog 11 #[.int .i64 size, .agg #[.int .u32 r0, .int .i64 r1, .int .i64 r2, .int .i64 r3]] w fun e w' => e = .returned (.bool true) ∧ Below w.heap.size w w' := by
  have hu2 := Try.underlying24
  have HST := Aside0.mk (trivial : True)
  have HH := Aside0.mk h
  have HZ := Aside0.mk hz
  have d1 : (size == 128) = false := beq_eq_false_iff_ne.mpr hz
  clear h hz
  go_enter Try.func11, Try.ntmps11
  go_wp2_with (first
    | (have mk_ := HST; clear mk_; go_at_call 47; (refine (Sq.nil _).mono ?_)
       rintro e w1 ⟨rfl, hb⟩
       have B0 := Aside0.mk (below_alloc (below_step (below_alloc (Below.refl w.heap.size w) (.cells #[.int .u32 r0, .int .i64 r1, .int .i64 r2, .int .i64 r3] 24 (0, 0))) hb) (.cells #[.int .u32 0, .int .i64 0, .int .i64 0, .int .i64 0] 24 (0, 0)))
       have HK := Aside0.mk (blk_alloc (blk_below (blk_new w (.cells #[.int .u32 r0, .int .i64 r1, .int .i64 r2, .int .i64 r3] 24 (0, 0))) hb) (.cells #[.int .u32 0, .int .i64 0, .int .i64 0, .int .i64 0] 24 (0, 0)))
       clear hb HST)
    | (have mk_ := B0; clear mk_; go_at_call 48; (refine (Sn.nil _).mono ?_)
       rintro e w2 ⟨rfl, hb⟩
       have B1 := Aside0.mk (below_step B0.out hb)
       have HK1 := Aside0.mk (blk_below HK.out hb)
       have k0 := blk_cell HK1.out 0
       have k1 := blk_cell HK1.out 1
       have k2 := blk_cell HK1.out 2
       have k3 := blk_cell HK1.out 3
       clear hb B0 HK)
    | (have mk_ := B1; clear mk_; go_at_call 45; (refine (Sv.nil _ r0 r1 r2 r3).mono ?_)
       rintro e w3 ⟨rfl, hb⟩
       have B2 := Aside0.mk (below_alloc (below_step B1.out hb) (.cells #[.int .u32 0, .int .i64 0, .int .i64 0, .int .i64 0] 24 (0, 0)))
       have HK2 := Aside0.mk (blk_alloc (blk_below HK1.out hb) (.cells #[.int .u32 0, .int .i64 0, .int .i64 0, .int .i64 0] 24 (0, 0)))
       clear hb B1 HK1 k0 k1 k2 k3)
    | (go_at_call 30; (refine (Fs.new_ex size _ HH.out).mono ?_)
       rintro e w4 ⟨g, rfl, hA, hb⟩
       have HA := Aside0.mk hA
       have B3 := Aside0.mk (below_step B2.out hb)
       have HK3 := Aside0.mk (blk_below HK2.out hb)
       clear hA hb B2 HK2)
    | (go_at_call 47; (refine (Sq.other HA.out HZ.out).mono ?_)
       rintro e w5 ⟨rfl, hb⟩
       have HA5 := Aside0.mk (Fs.below HA.out hb)
       have B5 := Aside0.mk (below_step B3.out hb)
       have HK5 := Aside0.mk (blk_below HK3.out hb)
       clear hb HA B3 HK3)
    | (go_at_call 48; (refine (Sn.other HA5.out HZ.out).mono ?_)
       rintro e w6 ⟨rfl, hb⟩
       have HA6 := Aside0.mk (Fs.below HA5.out hb)
       have B6 := Aside0.mk (below_step B5.out hb)
       have HK6 := Aside0.mk (blk_below HK5.out hb)
       have k0 := blk_cell HK6.out 0
       have k1 := blk_cell HK6.out 1
       have k2 := blk_cell HK6.out 2
       have k3 := blk_cell HK6.out 3
       clear hb HA5 B5 HK5)
    | (go_at_call 45; (refine (Sv.other HA6.out HZ.out r0 r1 r2 r3).mono ?_)
       rintro e w7 ⟨rfl, hb⟩
       have B7 := Aside0.mk (below_step B6.out hb)
       clear hb HA6 B6)
    | (go_at_call 44; (refine (Kn.known _).mono ?_)
       rintro e w9 ⟨rfl, hb⟩
       have B9 := Aside0.mk (below_step B7.out hb)
       clear hb))
  go_ret
  exact ⟨rfl, B9.out⟩
theorem Kn.slotsNone_walk (size r0 r1 r2 r3 : Int) (W : World) (w0 : (Lit.int .i64 size).wf = true) (w1 : (Lit.int .u32 r0).wf = true) (w2 : (Lit.int .i64 r1).wf = true) (w3 : (Lit.int .i64 r2).wf = true) (w4 : (Lit.int .i64 r3).wf = true) :
    Calls Try.prog 11 #[.int .i64 size, .agg #[.int .u32 r0, .int .i64 r1, .int .i64 r2, .int .i64 r3]] W fun e W' => e = .returned (.bool true) ∧ Below W.heap.size W W' := by
  by_cases c : size < 1 ∨ 4096 < size
  · exact Kn.bad size r0 r1 r2 r3 W c
  · by_cases d : size = 128
    · exact Kn.same size r0 r1 r2 r3 W d
    · exact Kn.other size r0 r1 r2 r3 W (by omega) d
end Go.Proofs.Ytjldkgcabombhaa
