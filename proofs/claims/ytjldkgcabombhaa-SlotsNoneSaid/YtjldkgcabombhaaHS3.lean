/- The contracts of slots.Next and slots.Load, walked by hand. -/
import Derived.Test.YtjldkgcabombhaaProg
import Derived.Below
import Derived.Deep.Draws
import Derived.OwnWalk
import Derived.Tactics
import Derived.WalkKit
import Derived.WalkSpells
import Derived.WalkLawsBesides
import Derived.KernelRfl
import Derived.RowKit3
import Derived.Deep.LoopGhost
import Derived.Deep.QuietTactic
import Derived.BigQuiet
import Derived.WideLaws
import Derived.Deep.DeepCutAuto
import Derived.Deep.CutBlock
import Derived.Deep.RegionHeld3
import Derived.Lib.Hide
import Derived.IntWalk
import Derived.Outline
import Derived.Test.YtjldkgcabombhaaWWords
import Derived.Test.YtjldkgcabombhaaWLast
import Derived.Test.YtjldkgcabombhaaWMore
import Derived.Deep.RegionWith
import Derived.Test.YtjldkgcabombhaaHS2
namespace Go.Proofs.Ytjldkgcabombhaa
open Go.RowKit Go.Proofs.YtjldkgcabombhaaW.PrintWords Go.Proofs.YtjldkgcabombhaaW.PrintLast Go.Proofs.YtjldkgcabombhaaW.PrintMore
set_option linter.unusedVariables false
set_option linter.unusedSimpArgs false

set_option maxHeartbeats 1000000 in
set_option maxRecDepth 100000 in
theorem Sn.nil (w : World) : Calls Try.prog 48 #[.pointer none] w fun e w' => e = .returned (.tuple #[.int .i64 0, .int .i64 1]) ∧ Below w.heap.size w w' := by
  have hu := Try.underlying106
  have HC := Aside0.mk (Sr.nil w)
  go_enter Try.func48, Try.ntmps48
  go_wp2_with (first
    | (go_at_call 65; (refine HC.out.mono ?_)
       rintro e w1 ⟨rfl, hb⟩
       have HB := Aside0.mk hb
       clear hb))
  go_ret2
  exact ⟨rfl, by first | exact below_alloc HB.out _ | exact HB.out⟩
set_option maxHeartbeats 1000000 in
set_option maxRecDepth 100000 in
theorem Sn.other {s : Fs} {w : World} {g : Nat} (h : s.At w g) (hz : s.size ≠ 128) : Calls Try.prog 48 #[.pointer (some ⟨g, 0, none⟩)] w fun e w' => e = .returned (.tuple #[.int .i64 0, .int .i64 2]) ∧ Below w.heap.size w w' := by
  have hu := Try.underlying106
  have HC := Aside0.mk (Sr.other h hz)
  go_enter Try.func48, Try.ntmps48
  go_wp2_with (first
    | (go_at_call 65; (refine HC.out.mono ?_)
       rintro e w1 ⟨rfl, hb⟩
       have HB := Aside0.mk hb
       clear hb))
  go_ret2
  exact ⟨rfl, by first | exact below_alloc HB.out _ | exact HB.out⟩

set_option maxHeartbeats 1000000 in
set_option maxRecDepth 100000 in
theorem Sn.ok {s : Fs} {w : World} {g : Nat} {p0 p1 p2 p3 p4 q0 q1 q2 q3 q4 : Int} (h : s.At w g) (hz : s.size = 128) (hd : s.down = false) (hp : Rd.dec ((s.b.drop 0).take 64) = (p0, p1, p2, p3, p4)) (hq : Rd.dec ((s.b.drop 64).take 64) = (q0, q1, q2, q3, q4)) :
    Calls Try.prog 48 #[.pointer (some ⟨g, 0, none⟩)] w fun e w' => e = .returned (.tuple #[.int .i64 (Sl.next p0 (p4 == 0) q0 (q4 == 0)), .int .i64 0]) ∧ Below w.heap.size w w' := by
  have hu := Try.underlying106
  have HC := Aside0.mk (Sr.ok h hz hd hp hq)
  have HH := Aside0.mk (fun W => Sl.held p0 p1 p2 p3 (p4 == 0) q0 q1 q2 q3 (q4 == 0) W)
  clear h hz hd hp hq
  generalize Sl.next p0 (p4 == 0) q0 (q4 == 0) = nx at HH ⊢
  generalize Sl.now p0 (p4 == 0) q0 (q4 == 0) = nw at HH
  generalize (p4 == 0) = wp at HC HH
  generalize (q4 == 0) = wq at HC HH
  go_enter Try.func48, Try.ntmps48
  go_wp2_with (first
    | (go_at_call 65; (refine HC.out.mono ?_)
       rintro e w1 ⟨rfl, hb⟩
       have HB := Aside0.mk hb
       clear hb)
    | (go_at_call 66; (refine (HH.out _).mono ?_)
       rintro e w2 ⟨rfl, hb⟩
       have HB2 := Aside0.mk (below_step (below_alloc HB.out _) hb)
       clear hb))
  go_ret2
  exact ⟨rfl, HB2.out⟩
end Go.Proofs.Ytjldkgcabombhaa
