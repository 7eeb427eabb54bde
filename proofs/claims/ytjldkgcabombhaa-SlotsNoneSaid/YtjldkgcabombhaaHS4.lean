/- The contract of slots.Load, walked by hand. -/
import Derived.Test.YtjldkgcabombhaaProg
import Derived.Below
import Derived.Deep.Draws
import Derived.OwnWalk
import Derived.Tactics
import Derived.WalkKit
import Derived.WalkSpells
import Derived.WalkLawsBesides
import Derived.KernelRfl
import Derived.RowKit3
import Derived.Deep.LoopGhost
import Derived.Deep.QuietTactic
import Derived.BigQuiet
import Derived.WideLaws
import Derived.Deep.DeepCutAuto
import Derived.Deep.CutBlock
import Derived.Deep.RegionHeld3
import Derived.Lib.Hide
import Derived.IntWalk
import Derived.Outline
import Derived.Test.YtjldkgcabombhaaWWords
import Derived.Test.YtjldkgcabombhaaWLast
import Derived.Test.YtjldkgcabombhaaWMore
import Derived.Deep.RegionWith
import Derived.Test.YtjldkgcabombhaaHS3
namespace Go.Proofs.Ytjldkgcabombhaa
open Go.RowKit Go.Proofs.YtjldkgcabombhaaW.PrintWords Go.Proofs.YtjldkgcabombhaaW.PrintLast Go.Proofs.YtjldkgcabombhaaW.PrintMore
set_option linter.unusedVariables false
set_option linter.unusedSimpArgs false

theorem Sq.set4 {w W : World} {base g : Nat} {t : TypeId} {x0 x1 x2 x3 y0 y1 y2 y3 : Value} (hg : base ≤ g) (h : W.heap[g]? = some (.cells #[x0, x1, x2, x3] t (0, 0))) (hb : Below base w W) :
    ((((W.setCell ⟨g, 0, none⟩ y0).setCell ⟨g, 1, none⟩ y1).setCell ⟨g, 2, none⟩ y2).setCell ⟨g, 3, none⟩ y3).heap[g]? = some (.cells #[y0, y1, y2, y3] t (0, 0)) ∧ Below base w ((((W.setCell ⟨g, 0, none⟩ y0).setCell ⟨g, 1, none⟩ y1).setCell ⟨g, 2, none⟩ y2).setCell ⟨g, 3, none⟩ y3) := by
  have h := blk_put (cs' := #[y0, x1, x2, x3]) h 0 y0 rfl
  have h := blk_put (cs' := #[y0, y1, x2, x3]) h 1 y1 rfl
  have h := blk_put (cs' := #[y0, y1, y2, x3]) h 2 y2 rfl
  have h := blk_put (cs' := #[y0, y1, y2, y3]) h 3 y3 rfl
  exact ⟨h, (((hb.setCell (p := ⟨g, 0, none⟩) hg y0).setCell (p := ⟨g, 1, none⟩) hg y1).setCell (p := ⟨g, 2, none⟩) hg y2).setCell (p := ⟨g, 3, none⟩) hg y3⟩
set_option maxHeartbeats 1000000 in
set_option maxRecDepth 100000 in
theorem Sq.nil (w : World) : Calls Try.prog 47 #[.pointer none] w fun e w' => e = .returned (.tuple #[.agg #[.int .u32 0, .int .i64 0, .int .i64 0, .int .i64 0], .bool false, .int .i64 1]) ∧ Below w.heap.size w w' := by
  have hu := Try.underlying106
  have hu2 := Try.underlying24
  have HC := Aside0.mk (Sr.nil (w.alloc (.cells #[.int .u32 0, .int .i64 0, .int .i64 0, .int .i64 0] 24 (0, 0))))
  go_enter Try.func47, Try.ntmps47
  go_wp2_with (first
    | (go_at_call 65; (refine HC.out.mono ?_)
       rintro e w1 ⟨rfl, hb⟩
       have HB := Aside0.mk (below_alloc (below_step (below_alloc (Below.refl w.heap.size w) (.cells #[.int .u32 0, .int .i64 0, .int .i64 0, .int .i64 0] 24 (0, 0))) hb) (.cells #[.int .u32 0, .int .i64 0, .int .i64 0, .int .i64 0, .bool false, .int .u32 0, .int .i64 0, .int .i64 0, .int .i64 0, .bool false] 106 (0, 0)))
       have HK := Aside0.mk (blk_alloc (blk_below (blk_new w (.cells #[.int .u32 0, .int .i64 0, .int .i64 0, .int .i64 0] 24 (0, 0))) hb) (.cells #[.int .u32 0, .int .i64 0, .int .i64 0, .int .i64 0, .bool false, .int .u32 0, .int .i64 0, .int .i64 0, .int .i64 0, .bool false] 106 (0, 0)))
       have k0 := blk_cell HK.out 0
       have f0 := blk_frozen HK.out 0
       have k1 := blk_cell HK.out 1
       have f1 := blk_frozen HK.out 1
       have k2 := blk_cell HK.out 2
       have f2 := blk_frozen HK.out 2
       have k3 := blk_cell HK.out 3
       have f3 := blk_frozen HK.out 3
       clear hb))
  obtain ⟨hx, hy⟩ := Sq.set4 (y0 := .int .u32 0) (y1 := .int .i64 0) (y2 := .int .i64 0) (y3 := .int .i64 0) (Nat.le_refl w.heap.size) HK.out HB.out
  generalize (((((w1.alloc (.cells #[.int .u32 0, .int .i64 0, .int .i64 0, .int .i64 0, .bool false, .int .u32 0, .int .i64 0, .int .i64 0, .int .i64 0, .bool false] 106)).setCell ⟨w.heap.size, 0, none⟩ (.int .u32 0)).setCell ⟨w.heap.size, 1, none⟩ (.int .i64 0)).setCell ⟨w.heap.size, 2, none⟩ (.int .i64 0)).setCell ⟨w.heap.size, 3, none⟩ (.int .i64 0)) = w9 at hx hy ⊢
  refine bodyPost_ret (results_ctt rfl _ _ w.heap.size 24 #[.int .u32 0, .int .i64 0, .int .i64 0, .int .i64 0] (0, 0) _ rfl hx Try.underlying24 rfl (by kernel_rfl)) rfl ?_
  exact ⟨rfl, hy⟩
set_option maxHeartbeats 1000000 in
set_option maxRecDepth 100000 in
theorem Sq.other {s : Fs} {w : World} {g : Nat} (h : s.At w g) (hz : s.size ≠ 128) : Calls Try.prog 47 #[.pointer (some ⟨g, 0, none⟩)] w fun e w' => e = .returned (.tuple #[.agg #[.int .u32 0, .int .i64 0, .int .i64 0, .int .i64 0], .bool false, .int .i64 2]) ∧ Below w.heap.size w w' := by
  have hu := Try.underlying106
  have hu2 := Try.underlying24
  have HC := Aside0.mk (Sr.other (w := (w.alloc (.cells #[.int .u32 0, .int .i64 0, .int .i64 0, .int .i64 0] 24 (0, 0)))) ⟨blk_alloc h.1 _, h.2⟩ hz)
  go_enter Try.func47, Try.ntmps47
  go_wp2_with (first
    | (go_at_call 65; (refine HC.out.mono ?_)
       rintro e w1 ⟨rfl, hb⟩
       have HB := Aside0.mk (below_alloc (below_step (below_alloc (Below.refl w.heap.size w) (.cells #[.int .u32 0, .int .i64 0, .int .i64 0, .int .i64 0] 24 (0, 0))) hb) (.cells #[.int .u32 0, .int .i64 0, .int .i64 0, .int .i64 0, .bool false, .int .u32 0, .int .i64 0, .int .i64 0, .int .i64 0, .bool false] 106 (0, 0)))
       have HK := Aside0.mk (blk_alloc (blk_below (blk_new w (.cells #[.int .u32 0, .int .i64 0, .int .i64 0, .int .i64 0] 24 (0, 0))) hb) (.cells #[.int .u32 0, .int .i64 0, .int .i64 0, .int .i64 0, .bool false, .int .u32 0, .int .i64 0, .int .i64 0, .int .i64 0, .bool false] 106 (0, 0)))
       have k0 := blk_cell HK.out 0
       have f0 := blk_frozen HK.out 0
       have k1 := blk_cell HK.out 1
       have f1 := blk_frozen HK.out 1
       have k2 := blk_cell HK.out 2
       have f2 := blk_frozen HK.out 2
       have k3 := blk_cell HK.out 3
       have f3 := blk_frozen HK.out 3
       clear hb))
  obtain ⟨hx, hy⟩ := Sq.set4 (y0 := .int .u32 0) (y1 := .int .i64 0) (y2 := .int .i64 0) (y3 := .int .i64 0) (Nat.le_refl w.heap.size) HK.out HB.out
  generalize (((((w1.alloc (.cells #[.int .u32 0, .int .i64 0, .int .i64 0, .int .i64 0, .bool false, .int .u32 0, .int .i64 0, .int .i64 0, .int .i64 0, .bool false] 106)).setCell ⟨w.heap.size, 0, none⟩ (.int .u32 0)).setCell ⟨w.heap.size, 1, none⟩ (.int .i64 0)).setCell ⟨w.heap.size, 2, none⟩ (.int .i64 0)).setCell ⟨w.heap.size, 3, none⟩ (.int .i64 0)) = w9 at hx hy ⊢
  refine bodyPost_ret (results_ctt rfl _ _ w.heap.size 24 #[.int .u32 0, .int .i64 0, .int .i64 0, .int .i64 0] (0, 0) _ rfl hx Try.underlying24 rfl (by kernel_rfl)) rfl ?_
  exact ⟨rfl, hy⟩
set_option maxHeartbeats 2000000 in
set_option maxRecDepth 100000 in
theorem Sq.ok0t {s : Fs} {w : World} {g : Nat} {p0 p1 p2 p3 p4 q0 q1 q2 q3 q4 : Int} (h : s.At w g) (hz : s.size = 128) (hd : s.down = false) (hp : Rd.dec ((s.b.drop 0).take 64) = (p0, p1, p2, p3, p4)) (hq : Rd.dec ((s.b.drop 64).take 64) = (q0, q1, q2, q3, q4)) (hn : Sl.now p0 (p4 == 0) q0 (q4 == 0) = 0) (hw : (p4 == 0) = true) :
    Calls Try.prog 47 #[.pointer (some ⟨g, 0, none⟩)] w fun e w' => e = .returned (.tuple #[.agg #[.int .u32 p0, .int .i64 p1, .int .i64 p2, .int .i64 p3], .bool true, .int .i64 0]) ∧ Below w.heap.size w w' := by
  have hu := Try.underlying106
  have hu2 := Try.underlying24
  have hu3 := Try.underlying105
  have HC := Aside0.mk (Sr.ok (w := (w.alloc (.cells #[.int .u32 0, .int .i64 0, .int .i64 0, .int .i64 0] 24 (0, 0)))) ⟨blk_alloc h.1 _, h.2⟩ hz hd hp hq)
  have HH := Aside0.mk (fun W => Sl.held p0 p1 p2 p3 (p4 == 0) q0 q1 q2 q3 (q4 == 0) W)
  rw [hn] at HH
  clear h hz hd hp hq hn
  generalize Sl.next p0 (p4 == 0) q0 (q4 == 0) = nx at HH
  generalize (p4 == 0) = wp at HC HH hw
  generalize (q4 == 0) = wq at HC HH hw
  subst hw
  go_enter Try.func47, Try.ntmps47
  go_wp2_with (first
    | (go_at_call 65; (refine HC.out.mono ?_)
       rintro e w1 ⟨rfl, hb⟩
       have HB := Aside0.mk (below_alloc (below_step (below_alloc (Below.refl w.heap.size w) (.cells #[.int .u32 0, .int .i64 0, .int .i64 0, .int .i64 0] 24 (0, 0))) hb) (.cells #[.int .u32 p0, .int .i64 p1, .int .i64 p2, .int .i64 p3, .bool true, .int .u32 q0, .int .i64 q1, .int .i64 q2, .int .i64 q3, .bool wq] 106 (0, 0)))
       have HK := Aside0.mk (blk_alloc (blk_below (blk_new w (.cells #[.int .u32 0, .int .i64 0, .int .i64 0, .int .i64 0] 24 (0, 0))) hb) (.cells #[.int .u32 p0, .int .i64 p1, .int .i64 p2, .int .i64 p3, .bool true, .int .u32 q0, .int .i64 q1, .int .i64 q2, .int .i64 q3, .bool wq] 106 (0, 0)))
       have HL := Aside0.mk (blk_new w1 (.cells #[.int .u32 p0, .int .i64 p1, .int .i64 p2, .int .i64 p3, .bool true, .int .u32 q0, .int .i64 q1, .int .i64 q2, .int .i64 q3, .bool wq] 106 (0, 0)))
       clear hb HC)
    | (go_at_call 66; (refine (HH.out _).mono ?_)
       rintro e w2 ⟨rfl, hb⟩
       have HB2 := Aside0.mk (below_step HB.out hb)
       have HK2 := Aside0.mk (blk_below HK.out hb)
       have HL2 := Aside0.mk (blk_below HL.out hb)
       have k0 := blk_cell HK2.out 0
       have f0 := blk_frozen HK2.out 0
       have k1 := blk_cell HK2.out 1
       have f1 := blk_frozen HK2.out 1
       have k2 := blk_cell HK2.out 2
       have f2 := blk_frozen HK2.out 2
       have k3 := blk_cell HK2.out 3
       have f3 := blk_frozen HK2.out 3
       have e0 := blk_cell HL2.out 0
       have h0 := blk_frozen HL2.out 0
       have e1 := blk_cell HL2.out 1
       have h1 := blk_frozen HL2.out 1
       have e2 := blk_cell HL2.out 2
       have h2 := blk_frozen HL2.out 2
       have e3 := blk_cell HL2.out 3
       have h3 := blk_frozen HL2.out 3
       have e4 := blk_cell HL2.out 4
       have h4 := blk_frozen HL2.out 4
       have e5 := blk_cell HL2.out 5
       have h5 := blk_frozen HL2.out 5
       have e6 := blk_cell HL2.out 6
       have h6 := blk_frozen HL2.out 6
       have e7 := blk_cell HL2.out 7
       have h7 := blk_frozen HL2.out 7
       have e8 := blk_cell HL2.out 8
       have h8 := blk_frozen HL2.out 8
       have e9 := blk_cell HL2.out 9
       have h9 := blk_frozen HL2.out 9
       clear hb HB HK HL HH))
  obtain ⟨hx, hy⟩ := Sq.set4 (y0 := .int .u32 p0) (y1 := .int .i64 p1) (y2 := .int .i64 p2) (y3 := .int .i64 p3) (Nat.le_refl w.heap.size) HK2.out HB2.out
  generalize ((((w2.setCell ⟨w.heap.size, 0, none⟩ (.int .u32 p0)).setCell ⟨w.heap.size, 1, none⟩ (.int .i64 p1)).setCell ⟨w.heap.size, 2, none⟩ (.int .i64 p2)).setCell ⟨w.heap.size, 3, none⟩ (.int .i64 p3)) = w9 at hx hy ⊢
  refine bodyPost_ret (results_ctt rfl _ _ w.heap.size 24 #[.int .u32 p0, .int .i64 p1, .int .i64 p2, .int .i64 p3] (0, 0) _ rfl hx Try.underlying24 rfl (by kernel_rfl)) rfl ?_
  exact ⟨rfl, hy⟩
set_option maxHeartbeats 2000000 in
set_option maxRecDepth 100000 in
theorem Sq.ok0f {s : Fs} {w : World} {g : Nat} {p0 p1 p2 p3 p4 q0 q1 q2 q3 q4 : Int} (h : s.At w g) (hz : s.size = 128) (hd : s.down = false) (hp : Rd.dec ((s.b.drop 0).take 64) = (p0, p1, p2, p3, p4)) (hq : Rd.dec ((s.b.drop 64).take 64) = (q0, q1, q2, q3, q4)) (hn : Sl.now p0 (p4 == 0) q0 (q4 == 0) = 0) (hw : (p4 == 0) = false) :
    Calls Try.prog 47 #[.pointer (some ⟨g, 0, none⟩)] w fun e w' => e = .returned (.tuple #[.agg #[.int .u32 0, .int .i64 0, .int .i64 0, .int .i64 0], .bool false, .int .i64 0]) ∧ Below w.heap.size w w' := by
  have hu := Try.underlying106
  have hu2 := Try.underlying24
  have hu3 := Try.underlying105
  have HC := Aside0.mk (Sr.ok (w := (w.alloc (.cells #[.int .u32 0, .int .i64 0, .int .i64 0, .int .i64 0] 24 (0, 0)))) ⟨blk_alloc h.1 _, h.2⟩ hz hd hp hq)
  have HH := Aside0.mk (fun W => Sl.held p0 p1 p2 p3 (p4 == 0) q0 q1 q2 q3 (q4 == 0) W)
  rw [hn] at HH
  clear h hz hd hp hq hn
  generalize Sl.next p0 (p4 == 0) q0 (q4 == 0) = nx at HH
  generalize (p4 == 0) = wp at HC HH hw
  generalize (q4 == 0) = wq at HC HH hw
  subst hw
  go_enter Try.func47, Try.ntmps47
  go_wp2_with (first
    | (go_at_call 65; (refine HC.out.mono ?_)
       rintro e w1 ⟨rfl, hb⟩
       have HB := Aside0.mk (below_alloc (below_step (below_alloc (Below.refl w.heap.size w) (.cells #[.int .u32 0, .int .i64 0, .int .i64 0, .int .i64 0] 24 (0, 0))) hb) (.cells #[.int .u32 p0, .int .i64 p1, .int .i64 p2, .int .i64 p3, .bool false, .int .u32 q0, .int .i64 q1, .int .i64 q2, .int .i64 q3, .bool wq] 106 (0, 0)))
       have HK := Aside0.mk (blk_alloc (blk_below (blk_new w (.cells #[.int .u32 0, .int .i64 0, .int .i64 0, .int .i64 0] 24 (0, 0))) hb) (.cells #[.int .u32 p0, .int .i64 p1, .int .i64 p2, .int .i64 p3, .bool false, .int .u32 q0, .int .i64 q1, .int .i64 q2, .int .i64 q3, .bool wq] 106 (0, 0)))
       have HL := Aside0.mk (blk_new w1 (.cells #[.int .u32 p0, .int .i64 p1, .int .i64 p2, .int .i64 p3, .bool false, .int .u32 q0, .int .i64 q1, .int .i64 q2, .int .i64 q3, .bool wq] 106 (0, 0)))
       clear hb HC)
    | (go_at_call 66; (refine (HH.out _).mono ?_)
       rintro e w2 ⟨rfl, hb⟩
       have HB2 := Aside0.mk (below_step HB.out hb)
       have HK2 := Aside0.mk (blk_below HK.out hb)
       have HL2 := Aside0.mk (blk_below HL.out hb)
       have k0 := blk_cell HK2.out 0
       have f0 := blk_frozen HK2.out 0
       have k1 := blk_cell HK2.out 1
       have f1 := blk_frozen HK2.out 1
       have k2 := blk_cell HK2.out 2
       have f2 := blk_frozen HK2.out 2
       have k3 := blk_cell HK2.out 3
       have f3 := blk_frozen HK2.out 3
       have e0 := blk_cell HL2.out 0
       have h0 := blk_frozen HL2.out 0
       have e1 := blk_cell HL2.out 1
       have h1 := blk_frozen HL2.out 1
       have e2 := blk_cell HL2.out 2
       have h2 := blk_frozen HL2.out 2
       have e3 := blk_cell HL2.out 3
       have h3 := blk_frozen HL2.out 3
       have e4 := blk_cell HL2.out 4
       have h4 := blk_frozen HL2.out 4
       have e5 := blk_cell HL2.out 5
       have h5 := blk_frozen HL2.out 5
       have e6 := blk_cell HL2.out 6
       have h6 := blk_frozen HL2.out 6
       have e7 := blk_cell HL2.out 7
       have h7 := blk_frozen HL2.out 7
       have e8 := blk_cell HL2.out 8
       have h8 := blk_frozen HL2.out 8
       have e9 := blk_cell HL2.out 9
       have h9 := blk_frozen HL2.out 9
       clear hb HB HK HL HH))
  obtain ⟨hx, hy⟩ := Sq.set4 (y0 := .int .u32 0) (y1 := .int .i64 0) (y2 := .int .i64 0) (y3 := .int .i64 0) (Nat.le_refl w.heap.size) HK2.out HB2.out
  generalize ((((w2.setCell ⟨w.heap.size, 0, none⟩ (.int .u32 0)).setCell ⟨w.heap.size, 1, none⟩ (.int .i64 0)).setCell ⟨w.heap.size, 2, none⟩ (.int .i64 0)).setCell ⟨w.heap.size, 3, none⟩ (.int .i64 0)) = w9 at hx hy ⊢
  refine bodyPost_ret (results_ctt rfl _ _ w.heap.size 24 #[.int .u32 0, .int .i64 0, .int .i64 0, .int .i64 0] (0, 0) _ rfl hx Try.underlying24 rfl (by kernel_rfl)) rfl ?_
  exact ⟨rfl, hy⟩
set_option maxHeartbeats 2000000 in
set_option maxRecDepth 100000 in
theorem Sq.ok1t {s : Fs} {w : World} {g : Nat} {p0 p1 p2 p3 p4 q0 q1 q2 q3 q4 : Int} (h : s.At w g) (hz : s.size = 128) (hd : s.down = false) (hp : Rd.dec ((s.b.drop 0).take 64) = (p0, p1, p2, p3, p4)) (hq : Rd.dec ((s.b.drop 64).take 64) = (q0, q1, q2, q3, q4)) (hn : Sl.now p0 (p4 == 0) q0 (q4 == 0) = 1) (hw : (q4 == 0) = true) :
    Calls Try.prog 47 #[.pointer (some ⟨g, 0, none⟩)] w fun e w' => e = .returned (.tuple #[.agg #[.int .u32 q0, .int .i64 q1, .int .i64 q2, .int .i64 q3], .bool true, .int .i64 0]) ∧ Below w.heap.size w w' := by
  have hu := Try.underlying106
  have hu2 := Try.underlying24
  have hu3 := Try.underlying105
  have HC := Aside0.mk (Sr.ok (w := (w.alloc (.cells #[.int .u32 0, .int .i64 0, .int .i64 0, .int .i64 0] 24 (0, 0)))) ⟨blk_alloc h.1 _, h.2⟩ hz hd hp hq)
  have HH := Aside0.mk (fun W => Sl.held p0 p1 p2 p3 (p4 == 0) q0 q1 q2 q3 (q4 == 0) W)
  rw [hn] at HH
  clear h hz hd hp hq hn
  generalize Sl.next p0 (p4 == 0) q0 (q4 == 0) = nx at HH
  generalize (p4 == 0) = wp at HC HH hw
  generalize (q4 == 0) = wq at HC HH hw
  subst hw
  go_enter Try.func47, Try.ntmps47
  go_wp2_with (first
    | (go_at_call 65; (refine HC.out.mono ?_)
       rintro e w1 ⟨rfl, hb⟩
       have HB := Aside0.mk (below_alloc (below_step (below_alloc (Below.refl w.heap.size w) (.cells #[.int .u32 0, .int .i64 0, .int .i64 0, .int .i64 0] 24 (0, 0))) hb) (.cells #[.int .u32 p0, .int .i64 p1, .int .i64 p2, .int .i64 p3, .bool wp, .int .u32 q0, .int .i64 q1, .int .i64 q2, .int .i64 q3, .bool true] 106 (0, 0)))
       have HK := Aside0.mk (blk_alloc (blk_below (blk_new w (.cells #[.int .u32 0, .int .i64 0, .int .i64 0, .int .i64 0] 24 (0, 0))) hb) (.cells #[.int .u32 p0, .int .i64 p1, .int .i64 p2, .int .i64 p3, .bool wp, .int .u32 q0, .int .i64 q1, .int .i64 q2, .int .i64 q3, .bool true] 106 (0, 0)))
       have HL := Aside0.mk (blk_new w1 (.cells #[.int .u32 p0, .int .i64 p1, .int .i64 p2, .int .i64 p3, .bool wp, .int .u32 q0, .int .i64 q1, .int .i64 q2, .int .i64 q3, .bool true] 106 (0, 0)))
       clear hb HC)
    | (go_at_call 66; (refine (HH.out _).mono ?_)
       rintro e w2 ⟨rfl, hb⟩
       have HB2 := Aside0.mk (below_step HB.out hb)
       have HK2 := Aside0.mk (blk_below HK.out hb)
       have HL2 := Aside0.mk (blk_below HL.out hb)
       have k0 := blk_cell HK2.out 0
       have f0 := blk_frozen HK2.out 0
       have k1 := blk_cell HK2.out 1
       have f1 := blk_frozen HK2.out 1
       have k2 := blk_cell HK2.out 2
       have f2 := blk_frozen HK2.out 2
       have k3 := blk_cell HK2.out 3
       have f3 := blk_frozen HK2.out 3
       have e0 := blk_cell HL2.out 0
       have h0 := blk_frozen HL2.out 0
       have e1 := blk_cell HL2.out 1
       have h1 := blk_frozen HL2.out 1
       have e2 := blk_cell HL2.out 2
       have h2 := blk_frozen HL2.out 2
       have e3 := blk_cell HL2.out 3
       have h3 := blk_frozen HL2.out 3
       have e4 := blk_cell HL2.out 4
       have h4 := blk_frozen HL2.out 4
       have e5 := blk_cell HL2.out 5
       have h5 := blk_frozen HL2.out 5
       have e6 := blk_cell HL2.out 6
       have h6 := blk_frozen HL2.out 6
       have e7 := blk_cell HL2.out 7
       have h7 := blk_frozen HL2.out 7
       have e8 := blk_cell HL2.out 8
       have h8 := blk_frozen HL2.out 8
       have e9 := blk_cell HL2.out 9
       have h9 := blk_frozen HL2.out 9
       clear hb HB HK HL HH))
  obtain ⟨hx, hy⟩ := Sq.set4 (y0 := .int .u32 q0) (y1 := .int .i64 q1) (y2 := .int .i64 q2) (y3 := .int .i64 q3) (Nat.le_refl w.heap.size) HK2.out HB2.out
  generalize ((((w2.setCell ⟨w.heap.size, 0, none⟩ (.int .u32 q0)).setCell ⟨w.heap.size, 1, none⟩ (.int .i64 q1)).setCell ⟨w.heap.size, 2, none⟩ (.int .i64 q2)).setCell ⟨w.heap.size, 3, none⟩ (.int .i64 q3)) = w9 at hx hy ⊢
  refine bodyPost_ret (results_ctt rfl _ _ w.heap.size 24 #[.int .u32 q0, .int .i64 q1, .int .i64 q2, .int .i64 q3] (0, 0) _ rfl hx Try.underlying24 rfl (by kernel_rfl)) rfl ?_
  exact ⟨rfl, hy⟩
set_option maxHeartbeats 2000000 in
set_option maxRecDepth 100000 in
theorem Sq.ok1f {s : Fs} {w : World} {g : Nat} {p0 p1 p2 p3 p4 q0 q1 q2 q3 q4 : Int} (h : s.At w g) (hz : s.size = 128) (hd : s.down = false) (hp : Rd.dec ((s.b.drop 0).take 64) = (p0, p1, p2, p3, p4)) (hq : Rd.dec ((s.b.drop 64).take 64) = (q0, q1, q2, q3, q4)) (hn : Sl.now p0 (p4 == 0) q0 (q4 == 0) = 1) (hw : (q4 == 0) = false) :
    Calls Try.prog 47 #[.pointer (some ⟨g, 0, none⟩)] w fun e w' => e = .returned (.tuple #[.agg #[.int .u32 0, .int .i64 0, .int .i64 0, .int .i64 0], .bool false, .int .i64 0]) ∧ Below w.heap.size w w' := by
  have hu := Try.underlying106
  have hu2 := Try.underlying24
  have hu3 := Try.underlying105
  have HC := Aside0.mk (Sr.ok (w := (w.alloc (.cells #[.int .u32 0, .int .i64 0, .int .i64 0, .int .i64 0] 24 (0, 0)))) ⟨blk_alloc h.1 _, h.2⟩ hz hd hp hq)
  have HH := Aside0.mk (fun W => Sl.held p0 p1 p2 p3 (p4 == 0) q0 q1 q2 q3 (q4 == 0) W)
  rw [hn] at HH
  clear h hz hd hp hq hn
  generalize Sl.next p0 (p4 == 0) q0 (q4 == 0) = nx at HH
  generalize (p4 == 0) = wp at HC HH hw
  generalize (q4 == 0) = wq at HC HH hw
  subst hw
  go_enter Try.func47, Try.ntmps47
  go_wp2_with (first
    | (go_at_call 65; (refine HC.out.mono ?_)
       rintro e w1 ⟨rfl, hb⟩
       have HB := Aside0.mk (below_alloc (below_step (below_alloc (Below.refl w.heap.size w) (.cells #[.int .u32 0, .int .i64 0, .int .i64 0, .int .i64 0] 24 (0, 0))) hb) (.cells #[.int .u32 p0, .int .i64 p1, .int .i64 p2, .int .i64 p3, .bool wp, .int .u32 q0, .int .i64 q1, .int .i64 q2, .int .i64 q3, .bool false] 106 (0, 0)))
       have HK := Aside0.mk (blk_alloc (blk_below (blk_new w (.cells #[.int .u32 0, .int .i64 0, .int .i64 0, .int .i64 0] 24 (0, 0))) hb) (.cells #[.int .u32 p0, .int .i64 p1, .int .i64 p2, .int .i64 p3, .bool wp, .int .u32 q0, .int .i64 q1, .int .i64 q2, .int .i64 q3, .bool false] 106 (0, 0)))
       have HL := Aside0.mk (blk_new w1 (.cells #[.int .u32 p0, .int .i64 p1, .int .i64 p2, .int .i64 p3, .bool wp, .int .u32 q0, .int .i64 q1, .int .i64 q2, .int .i64 q3, .bool false] 106 (0, 0)))
       clear hb HC)
    | (go_at_call 66; (refine (HH.out _).mono ?_)
       rintro e w2 ⟨rfl, hb⟩
       have HB2 := Aside0.mk (below_step HB.out hb)
       have HK2 := Aside0.mk (blk_below HK.out hb)
       have HL2 := Aside0.mk (blk_below HL.out hb)
       have k0 := blk_cell HK2.out 0
       have f0 := blk_frozen HK2.out 0
       have k1 := blk_cell HK2.out 1
       have f1 := blk_frozen HK2.out 1
       have k2 := blk_cell HK2.out 2
       have f2 := blk_frozen HK2.out 2
       have k3 := blk_cell HK2.out 3
       have f3 := blk_frozen HK2.out 3
       have e0 := blk_cell HL2.out 0
       have h0 := blk_frozen HL2.out 0
       have e1 := blk_cell HL2.out 1
       have h1 := blk_frozen HL2.out 1
       have e2 := blk_cell HL2.out 2
       have h2 := blk_frozen HL2.out 2
       have e3 := blk_cell HL2.out 3
       have h3 := blk_frozen HL2.out 3
       have e4 := blk_cell HL2.out 4
       have h4 := blk_frozen HL2.out 4
       have e5 := blk_cell HL2.out 5
       have h5 := blk_frozen HL2.out 5
       have e6 := blk_cell HL2.out 6
       have h6 := blk_frozen HL2.out 6
       have e7 := blk_cell HL2.out 7
       have h7 := blk_frozen HL2.out 7
       have e8 := blk_cell HL2.out 8
       have h8 := blk_frozen HL2.out 8
       have e9 := blk_cell HL2.out 9
       have h9 := blk_frozen HL2.out 9
       clear hb HB HK HL HH))
  obtain ⟨hx, hy⟩ := Sq.set4 (y0 := .int .u32 0) (y1 := .int .i64 0) (y2 := .int .i64 0) (y3 := .int .i64 0) (Nat.le_refl w.heap.size) HK2.out HB2.out
  generalize ((((w2.setCell ⟨w.heap.size, 0, none⟩ (.int .u32 0)).setCell ⟨w.heap.size, 1, none⟩ (.int .i64 0)).setCell ⟨w.heap.size, 2, none⟩ (.int .i64 0)).setCell ⟨w.heap.size, 3, none⟩ (.int .i64 0)) = w9 at hx hy ⊢
  refine bodyPost_ret (results_ctt rfl _ _ w.heap.size 24 #[.int .u32 0, .int .i64 0, .int .i64 0, .int .i64 0] (0, 0) _ rfl hx Try.underlying24 rfl (by kernel_rfl)) rfl ?_
  exact ⟨rfl, hy⟩
end Go.Proofs.Ytjldkgcabombhaa
