/- The contract of slots.read, walked by hand. -/
import Derived.Test.YtjldkgcabombhaaProg
import Derived.Below
import Derived.Deep.Draws
import Derived.OwnWalk
import Derived.Tactics
import Derived.WalkKit
import Derived.WalkSpells
import Derived.WalkLawsBesides
import Derived.KernelRfl
import Derived.RowKit3
import Derived.Deep.LoopGhost
import Derived.Deep.QuietTactic
import Derived.BigQuiet
import Derived.WideLaws
import Derived.Deep.DeepCutAuto
import Derived.Deep.CutBlock
import Derived.Deep.RegionHeld3
import Derived.Lib.Hide
import Derived.IntWalk
import Derived.Outline
import Derived.Test.YtjldkgcabombhaaWWords
import Derived.Test.YtjldkgcabombhaaWLast
import Derived.Test.YtjldkgcabombhaaWMore
import Derived.Deep.RegionWith
import Derived.Test.YtjldkgcabombhaaHD
import Derived.Test.YtjldkgcabombhaaHS1
namespace Go.Proofs.Ytjldkgcabombhaa
open Go.RowKit Go.Proofs.YtjldkgcabombhaaW.PrintWords Go.Proofs.YtjldkgcabombhaaW.PrintLast Go.Proofs.YtjldkgcabombhaaW.PrintMore
set_option linter.unusedVariables false
set_option linter.unusedSimpArgs false

theorem Sr.set10 {W : World} {g : Nat} {t : TypeId} {x0 x1 x2 x3 x4 x5 x6 x7 x8 x9 y0 y1 y2 y3 y4 y5 y6 y7 y8 y9 : Value} (h : W.heap[g]? = some (.cells #[x0, x1, x2, x3, x4, x5, x6, x7, x8, x9] t (0, 0))) : ((((((((((W.setCell ⟨g, 0, none⟩ y0).setCell ⟨g, 1, none⟩ y1).setCell ⟨g, 2, none⟩ y2).setCell ⟨g, 3, none⟩ y3).setCell ⟨g, 4, none⟩ y4).setCell ⟨g, 5, none⟩ y5).setCell ⟨g, 6, none⟩ y6).setCell ⟨g, 7, none⟩ y7).setCell ⟨g, 8, none⟩ y8).setCell ⟨g, 9, none⟩ y9).heap[g]? = some (.cells #[y0, y1, y2, y3, y4, y5, y6, y7, y8, y9] t (0, 0)) := by
  have h := blk_put (cs' := #[y0, x1, x2, x3, x4, x5, x6, x7, x8, x9]) h 0 y0 rfl
  have h := blk_put (cs' := #[y0, y1, x2, x3, x4, x5, x6, x7, x8, x9]) h 1 y1 rfl
  have h := blk_put (cs' := #[y0, y1, y2, x3, x4, x5, x6, x7, x8, x9]) h 2 y2 rfl
  have h := blk_put (cs' := #[y0, y1, y2, y3, x4, x5, x6, x7, x8, x9]) h 3 y3 rfl
  have h := blk_put (cs' := #[y0, y1, y2, y3, y4, x5, x6, x7, x8, x9]) h 4 y4 rfl
  have h := blk_put (cs' := #[y0, y1, y2, y3, y4, y5, x6, x7, x8, x9]) h 5 y5 rfl
  have h := blk_put (cs' := #[y0, y1, y2, y3, y4, y5, y6, x7, x8, x9]) h 6 y6 rfl
  have h := blk_put (cs' := #[y0, y1, y2, y3, y4, y5, y6, y7, x8, x9]) h 7 y7 rfl
  have h := blk_put (cs' := #[y0, y1, y2, y3, y4, y5, y6, y7, y8, x9]) h 8 y8 rfl
  have h := blk_put (cs' := #[y0, y1, y2, y3, y4, y5, y6, y7, y8, y9]) h 9 y9 rfl
  exact h
theorem Sr.bel10 {w W : World} {g base : Nat} {y0 y1 y2 y3 y4 y5 y6 y7 y8 y9 : Value} (hg : base ≤ g) (h : Below base w W) : Below base w ((((((((((W.setCell ⟨g, 0, none⟩ y0).setCell ⟨g, 1, none⟩ y1).setCell ⟨g, 2, none⟩ y2).setCell ⟨g, 3, none⟩ y3).setCell ⟨g, 4, none⟩ y4).setCell ⟨g, 5, none⟩ y5).setCell ⟨g, 6, none⟩ y6).setCell ⟨g, 7, none⟩ y7).setCell ⟨g, 8, none⟩ y8).setCell ⟨g, 9, none⟩ y9) := by
  have h := Below.setCell h (p := ⟨g, 0, none⟩) hg y0
  have h := Below.setCell h (p := ⟨g, 1, none⟩) hg y1
  have h := Below.setCell h (p := ⟨g, 2, none⟩) hg y2
  have h := Below.setCell h (p := ⟨g, 3, none⟩) hg y3
  have h := Below.setCell h (p := ⟨g, 4, none⟩) hg y4
  have h := Below.setCell h (p := ⟨g, 5, none⟩) hg y5
  have h := Below.setCell h (p := ⟨g, 6, none⟩) hg y6
  have h := Below.setCell h (p := ⟨g, 7, none⟩) hg y7
  have h := Below.setCell h (p := ⟨g, 8, none⟩) hg y8
  have h := Below.setCell h (p := ⟨g, 9, none⟩) hg y9
  exact h
set_option maxHeartbeats 1000000 in
set_option maxRecDepth 100000 in
theorem Sr.nil (w : World) : Calls Try.prog 65 #[.pointer none] w fun e w' => e = .returned (.tuple #[.agg #[.int .u32 0, .int .i64 0, .int .i64 0, .int .i64 0, .bool false, .int .u32 0, .int .i64 0, .int .i64 0, .int .i64 0, .bool false], .int .i64 1]) ∧ Below w.heap.size w w' := by
  have hu := Try.underlying106
  go_enter Try.func65, Try.ntmps65
  go_wp2
  refine bodyPost_ret (results_ct rfl _ _ w.heap.size 106 #[.int .u32 0, .int .i64 0, .int .i64 0, .int .i64 0, .bool false, .int .u32 0, .int .i64 0, .int .i64 0, .int .i64 0, .bool false] (0, 0) _ rfl (blk_new w (.cells #[.int .u32 0, .int .i64 0, .int .i64 0, .int .i64 0, .bool false, .int .u32 0, .int .i64 0, .int .i64 0, .int .i64 0, .bool false] 106 (0, 0))) Try.underlying106 rfl (by kernel_rfl)) rfl ?_
  exact ⟨rfl, below_alloc (Below.refl w.heap.size w) (.cells #[.int .u32 0, .int .i64 0, .int .i64 0, .int .i64 0, .bool false, .int .u32 0, .int .i64 0, .int .i64 0, .int .i64 0, .bool false] 106 (0, 0))⟩
set_option maxHeartbeats 1000000 in
set_option maxRecDepth 100000 in
theorem Sr.other {s : Fs} {w : World} {g : Nat} (h : s.At w g) (hz : s.size ≠ 128) : Calls Try.prog 65 #[.pointer (some ⟨g, 0, none⟩)] w fun e w' => e = .returned (.tuple #[.agg #[.int .u32 0, .int .i64 0, .int .i64 0, .int .i64 0, .bool false, .int .u32 0, .int .i64 0, .int .i64 0, .int .i64 0, .bool false], .int .i64 2]) ∧ Below w.heap.size w w' := by
  have hu := Try.underlying106
  have d1 : (s.size != 128) = true := bne_iff_ne.mpr hz
  have HA := Aside0.mk (show s.At (w.alloc (.cells #[.int .u32 0, .int .i64 0, .int .i64 0, .int .i64 0, .bool false, .int .u32 0, .int .i64 0, .int .i64 0, .int .i64 0, .bool false] 106 (0, 0))) g from ⟨blk_alloc h.1 _, h.2⟩)
  clear h hz
  go_enter Try.func65, Try.ntmps65
  go_wp2_with (first
    | (go_at_call 43; (refine (Fs.size_calls HA.out).mono ?_)
       rintro e w1 ⟨rfl, rfl⟩
       clear HA))
  refine bodyPost_ret (results_ct rfl _ _ w.heap.size 106 #[.int .u32 0, .int .i64 0, .int .i64 0, .int .i64 0, .bool false, .int .u32 0, .int .i64 0, .int .i64 0, .int .i64 0, .bool false] (0, 0) _ rfl (blk_new w (.cells #[.int .u32 0, .int .i64 0, .int .i64 0, .int .i64 0, .bool false, .int .u32 0, .int .i64 0, .int .i64 0, .int .i64 0, .bool false] 106 (0, 0))) Try.underlying106 rfl (by kernel_rfl)) rfl ?_
  exact ⟨rfl, below_alloc (Below.refl w.heap.size w) (.cells #[.int .u32 0, .int .i64 0, .int .i64 0, .int .i64 0, .bool false, .int .u32 0, .int .i64 0, .int .i64 0, .int .i64 0, .bool false] 106 (0, 0))⟩

/-- The two slots' cells, and the file. -/
def Sr.S (s : Fs) (w W : World) (g : Nat) (cs : Array Value) : Prop := W.heap[w.heap.size]? = some (.cells cs 106 (0, 0)) ∧ s.At W g ∧ Below w.heap.size w W
theorem Sr.s_below {s : Fs} {w W W1 : World} {g : Nat} {cs : Array Value} (h : Sr.S s w W g cs) (hb : Below W.heap.size W W1) : Sr.S s w W1 g cs := ⟨blk_below h.1 hb, Fs.below h.2.1 hb, below_step h.2.2 hb⟩
theorem Sr.s_alloc {s : Fs} {w W : World} {g : Nat} {cs : Array Value} (h : Sr.S s w W g cs) (o : Obj) : Sr.S s w (W.alloc o) g cs := ⟨blk_alloc h.1 _, ⟨blk_alloc h.2.1.1 _, h.2.1.2⟩, below_alloc h.2.2 _⟩
theorem Sr.s_start {s : Fs} {w : World} {g : Nat} (h : s.At w g) : Sr.S s w (w.alloc (.cells #[.int .u32 0, .int .i64 0, .int .i64 0, .int .i64 0, .bool false, .int .u32 0, .int .i64 0, .int .i64 0, .int .i64 0, .bool false] 106 (0, 0))) g #[.int .u32 0, .int .i64 0, .int .i64 0, .int .i64 0, .bool false, .int .u32 0, .int .i64 0, .int .i64 0, .int .i64 0, .bool false] := ⟨blk_new w _, ⟨blk_alloc h.1 _, h.2⟩, below_alloc (Below.refl _ _) _⟩
theorem Sr.s_set5a {s : Fs} {w W : World} {g : Nat} {x0 x1 x2 x3 x4 x5 x6 x7 x8 x9 y0 y1 y2 y3 y4 : Value} (hg : g ≠ w.heap.size) (h : Sr.S s w W g #[x0, x1, x2, x3, x4, x5, x6, x7, x8, x9]) : Sr.S s w (((((W.setCell ⟨w.heap.size, 0, none⟩ y0).setCell ⟨w.heap.size, 1, none⟩ y1).setCell ⟨w.heap.size, 2, none⟩ y2).setCell ⟨w.heap.size, 3, none⟩ y3).setCell ⟨w.heap.size, 4, none⟩ y4) g #[y0, y1, y2, y3, y4, x5, x6, x7, x8, x9] := by
  obtain ⟨h, ha, hb⟩ := h
  have h := blk_put (cs' := #[y0, x1, x2, x3, x4, x5, x6, x7, x8, x9]) h 0 y0 rfl
  have ha : s.At _ g := ⟨blk_far ha.1 (p := ⟨w.heap.size, 0, none⟩) hg y0, ha.2⟩
  have hb := Below.setCell hb (p := ⟨w.heap.size, 0, none⟩) (Nat.le_refl _) y0
  have h := blk_put (cs' := #[y0, y1, x2, x3, x4, x5, x6, x7, x8, x9]) h 1 y1 rfl
  have ha : s.At _ g := ⟨blk_far ha.1 (p := ⟨w.heap.size, 1, none⟩) hg y1, ha.2⟩
  have hb := Below.setCell hb (p := ⟨w.heap.size, 1, none⟩) (Nat.le_refl _) y1
  have h := blk_put (cs' := #[y0, y1, y2, x3, x4, x5, x6, x7, x8, x9]) h 2 y2 rfl
  have ha : s.At _ g := ⟨blk_far ha.1 (p := ⟨w.heap.size, 2, none⟩) hg y2, ha.2⟩
  have hb := Below.setCell hb (p := ⟨w.heap.size, 2, none⟩) (Nat.le_refl _) y2
  have h := blk_put (cs' := #[y0, y1, y2, y3, x4, x5, x6, x7, x8, x9]) h 3 y3 rfl
  have ha : s.At _ g := ⟨blk_far ha.1 (p := ⟨w.heap.size, 3, none⟩) hg y3, ha.2⟩
  have hb := Below.setCell hb (p := ⟨w.heap.size, 3, none⟩) (Nat.le_refl _) y3
  have h := blk_put (cs' := #[y0, y1, y2, y3, y4, x5, x6, x7, x8, x9]) h 4 y4 rfl
  have ha : s.At _ g := ⟨blk_far ha.1 (p := ⟨w.heap.size, 4, none⟩) hg y4, ha.2⟩
  have hb := Below.setCell hb (p := ⟨w.heap.size, 4, none⟩) (Nat.le_refl _) y4
  exact ⟨h, ha, hb⟩
theorem Sr.s_set5b {s : Fs} {w W : World} {g : Nat} {x0 x1 x2 x3 x4 x5 x6 x7 x8 x9 y0 y1 y2 y3 y4 : Value} (hg : g ≠ w.heap.size) (h : Sr.S s w W g #[x0, x1, x2, x3, x4, x5, x6, x7, x8, x9]) : Sr.S s w (((((W.setCell ⟨w.heap.size, 5, none⟩ y0).setCell ⟨w.heap.size, 6, none⟩ y1).setCell ⟨w.heap.size, 7, none⟩ y2).setCell ⟨w.heap.size, 8, none⟩ y3).setCell ⟨w.heap.size, 9, none⟩ y4) g #[x0, x1, x2, x3, x4, y0, y1, y2, y3, y4] := by
  obtain ⟨h, ha, hb⟩ := h
  have h := blk_put (cs' := #[x0, x1, x2, x3, x4, y0, x6, x7, x8, x9]) h 5 y0 rfl
  have ha : s.At _ g := ⟨blk_far ha.1 (p := ⟨w.heap.size, 5, none⟩) hg y0, ha.2⟩
  have hb := Below.setCell hb (p := ⟨w.heap.size, 5, none⟩) (Nat.le_refl _) y0
  have h := blk_put (cs' := #[x0, x1, x2, x3, x4, y0, y1, x7, x8, x9]) h 6 y1 rfl
  have ha : s.At _ g := ⟨blk_far ha.1 (p := ⟨w.heap.size, 6, none⟩) hg y1, ha.2⟩
  have hb := Below.setCell hb (p := ⟨w.heap.size, 6, none⟩) (Nat.le_refl _) y1
  have h := blk_put (cs' := #[x0, x1, x2, x3, x4, y0, y1, y2, x8, x9]) h 7 y2 rfl
  have ha : s.At _ g := ⟨blk_far ha.1 (p := ⟨w.heap.size, 7, none⟩) hg y2, ha.2⟩
  have hb := Below.setCell hb (p := ⟨w.heap.size, 7, none⟩) (Nat.le_refl _) y2
  have h := blk_put (cs' := #[x0, x1, x2, x3, x4, y0, y1, y2, y3, x9]) h 8 y3 rfl
  have ha : s.At _ g := ⟨blk_far ha.1 (p := ⟨w.heap.size, 8, none⟩) hg y3, ha.2⟩
  have hb := Below.setCell hb (p := ⟨w.heap.size, 8, none⟩) (Nat.le_refl _) y3
  have h := blk_put (cs' := #[x0, x1, x2, x3, x4, y0, y1, y2, y3, y4]) h 9 y4 rfl
  have ha : s.At _ g := ⟨blk_far ha.1 (p := ⟨w.heap.size, 9, none⟩) hg y4, ha.2⟩
  have hb := Below.setCell hb (p := ⟨w.heap.size, 9, none⟩) (Nat.le_refl _) y4
  exact ⟨h, ha, hb⟩

theorem Sr.may128 {s : Fs} (hz : s.size = 128) (i : Nat) (hi : i ≤ 1) : s.may (64 * i) 64 = if s.down = true then 10 else 0 := by
  have h1 : s.inn (64 * i) = true := by simp [Fs.inn, hz]; omega
  have h2 : s.inn 64 = true := by simp [Fs.inn, hz]
  have h3 : s.inn (wrap64 (64 * i + 64)) = true := by rw [Rc.w64 _ (by omega)]; simp [Fs.inn, hz]; omega
  unfold Fs.may
  rw [h1, h2, h3]
  simp
set_option maxHeartbeats 1000000 in
set_option maxRecDepth 100000 in
theorem Sr.ok {s : Fs} {w : World} {g : Nat} {p0 p1 p2 p3 p4 q0 q1 q2 q3 q4 : Int} (h : s.At w g) (hz : s.size = 128) (hd : s.down = false) (hp : Rd.dec ((s.b.drop 0).take 64) = (p0, p1, p2, p3, p4)) (hq : Rd.dec ((s.b.drop 64).take 64) = (q0, q1, q2, q3, q4)) :
    Calls Try.prog 65 #[.pointer (some ⟨g, 0, none⟩)] w fun e w' => e = .returned (.tuple #[.agg #[.int .u32 p0, .int .i64 p1, .int .i64 p2, .int .i64 p3, .bool (p4 == 0), .int .u32 q0, .int .i64 q1, .int .i64 q2, .int .i64 q3, .bool (q4 == 0)], .int .i64 0]) ∧ Below w.heap.size w w' := by
  have hu := Try.underlying106
  have hu2 := Try.underlying105
  have hu3 := Try.underlying24
  have d1 : (s.size != 128) = false := by rw [hz]; rfl
  have ho : s.Ok := ⟨by omega, by omega⟩
  have hm0 := Sr.may128 (s := s) hz 0 (by decide)
  have hm1 := Sr.may128 (s := s) hz 1 (by decide)
  rw [hd, if_neg (by decide)] at hm0 hm1
  have HG := Aside0.mk (show g ≠ w.heap.size by have := blk_lt h.1; omega)
  have HS := Aside0.mk (Sr.s_start h)
  obtain ⟨y0, hy0⟩ : ∃ y, (s.b.drop 0).take 64 = y := ⟨_, rfl⟩
  obtain ⟨y1, hy1⟩ : ∃ y, (s.b.drop 64).take 64 = y := ⟨_, rfl⟩
  have HR0 := Aside0.mk (fun (W : World) (hA : s.At W g) => (show Calls Try.prog 34 #[.pointer (some ⟨g, 0, none⟩), .int .i64 0, .int .i64 64] W fun e w' => ∃ v : Value, e = .returned (.tuple #[v, .int .i64 0]) ∧ Kd.R (Kd.int .u8) 5 w' W.heap.size (fun _ => True) v ((s.b.drop 0).take 64) ∧ Below W.heap.size W w' from Fs.read_ok (w := W) 0 64 hA ho hm0))
  have HR1 := Aside0.mk (fun (W : World) (hA : s.At W g) => (show Calls Try.prog 34 #[.pointer (some ⟨g, 0, none⟩), .int .i64 64, .int .i64 64] W fun e w' => ∃ v : Value, e = .returned (.tuple #[v, .int .i64 0]) ∧ Kd.R (Kd.int .u8) 5 w' W.heap.size (fun _ => True) v ((s.b.drop 64).take 64) ∧ Below W.heap.size W w' from Fs.read_ok (w := W) 64 64 hA ho hm1))
  rw [hy0] at HR0 hp
  rw [hy1] at HR1 hq
  have HD0 := Aside0.mk (show record_Decode.f y0 = some (p0, p1, p2, p3, p4) from congrArg some hp)
  have HD1 := Aside0.mk (show record_Decode.f y1 = some (q0, q1, q2, q3, q4) from congrArg some hq)
  clear h hz hm0 hm1 hd ho hy0 hy1 hp hq
  go_enter Try.func65, Try.ntmps65
  go_upto_region 5 with (first
    | (go_at_call 43; (refine (Fs.size_calls HS.out.2.1).mono ?_)
       rintro e w1 ⟨rfl, rfl⟩))
  go_wp2
  go_loopw [17] (fun v17 wr => ∃ i : Int, v17 = .int .i64 i ∧ ((i = 0 ∧ Aside0 (Sr.S s w wr g #[.int .u32 0, .int .i64 0, .int .i64 0, .int .i64 0, .bool false, .int .u32 0, .int .i64 0, .int .i64 0, .int .i64 0, .bool false])) ∨ (i = 1 ∧ Aside0 (Sr.S s w wr g #[.int .u32 p0, .int .i64 p1, .int .i64 p2, .int .i64 p3, .bool (p4 == 0), .int .u32 0, .int .i64 0, .int .i64 0, .int .i64 0, .bool false])) ∨ (i = 2 ∧ Aside0 (Sr.S s w wr g #[.int .u32 p0, .int .i64 p1, .int .i64 p2, .int .i64 p3, .bool (p4 == 0), .int .u32 q0, .int .i64 q1, .int .i64 q2, .int .i64 q3, .bool (q4 == 0)])))) (fun v17 _ => (2 - intOf v17).toNat)
  case atStart => exact ⟨0, rfl, Or.inl ⟨rfl, HS⟩⟩
  case round =>
    clear HS
    obtain ⟨i, rfl, hrel⟩ := hrel
    rcases hrel with ⟨rfl, HS⟩ | ⟨rfl, HS⟩ | ⟨rfl, HS⟩
    · skip
      go_upto_region 11 with (first
        | (go_at_call 34; (refine (HR0.out _ HS.out.2.1).mono ?_)
           rintro e w2 ⟨v, rfl, hr, hb⟩
           obtain ⟨A, c, rfl⟩ := Kd.R_slice hr
           have HR := Aside0.mk hr
           have HS2 := Aside0.mk (Sr.s_below HS.out hb)
           clear hr hb HS))
      go_cut [6, 7] (fun s6 s7 wr => ∃ b, s6 = .int .i64 p4 ∧ s7 = .pointer (some ⟨b, 0, none⟩) ∧ Aside0 (b ≠ w.heap.size ∧ wr.heap[b]? = some (.cells #[.int .u32 p0, .int .i64 p1, .int .i64 p2, .int .i64 p3] 24 (0, 0)) ∧ Sr.S s w wr g #[.int .u32 0, .int .i64 0, .int .i64 0, .int .i64 0, .bool false, .int .u32 0, .int .i64 0, .int .i64 0, .int .i64 0, .bool false]))
      case first =>
        go_wp2_with (first
          | (go_at_call 14; (refine (record_Decode.calls A c y0 p0 p1 p2 p3 p4 _ (Kd.R_reads' HR.out).2.2 (Kd.R_reads' HR.out).2.1 HD0.out).mono ?_)
             rintro e w3 ⟨rfl, hb⟩
             have HS3 := Aside0.mk (Sr.s_below HS2.out hb)
             clear hb HS2 HR))
        go_meet
        exact ⟨w3.heap.size, rfl, rfl, ⟨(by have := blk_lt HS3.out.1; omega), blk_new w3 _, Sr.s_alloc HS3.out _⟩⟩
      case rest =>
        obtain ⟨b, rfl, rfl, H⟩ := hcut
        clear HS2 HR
        rename World => w4
        have r0 := blk_cell H.out.2.1 0
        have r1 := blk_cell H.out.2.1 1
        have r2 := blk_cell H.out.2.1 2
        have r3 := blk_cell H.out.2.1 3
        have k0 := blk_cell H.out.2.2.1 0
        have f0 := blk_frozen H.out.2.2.1 0
        have k1 := blk_cell H.out.2.2.1 1
        have f1 := blk_frozen H.out.2.2.1 1
        have k2 := blk_cell H.out.2.2.1 2
        have f2 := blk_frozen H.out.2.2.1 2
        have k3 := blk_cell H.out.2.2.1 3
        have f3 := blk_frozen H.out.2.2.1 3
        have k4 := blk_cell H.out.2.2.1 4
        have f4 := blk_frozen H.out.2.2.1 4
        go_wp2
        go_roundw
        case rel => exact ⟨1, rfl, Or.inr (Or.inl ⟨rfl, ⟨Sr.s_set5a HG.out H.out.2.2⟩⟩)⟩
        case measure => simp [intOf]
    · skip
      go_upto_region 11 with (first
        | (go_at_call 34; (refine (HR1.out _ HS.out.2.1).mono ?_)
           rintro e w2 ⟨v, rfl, hr, hb⟩
           obtain ⟨A, c, rfl⟩ := Kd.R_slice hr
           have HR := Aside0.mk hr
           have HS2 := Aside0.mk (Sr.s_below HS.out hb)
           clear hr hb HS))
      go_cut [6, 7] (fun s6 s7 wr => ∃ b, s6 = .int .i64 q4 ∧ s7 = .pointer (some ⟨b, 0, none⟩) ∧ Aside0 (b ≠ w.heap.size ∧ wr.heap[b]? = some (.cells #[.int .u32 q0, .int .i64 q1, .int .i64 q2, .int .i64 q3] 24 (0, 0)) ∧ Sr.S s w wr g #[.int .u32 p0, .int .i64 p1, .int .i64 p2, .int .i64 p3, .bool (p4 == 0), .int .u32 0, .int .i64 0, .int .i64 0, .int .i64 0, .bool false]))
      case first =>
        go_wp2_with (first
          | (go_at_call 14; (refine (record_Decode.calls A c y1 q0 q1 q2 q3 q4 _ (Kd.R_reads' HR.out).2.2 (Kd.R_reads' HR.out).2.1 HD1.out).mono ?_)
             rintro e w3 ⟨rfl, hb⟩
             have HS3 := Aside0.mk (Sr.s_below HS2.out hb)
             clear hb HS2 HR))
        go_meet
        exact ⟨w3.heap.size, rfl, rfl, ⟨(by have := blk_lt HS3.out.1; omega), blk_new w3 _, Sr.s_alloc HS3.out _⟩⟩
      case rest =>
        obtain ⟨b, rfl, rfl, H⟩ := hcut
        clear HS2 HR
        rename World => w4
        have r0 := blk_cell H.out.2.1 0
        have r1 := blk_cell H.out.2.1 1
        have r2 := blk_cell H.out.2.1 2
        have r3 := blk_cell H.out.2.1 3
        have k0 := blk_cell H.out.2.2.1 5
        have f0 := blk_frozen H.out.2.2.1 5
        have k1 := blk_cell H.out.2.2.1 6
        have f1 := blk_frozen H.out.2.2.1 6
        have k2 := blk_cell H.out.2.2.1 7
        have f2 := blk_frozen H.out.2.2.1 7
        have k3 := blk_cell H.out.2.2.1 8
        have f3 := blk_frozen H.out.2.2.1 8
        have k4 := blk_cell H.out.2.2.1 9
        have f4 := blk_frozen H.out.2.2.1 9
        go_wp2
        go_roundw
        case rel => exact ⟨2, rfl, Or.inr (Or.inr ⟨rfl, ⟨Sr.s_set5b HG.out H.out.2.2⟩⟩)⟩
        case measure => simp [intOf]
    · skip
      have k0 := blk_cell HS.out.1 0
      have f0 := blk_frozen HS.out.1 0
      have k1 := blk_cell HS.out.1 1
      have f1 := blk_frozen HS.out.1 1
      have k2 := blk_cell HS.out.1 2
      have f2 := blk_frozen HS.out.1 2
      have k3 := blk_cell HS.out.1 3
      have f3 := blk_frozen HS.out.1 3
      have k4 := blk_cell HS.out.1 4
      have f4 := blk_frozen HS.out.1 4
      have k5 := blk_cell HS.out.1 5
      have f5 := blk_frozen HS.out.1 5
      have k6 := blk_cell HS.out.1 6
      have f6 := blk_frozen HS.out.1 6
      have k7 := blk_cell HS.out.1 7
      have f7 := blk_frozen HS.out.1 7
      have k8 := blk_cell HS.out.1 8
      have f8 := blk_frozen HS.out.1 8
      have k9 := blk_cell HS.out.1 9
      have f9 := blk_frozen HS.out.1 9
      go_wp2
      have hx := Sr.set10 (y0 := .int .u32 p0) (y1 := .int .i64 p1) (y2 := .int .i64 p2) (y3 := .int .i64 p3) (y4 := .bool (p4 == 0)) (y5 := .int .u32 q0) (y6 := .int .i64 q1) (y7 := .int .i64 q2) (y8 := .int .i64 q3) (y9 := .bool (q4 == 0)) HS.out.1
      have hy := Sr.bel10 (y0 := .int .u32 p0) (y1 := .int .i64 p1) (y2 := .int .i64 p2) (y3 := .int .i64 p3) (y4 := .bool (p4 == 0)) (y5 := .int .u32 q0) (y6 := .int .i64 q1) (y7 := .int .i64 q2) (y8 := .int .i64 q3) (y9 := .bool (q4 == 0)) (Nat.le_refl w.heap.size) HS.out.2.2
      generalize ((((((((((wr.setCell ⟨w.heap.size, 0, none⟩ (.int .u32 p0)).setCell ⟨w.heap.size, 1, none⟩ (.int .i64 p1)).setCell ⟨w.heap.size, 2, none⟩ (.int .i64 p2)).setCell ⟨w.heap.size, 3, none⟩ (.int .i64 p3)).setCell ⟨w.heap.size, 4, none⟩ (.bool (p4 == 0))).setCell ⟨w.heap.size, 5, none⟩ (.int .u32 q0)).setCell ⟨w.heap.size, 6, none⟩ (.int .i64 q1)).setCell ⟨w.heap.size, 7, none⟩ (.int .i64 q2)).setCell ⟨w.heap.size, 8, none⟩ (.int .i64 q3)).setCell ⟨w.heap.size, 9, none⟩ (.bool (q4 == 0))) = w9 at hx hy ⊢
      refine bodyPost_ret (results_ct rfl _ _ w.heap.size 106 #[.int .u32 p0, .int .i64 p1, .int .i64 p2, .int .i64 p3, .bool (p4 == 0), .int .u32 q0, .int .i64 q1, .int .i64 q2, .int .i64 q3, .bool (q4 == 0)] (0, 0) _ rfl hx Try.underlying106 rfl (by kernel_rfl)) rfl ?_
      exact ⟨rfl, hy⟩
end Go.Proofs.Ytjldkgcabombhaa
