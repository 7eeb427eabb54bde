/- Contract of the examples' check of package remontoirelaw24, walked by hand over the printed contracts: it comes to true. -/
import Derived.Test.YtjldkgcabombhaaProg
import Derived.Below
import Derived.Deep.Draws
import Derived.OwnWalk
import Derived.Tactics
import Derived.WalkKit
import Derived.WalkSpells
import Derived.WalkLawsBesides
import Derived.KernelRfl
import Derived.RowKit3
import Derived.Deep.LoopGhost
import Derived.Deep.QuietTactic
import Derived.BigQuiet
import Derived.WideLaws
import Derived.Deep.DeepCutAuto
import Derived.Deep.CutBlock
import Derived.Deep.RegionHeld3
import Derived.Lib.Hide
import Derived.IntWalk
import Derived.Outline
import Derived.Test.YtjldkgcabombhaaWWords
import Derived.Test.YtjldkgcabombhaaWLast
import Derived.Test.YtjldkgcabombhaaWMore
import Derived.LoopN
import Derived.Test.YtjldkgcabombhaaQMx2
import Derived.Test.YtjldkgcabombhaaQMx3
namespace Go.Proofs.Ytjldkgcabombhaa
open Go.RowKit Go.Proofs.YtjldkgcabombhaaW.PrintWords Go.Proofs.YtjldkgcabombhaaW.PrintLast Go.Proofs.YtjldkgcabombhaaW.PrintMore Go.Proofs.Ytjldkgcabombhaa.QM
set_option linter.unusedVariables false
set_option linter.unusedSimpArgs false

theorem bcell {W w1 : World} (hb : Below W.heap.size W w1) : (∀ b o, b < W.heap.size → w1.cell? ⟨b, o, none⟩ = W.cell? ⟨b, o, none⟩) ∧ (∀ b o, b < W.heap.size → w1.frozen? ⟨b, o, none⟩ = W.frozen? ⟨b, o, none⟩) :=
  ⟨fun b o h => hb.cell (p := ⟨b, o, none⟩) h, fun b o h => hb.frozen (p := ⟨b, o, none⟩) h⟩

def remontoirelaw24_known.f : Option Bool := some true
theorem Kn.s0 : mode_Sampled.f 9 0 0 0 3 1000000 0 0 false = some (1, 1, 0, 0) := by simp [mode_Sampled.f, mode_Sampled.j0, mode_Sampled.j1, mode_May.f, Md.may, mode_lapse.f, wrap64, mx]
theorem Kn.s1 : mode_Sampled.f 9 1 1 0 3 1000000 1000000000 0 false = some (1, 2, 1000000000, 0) := by simp [mode_Sampled.f, mode_Sampled.j0, mode_Sampled.j1, mode_May.f, Md.may, mode_lapse.f, wrap64, mx]
theorem Kn.s2 : mode_Sampled.f 9 1 2 1000000000 3 1000000 2000000000 0 false = some (2, 3, 2000000000, 0) := by simp [mode_Sampled.f, mode_Sampled.j0, mode_Sampled.j1, mode_May.f, Md.may, mode_lapse.f, wrap64, mx]
theorem Kn.p0 : mode_Passed.f 9 2 3 2000000000 3 1000000 5000000000 9000 = some (3, 3, 2000000000, 0) := by simp [mode_Passed.f, mode_Passed.j0, mode_Passed.j1, mode_May.f, Md.may, mode_lapse.f, wrap64]
theorem Kn.p1 : mode_Passed.f 9 3 3 2000000000 3 1000000 9000000000 2000000 = some (4, 0, 2000000000, 0) := by simp [mode_Passed.f, mode_Passed.j0, mode_Passed.j1, mode_May.f, Md.may, mode_lapse.f, wrap64]
theorem Kn.p2 : mode_Passed.f 9 2 3 2000000000 3 1000000 1 0 = some (0, 0, 0, 10) := by simp [mode_Passed.f, mode_Passed.j0, mode_Passed.j1, mode_May.f, Md.may, mode_lapse.f, wrap64]

/-- What holds ahead of round i of the loop: the mode that has come so far, the settings, the wanted states. -/
def Kn.Rel (w : World) (b : Nat) (i st cnt last : Int) (wr : World) : Prop :=
  wr.heap[b]? = some (.cells #[.int .i64 3, .int .i64 1000000] 38 (0, 0)) ∧ wr.heap[b + 1]? = some (.cells #[.int .u8 st, .int .i64 cnt, .int .i64 last] 36 (0, 0)) ∧
  wr.heap[b + 1 + 1]? = some (.cells #[.int .u8 1, .int .u8 1, .int .u8 2] 98 (0, 0)) ∧ Below w.heap.size w wr ∧ w.heap.size ≤ b ∧
  ((i = 0 ∧ st = 0 ∧ cnt = 0 ∧ last = 0) ∨ (i = 1 ∧ st = 1 ∧ cnt = 1 ∧ last = 0) ∨ (i = 2 ∧ st = 1 ∧ cnt = 2 ∧ last = 1000000000) ∨ (i = 3 ∧ st = 2 ∧ cnt = 3 ∧ last = 2000000000))

theorem Kn.next {w wr w2 : World} {b : Nat} {st cnt last st' cnt' last' i i' : Int} (h : Kn.Rel w b i st cnt last wr) (hb : Below wr.heap.size wr w2) (nq : Nat)
    (hk : (i' = 0 ∧ st' = 0 ∧ cnt' = 0 ∧ last' = 0) ∨ (i' = 1 ∧ st' = 1 ∧ cnt' = 1 ∧ last' = 0) ∨ (i' = 2 ∧ st' = 1 ∧ cnt' = 2 ∧ last' = 1000000000) ∨ (i' = 3 ∧ st' = 2 ∧ cnt' = 3 ∧ last' = 2000000000)) (o : Obj) :
    Kn.Rel w b i' st' cnt' last' ((((w2.alloc o).setCell ⟨b + 1, 0, none⟩ (.int .u8 st')).setCell ⟨b + 1, 1, none⟩ (.int .i64 cnt')).setCell ⟨b + 1, 2, none⟩ (.int .i64 last') |>.drewN nq) := by
  obtain ⟨h1, h2, h3, h4, h5, _⟩ := h
  have g1 := blk_alloc (blk_below h1 hb) o
  have g2 := blk_alloc (blk_below h2 hb) o
  have g3 := blk_alloc (blk_below h3 hb) o
  refine ⟨?_, ?_, ?_, ?_, h5, hk⟩
  · exact blk_far (blk_far (blk_far g1 (by simp) _) (by simp) _) (by simp) _
  · exact blk_set (blk_set (blk_set g2 0 _) 1 _) 2 _
  · exact blk_far (blk_far (blk_far g3 (by simp) _) (by simp) _) (by simp) _
  · have := below_alloc (below_then h4 h4.size hb) o
    exact pw_below_drewN (((this.setCell (p := ⟨b + 1, 0, none⟩) (by simp; omega) _).setCell (p := ⟨b + 1, 1, none⟩) (by simp; omega) _).setCell (p := ⟨b + 1, 2, none⟩) (by simp; omega) _) nq

set_option maxHeartbeats 8000000 in
set_option maxRecDepth 100000 in
theorem Kn.walk (w : World) : Calls Try.prog 25 #[] w fun e w' => e = .returned (.bool true) ∧ Below w.heap.size w w' := by
  have hu1 := Try.underlying36
  have hu2 := Try.underlying38
  have hu3 := Try.underlying98
  go_enter Try.func25, Try.ntmps25
  go_wp2_with (go_at_call 24; (with_reducible refine (mode_Boot.calls 0 0 0 _ rfl).mono ?_); rintro e w1 ⟨rfl, hb1⟩)
  have hr0 : Kn.Rel w w1.heap.size 0 0 0 0 (((w1.alloc (Obj.cells #[Value.int IntKind.i64 3, Value.int IntKind.i64 1000000] 38)).alloc (Obj.cells #[Value.int IntKind.u8 0, Value.int IntKind.i64 0, Value.int IntKind.i64 0] 36)).alloc (Obj.cells #[Value.int IntKind.u8 1, Value.int IntKind.u8 1, Value.int IntKind.u8 2] 98)) := by
    refine ⟨blk_alloc (blk_alloc (blk_new _ _) _) _, ?_, ?_, below_alloc (below_alloc (below_alloc hb1 _) _) _, hb1.size, .inl ⟨rfl, rfl, rfl, rfl⟩⟩
    · have := blk_alloc (blk_new (w1.alloc (Obj.cells #[Value.int IntKind.i64 3, Value.int IntKind.i64 1000000] 38)) (Obj.cells #[Value.int IntKind.u8 0, Value.int IntKind.i64 0, Value.int IntKind.i64 0] 36)) (Obj.cells #[Value.int IntKind.u8 1, Value.int IntKind.u8 1, Value.int IntKind.u8 2] 98)
      simpa [World.size_alloc] using this
    · have := blk_new ((w1.alloc (Obj.cells #[Value.int IntKind.i64 3, Value.int IntKind.i64 1000000] 38)).alloc (Obj.cells #[Value.int IntKind.u8 0, Value.int IntKind.i64 0, Value.int IntKind.i64 0] 36)) (Obj.cells #[Value.int IntKind.u8 1, Value.int IntKind.u8 1, Value.int IntKind.u8 2] 98)
      simpa [World.size_alloc] using this
  have HR0 := Aside0.mk hr0
  clear hr0 hb1
  obtain ⟨b, hb⟩ : ∃ b, b = w1.heap.size := ⟨_, rfl⟩
  rw [← hb] at HR0
  rw [← hb]
  go_loopw [16] (fun v wr => ∃ (i st cnt last : Int), v = .int .i64 i ∧ Aside0 (Kn.Rel w b i st cnt last wr)) (fun v _ => (3 - intOf v).toNat)
  case atStart => exact ⟨0, 0, 0, 0, rfl, HR0⟩
  case round =>
    clear HR0 hb
    obtain ⟨i, st, cnt, last, rfl, HR⟩ := hrel
    obtain ⟨h1, h2, h3, h4, h5, hk⟩ := HR.out
    have l0 : b + 1 + 1 < wr.heap.size := blk_lt h3
    rcases hk with ⟨rfl, rfl, rfl, rfl⟩ | ⟨rfl, rfl, rfl, rfl⟩ | ⟨rfl, rfl, rfl, rfl⟩ | ⟨rfl, rfl, rfl, rfl⟩
    · have c10 := blk_cell h1 0
      have c11 := blk_cell h1 1
      have c20 := blk_cell h2 0
      have c21 := blk_cell h2 1
      have c22 := blk_cell h2 2
      have H1 := Aside0.mk h1
      have H2 := Aside0.mk h2
      have H3 := Aside0.mk h3
      have H4 := Aside0.mk h4
      clear h1 h2 h3 h4
      go_wp2_with (go_at_call 19; (with_reducible refine (mode_Sampled.calls 9 _ _ _ _ _ _ _ _ 1 1 0 0 _ Kn.s0).mono ?_); rintro e w2 ⟨rfl, hb2⟩)
      have l2 := hb2.size
      have l3 : b + 1 + 1 < w2.heap.size := by omega
      have l4 : b + 1 < w2.heap.size := by omega
      have n4 : b + 1 ≠ w2.heap.size := by omega
      have n5 : b + 1 + 1 ≠ w2.heap.size := by omega
      have k1 := blk_below H1.out hb2
      have k2 := blk_below H2.out hb2
      have k3 := blk_below H3.out hb2
      have d20 := blk_cell k2 0
      have d21 := blk_cell k2 1
      have d22 := blk_cell k2 2
      have d30 := blk_cell k3 0
      have d31 := blk_cell k3 1
      have d32 := blk_cell k3 2
      have f20 := blk_frozen k2 0
      have f21 := blk_frozen k2 1
      have f22 := blk_frozen k2 2
      clear k1 k2 k3
      go_wp2
      go_quiet (fail)
      go_wp2
      go_roundw
      case rel => exact ⟨1, 1, 1, 0, by first | rfl | go_num, ⟨Kn.next HR.out hb2 _ (.inr (.inl ⟨rfl, rfl, rfl, rfl⟩)) _⟩⟩
      case measure => simp [intOf]
    · have c10 := blk_cell h1 0
      have c11 := blk_cell h1 1
      have c20 := blk_cell h2 0
      have c21 := blk_cell h2 1
      have c22 := blk_cell h2 2
      have H1 := Aside0.mk h1
      have H2 := Aside0.mk h2
      have H3 := Aside0.mk h3
      have H4 := Aside0.mk h4
      clear h1 h2 h3 h4
      go_wp2_with (go_at_call 19; (with_reducible refine (mode_Sampled.calls 9 _ _ _ _ _ _ _ _ 1 2 1000000000 0 _ Kn.s1).mono ?_); rintro e w2 ⟨rfl, hb2⟩)
      have l2 := hb2.size
      have l3 : b + 1 + 1 < w2.heap.size := by omega
      have l4 : b + 1 < w2.heap.size := by omega
      have n4 : b + 1 ≠ w2.heap.size := by omega
      have n5 : b + 1 + 1 ≠ w2.heap.size := by omega
      have k1 := blk_below H1.out hb2
      have k2 := blk_below H2.out hb2
      have k3 := blk_below H3.out hb2
      have d20 := blk_cell k2 0
      have d21 := blk_cell k2 1
      have d22 := blk_cell k2 2
      have d30 := blk_cell k3 0
      have d31 := blk_cell k3 1
      have d32 := blk_cell k3 2
      have f20 := blk_frozen k2 0
      have f21 := blk_frozen k2 1
      have f22 := blk_frozen k2 2
      clear k1 k2 k3
      go_wp2
      go_quiet (fail)
      go_wp2
      go_roundw
      case rel => exact ⟨2, 1, 2, 1000000000, by first | rfl | go_num, ⟨Kn.next HR.out hb2 _ (.inr (.inr (.inl ⟨rfl, rfl, rfl, rfl⟩))) _⟩⟩
      case measure => simp [intOf]
    · have c10 := blk_cell h1 0
      have c11 := blk_cell h1 1
      have c20 := blk_cell h2 0
      have c21 := blk_cell h2 1
      have c22 := blk_cell h2 2
      have H1 := Aside0.mk h1
      have H2 := Aside0.mk h2
      have H3 := Aside0.mk h3
      have H4 := Aside0.mk h4
      clear h1 h2 h3 h4
      go_wp2_with (go_at_call 19; (with_reducible refine (mode_Sampled.calls 9 _ _ _ _ _ _ _ _ 2 3 2000000000 0 _ Kn.s2).mono ?_); rintro e w2 ⟨rfl, hb2⟩)
      have l2 := hb2.size
      have l3 : b + 1 + 1 < w2.heap.size := by omega
      have l4 : b + 1 < w2.heap.size := by omega
      have n4 : b + 1 ≠ w2.heap.size := by omega
      have n5 : b + 1 + 1 ≠ w2.heap.size := by omega
      have k1 := blk_below H1.out hb2
      have k2 := blk_below H2.out hb2
      have k3 := blk_below H3.out hb2
      have d20 := blk_cell k2 0
      have d21 := blk_cell k2 1
      have d22 := blk_cell k2 2
      have d30 := blk_cell k3 0
      have d31 := blk_cell k3 1
      have d32 := blk_cell k3 2
      have f20 := blk_frozen k2 0
      have f21 := blk_frozen k2 1
      have f22 := blk_frozen k2 2
      clear k1 k2 k3
      go_wp2
      go_quiet (fail)
      go_wp2
      go_roundw
      case rel => exact ⟨3, 2, 3, 2000000000, by first | rfl | go_num, ⟨Kn.next HR.out hb2 _ (.inr (.inr (.inr ⟨rfl, rfl, rfl, rfl⟩))) _⟩⟩
      case measure => simp [intOf]
    · have c10 := blk_cell h1 0
      have c11 := blk_cell h1 1
      have c20 := blk_cell h2 0
      have c21 := blk_cell h2 1
      have c22 := blk_cell h2 2
      have H1 := Aside0.mk h1
      have H2 := Aside0.mk h2
      have H4 := Aside0.mk h4
      clear h1 h2 h3 h4
      go_wp2_with (first
        | (go_at_call 20; (with_reducible refine (mode_Passed.calls 9 _ _ _ _ _ _ _ 3 3 2000000000 0 _ Kn.p0).mono ?_); rintro e w2 ⟨rfl, hb2⟩
           have K1 := Aside0.mk (blk_below H1.out hb2)
           have K2 := Aside0.mk (blk_below H2.out hb2)
           have K4 := Aside0.mk (below_then H4.out H4.out.size hb2)
           have m1 : b < w2.heap.size := blk_lt K1.out
           have m2 : b + 1 < w2.heap.size := blk_lt K2.out
           have d10 := blk_cell K1.out 0
           have d11 := blk_cell K1.out 1
           have d20 := blk_cell K2.out 0
           have d21 := blk_cell K2.out 1
           have d22 := blk_cell K2.out 2
           clear hb2)
        | (go_at_call 20; (with_reducible refine (mode_Passed.calls 9 _ _ _ _ _ _ _ 4 0 2000000000 0 _ Kn.p1).mono ?_); rintro e w3 ⟨rfl, hb3⟩
           have L1 := Aside0.mk (blk_below (blk_alloc K1.out _) hb3)
           have L2 := Aside0.mk (blk_below (blk_alloc K2.out _) hb3)
           have L3 := Aside0.mk (blk_below (blk_new w2 _) hb3)
           have L4 := Aside0.mk (below_then (below_alloc K4.out _) (below_alloc K4.out _).size hb3)
           have n1 : b < w3.heap.size := blk_lt L1.out
           have n2 : b + 1 < w3.heap.size := blk_lt L2.out
           have n3 : w2.heap.size < w3.heap.size := blk_lt L3.out
           have g10 := blk_cell L1.out 0
           have g11 := blk_cell L1.out 1
           have g20 := blk_cell L2.out 0
           have g21 := blk_cell L2.out 1
           have g22 := blk_cell L2.out 2
           have g30 := blk_cell L3.out 0
           have g31 := blk_cell L3.out 1
           have g32 := blk_cell L3.out 2
           clear hb3)
        | (go_at_call 20; (with_reducible refine (mode_Passed.calls 9 _ _ _ _ _ _ _ 0 0 0 10 _ Kn.p2).mono ?_); rintro e w4 ⟨rfl, hb4⟩
           have M3 := Aside0.mk (blk_below (blk_alloc L3.out _) hb4)
           have M4 := Aside0.mk (blk_below (blk_new w3 _) hb4)
           have M5 := Aside0.mk (below_then (below_alloc L4.out _) (below_alloc L4.out _).size hb4)
           have o3 : w2.heap.size < w4.heap.size := blk_lt M3.out
           have o4 : w3.heap.size < w4.heap.size := blk_lt M4.out
           have j30 := blk_cell M3.out 0
           have j31 := blk_cell M3.out 1
           have j32 := blk_cell M3.out 2
           have j40 := blk_cell M4.out 0
           have j41 := blk_cell M4.out 1
           have j42 := blk_cell M4.out 2
           clear hb4)
        | (go_at_call 23; (with_reducible refine (mode_Serves.calls 3 3 2000000000 true _ (by simp [mode_Serves.f])).mono ?_); rintro e w5 ⟨rfl, hb5⟩
           have N4 := Aside0.mk (blk_below (blk_alloc M4.out _) hb5)
           have N5 := Aside0.mk (below_then (below_alloc M5.out _) (below_alloc M5.out _).size hb5)
           have i40 := blk_cell N4.out 0
           have i41 := blk_cell N4.out 1
           have i42 := blk_cell N4.out 2
           clear hb5)
        | (go_at_call 23; (with_reducible refine (mode_Serves.calls 4 0 2000000000 false _ (by simp [mode_Serves.f])).mono ?_); rintro e w6 ⟨rfl, hb6⟩
           have O5 := Aside0.mk (below_then N5.out N5.out.size hb6)
           clear hb6))
      go_ret
      exact ⟨by first | rfl | (simp; done), O5.out⟩

theorem remontoirelaw24_known.calls (r : Bool) (w : World) (h : remontoirelaw24_known.f = some r) :
    Calls Try.prog 25 #[] w fun e w' => e = .returned (.bool r) ∧ Below w.heap.size w w' := by
  obtain rfl := Option.some.inj h
  exact Kn.walk w
end Go.Proofs.Ytjldkgcabombhaa
