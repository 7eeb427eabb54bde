/- The contract of slots.Save that is written, walked by hand. -/
import Derived.Test.YtjldkgcabombhaaProg
import Derived.Below
import Derived.Deep.Draws
import Derived.OwnWalk
import Derived.Tactics
import Derived.WalkKit
import Derived.WalkSpells
import Derived.WalkLawsBesides
import Derived.KernelRfl
import Derived.RowKit3
import Derived.Deep.LoopGhost
import Derived.Deep.QuietTactic
import Derived.BigQuiet
import Derived.WideLaws
import Derived.Deep.DeepCutAuto
import Derived.Deep.CutBlock
import Derived.Deep.RegionHeld3
import Derived.Lib.Hide
import Derived.IntWalk
import Derived.Outline
import Derived.Test.YtjldkgcabombhaaWWords
import Derived.Test.YtjldkgcabombhaaWLast
import Derived.Test.YtjldkgcabombhaaWMore
import Derived.Deep.RegionWith
import Derived.Test.YtjldkgcabombhaaHE
import Derived.Test.YtjldkgcabombhaaHS5
namespace Go.Proofs.Ytjldkgcabombhaa
open Go.RowKit Go.Proofs.YtjldkgcabombhaaW.PrintWords Go.Proofs.YtjldkgcabombhaaW.PrintLast Go.Proofs.YtjldkgcabombhaaW.PrintMore
set_option linter.unusedVariables false
set_option linter.unusedSimpArgs false

theorem Fs.fr_new {g : Nat} {w W : World} (h : Fs.Fr g w W) (p : Addr) (hp : w.heap.size ≤ p.block) (v : Value) : Fs.Fr g w (W.setCell p v) := ⟨h.1.setCell (Nat.zero_le _) v, fun k hk hg => (Below.heap_setCell W p v k (by omega)).trans (h.2 k hk hg)⟩
def Sv.M (s : Fs) (w W : World) (g : Nat) (bx : Array Value) : Prop := s.At W g ∧ W.heap[w.heap.size]? = some (.cells bx 24 (0, 0)) ∧ W.heap[w.heap.size + 1]? = some (.cells #[.int .u32 0, .int .i64 0, .int .i64 0, .int .i64 0] 24 (0, 0)) ∧ Below w.heap.size w W
theorem Sv.m_below {s : Fs} {w W W1 : World} {g : Nat} {bx : Array Value} (h : Sv.M s w W g bx) (hb : Below W.heap.size W W1) : Sv.M s w W1 g bx := ⟨Fs.below h.1 hb, blk_below h.2.1 hb, blk_below h.2.2.1 hb, below_step h.2.2.2 hb⟩
theorem Sv.m_alloc {s : Fs} {w W : World} {g : Nat} {bx : Array Value} (h : Sv.M s w W g bx) (o : Obj) : Sv.M s w (W.alloc o) g bx := ⟨⟨blk_alloc h.1.1 _, h.1.2⟩, blk_alloc h.2.1 _, blk_alloc h.2.2.1 _, below_alloc h.2.2.2 _⟩
theorem Sv.m_start {s : Fs} {w : World} {g : Nat} (h : s.At w g) (r0 r1 r2 r3 : Int) : Sv.M s w ((w.alloc (.cells #[.int .u32 r0, .int .i64 r1, .int .i64 r2, .int .i64 r3] 24 (0, 0))).alloc (.cells #[.int .u32 0, .int .i64 0, .int .i64 0, .int .i64 0] 24 (0, 0))) g #[.int .u32 r0, .int .i64 r1, .int .i64 r2, .int .i64 r3] := ⟨⟨blk_alloc (blk_alloc h.1 _) _, h.2⟩, blk_alloc (blk_new w _) _, Sv.new w r0 r1 r2 r3, below_alloc (below_alloc (Below.refl _ _) _) _⟩
theorem Sv.m_set {s : Fs} {w W : World} {g : Nat} {x0 x1 x2 x3 y0 : Value} (hg : g ≠ w.heap.size) (h : Sv.M s w W g #[x0, x1, x2, x3]) : Sv.M s w (W.setCell ⟨w.heap.size, 0, none⟩ y0) g #[y0, x1, x2, x3] :=
  ⟨⟨blk_far h.1.1 (p := ⟨w.heap.size, 0, none⟩) hg y0, h.1.2⟩, blk_put (cs' := #[y0, x1, x2, x3]) h.2.1 0 y0 rfl, blk_far h.2.2.1 (p := ⟨w.heap.size, 0, none⟩) (by show w.heap.size + 1 ≠ w.heap.size; omega) y0, h.2.2.2.setCell (p := ⟨w.heap.size, 0, none⟩) (Nat.le_refl _) y0⟩

set_option maxHeartbeats 1000000 in
set_option maxRecDepth 100000 in
theorem Sv.ok {s : Fs} {w : World} {g : Nat} (r0 r1 r2 r3 o0 o1 o2 o3 o' at' : Int) (ob : Bool) (nx : Int) (h : s.At w g) (hk : s.Ok) (hs : s.set = false) (hm : s.may at' 64 = 0) (ha : wrap64 (nx * 64) = at') (ho : o0 ≠ 4294967295) (ho' : (o0 + 1) % 4294967296 = o')
    (hL : ∀ W, s.At W g → Calls Try.prog 47 #[.pointer (some ⟨g, 0, none⟩)] W fun e w' => e = .returned (.tuple #[.agg #[.int .u32 o0, .int .i64 o1, .int .i64 o2, .int .i64 o3], .bool ob, .int .i64 0]) ∧ Below W.heap.size W w')
    (hN : ∀ W, s.At W g → Calls Try.prog 48 #[.pointer (some ⟨g, 0, none⟩)] W fun e w' => e = .returned (.tuple #[.int .i64 nx, .int .i64 0]) ∧ Below W.heap.size W w') :
    Calls Try.prog 45 #[.pointer (some ⟨g, 0, none⟩), .agg #[.int .u32 r0, .int .i64 r1, .int .i64 r2, .int .i64 r3]] w fun e w' => e = .returned (.tuple #[.agg #[.int .u32 o', .int .i64 r1, .int .i64 r2, .int .i64 r3], .int .i64 0]) ∧ (s.wrote at'.toNat (Rc.enc o' r1 r2 r3)).At w' g ∧ Fs.Fr g w w' := by
  have hu2 := Try.underlying24
  have HL := Aside0.mk hL
  have HN := Aside0.mk hN
  have HK := Aside0.mk hk
  have HS := Aside0.mk hs
  have HG := Aside0.mk (show g ≠ w.heap.size ∧ g ≠ w.heap.size + 1 by have := blk_lt h.1; omega)
  have HM := Aside0.mk (Sv.m_start h r0 r1 r2 r3)
  have d1 : (o0 == 4294967295) = false := beq_eq_false_iff_ne.mpr ho
  obtain ⟨en, hen⟩ : ∃ en, Rc.enc o' r1 r2 r3 = en := ⟨_, rfl⟩
  have HE := Aside0.mk (fun W => record_Encode.calls o' r1 r2 r3 (Rc.enc o' r1 r2 r3) W rfl)
  have hlen : (Rc.enc o' r1 r2 r3).length = 64 := by
    have := Rc.rows_length o' r1 r2 r3
    unfold Rc.enc Rc.head
    rw [List.length_append, List.length_append, this.2.2.2, List.length_replicate, Rc.be_length]
  rw [hen] at HE hlen ⊢
  have HW := Aside0.mk (show s.may at' (en.length : Nat) = 0 by rw [hlen]; exact hm)
  clear h hk hs hm ho hL hN hen hlen
  go_enter Try.func45, Try.ntmps45
  go_upto_region 8 with (first
    | (go_at_call 47; (refine (HL.out _ HM.out.1).mono ?_)
       rintro e w1 ⟨rfl, hb⟩
       have HM1 := Aside0.mk (Sv.m_alloc (Sv.m_below HM.out hb) (.cells #[.int .u32 o0, .int .i64 o1, .int .i64 o2, .int .i64 o3] 24 (0, 0)))
       have HO := Aside0.mk (blk_new w1 (.cells #[.int .u32 o0, .int .i64 o1, .int .i64 o2, .int .i64 o3] 24 (0, 0)))
       clear hb HM HL)
    | (go_at_call 48; (refine (HN.out _ HM1.out.1).mono ?_)
       rintro e w2 ⟨rfl, hb⟩
       have HM2 := Aside0.mk (Sv.m_below HM1.out hb)
       have q0 := blk_cell (blk_below HO.out hb) 0
       have k0 := blk_cell HM2.out.2.1 0
       have k1 := blk_cell HM2.out.2.1 1
       have k2 := blk_cell HM2.out.2.1 2
       have k3 := blk_cell HM2.out.2.1 3
       have f0 := blk_frozen HM2.out.2.1 0
       clear hb HM1 HO HN))
  have HM3 := Aside0.mk (Sv.m_set (y0 := .int .u32 o') HG.out.1 HM2.out)
  generalize (w2.setCell ⟨w.heap.size, 0, none⟩ (.int .u32 o')) = w3 at HM3 ⊢
  clear k0 k1 k2 k3 f0 q0 HM2
  have k0 := blk_cell HM3.out.2.1 0
  have k1 := blk_cell HM3.out.2.1 1
  have k2 := blk_cell HM3.out.2.1 2
  have k3 := blk_cell HM3.out.2.1 3
  go_wp2_with (first
    | (go_at_call 13; (refine (HE.out _).mono ?_)
       rintro e w5 ⟨v, rfl, hr, hb⟩
       obtain ⟨A, c, rfl⟩ := Kd.R_slice hr
       have HR := Aside0.mk hr
       have HM5 := Aside0.mk (Sv.m_below HM3.out hb)
       clear hr hb HM3 HE)
    | (go_at_call 32; (refine (Fs.write_ok at' A en.length c en HM5.out.1 HK.out HW.out HS.out (Kd.R_reads' HR.out).2.2).mono ?_)
       rintro e w4 ⟨rfl, hA, hF⟩
       have HA := Aside0.mk hA
       have HF := Aside0.mk (Fs.fr_trans (Fs.fr_of_below g HM5.out.2.2.2) hF)
       have hB1 := (hF.2 _ (blk_lt HM5.out.2.1) (fun e => HG.out.1 e.symm)).trans HM5.out.2.1
       have hB2 := (hF.2 _ (blk_lt HM5.out.2.2.1) (fun e => HG.out.2 e.symm)).trans HM5.out.2.2.1
       have HB2 := Aside0.mk hB2
       have l0 := blk_cell hB1 0
       have m0 := blk_frozen hB1 0
       have l1 := blk_cell hB1 1
       have m1 := blk_frozen hB1 1
       have l2 := blk_cell hB1 2
       have m2 := blk_frozen hB1 2
       have l3 := blk_cell hB1 3
       have m3 := blk_frozen hB1 3
       have u0 := blk_cell hB2 0
       have v0 := blk_frozen hB2 0
       have u1 := blk_cell hB2 1
       have v1 := blk_frozen hB2 1
       have u2 := blk_cell hB2 2
       have v2 := blk_frozen hB2 2
       have u3 := blk_cell hB2 3
       have v3 := blk_frozen hB2 3
       clear hA hF hB1 hB2 HM5 HR))
  have hx := blk_far (blk_far (blk_far (blk_far HA.out.1 (p := ⟨w.heap.size + 1, 0, none⟩) HG.out.2 (.int .u32 o')) (p := ⟨w.heap.size + 1, 1, none⟩) HG.out.2 (.int .i64 r1)) (p := ⟨w.heap.size + 1, 2, none⟩) HG.out.2 (.int .i64 r2)) (p := ⟨w.heap.size + 1, 3, none⟩) HG.out.2 (.int .i64 r3)
  have hy := (Sq.set4 (y0 := .int .u32 o') (y1 := .int .i64 r1) (y2 := .int .i64 r2) (y3 := .int .i64 r3) (Nat.zero_le (w.heap.size + 1)) HB2.out HF.out.1).1
  have hz := Fs.fr_new (Fs.fr_new (Fs.fr_new (Fs.fr_new HF.out ⟨w.heap.size + 1, 0, none⟩ (Nat.le_succ _) (.int .u32 o')) ⟨w.heap.size + 1, 1, none⟩ (Nat.le_succ _) (.int .i64 r1)) ⟨w.heap.size + 1, 2, none⟩ (Nat.le_succ _) (.int .i64 r2)) ⟨w.heap.size + 1, 3, none⟩ (Nat.le_succ _) (.int .i64 r3)
  generalize ((((w4.setCell ⟨w.heap.size + 1, 0, none⟩ (.int .u32 o')).setCell ⟨w.heap.size + 1, 1, none⟩ (.int .i64 r1)).setCell ⟨w.heap.size + 1, 2, none⟩ (.int .i64 r2)).setCell ⟨w.heap.size + 1, 3, none⟩ (.int .i64 r3)) = w9 at hx hy hz ⊢
  refine bodyPost_ret (results_ct rfl _ _ (w.heap.size + 1) 24 #[.int .u32 o', .int .i64 r1, .int .i64 r2, .int .i64 r3] (0, 0) _ rfl hy Try.underlying24 rfl (by kernel_rfl)) rfl ?_
  exact ⟨rfl, ⟨hx, HA.out.2⟩, hz⟩
end Go.Proofs.Ytjldkgcabombhaa
