/- The contract of the document's Encode, walked by hand: what it makes is what record.Encode makes. -/
import Derived.Test.YtjldkgcabombhaaProg
import Derived.Below
import Derived.Deep.Draws
import Derived.OwnWalk
import Derived.Tactics
import Derived.WalkKit
import Derived.WalkSpells
import Derived.WalkLawsBesides
import Derived.KernelRfl
import Derived.RowKit3
import Derived.Deep.LoopGhost
import Derived.Deep.QuietTactic
import Derived.BigQuiet
import Derived.WideLaws
import Derived.Deep.DeepCutAuto
import Derived.Deep.CutBlock
import Derived.Deep.RegionHeld3
import Derived.Lib.Hide
import Derived.IntWalk
import Derived.Outline
import Derived.Test.YtjldkgcabombhaaWWords
import Derived.Test.YtjldkgcabombhaaWLast
import Derived.Test.YtjldkgcabombhaaWMore
import Derived.Test.YtjldkgcabombhaaWZeros
import Derived.ArgAppend
import Derived.Test.YtjldkgcabombhaaPureBytes
namespace Go.Proofs.Ytjldkgcabombhaa
open Go.RowKit Go.Proofs.Ytjldkgcabombhaa.QJ Go.Proofs.Ytjldkgcabombhaa.Rec Go.Proofs.YtjldkgcabombhaaW.PrintWords Go.Proofs.YtjldkgcabombhaaW.PrintLast Go.Proofs.YtjldkgcabombhaaW.PrintMore
set_option linter.unusedVariables false
set_option linter.unusedSimpArgs false

theorem Rf.u64 (n : Int) : 0 ≤ Rc.u64 n ∧ Rc.u64 n ≤ 18446744073709551615 := by
  unfold Rc.u64
  simp [IntKind.wrap, IntKind.bits, IntKind.signed]
  omega
theorem Rf.bytes (W : World) (n : Int) (s : Nat) (hs : s ≤ 8) :
    Calls Try.prog 54 #[.int .u64 (Rc.u64 n), .int .i64 (s : Int)] W fun e w' => ∃ v : Value, e = .returned v ∧ Kd.R (Kd.int .u8) 5 w' W.heap.size (fun _ => True) v (Rc.be s (Rc.u64 n)) ∧ Below W.heap.size W w' := by
  obtain ⟨k, hk⟩ := (bytes_tells (Rc.u64 n) s (Rf.u64 n).1 (Rf.u64 n).2 hs).rounds
  exact remontoireref26_bytes.calls k (Rc.u64 n) (s : Int) _ W hk
theorem Rf.crc (W : World) (A : Option Addr) (c : Nat) (l : List Int) (hr : Kd.C (Kd.int .u8) W A l.length l) (hc : l.length ≤ c) (hb : Bytes l) (hl : l.length ≤ 1000000) :
    Calls Try.prog 55 #[.slice A l.length c] W fun e w' => e = .returned (.int .u32 (Cr.sum l)) ∧ Drawn0 W w' := by
  obtain ⟨k, hk⟩ := (rcrc_tells l hb hl).rounds
  exact remontoireref07_CRC.calls k A c l _ W hr hc hk
theorem Rf.bytes_app {l m : List Int} (h1 : Bytes l) (h2 : Bytes m) : Bytes (l ++ m) := fun x hx => (List.mem_append.mp hx).elim (h1 x) (h2 x)
theorem Rf.head_bytes (a0 a1 a2 a3 : Int) : Bytes (Rc.head a0 a1 a2 a3) := by
  refine Rf.bytes_app (show Bytes (Rc.r3 a0 a1 a2 a3) from Rf.bytes_app (Rf.bytes_app (Rf.bytes_app (Rf.bytes_app ?_ (bytes_be _ _)) (bytes_be _ _)) (bytes_be _ _)) (bytes_be _ _)) ?_
  · intro x hx
    simp at hx
    omega
  · intro x hx
    obtain ⟨_, rfl⟩ := List.mem_replicate.mp hx
    omega
theorem Rf.head_length (a0 a1 a2 a3 : Int) : (Rc.head a0 a1 a2 a3).length = 60 := by
  obtain ⟨_, _, _, h⟩ := Rc.rows_length a0 a1 a2 a3
  unfold Rc.head
  rw [List.length_append, h, List.length_replicate]
theorem Rf.i_step {w W W1 : World} {a0 a1 a2 a3 : Int} {v : Value} {l : List Int} (h : Rc.I w W a0 a1 a2 a3 v l) (hb : Below W.heap.size W W1) : Rc.I w W1 a0 a1 a2 a3 v l :=
  ⟨Kd.R_below h.1 hb, blk_below h.2.1 hb, below_step h.2.2 hb⟩
theorem Rf.i_drew {w W : World} {a0 a1 a2 a3 : Int} {v : Value} {l : List Int} (h : Rc.I w W a0 a1 a2 a3 v l) : Rc.I w W.drew a0 a1 a2 a3 v l :=
  ⟨Kd.R_drew h.1, blk_drew h.2.1, below_drew1 h.2.2⟩
theorem Rf.start (w : World) (a0 a1 a2 a3 : Int) :
    Rc.I w ((w.alloc (.cells #[.int .u32 a0, .int .i64 a1, .int .i64 a2, .int .i64 a3] 24 (0, 0))).alloc (.cells #[.int .u8 82, .int .u8 77, .int .u8 84, .int .u8 82] 5 (0, 0))) a0 a1 a2 a3
      (.slice (some ⟨w.heap.size + 1, 0, none⟩) 4 4) [82, 77, 84, 82] := by
  have hs : (w.alloc (.cells #[.int .u32 a0, .int .i64 a1, .int .i64 a2, .int .i64 a3] 24 (0, 0))).heap.size = w.heap.size + 1 := by simp
  have ho := World.ownsRow_lit (base := w.heap.size + 1) (e := 5) (size := 1) (w.alloc (.cells #[.int .u32 a0, .int .i64 a1, .int .i64 a2, .int .i64 a3] 24 (0, 0))) #[.int .u8 82, .int .u8 77, .int .u8 84, .int .u8 82] 4 (by omega) (by decide) rfl
  rw [hs] at ho
  refine ⟨Kd.R_of_own (own_weaken ho (Nat.le_succ _)) (fun k hk => ?_), blk_alloc (blk_new w _) _, below_alloc (below_alloc (Below.refl _ _) _) _⟩
  have := own_base ho k hk
  omega

section
variable {ops : Array Oper} {rest : List Oper} {o : Oper} {a : Act} {Q : Exit → Act → World → Prop}
theorem Rf.app {w W : World} {b : Nat} {a0 a1 a2 a3 : Int} (hgd : o.guard = none) (s x : Operand) (ho : o.op = .call { callee := .builtin .append, args := #[s, x], argTypes := #[25, 25] })
    (v u : Value) (xs ys : List Int) (hs : a.eval s = v) (hx : a.eval x = u) (hI : Rc.I w W a0 a1 a2 a3 v xs) (hu : Kd.R (Kd.int .u8) 5 W b (fun _ => True) u ys) (hl : xs.length + ys.length ≤ 1000000)
    (h : ∀ v1 w1, Rc.I w w1 a0 a1 a2 a3 v1 (xs ++ ys) → wpList Try.prog ops Q rest (a.put o.dst v1) w1) :
    wpList Try.prog ops Q (o :: rest) a W := by
  obtain ⟨A, c, rfl⟩ := Kd.R_slice hu
  obtain ⟨hR, hk, hb⟩ := hI
  have hlt := blk_lt hk
  refine Kd.R_append_rows (Kd.int .u8) (w0 := w) w.heap.size hgd s x 25 5 (.int .u8 0) 1 ho Try.underlying25 Rc.info5 rfl (by decide) (by omega) v xs ys _ _ _ (fun k => w.heap.size < k) (fun _ => False) hs hx hR (Kd.R_reads' hu).2.2 (fun _ _ h => h) (fun _ h => h.elim) (fun k hk => by omega) hb (by omega) (by omega) ?_
  intro v1 w1 h1 h2 h3 _
  refine h v1 w1 ⟨h1, (h3.block _ hlt (fun e => ?_)).trans hk, h2⟩
  have := hR.1 _ e.symm
  omega
end
def remontoireref26_Encode.f (a0 a1 a2 a3 : Int) : Option (List Int) := record_Encode.f a0 a1 a2 a3

set_option maxHeartbeats 8000000 in
set_option maxRecDepth 100000 in
theorem remontoireref26_Encode.calls (a0 a1 a2 a3 : Int) (r : List Int) (w : World) (h : remontoireref26_Encode.f a0 a1 a2 a3 = some r) :
    Calls Try.prog 15 #[.agg #[.int .u32 a0, .int .i64 a1, .int .i64 a2, .int .i64 a3]] w fun e w' => ∃ v0_ : Value, e = .returned (v0_) ∧ Kd.R (Kd.int .u8) 5 w' w.heap.size (fun _ => True) v0_ r ∧ Below w.heap.size w w' := by
  obtain rfl := Option.some.inj h
  clear h
  have hu24 := Try.underlying24
  have HI := Aside0.mk (Rf.start w a0 a1 a2 a3)
  obtain ⟨hl0, hl1, hl2, hl3⟩ := Rc.rows_length a0 a1 a2 a3
  have HL0 := Aside0.mk (show (Rc.r0 a0).length = 8 from hl0)
  have HL1 := Aside0.mk (show (Rc.r1 a0 a1).length = 16 from hl1)
  have HL2 := Aside0.mk (show (Rc.r2 a0 a1 a2).length = 24 from hl2)
  have HL3 := Aside0.mk (show (Rc.r3 a0 a1 a2 a3).length = 32 from hl3)
  have HLH := Aside0.mk (Rf.head_length a0 a1 a2 a3)
  have HBY := Aside0.mk (Rf.head_bytes a0 a1 a2 a3)
  clear hl0 hl1 hl2 hl3
  go_enter Try.func15, Try.ntmps15
  go_upto_region 2 with (fail)
  have g := blk_cell HI.out.2.1 0
  go_upto_region 3 with (first
        | (go_at_call 54; (refine (Rf.bytes _ a0 4 (by decide)).mono ?_)
           rintro e W1 ⟨v1, rfl, hv, hb⟩
           have HI2 := Aside0.mk (by first | exact Rf.i_step HI.out hb | exact Rf.i_step (Rf.i_drew HI.out) hb)
           have HV := Aside0.mk hv
           clear hv hb HI)
        | (at_builtin; refine Rf.app rfl (.tmp 5) (.tmp 9) rfl _ _ _ _ rfl rfl (by first | exact HI2.out | exact Rf.i_drew HI2.out) (by first | exact HV.out | exact Kd.R_drew HV.out) (by rw [Rc.be_length]; decide) ?_
           intro v2 w2 hi
           have HI3 := Aside0.mk (show Rc.I w w2 a0 a1 a2 a3 v2 (Rc.r0 a0) from hi)
           clear hi HI2 HV))
  have HI := HI3
  clear HI3 g
  have g := blk_cell HI.out.2.1 1
  go_upto_region 4 with (first
        | (go_at_call 54; (refine (Rf.bytes _ a1 8 (by decide)).mono ?_)
           rintro e W1 ⟨v1, rfl, hv, hb⟩
           have HI2 := Aside0.mk (by first | exact Rf.i_step HI.out hb | exact Rf.i_step (Rf.i_drew HI.out) hb)
           have HV := Aside0.mk hv
           clear hv hb HI)
        | (at_builtin; refine Rf.app rfl (.tmp 11) (.tmp 15) rfl _ _ _ _ rfl rfl (by first | exact HI2.out | exact Rf.i_drew HI2.out) (by first | exact HV.out | exact Kd.R_drew HV.out) (by rw [HL0.out, Rc.be_length]; decide) ?_
           intro v2 w2 hi
           have HI3 := Aside0.mk (show Rc.I w w2 a0 a1 a2 a3 v2 (Rc.r1 a0 a1) from hi)
           clear hi HI2 HV))
  have HI := HI3
  clear HI3 g
  have g := blk_cell HI.out.2.1 2
  go_upto_region 5 with (first
        | (go_at_call 54; (refine (Rf.bytes _ a2 8 (by decide)).mono ?_)
           rintro e W1 ⟨v1, rfl, hv, hb⟩
           have HI2 := Aside0.mk (by first | exact Rf.i_step HI.out hb | exact Rf.i_step (Rf.i_drew HI.out) hb)
           have HV := Aside0.mk hv
           clear hv hb HI)
        | (at_builtin; refine Rf.app rfl (.tmp 17) (.tmp 21) rfl _ _ _ _ rfl rfl (by first | exact HI2.out | exact Rf.i_drew HI2.out) (by first | exact HV.out | exact Kd.R_drew HV.out) (by rw [HL1.out, Rc.be_length]; decide) ?_
           intro v2 w2 hi
           have HI3 := Aside0.mk (show Rc.I w w2 a0 a1 a2 a3 v2 (Rc.r2 a0 a1 a2) from hi)
           clear hi HI2 HV))
  have HI := HI3
  clear HI3 g
  have g := blk_cell HI.out.2.1 3
  go_upto_region 6 with (first
        | (go_at_call 54; (refine (Rf.bytes _ a3 8 (by decide)).mono ?_)
           rintro e W1 ⟨v1, rfl, hv, hb⟩
           have HI2 := Aside0.mk (by first | exact Rf.i_step HI.out hb | exact Rf.i_step (Rf.i_drew HI.out) hb)
           have HV := Aside0.mk hv
           clear hv hb HI)
        | (at_builtin; refine Rf.app rfl (.tmp 23) (.tmp 27) rfl _ _ _ _ rfl rfl (by first | exact HI2.out | exact Rf.i_drew HI2.out) (by first | exact HV.out | exact Kd.R_drew HV.out) (by rw [HL2.out, Rc.be_length]; decide) ?_
           intro v2 w2 hi
           have HI3 := Aside0.mk (show Rc.I w w2 a0 a1 a2 a3 v2 (Rc.r3 a0 a1 a2 a3) from hi)
           clear hi HI2 HV))
  have HI := HI3
  clear HI3 g
  have HW := Aside0.mk (HI.out.2.2.size)
  go_upto_region 7 with (first
        | (at_builtin; refine Kd.R_append_zeros (Kd.int .u8) (w0 := w) w.heap.size rfl (.tmp 29) (.const (.int .i64 28)) 25 3 5 (.int .u8 0) 1 rfl Try.underlying25 Try.underlying3 Rc.info5 rfl (by decide) (by omega) _ (Rc.r3 a0 a1 a2 a3) 0 (28 : Int) (fun k => w.heap.size < k) rfl rfl rfl ?aF HI.out.1 (by omega) HI.out.2.2 HW.out ?aL ?_
           (case aF => exact fun k hk => by have := blk_lt HI.out.2.1; omega)
           (case aL => rw [HL3.out]; decide)
           intro v2 w2 ho hb hg hat
           have HI3 := Aside0.mk (show Rc.I w w2 a0 a1 a2 a3 v2 (Rc.head a0 a1 a2 a3) from ⟨ho, (hg.block _ (blk_lt HI.out.2.1) (fun e => by have := HI.out.1.1 _ e.symm; omega)).trans HI.out.2.1, hb⟩)
           clear ho hb hg hat HI HW
           obtain ⟨A1, c1, e1⟩ := Kd.R_slice HI3.out.1
           subst e1))
  go_wp2_with (first
        | (go_at_call 55; (refine (Rf.crc _ _ _ (Rc.head a0 a1 a2 a3) ?s1 ?s2 HBY.out (by rw [HLH.out]; decide)).mono ?_)
           (case s1 => first | exact (Kd.R_reads' HI3.out.1).2.2 | exact (Kd.R_reads' (Rf.i_drew HI3.out).1).2.2)
           (case s2 => exact (Kd.R_reads' HI3.out.1).2.1)
           rintro e w4 ⟨rfl, hb⟩
           have HI4 := Aside0.mk (show Rc.I w w4 a0 a1 a2 a3 (.slice A1 (Rc.head a0 a1 a2 a3).length c1) (Rc.head a0 a1 a2 a3) from by first | exact Rf.i_step HI3.out (hb.below) | exact Rf.i_step (Rf.i_drew HI3.out) (hb.below))
           clear hb HI3)
        | (go_at_call 54; (refine (Rf.bytes _ (Cr.sum (Rc.head a0 a1 a2 a3)) 4 (by decide)).mono ?_)
           rintro e W1 ⟨v1, rfl, hv, hb⟩
           have HI5 := Aside0.mk (by first | exact Rf.i_step HI4.out hb | exact Rf.i_step (Rf.i_drew HI4.out) hb)
           have HV := Aside0.mk hv
           clear hv hb HI4)
        | (at_builtin; refine Rf.app rfl (.tmp 31) (.tmp 35) rfl _ _ _ _ rfl rfl (by first | exact HI5.out | exact Rf.i_drew HI5.out) (by first | exact HV.out | exact Kd.R_drew HV.out) (by rw [HLH.out, Rc.be_length]; decide) ?_
           intro v2 w2 hi
           have HI6 := Aside0.mk hi
           clear hi HI5 HV))
  go_ret
  exact ⟨_, rfl, Kd.R_mono HI6.out.1 (fun _ _ => trivial), HI6.out.2.2⟩
end Go.Proofs.Ytjldkgcabombhaa
