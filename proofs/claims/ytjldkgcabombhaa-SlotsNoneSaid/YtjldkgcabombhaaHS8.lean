/- law27's known answers true, walked by hand. -/
import Derived.Test.YtjldkgcabombhaaProg
import Derived.Below
import Derived.Deep.Draws
import Derived.OwnWalk
import Derived.Tactics
import Derived.WalkKit
import Derived.WalkSpells
import Derived.WalkLawsBesides
import Derived.KernelRfl
import Derived.RowKit3
import Derived.Deep.LoopGhost
import Derived.Deep.QuietTactic
import Derived.BigQuiet
import Derived.WideLaws
import Derived.Deep.DeepCutAuto
import Derived.Deep.CutBlock
import Derived.Deep.RegionHeld3
import Derived.Lib.Hide
import Derived.IntWalk
import Derived.Outline
import Derived.Test.YtjldkgcabombhaaWWords
import Derived.Test.YtjldkgcabombhaaWLast
import Derived.Test.YtjldkgcabombhaaWMore
import Derived.Test.YtjldkgcabombhaaHS7
import Derived.Test.YtjldkgcabombhaaPureSlots
namespace Go.Proofs.Ytjldkgcabombhaa
open Go.RowKit Go.Proofs.Ytjldkgcabombhaa.Rec Go.Proofs.YtjldkgcabombhaaW.PrintWords Go.Proofs.YtjldkgcabombhaaW.PrintLast Go.Proofs.YtjldkgcabombhaaW.PrintMore
set_option linter.unusedVariables false
set_option linter.unusedSimpArgs false

def Kn.s0 : Fs := Fs.new 128
def Kn.s1 : Fs := Kn.s0.wrote 0 (Rc.enc 1 5 0 0)
def Kn.s2 : Fs := Kn.s1.wrote 64 (Rc.enc 2 6 0 0)
def Kn.s3 : Fs := Kn.s2.crash 10
def Kn.s4 : Fs := Kn.s3.torn 0 ((Rc.enc 3 7 0 0).take 10)
def Kn.s5 : Fs := {Kn.s4 with down := false}
def Kn.z : Int × Int × Int × Int × Int := (0, 0, 0, 0, 6)
theorem Kn.zhalf (n : Nat) (h : n ≤ 4000) : (Kn.s0.b.drop n).take 64 = List.replicate 64 0 := by
  show ((List.replicate 4096 (0 : Int)).drop n).take 64 = _
  rw [List.drop_replicate, List.take_replicate, Nat.min_eq_left (by omega)]
theorem Kn.l0 : Kn.s0.b.length = 4096 := List.length_replicate
theorem Kn.wf (a0 a1 : Int) (h : 0 ≤ a0 ∧ a0 < 100) (k : 0 ≤ a1 ∧ a1 < 100) : Wf a0 a1 0 0 := ⟨by omega, by omega, by omega, by omega⟩
theorem Kn.p0 : Rd.dec ((Kn.s0.b.drop 0).take 64) = (0, 0, 0, 0, 6) := by
  rw [show (Kn.s0.b.drop 0).take 64 = List.replicate 64 0 from Kn.zhalf _ (by decide)]
  exact dec_six zero_dec
theorem Kn.q0 : Rd.dec ((Kn.s0.b.drop 64).take 64) = (0, 0, 0, 0, 6) := by
  rw [show (Kn.s0.b.drop 64).take 64 = List.replicate 64 0 from Kn.zhalf _ (by decide)]
  exact dec_six zero_dec
theorem Kn.p1 : Rd.dec ((Kn.s1.b.drop 0).take 64) = (1, 5, 0, 0, 0) := by
  rw [show (Kn.s1.b.drop 0).take 64 = Rc.enc 1 5 0 0 from half00 Kn.s0 _ (enc_length ..)]
  exact dec_enc (Kn.wf 1 5 (by decide) (by decide))
theorem Kn.q1 : Rd.dec ((Kn.s1.b.drop 64).take 64) = (0, 0, 0, 0, 6) := by
  rw [show (Kn.s1.b.drop 64).take 64 = (Kn.s0.b.drop 64).take 64 from half01 Kn.s0 _ (by rw [enc_length]; decide)]
  exact Kn.q0
theorem Kn.b1 : 64 ≤ Kn.s1.b.length := by
  show 64 ≤ (Kn.s0.b.take 0 ++ Rc.enc 1 5 0 0 ++ Kn.s0.b.drop _).length
  rw [List.length_append, List.length_append, enc_length]
  omega
theorem Kn.p2 : Rd.dec ((Kn.s2.b.drop 0).take 64) = (1, 5, 0, 0, 0) := by
  rw [show (Kn.s2.b.drop 0).take 64 = (Kn.s1.b.drop 0).take 64 from half10 Kn.s1 _ Kn.b1]
  exact Kn.p1
theorem Kn.q2 : Rd.dec ((Kn.s2.b.drop 64).take 64) = (2, 6, 0, 0, 0) := by
  rw [show (Kn.s2.b.drop 64).take 64 = Rc.enc 2 6 0 0 from half11 Kn.s1 _ Kn.b1 (enc_length ..)]
  exact dec_enc (Kn.wf 2 6 (by decide) (by decide))
theorem Kn.lt : ((Rc.enc 3 7 0 0).take 10).length = 10 := by rw [List.length_take, enc_length]; rfl
theorem Kn.p5 : Rd.dec ((Kn.s5.b.drop 0).take 64) = (0, 0, 0, 0, 6) := by
  have h0 : (Kn.s3.b.drop 0).take 64 = Rc.enc 1 5 0 0 := (half10 Kn.s1 _ Kn.b1).trans (half00 Kn.s0 _ (enc_length ..))
  have h1 : (Kn.s5.b.drop 0).take 64 = (Rc.enc 3 7 0 0).take 10 ++ ((Kn.s3.b.drop 0).take 64).drop ((Rc.enc 3 7 0 0).take 10).length := half0t Kn.s3 _ (by rw [Kn.lt]; decide)
  rw [h1, h0, Kn.lt]
  exact dec_six torn_dec
theorem Kn.q5 : Rd.dec ((Kn.s5.b.drop 64).take 64) = (2, 6, 0, 0, 0) := by
  rw [show (Kn.s5.b.drop 64).take 64 = (Kn.s3.b.drop 64).take 64 from half01 Kn.s3 _ (by rw [Kn.lt]; decide)]
  exact Kn.q2
theorem Kn.up {w : World} {g : Nat} (h : Kn.s4.At w g) : Kn.s5.At (w.setCell ⟨g, 4099, none⟩ (.bool false)) g := Fs.put_tail (s := Kn.s4) (s' := Kn.s5) h 3 (.bool false) rfl rfl

theorem Kn.save1 {w : World} {g : Nat} (h : Kn.s0.At w g) : Calls Try.prog 45 #[.pointer (some ⟨g, 0, none⟩), .agg #[.int .u32 0, .int .i64 5, .int .i64 0, .int .i64 0]] w fun e w' => e = .returned (.tuple #[.agg #[.int .u32 1, .int .i64 5, .int .i64 0, .int .i64 0], .int .i64 0]) ∧ Kn.s1.At w' g ∧ Fs.Fr g w w' :=
  Sv.ok (s := Kn.s0) 0 5 0 0 0 0 0 0 1 0 false 0 h ⟨by decide, by decide⟩ rfl (Sr.may128 (s := Kn.s0) rfl 0 (by decide)) (by decide +kernel) (by decide) (by decide)
    (fun W hW => Sq.ok1f hW rfl rfl Kn.p0 Kn.q0 rfl rfl) (fun W hW => Sn.ok hW rfl rfl Kn.p0 Kn.q0)
theorem Kn.save2 {w : World} {g : Nat} (h : Kn.s1.At w g) : Calls Try.prog 45 #[.pointer (some ⟨g, 0, none⟩), .agg #[.int .u32 0, .int .i64 6, .int .i64 0, .int .i64 0]] w fun e w' => e = .returned (.tuple #[.agg #[.int .u32 2, .int .i64 6, .int .i64 0, .int .i64 0], .int .i64 0]) ∧ Kn.s2.At w' g ∧ Fs.Fr g w w' :=
  Sv.ok (s := Kn.s1) 0 6 0 0 1 5 0 0 2 64 true 1 h ⟨by decide, by decide⟩ rfl (Sr.may128 (s := Kn.s1) rfl 1 (by decide)) (by decide +kernel) (by decide) (by decide)
    (fun W hW => Sq.ok0t hW rfl rfl Kn.p1 Kn.q1 rfl rfl) (fun W hW => Sn.ok hW rfl rfl Kn.p1 Kn.q1)
theorem Kn.save3 {w : World} {g : Nat} (h : Kn.s3.At w g) : Calls Try.prog 45 #[.pointer (some ⟨g, 0, none⟩), .agg #[.int .u32 0, .int .i64 7, .int .i64 0, .int .i64 0]] w fun e w' => e = .returned (.tuple #[.agg #[.int .u32 0, .int .i64 0, .int .i64 0, .int .i64 0], .int .i64 10]) ∧ Kn.s4.At w' g ∧ Fs.Fr g w w' :=
  Sv.torn (s := Kn.s3) 0 7 0 0 2 6 0 0 3 0 true 0 h ⟨by decide, by decide⟩ rfl (by decide) (Sr.may128 (s := Kn.s3) rfl 0 (by decide)) (by decide +kernel) (by decide) (by decide)
    (fun W hW => Sq.ok1t (s := Kn.s3) hW rfl rfl Kn.p2 Kn.q2 rfl rfl) (fun W hW => Sn.ok (s := Kn.s3) hW rfl rfl Kn.p2 Kn.q2)
theorem Kn.load {w : World} {g : Nat} (h : Kn.s5.At w g) : Calls Try.prog 47 #[.pointer (some ⟨g, 0, none⟩)] w fun e w' => e = .returned (.tuple #[.agg #[.int .u32 2, .int .i64 6, .int .i64 0, .int .i64 0], .bool true, .int .i64 0]) ∧ Below w.heap.size w w' :=
  Sq.ok1t h rfl rfl Kn.p5 Kn.q5 rfl rfl
end Go.Proofs.Ytjldkgcabombhaa
