/- The contract of block's Write where a crash is set, walked by hand. -/
import Derived.Test.YtjldkgcabombhaaProg
import Derived.Below
import Derived.Deep.Draws
import Derived.OwnWalk
import Derived.Tactics
import Derived.WalkKit
import Derived.WalkSpells
import Derived.WalkLawsBesides
import Derived.KernelRfl
import Derived.RowKit3
import Derived.Deep.LoopGhost
import Derived.Deep.QuietTactic
import Derived.BigQuiet
import Derived.WideLaws
import Derived.Deep.DeepCutAuto
import Derived.Deep.CutBlock
import Derived.Deep.RegionHeld3
import Derived.Lib.Hide
import Derived.IntWalk
import Derived.Outline
import Derived.Test.YtjldkgcabombhaaWWords
import Derived.Test.YtjldkgcabombhaaWLast
import Derived.Test.YtjldkgcabombhaaWMore
import Derived.Deep.RegionWith
import Derived.Test.YtjldkgcabombhaaHG3
namespace Go.Proofs.Ytjldkgcabombhaa
open Go.RowKit Go.Proofs.YtjldkgcabombhaaW.PrintWords Go.Proofs.YtjldkgcabombhaaW.PrintLast Go.Proofs.YtjldkgcabombhaaW.PrintMore
attribute [local go_sem] max2_int min2_int max_two min_two
set_option linter.unusedVariables false
set_option linter.unusedSimpArgs false

def Fs.cut (s : Fs) (n : Nat) : Int := if (n : Int) < s.pre then (n : Int) else s.pre
def Fs.Same (w W : World) : Prop := Below w.heap.size w W
theorem Fs.same_at {s : Fs} {w W : World} {g : Nat} (hW : Fs.Same w W) (h : s.At w g) : s.At W g := Fs.below h hW
set_option maxHeartbeats 8000000 in
set_option maxRecDepth 100000 in
theorem Fs.write_torn {s : Fs} {w : World} {g : Nat} (at' : Int) (A : Option Addr) (c : Nat) (xs : List Int) (h : s.At w g) (ho : s.Ok) (hm : s.may at' xs.length = 0) (hs : s.set = true) (hp : 0 ≤ s.pre) (hC : Kd.C (Kd.int .u8) w A xs.length xs) (hc : xs.length ≤ c) : Calls Try.prog 32 #[.pointer (some ⟨g, 0, none⟩), .int .i64 at', .slice A xs.length c] w fun e w' => e = .returned (.int .i64 10) ∧ (s.torn at'.toNat (xs.take (Fs.cut s xs.length).toNat)).At w' g ∧ Fs.Fr g w w' := by
  have HM := Aside0.mk (Fs.may_calls at' xs.length h)
  rw [hm] at HM
  have HA := Aside0.mk h
  obtain ⟨zd, z0, z1, z2, z3⟩ := Fs.may_zero ho hm
  have hu := Try.underlying101
  have hsl := Fs.sll g at' z0 (by have := ho.2; omega)
  obtain ⟨i0, hi, hz0, hz1, hz2⟩ := info_parts Rc.info5
  obtain ⟨m, hme⟩ : ∃ m, Fs.cut s xs.length = m := ⟨_, rfl⟩
  have hmn : 0 ≤ m ∧ m ≤ xs.length := by
    rw [← hme]
    unfold Fs.cut
    split <;> omega
  rw [hme]
  have hmin : (if (xs.length : Int) < s.pre then (xs.length : Int) else s.pre) = m := hme
  have hst := (print_take_int (P := Try.prog) (k := .u8) 25 5 Try.underlying25 hi hz1 A c xs m hmn.1 hmn.2 hc).1
  have hlt : (xs.take m.toNat).length = m.toNat := by rw [List.length_take]; omega
  have HN := Aside0.mk (show at'.toNat + (xs.take m.toNat).length ≤ 4096 by have := ho.2; omega)
  have HC := Aside0.mk (show Kd.C (Kd.int .u8) w A (xs.take m.toNat).length (xs.take m.toNat) from Kd.C_take (m := m.toNat) hC (by omega))
  have HS := Aside0.mk hs
  obtain ⟨ys, hys⟩ : ∃ ys, xs.take m.toNat = ys := ⟨_, rfl⟩
  rw [hys] at hst HN HC ⊢
  clear hme h hm zd z0 z1 z2 z3 ho hC hs hi hz0 hz1 hz2 hmn hlt hys hc hp
  go_enter Try.func32, Try.ntmps32
  go_upto_region 5 with (first
    | (go_at_call 63; (refine HM.out.mono ?_)
       rintro e w1 ⟨rfl, hb⟩
       have HF := Aside0.mk (Fs.fr_of_below g hb)
       have HA1 := Aside0.mk (Fs.below HA.out hb)
       have HC1 := Aside0.mk (Kd.C_below HC.out hb)
       have c1 := Fs.c_set HA1.out
       rw [HS.out] at c1
       clear hb))
  have c2 := Fs.c_pre HA1.out
  have HX := Aside0.mk (show ∀ W, Fs.Same w1 W → ∃ w2, (Builtin.copy_ #[25, 25] 3 #[.slice (some (Fs.ad g at'.toNat)) (4096 - at'.toNat) (4096 - at'.toNat), .slice A ys.length c]).run Try.prog W = .ok (.int .i64 (ys.length : Int)) w2 ∧ (s.lay at'.toNat ys).At w2 g ∧ Fs.Fr g w w2 from fun W hW => by
    obtain ⟨w2, h1, h2, h3⟩ := Fs.copy (Fs.same_at hW HA1.out) at'.toNat ys.length c A ys HN.out (Kd.C_below HC1.out hW)
    exact ⟨w2, h1, h2, Fs.fr_trans HF.out (Fs.fr_trans (Fs.fr_of_below g hW) h3)⟩)
  obtain ⟨w2, hrun, hA2, hF2⟩ := HX.out w1.drew (below_drew1 (Below.refl _ _))
  have HA2 := Aside0.mk hA2
  have HF2 := Aside0.mk hF2
  clear hA2 hF2 HX c1
  go_cut [34] (fun s34 wr => Aside0 ((s.lay at'.toNat ys).At wr g ∧ Fs.Fr g w wr))
  case first =>
    go_region
    all_goals (go_wp2_with fail; go_meet)
    all_goals exact ⟨HA2.out, HF2.out⟩
  case rest =>
    clear HA2 HF2 hrun w2
    rename World => w2
    have HA2 := hcut
    have c3 : w2.cell? ⟨g, 4097, none⟩ = some (.bool s.set) := Fs.c_set (s := s.lay at'.toNat ys) HA2.out.1
    have c4 : w2.cell? ⟨g, 4099, none⟩ = some (.bool s.down) := Fs.c_down (s := s.lay at'.toNat ys) HA2.out.1
    have f3 := blk_frozen HA2.out.1.1 4097
    have f4 := blk_frozen HA2.out.1.1 4099
    go_wp2
    go_ret
    exact ⟨rfl, Fs.put_tail (s := {s.lay at'.toNat ys with set := false}) (s' := s.torn at'.toNat ys) (Fs.put_tail (s := s.lay at'.toNat ys) HA2.out.1 1 (.bool false) rfl rfl) 3 (.bool true) rfl rfl, Fs.fr_set (Fs.fr_set HA2.out.2 _ _) _ _⟩
end Go.Proofs.Ytjldkgcabombhaa
