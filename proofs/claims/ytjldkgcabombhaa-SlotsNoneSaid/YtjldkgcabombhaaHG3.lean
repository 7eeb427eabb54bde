/- The contracts of block's Crash and Write, walked by hand. -/
import Derived.Test.YtjldkgcabombhaaProg
import Derived.Below
import Derived.Deep.Draws
import Derived.OwnWalk
import Derived.Tactics
import Derived.WalkKit
import Derived.WalkSpells
import Derived.WalkLawsBesides
import Derived.KernelRfl
import Derived.RowKit3
import Derived.Deep.LoopGhost
import Derived.Deep.QuietTactic
import Derived.BigQuiet
import Derived.WideLaws
import Derived.Deep.DeepCutAuto
import Derived.Deep.CutBlock
import Derived.Deep.RegionHeld3
import Derived.Lib.Hide
import Derived.IntWalk
import Derived.Outline
import Derived.Test.YtjldkgcabombhaaWWords
import Derived.Test.YtjldkgcabombhaaWLast
import Derived.Test.YtjldkgcabombhaaWMore
import Derived.Deep.RegionWith
import Derived.Laws.CopyRow
import Derived.Test.YtjldkgcabombhaaHG2
namespace Go.Proofs.Ytjldkgcabombhaa
open Go.RowKit Go.Proofs.YtjldkgcabombhaaW.PrintWords Go.Proofs.YtjldkgcabombhaaW.PrintLast Go.Proofs.YtjldkgcabombhaaW.PrintMore
set_option linter.unusedVariables false
set_option linter.unusedSimpArgs false

def Fs.crash (s : Fs) (p : Int) : Fs := {s with set := true, pre := p}
/-- Block g alone is written, of what there was. -/
def Fs.Fr (g : Nat) (w W : World) : Prop := Below 0 w W ∧ ∀ k, k < w.heap.size → k ≠ g → W.heap[k]? = w.heap[k]?
theorem Fs.fr_refl (g : Nat) (w : World) : Fs.Fr g w w := ⟨Below.refl _ _, fun _ _ _ => rfl⟩
theorem Fs.fr_trans {g : Nat} {w W X : World} (h : Fs.Fr g w W) (k : Fs.Fr g W X) : Fs.Fr g w X := ⟨h.1.trans k.1, fun i hi hg => (k.2 i (by have := h.1.size; omega) hg).trans (h.2 i hi hg)⟩
theorem Fs.fr_of_below {w W : World} (g : Nat) (h : Below w.heap.size w W) : Fs.Fr g w W := ⟨⟨h.os, h.tape, h.output, h.size, fun k hk => absurd hk (by omega)⟩, fun k hk _ => h.block k hk⟩
theorem Fs.fr_set {g : Nat} {w W : World} (h : Fs.Fr g w W) (i : Nat) (v : Value) : Fs.Fr g w (W.setCell ⟨g, i, none⟩ v) := ⟨h.1.setCell (Nat.zero_le _) v, fun k hk hg => (Below.heap_setCell W ⟨g, i, none⟩ v k hg).trans (h.2 k hk hg)⟩
theorem Fs.fr_row {g : Nat} {w W : World} (h : Fs.Fr g w W) (cs : Array Value) : Fs.Fr g w (W.setRow g cs) := ⟨⟨h.1.os, h.1.tape, h.1.output, by rw [setRow_size]; exact h.1.size, fun k hk => absurd hk (by omega)⟩, fun k hk hg => (setRow_other W g k cs hg).trans (h.2 k hk hg)⟩
theorem Fs.fr_drew {g : Nat} {w W : World} (h : Fs.Fr g w W) : Fs.Fr g w W.drew := ⟨below_drew1 h.1, h.2⟩
theorem Fs.fr_below {g base : Nat} {w W : World} (h : Fs.Fr g w W) (hg : base ≤ g) (hb : base ≤ w.heap.size) : Below base w W := ⟨h.1.os, h.1.tape, h.1.output, h.1.size, fun k hk => h.2 k (by omega) (by omega)⟩

set_option maxHeartbeats 8000000 in
set_option maxRecDepth 100000 in
theorem Fs.crash_bad {s : Fs} {w : World} {g : Nat} (p : Int) (h : s.At w g) (hm : s.may 0 0 ≠ 0) : Calls Try.prog 36 #[.pointer (some ⟨g, 0, none⟩), .int .i64 p] w fun e w' => e = .returned (.int .i64 (s.may 0 0)) ∧ Below w.heap.size w w' := by
  obtain ⟨m, hme⟩ : ∃ m, s.may 0 0 = m := ⟨_, rfl⟩
  have HM := Aside0.mk (Fs.may_calls 0 0 h)
  rw [hme] at hm HM ⊢
  have d1 : (m != 0) = true := bne_iff_ne.mpr hm
  have d2 : (m == 0) = false := beq_eq_false_iff_ne.mpr hm
  clear h hm hme
  go_enter Try.func36, Try.ntmps36
  go_wp2_with (first
    | (go_at_call 63; (refine HM.out.mono ?_)
       rintro e w1 ⟨rfl, hb⟩
       have HB := Aside0.mk hb
       clear hb))
  go_ret
  exact ⟨rfl, HB.out⟩
set_option maxHeartbeats 8000000 in
set_option maxRecDepth 100000 in
theorem Fs.crash_neg {s : Fs} {w : World} {g : Nat} (p : Int) (h : s.At w g) (hm : s.may 0 0 = 0) (hp : p < 0) : Calls Try.prog 36 #[.pointer (some ⟨g, 0, none⟩), .int .i64 p] w fun e w' => e = .returned (.int .i64 2) ∧ Below w.heap.size w w' := by
  have HM := Aside0.mk (Fs.may_calls 0 0 h)
  rw [hm] at HM
  have d1 : decide (p < 0) = true := decide_eq_true hp
  clear h hm hp
  go_enter Try.func36, Try.ntmps36
  go_wp2_with (first
    | (go_at_call 63; (refine HM.out.mono ?_)
       rintro e w1 ⟨rfl, hb⟩
       have HB := Aside0.mk hb
       clear hb))
  go_ret
  exact ⟨rfl, HB.out⟩
set_option maxHeartbeats 8000000 in
set_option maxRecDepth 100000 in
theorem Fs.crash_ok {s : Fs} {w : World} {g : Nat} (p : Int) (h : s.At w g) (hm : s.may 0 0 = 0) (hp : 0 ≤ p) : Calls Try.prog 36 #[.pointer (some ⟨g, 0, none⟩), .int .i64 p] w fun e w' => e = .returned (.int .i64 0) ∧ (s.crash p).At w' g ∧ Fs.Fr g w w' := by
  have HM := Aside0.mk (Fs.may_calls 0 0 h)
  rw [hm] at HM
  have HA := Aside0.mk h
  have hu := Try.underlying101
  have d1 : decide (p < 0) = false := decide_eq_false (by omega)
  clear h hm hp
  go_enter Try.func36, Try.ntmps36
  go_wp2_with (first
    | (go_at_call 63; (refine HM.out.mono ?_)
       rintro e w1 ⟨rfl, hb⟩
       have HF := Aside0.mk (Fs.fr_of_below g hb)
       have HA1 := Aside0.mk (Fs.below HA.out hb)
       have c1 := Fs.c_set HA1.out
       have c2 := Fs.c_pre HA1.out
       have f1 := blk_frozen HA1.out.1 4097
       have f2 := blk_frozen HA1.out.1 4098
       clear hb))
  go_ret
  exact ⟨rfl, Fs.put_tail (s := {s with set := true}) (s' := s.crash p) (Fs.put_tail HA1.out 1 (.bool true) rfl rfl) 2 (.int .i64 p) rfl rfl, Fs.fr_set (Fs.fr_set HF.out _ _) _ _⟩

/-! ### copy into a file -/
def Fs.lay (s : Fs) (l : Nat) (xs : List Int) : Fs := {s with b := s.b.take l ++ xs ++ s.b.drop (l + xs.length)}
def Fs.wrote (s : Fs) (l : Nat) (xs : List Int) : Fs := {s.lay l xs with wr := wrap64 (s.wr + 1)}
def Fs.torn (s : Fs) (l : Nat) (xs : List Int) : Fs := {s.lay l xs with set := false, down := true}

theorem Fs.copy {s : Fs} {w : World} {g : Nat} (h : s.At w g) (l n c : Nat) (A : Option Addr) (xs : List Int) (hn : l + n ≤ 4096) (hC : Kd.C (Kd.int .u8) w A n xs) :
    ∃ w', (Builtin.copy_ #[25, 25] 3 #[.slice (some (Fs.ad g l)) (4096 - l) (4096 - l), .slice A n c]).run Try.prog w = .ok (.int .i64 (n : Int)) w' ∧ (s.lay l xs).At w' g ∧ Fs.Fr g w w' := by
  have hx0 := hC.1
  unfold Fs.lay
  rw [hx0]
  have hb := h.2
  have hr := Kd.reads_of_C (enc := Value.int .u8) (d := (0 : Int)) (h1 := fun _ => rfl) hC
  have hx : xs.length = n := hr.1
  have hinf : (Try.prog.info? 5).map (·.size) = some 1 := by kernel_rfl
  rcases Nat.eq_zero_or_pos n with h0 | h0
  · subst h0
    obtain rfl : xs = [] := List.eq_nil_of_length_eq_zero hx
    refine ⟨w, run_copy_none (P := Try.prog) w 25 25 3 5 _ A _ _ 0 c Try.underlying25 hinf (Nat.zero_min _), ?_, Fs.fr_refl g w⟩
    have e : s.b.take l ++ [] ++ s.b.drop (l + 0) = s.b := by rw [List.append_nil, Nat.add_zero, List.take_append_drop]
    rw [e]
    exact h
  · obtain ⟨ad, rfl, hcell⟩ := hr.2.2 h0
    have ea : Fs.ad g l = ⟨g, l, none⟩ := by
      unfold Fs.ad
      rw [if_neg (by omega)]
      by_cases a : l = 0 <;> simp [Addr.add, a]
    have hcl : s.cells.toList = nums .u8 s.b ++ s.tail := rfl
    have hnl : (nums .u8 s.b).length = 4096 := by simp [nums, hb]
    have hxl : (nums .u8 xs).length = n := by simp [nums, hx]
    have hcs : s.cells.size = 4101 := by rw [← Array.length_toList, hcl, List.length_append, hnl]; rfl
    have hrun := run_copy_row (P := Try.prog) w 25 25 3 5 g l (4096 - l) (4096 - l) ad n c s.cells 101 (nums .u8 xs) Try.underlying25 hinf h.1 (by rw [hxl]; exact (Nat.min_eq_left (by omega)).symm) ?_ (by rw [hxl, hcs]; omega) ?_
    · rw [ea]
      refine ⟨_, by rw [hrun, hxl]; rfl, ⟨?_, by simp [hx, hb]; omega⟩, Fs.fr_row (Fs.fr_refl g w) _⟩
      have hce : s.cells.toList.take l ++ nums .u8 xs ++ s.cells.toList.drop (l + n) = nums .u8 (s.b.take l ++ xs ++ s.b.drop (l + n)) ++ s.tail := by
        rw [hcl, List.take_append_of_le_length (by omega), List.drop_append_of_le_length (by omega)]
        simp [nums]
      have hce2 := congrArg List.toArray hce
      have hsh := setRow_heap w g s.cells (s.cells.toList.take l ++ nums .u8 xs ++ s.cells.toList.drop (l + n)).toArray 101 (0, 0) h.1
      rw [hce2] at hsh ⊢
      exact hsh
    · intro j v hv
      have hj : j < n := by rw [← hxl]; exact (List.getElem?_eq_some_iff.1 hv).1
      rw [hcell j hj, ← hv]
      simp [nums, hx, hj]
    · intro v hv
      obtain ⟨x, _, rfl⟩ := List.mem_map.mp hv
      rfl
theorem Fs.sll (g : Nat) (l : Int) (h0 : 0 ≤ l) (h1 : l ≤ 4096) (W : World) : (Instr.sliceAt 99 (.pointer (some ⟨g, 0, none⟩)) (some (.int .i64 l)) none none).run Try.prog W = .ok (.slice (some (Fs.ad g l.toNat)) (4096 - l.toNat) (4096 - l.toNat)) W := by
  rw [run_sliceAt_array_l (P := Try.prog) W 99 ⟨g, 0, none⟩ Fs.arr .i64 l h0 (by rw [Fs.al]; exact h1), Fs.sz, Fs.al]
  rfl

set_option maxHeartbeats 8000000 in
set_option maxRecDepth 100000 in
theorem Fs.write_bad {s : Fs} {w : World} {g : Nat} (at' : Int) (A : Option Addr) (n c : Nat) (h : s.At w g) (hm : s.may at' n ≠ 0) : Calls Try.prog 32 #[.pointer (some ⟨g, 0, none⟩), .int .i64 at', .slice A n c] w fun e w' => e = .returned (.int .i64 (s.may at' n)) ∧ Below w.heap.size w w' := by
  obtain ⟨m, hme⟩ : ∃ m, s.may at' n = m := ⟨_, rfl⟩
  have HM := Aside0.mk (Fs.may_calls at' n h)
  rw [hme] at hm HM ⊢
  have d1 : (m != 0) = true := bne_iff_ne.mpr hm
  have d2 : (m == 0) = false := beq_eq_false_iff_ne.mpr hm
  clear h hm hme
  go_enter Try.func32, Try.ntmps32
  go_wp2_with (first
    | (go_at_call 63; (refine HM.out.mono ?_)
       rintro e w1 ⟨rfl, hb⟩
       have HB := Aside0.mk hb
       clear hb))
  go_ret
  exact ⟨rfl, HB.out⟩
set_option maxHeartbeats 8000000 in
set_option maxRecDepth 100000 in
theorem Fs.write_ok {s : Fs} {w : World} {g : Nat} (at' : Int) (A : Option Addr) (n c : Nat) (xs : List Int) (h : s.At w g) (ho : s.Ok) (hm : s.may at' n = 0) (hs : s.set = false) (hC : Kd.C (Kd.int .u8) w A n xs) : Calls Try.prog 32 #[.pointer (some ⟨g, 0, none⟩), .int .i64 at', .slice A n c] w fun e w' => e = .returned (.int .i64 0) ∧ (s.wrote at'.toNat xs).At w' g ∧ Fs.Fr g w w' := by
  have HM := Aside0.mk (Fs.may_calls at' n h)
  rw [hm] at HM
  have HA := Aside0.mk h
  have HC := Aside0.mk hC
  obtain ⟨zd, z0, z1, z2, z3⟩ := Fs.may_zero ho hm
  have hu := Try.underlying101
  have hsl := Fs.sll g at' z0 (by have := ho.2; omega)
  have HN := Aside0.mk (show at'.toNat + n ≤ 4096 by have := ho.2; omega)
  have HS := Aside0.mk hs
  clear h hm zd z0 z1 z2 z3 ho hC hs
  go_enter Try.func32, Try.ntmps32
  go_upto_region 8 with (first
    | (go_at_call 63; (refine HM.out.mono ?_)
       rintro e w1 ⟨rfl, hb⟩
       have HF := Aside0.mk (Fs.fr_of_below g hb)
       have HA1 := Aside0.mk (Fs.below HA.out hb)
       have HC1 := Aside0.mk (Kd.C_below HC.out hb)
       have c1 := Fs.c_set HA1.out
       rw [HS.out] at c1
       clear hb))
  obtain ⟨w2, hrun, hA2, hF2⟩ := Fs.copy HA1.out at'.toNat n c A xs HN.out HC1.out
  have HA2 := Aside0.mk hA2
  have HF2 := Aside0.mk (Fs.fr_trans HF.out hF2)
  have c4 : w2.cell? ⟨g, 4100, none⟩ = some (.int .i64 s.wr) := Fs.c_wr (s := s.lay at'.toNat xs) hA2
  have f4 := blk_frozen hA2.1 4100
  clear hA2 hF2 c1
  go_wp2
  go_ret
  exact ⟨rfl, Fs.put_tail (s := s.lay at'.toNat xs) (s' := s.wrote at'.toNat xs) HA2.out 4 _ rfl rfl, Fs.fr_set HF2.out _ _⟩
end Go.Proofs.Ytjldkgcabombhaa
