/- The contracts of bytes.Clone and of block's Read, Crash, Up, walked by hand. -/
import Derived.Test.YtjldkgcabombhaaProg
import Derived.Below
import Derived.Deep.Draws
import Derived.OwnWalk
import Derived.Tactics
import Derived.WalkKit
import Derived.WalkSpells
import Derived.WalkLawsBesides
import Derived.KernelRfl
import Derived.RowKit3
import Derived.Deep.LoopGhost
import Derived.Deep.QuietTactic
import Derived.BigQuiet
import Derived.WideLaws
import Derived.Deep.DeepCutAuto
import Derived.Deep.CutBlock
import Derived.Deep.RegionHeld3
import Derived.Lib.Hide
import Derived.IntWalk
import Derived.Outline
import Derived.Test.YtjldkgcabombhaaWWords
import Derived.Test.YtjldkgcabombhaaWLast
import Derived.Test.YtjldkgcabombhaaWMore
import Derived.ArgAppend
import Derived.Test.YtjldkgcabombhaaHG1
import Derived.Test.YtjldkgcabombhaaHE
namespace Go.Proofs.Ytjldkgcabombhaa
open Go.RowKit Go.Proofs.YtjldkgcabombhaaW.PrintWords Go.Proofs.YtjldkgcabombhaaW.PrintLast Go.Proofs.YtjldkgcabombhaaW.PrintMore
set_option linter.unusedVariables false
set_option linter.unusedSimpArgs false

theorem Fs.row0 (w : World) : Kd.R (Kd.int .u8) 5 (w.alloc (.cells #[] 5 (0, 0))) w.heap.size (fun _ => True) (.slice (some ⟨w.heap.size, 0, none⟩) 0 0) [] := by
  have ho := World.ownsRow_lit (base := w.heap.size) (e := 5) (size := 1) w #[] 0 (Nat.le_refl _) (by decide) rfl
  exact Kd.R_of_own ho (fun k hk => trivial)
set_option maxHeartbeats 8000000 in
set_option maxRecDepth 100000 in
theorem Fs.clone {A : Addr} {c : Nat} {xs : List Int} {w : World} (hC : Kd.C (Kd.int .u8) w (some A) xs.length xs) (hl : xs.length ≤ 1000000) :
    Calls Try.prog 64 #[.slice (some A) xs.length c] w fun e w' => ∃ v : Value, e = .returned v ∧ Kd.R (Kd.int .u8) 5 w' w.heap.size (fun _ => True) v xs ∧ Below w.heap.size w w' := by
  have HR := Aside0.mk (Fs.row0 w)
  have HC := Aside0.mk hC
  have HL := Aside0.mk hl
  have HB := Aside0.mk (below_alloc (Below.refl w.heap.size w) (.cells #[] 5 (0, 0)))
  have HZ := Aside0.mk (show w.heap.size ≤ (w.alloc (.cells #[] 5 (0, 0))).heap.size by simp)
  have heq : ∀ W : World, (binOp BinOp.eql 25 (Value.slice (some A) xs.length c) (Value.slice none 0 0)).run Try.prog W = .ok (.bool false) W := fun W => by kernel_rfl
  clear hC hl
  go_enter Try.func64, Try.ntmps64
  go_wp2_with (first
    | (at_builtin; refine Kd.R_append_rows (Kd.int .u8) (w0 := w) w.heap.size rfl (.tmp 5) (.tmp 6) 25 5 (.int .u8 0) 1 rfl Try.underlying25 Rc.info5 rfl (by decide) (by omega) _ [] xs _ _ _ (fun _ => True) (fun _ => False) rfl rfl HR.out (Kd.C_alloc HC.out _) (fun _ _ h => h) (fun _ h => h.elim) (fun _ _ => trivial) HB.out HZ.out (by have := HL.out; simp; omega) ?_
       intro v1 w1 h1 h2 h3 h4
       have HO := Aside0.mk h1
       have HB2 := Aside0.mk h2
       clear h1 h2 h3 h4 HB HR HC))
  go_ret
  exact ⟨_, rfl, HO.out, HB2.out⟩

theorem Fs.wider {A : Addr} {c m : Nat} {xs : List Int} {w : World} {Q : Ending → World → Prop} (h : Calls Try.prog 64 #[.slice (some A) xs.length c] w Q) (e : xs.length = m) : Calls Try.prog 64 #[.slice (some A) m c] w Q := e ▸ h
/-! ### a slice of a file's bytes -/
def Fs.ad (g l : Nat) : Addr := if 4096 = l then ⟨g, 0, none⟩ else (⟨g, 0, none⟩ : Addr).add (l * 1)
theorem Fs.al : Try.prog.arrayLen 99 = 4096 := by kernel_rfl
theorem Fs.arr : Try.prog.underlying 99 = some (.array (Try.prog.arrayLen 99) (Try.prog.elem 99)) := by kernel_rfl
theorem Fs.sz (W : World) : (sizeOf (Try.prog.elem 99)).run Try.prog W = .ok 1 W := by kernel_rfl
theorem Fs.sl (g : Nat) (l h : Int) (h0 : 0 ≤ l) (h1 : l ≤ h) (h2 : h ≤ 4096) (W : World) : (Instr.sliceAt 99 (.pointer (some ⟨g, 0, none⟩)) (some (.int .i64 l)) (some (.int .i64 h)) none).run Try.prog W = .ok (.slice (some (Fs.ad g l.toNat)) (h.toNat - l.toNat) (4096 - l.toNat)) W := by
  rw [run_sliceAt_array_lh (P := Try.prog) W 99 ⟨g, 0, none⟩ Fs.arr .i64 .i64 l h h0 h1 (by rw [Fs.al]; exact h2), Fs.sz, Fs.al]
  rfl
theorem Fs.slc {s : Fs} {w : World} {g : Nat} (h : s.At w g) (l n : Nat) (hl : l + n ≤ 4096) : Kd.C (Kd.int .u8) w (some (Fs.ad g l)) n ((s.b.drop l).take n) := by
  have hb := h.2
  have hlen : ((s.b.drop l).take n).length = n := by rw [List.length_take, List.length_drop]; omega
  refine Kd.C_of_reads (enc := Value.int .u8) (d := (0 : Int)) (h1 := fun _ => rfl) ⟨hlen, by omega, fun hn => ⟨_, rfl, fun j hj => ?_⟩⟩
  have e : (Fs.ad g l).add j = ⟨g, l + j, none⟩ := by
    unfold Fs.ad
    rw [if_neg (by omega)]
    by_cases a : l = 0 <;> by_cases b : j = 0 <;> simp [Addr.add, a, b]
  rw [e, blk_cell h.1]
  unfold Fs.cells
  have hn2 : (nums .u8 s.b).length = 4096 := by simp [nums, hb]
  rw [List.getElem?_toArray, List.getElem?_append_left (by omega)]
  have hq : l + j < s.b.length := by omega
  have e2 : ((s.b.drop l).take n).getD j 0 = s.b[l + j] := by
    rw [List.getD_eq_getElem?_getD, List.getElem?_take, if_pos hj, List.getElem?_drop, List.getElem?_eq_getElem hq]
    rfl
  rw [e2]
  simp [nums, hq]
def Fs.Ok (s : Fs) : Prop := 0 ≤ s.size ∧ s.size ≤ 4096
theorem Fs.may_zero {s : Fs} {at' n : Int} (ho : s.Ok) (h : s.may at' n = 0) : s.down = false ∧ 0 ≤ at' ∧ 0 ≤ n ∧ at' + n ≤ s.size ∧ wrap64 (at' + n) = at' + n := by
  unfold Fs.may at h
  have hd : s.down = false := by
    cases hd : s.down with
    | false => rfl
    | true => rw [hd, if_pos rfl] at h; exact absurd h (by decide)
  rw [hd, if_neg (by decide)] at h
  obtain ⟨h0, h1⟩ := ho
  by_cases c1 : s.inn at' = false
  · rw [if_pos c1] at h; exact absurd h (by decide)
  rw [if_neg c1] at h
  by_cases c2 : s.inn n = false
  · rw [if_pos c2] at h; exact absurd h (by decide)
  rw [if_neg c2] at h
  by_cases c3 : s.inn (wrap64 (at' + n)) = false
  · rw [if_pos c3] at h; exact absurd h (by decide)
  simp [Fs.inn] at c1 c2 c3
  have e := Rc.w64 (at' + n) (by omega)
  rw [e] at c3
  exact ⟨hd, by omega, by omega, by omega, e⟩

set_option maxHeartbeats 8000000 in
set_option maxRecDepth 100000 in
theorem Fs.read_bad {s : Fs} {w : World} {g : Nat} (at' n : Int) (h : s.At w g) (hm : s.may at' n ≠ 0) : Calls Try.prog 34 #[.pointer (some ⟨g, 0, none⟩), .int .i64 at', .int .i64 n] w fun e w' => e = .returned (.tuple #[.slice none 0 0, .int .i64 (s.may at' n)]) ∧ Below w.heap.size w w' := by
  obtain ⟨m, hme⟩ : ∃ m, s.may at' n = m := ⟨_, rfl⟩
  have HM := Aside0.mk (Fs.may_calls at' n h)
  rw [hme] at hm HM ⊢
  have d1 : (m != 0) = true := bne_iff_ne.mpr hm
  have d2 : (m == 0) = false := beq_eq_false_iff_ne.mpr hm
  clear h hm hme
  go_enter Try.func34, Try.ntmps34
  go_wp2_with (first
    | (go_at_call 63; (refine HM.out.mono ?_)
       rintro e w1 ⟨rfl, hb⟩
       have HB := Aside0.mk hb
       clear hb))
  go_ret2
  exact ⟨rfl, HB.out⟩
set_option maxHeartbeats 8000000 in
set_option maxRecDepth 100000 in
theorem Fs.read_ok {s : Fs} {w : World} {g : Nat} (at' n : Int) (h : s.At w g) (ho : s.Ok) (hm : s.may at' n = 0) : Calls Try.prog 34 #[.pointer (some ⟨g, 0, none⟩), .int .i64 at', .int .i64 n] w fun e w' => ∃ v : Value, e = .returned (.tuple #[v, .int .i64 0]) ∧ Kd.R (Kd.int .u8) 5 w' w.heap.size (fun _ => True) v ((s.b.drop at'.toNat).take n.toNat) ∧ Below w.heap.size w w' := by
  have HM := Aside0.mk (Fs.may_calls at' n h)
  rw [hm] at HM
  have HA := Aside0.mk h
  obtain ⟨_, z0, z1, z2, z3⟩ := Fs.may_zero ho hm
  have hu := Try.underlying101
  have hsl := Fs.sl g at' (wrap64 (at' + n)) z0 (by omega) (by rw [z3]; have := ho.2; omega)
  have e3 : (wrap64 (at' + n)).toNat - at'.toNat = n.toNat := by rw [z3]; omega
  simp only [e3] at hsl
  have HN := Aside0.mk (show at'.toNat + n.toNat ≤ 4096 by have := ho.2; omega)
  have HL := Aside0.mk (show ((s.b.drop at'.toNat).take n.toNat).length = n.toNat by have := ho.2; have := h.2; rw [List.length_take, List.length_drop]; omega)
  clear h hm z0 z1 z2 z3 e3 ho
  go_enter Try.func34, Try.ntmps34
  go_wp2_with (first
    | (go_at_call 63; (refine HM.out.mono ?_)
       rintro e w1 ⟨rfl, hb⟩
       have HB := Aside0.mk hb
       have HA1 := Aside0.mk (Fs.below HA.out hb)
       clear hb)
    | (go_at_call 64; (refine (Fs.wider (Fs.clone (w := w1) (A := Fs.ad g at'.toNat) (c := 4096 - at'.toNat) (xs := (s.b.drop at'.toNat).take n.toNat) (by rw [HL.out]; exact Fs.slc HA1.out _ _ HN.out) (by rw [HL.out]; have := HN.out; omega)) HL.out).mono ?_)
       rintro e w2 ⟨v, rfl, hr, hb⟩
       have HR := Aside0.mk (Kd.R_lower hr (below_size HB.out))
       have HB2 := Aside0.mk (below_step HB.out hb)
       clear hr hb))
  go_ret2
  exact ⟨_, rfl, HR.out, HB2.out⟩
set_option maxHeartbeats 8000000 in
set_option maxRecDepth 100000 in
theorem Fs.up_calls {s : Fs} {w : World} {g : Nat} (h : s.At w g) : Calls Try.prog 38 #[.pointer (some ⟨g, 0, none⟩)] w fun e w' => e = .returned (.tuple #[]) ∧ w' = w.setCell ⟨g, 4099, none⟩ (.bool false) := by
  have hu := Try.underlying101
  have c3 := Fs.c_down h
  have f3 := blk_frozen h.1 4099
  clear h
  go_enter Try.func38, Try.ntmps38
  go_wp2
  go_end0
  exact ⟨rfl, rfl⟩
end Go.Proofs.Ytjldkgcabombhaa
