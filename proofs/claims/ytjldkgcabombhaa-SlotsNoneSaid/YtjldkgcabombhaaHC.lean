/- Contracts of the program's sum CRC, of its closure and of the range over it, walked by hand: they come to what the plain Lean functions here tell. -/
import Derived.Test.YtjldkgcabombhaaProg
import Derived.Below
import Derived.Deep.Draws
import Derived.OwnWalk
import Derived.Tactics
import Derived.WalkKit
import Derived.WalkSpells
import Derived.WalkLawsBesides
import Derived.KernelRfl
import Derived.RowKit3
import Derived.Deep.LoopGhost
import Derived.Deep.QuietTactic
import Derived.BigQuiet
import Derived.WideLaws
import Derived.Deep.DeepCutAuto
import Derived.Deep.CutBlock
import Derived.Deep.RegionHeld3
import Derived.Lib.Hide
import Derived.IntWalk
import Derived.Outline
import Derived.Test.YtjldkgcabombhaaWWords
import Derived.Test.YtjldkgcabombhaaWLast
import Derived.Test.YtjldkgcabombhaaWMore
namespace Go.Proofs.Ytjldkgcabombhaa
open Go.RowKit Go.Proofs.YtjldkgcabombhaaW.PrintWords Go.Proofs.YtjldkgcabombhaaW.PrintLast Go.Proofs.YtjldkgcabombhaaW.PrintMore
set_option linter.unusedVariables false
set_option linter.unusedSimpArgs false

/-- One bit, and eight of them; a byte; a row of bytes. -/
def Cr.bit (c : Int) : Int := bits .xor .u32 (c / 2) (bits .and .u32 3988292384 (IntKind.u32.wrap (-bits .and .u32 c 1)))
def Cr.bitN (c : Int) : Nat → Int
  | 0 => c
  | n + 1 => Cr.bit (Cr.bitN c n)
def Cr.byte (c x : Int) : Int := Cr.bitN (bits .xor .u32 c (x % 4294967296)) 8
def Cr.fold (l : List Int) : Int := l.foldl Cr.byte 4294967295
def Cr.sum (l : List Int) : Int := bits .xor .u32 IntKind.u32.max (Cr.fold l)
def sums_CRC.f (l : List Int) : Option Int := some (Cr.sum l)

set_option maxHeartbeats 8000000 in
set_option maxRecDepth 100000 in
theorem Cr.clo (x c : Int) (b : Nat) (w : World) (hb : w.heap[b]? = some (.cells #[.int .u32 c] 22 (0, 0))) :
    Calls Try.prog 68 #[.int .u8 x, .pointer (some ⟨b, 0, none⟩)] w fun e w' => (∃ v, e = .returned v) ∧ w'.heap[b]? = some (.cells #[.int .u32 (Cr.byte c x)] 22 (0, 0)) ∧ Below b w w' := by
  have hk0 := blk_cell hb 0
  have j0 := blk_frozen hb 0
  have HB := Aside0.mk hb
  clear hb
  go_enter Try.func68, Try.ntmps68
  go_wp2
  go_loopw [7] (fun v7 wr => ∃ (i : Nat), v7 = .int .i64 i ∧ i ≤ 8 ∧ Aside0 (wr.heap[b]? = some (.cells #[.int .u32 (Cr.bitN (bits .xor .u32 c (x % 4294967296)) i)] 22 (0, 0))) ∧ Aside0 (Below b w wr)) (fun v7 _ => 8 - (intOf v7).toNat)
  case atStart => exact ⟨0, rfl, Nat.zero_le _, ⟨blk_set HB.out 0 _⟩, ⟨(Below.refl b w).setCell (p := ⟨b, 0, none⟩) (Nat.le_refl _) _⟩⟩
  case round =>
    obtain ⟨i, rfl, hi, HK, HW⟩ := hrel
    have g0 := blk_cell HK.out 0
    have f0 := blk_frozen HK.out 0
    by_cases hlt : i < 8
    · go_wp2
      go_roundw
      case rel => exact ⟨i + 1, by go_num, by omega, ⟨blk_set HK.out 0 _⟩, ⟨HW.out.setCell (p := ⟨b, 0, none⟩) (Nat.le_refl _) _⟩⟩
      case measure => simp [intOf]; omega
    · obtain rfl : i = 8 := by omega
      go_wp2
      go_end0
      exact ⟨⟨_, rfl⟩, HK.out, HW.out⟩

/-- What the rounds leave behind the first i bytes. -/
theorem Cr.take_snoc (l : List Int) (c : Int) (i : Nat) (h : i < l.length) : (l.take (i + 1)).foldl Cr.byte c = Cr.byte ((l.take i).foldl Cr.byte c) (rd l (i : Int)) := by
  rw [List.take_succ_eq_append_getElem h, List.foldl_append]
  unfold rd
  rw [Int.toNat_natCast, List.getD_eq_getElem?_getD, List.getElem?_eq_getElem h]
  rfl

set_option maxHeartbeats 8000000 in
set_option maxRecDepth 100000 in
theorem Cr.each (l : List Int) (c : Int) (A : Option Addr) (cp b : Nat) (w : World) (hC : Kd.C (Kd.int .u8) w A l.length l) (hA : ∀ wr, Below b w wr → Kd.C (Kd.int .u8) wr A l.length l) (hb : w.heap[b]? = some (.cells #[.int .u32 c] 22 (0, 0))) :
    Calls Try.prog 67 #[.slice A l.length cp, .func (.func 68) #[] #[.pointer (some ⟨b, 0, none⟩)]] w fun e w' => (∃ v, e = .returned v) ∧ w'.heap[b]? = some (.cells #[.int .u32 (l.foldl Cr.byte c)] 22 (0, 0)) ∧ Below b w w' := by
  have HB := Aside0.mk hb
  have HA := Aside0.mk hA
  have hm : (l.length : Int) ≤ 9223372036854775807 := by have := hC.2.1; omega
  clear hb hA hC
  go_enter Try.func67, Try.ntmps67
  go_wp2
  go_loopw [8] (fun v8 wr => ∃ (i : Nat), v8 = .int .i64 i ∧ Aside0 (i ≤ l.length) ∧ Aside0 (wr.heap[b]? = some (.cells #[.int .u32 ((l.take i).foldl Cr.byte c)] 22 (0, 0))) ∧ Aside0 (Below b w wr)) (fun v8 _ => l.length - (intOf v8).toNat)
  case atStart => exact ⟨0, rfl, ⟨Nat.zero_le _⟩, HB, ⟨Below.refl b w⟩⟩
  case round =>
    obtain ⟨i, rfl, HI, HK, HW⟩ := hrel
    by_cases hlt : i < l.length
    · have p0 : 0 ≤ ((i : Nat) : Int) := Int.natCast_nonneg _
      have q0 : ((i : Nat) : Int) < (l.length : Int) := by omega
      obtain ⟨ad, e, hx⟩ := Kd.at_int (HA.out wr HW.out) (i : Int) p0 q0
      cases e
      simp only [Int.toNat_natCast] at hx
      have HTS := Aside0.mk (Cr.take_snoc l c i hlt)
      have HLT := Aside0.mk hlt
      clear hlt
      go_wp2_with (go_at_call 68; (with_reducible refine (Cr.clo (rd l (i : Int)) _ b _ HK.out).mono ?_)
                   rintro e w2 ⟨⟨v, rfl⟩, hk2, hb2⟩
                   have HK2 := Aside0.mk hk2
                   have HW2 := Aside0.mk (HW.out.trans hb2)
                   clear hk2 hb2)
      go_roundw
      case rel => exact ⟨i + 1, by go_num, ⟨HLT.out⟩, ⟨by rw [HTS.out]; exact HK2.out⟩, HW2⟩
      case measure => have := HLT.out; simp [intOf]; omega
    · have HE := Aside0.mk (show l.take i = l from List.take_of_length_le (by omega))
      have q0 : ¬ ((i : Nat) : Int) < (l.length : Int) := by omega
      go_wp2
      go_end0
      exact ⟨⟨_, rfl⟩, by rw [← HE.out]; exact HK.out, HW.out⟩

set_option maxHeartbeats 8000000 in
set_option maxRecDepth 100000 in
theorem sums_CRC.calls (A : Option Addr) (cp : Nat) (l : List Int) (r : Int) (w : World) (hr0 : Kd.C (Kd.int .u8) w A l.length l) (hc0 : l.length ≤ cp) (h : sums_CRC.f l = some r) :
    Calls Try.prog 52 #[.slice A l.length cp] w fun e w' => e = .returned (.int .u32 r) ∧ Below w.heap.size w w' := by
  obtain rfl := Option.some.inj h
  have HC := Aside0.mk hr0
  clear h hr0 hc0
  have hmf : ∀ (fn : Fn) (first cap : Array Value) (w : World), (Instr.makeFunc fn first cap).run Try.prog w = .ok (.func fn first cap) w := fun _ _ _ _ => rfl
  go_enter Try.func52, Try.ntmps52
  go_wp2_with (go_at_call 67; (refine (Cr.each l 4294967295 A cp w.heap.size _ ?h1 ?h2 ?h3).mono ?_)
               (case h1 => exact Kd.C_alloc HC.out _)
               (case h2 => exact fun wr hb => Kd.C_below HC.out ((below_alloc (Below.refl w.heap.size w) _).trans hb))
               (case h3 => exact blk_new _ _)
               rintro e w1 ⟨⟨v, rfl⟩, hk, hb⟩
               have hk0 := blk_cell hk 0
               have j0 := blk_frozen hk 0
               have HB := Aside0.mk ((below_alloc (Below.refl w.heap.size w) _).trans hb)
               clear hk hb)
  trace_state
  go_ret
  exact ⟨rfl, HB.out⟩
end Go.Proofs.Ytjldkgcabombhaa
