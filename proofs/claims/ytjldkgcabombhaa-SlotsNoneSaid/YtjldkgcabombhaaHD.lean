/- The contract of record.Decode, and of its closure that reads a number, walked by hand. -/
import Derived.Test.YtjldkgcabombhaaProg
import Derived.Below
import Derived.Deep.Draws
import Derived.OwnWalk
import Derived.Tactics
import Derived.WalkKit
import Derived.WalkSpells
import Derived.WalkLawsBesides
import Derived.KernelRfl
import Derived.RowKit3
import Derived.Deep.LoopGhost
import Derived.Deep.QuietTactic
import Derived.BigQuiet
import Derived.WideLaws
import Derived.Deep.DeepCutAuto
import Derived.Deep.CutBlock
import Derived.Deep.RegionHeld3
import Derived.Lib.Hide
import Derived.IntWalk
import Derived.Outline
import Derived.Test.YtjldkgcabombhaaWWords
import Derived.Test.YtjldkgcabombhaaWLast
import Derived.Test.YtjldkgcabombhaaWMore
import Derived.Deep.RegionWith
import Derived.Test.YtjldkgcabombhaaHE
namespace Go.Proofs.Ytjldkgcabombhaa
open Go.RowKit Go.Proofs.YtjldkgcabombhaaW.PrintWords Go.Proofs.YtjldkgcabombhaaW.PrintLast Go.Proofs.YtjldkgcabombhaaW.PrintMore
set_option linter.unusedVariables false
set_option linter.unusedSimpArgs false

def Rd.step (n x : Int) : Int := bits .or .u64 (IntKind.u64.wrap (n * 256)) (IntKind.u64.wrap x)
def Rd.num (l : List Int) : Int := l.foldl Rd.step 0
def Rd.part (l : List Int) (a s : Int) : List Int := (l.take (a + s).toNat).drop a.toNat
theorem Rd.take_snoc (l : List Int) (i : Nat) (h : i < l.length) : Rd.num (l.take (i + 1)) = Rd.step (Rd.num (l.take i)) (rd l (i : Int)) := by
  unfold Rd.num
  rw [List.take_succ_eq_append_getElem h, List.foldl_append]
  unfold rd
  rw [Int.toNat_natCast, List.getD_eq_getElem?_getD, List.getElem?_eq_getElem h]
  rfl

set_option maxHeartbeats 8000000 in
set_option maxRecDepth 100000 in
theorem Rd.clo (l : List Int) (a s : Int) (A : Option Addr) (c b : Nat) (w : World) (h0 : 0 ≤ a) (h1 : 0 ≤ s) (h2 : a + s ≤ l.length) (hC : Kd.C (Kd.int .u8) w A l.length l) (hc : l.length ≤ c) (hb : w.cell? ⟨b, 0, none⟩ = some (.slice A l.length c)) :
    Calls Try.prog 53 #[.int .i64 a, .int .i64 s, .pointer (some ⟨b, 0, none⟩)] w fun e w' => e = .returned (.int .u64 (Rd.num (Rd.part l a s))) ∧ w' = w := by
  have hm : (l.length : Int) ≤ 9223372036854775807 := by have := hC.2.1; omega
  obtain ⟨i0, hi, hz0, hz1, hz2⟩ := info_parts Rc.info5
  obtain ⟨A', hs1, hs2, hs3⟩ := print_mid_int (P := Try.prog) (k := .u8) 25 5 Try.underlying25 hi hz1 A c l a (a + s) h0 (by omega) h2 hc
  have hpl : ((l.take (a + s).toNat).drop a.toNat).length = s.toNat := by rw [List.length_drop, List.length_take]; omega
  have HC : Aside0 (Kd.C (Kd.int .u8) w A' (Rd.part l a s).length (Rd.part l a s)) := ⟨Kd.C_of_reads (enc := Value.int .u8) (d := (0 : Int)) (h1 := fun _ => rfl) (hs2 w (Kd.reads_of_C (enc := Value.int .u8) (d := (0 : Int)) (h1 := fun _ => rfl) hC))⟩
  have HPL := Aside0.mk (show (Rd.part l a s).length = s.toNat from hpl)
  have hs1' : ∀ (W : World), (Instr.slice 25 (.slice A l.length c) (some (.int .i64 a)) (some (.int .i64 (a + s))) none).run Try.prog W = .ok (.slice A' s.toNat (c - a.toNat)) W := fun W => by rw [hs1 W, hpl]
  have ha : a + s ≤ 9223372036854775807 := by omega
  clear hs1 hs2 hs3 hC hpl hz0 hz1 hz2 hi hm h2
  go_enter Try.func53, Try.ntmps53
  go_wp2
  go_loopw [5, 15] (fun v5 v15 wr => ∃ (i : Nat), v15 = .int .i64 i ∧ Aside0 (i ≤ (Rd.part l a s).length) ∧ v5 = .int .u64 (Rd.num ((Rd.part l a s).take i)) ∧ wr = w) (fun _ v15 _ => s.toNat - (intOf v15).toNat)
  case atStart => exact ⟨0, rfl, ⟨Nat.zero_le _⟩, rfl, rfl⟩
  case round =>
    obtain ⟨i, rfl, HI, rfl, rfl⟩ := hrel
    by_cases hlt : i < s.toNat
    · have hlt2 : i < (Rd.part l a s).length := by rw [HPL.out]; exact hlt
      have p0 : 0 ≤ ((i : Nat) : Int) := Int.natCast_nonneg _
      have q0 : ((i : Nat) : Int) < ((Rd.part l a s).length : Int) := by omega
      obtain ⟨ad, e, hx⟩ := Kd.at_int HC.out (i : Int) p0 q0
      cases e
      simp only [Int.toNat_natCast] at hx
      have HTS := Aside0.mk (Rd.take_snoc (Rd.part l a s) i hlt2)
      have hsm : (s.toNat : Int) ≤ 9223372036854775807 := by omega
      have HLT := Aside0.mk hlt2
      clear hlt2 q0
      go_wp2
      go_roundw
      case rel => exact ⟨i + 1, by go_num, ⟨HLT.out⟩, by rw [HTS.out]; rfl, trivial⟩
      case measure => simp [intOf]; omega
    · have HE := Aside0.mk (show (Rd.part l a s).take i = Rd.part l a s from List.take_of_length_le (by rw [HPL.out]; omega))
      go_wp2
      go_ret
      exact ⟨by show Ending.returned (.int .u64 (Rd.num ((Rd.part l a s).take i))) = _; rw [HE.out], rfl⟩

/-! ### Decode -/
def Rd.Z : Array Value := madeCells #[.int .u8 0] 28
def Rd.zeros : List Int := List.replicate 28 0
/-- Is it a record's form: the mark, and noughts? -/
def Rd.form (l : List Int) : Bool := (strOfNums (l.take 4)).toList == [82, 77, 84, 82] && (strOfNums (Rd.part l 32 28)).toList == (strOfNums Rd.zeros).toList
def Rd.dec (l : List Int) : Int × Int × Int × Int × Int :=
  if (l.length : Int) < 64 then (0, 0, 0, 0, 4) else if 64 < (l.length : Int) then (0, 0, 0, 0, 3)
  else if Rd.num (Rd.part l 60 4) ≠ IntKind.u64.wrap (Cr.sum (l.take 60)) then (0, 0, 0, 0, 6)
  else if Rd.form l = false then (0, 0, 0, 0, 5)
  else (IntKind.u32.wrap (Rd.num (Rd.part l 4 4)), wrap64 (Rd.num (Rd.part l 8 8)), wrap64 (Rd.num (Rd.part l 16 8)), wrap64 (Rd.num (Rd.part l 24 8)), 0)
def record_Decode.f (l : List Int) : Option (Int × Int × Int × Int × Int) := some (Rd.dec l)

set_option maxHeartbeats 8000000 in
set_option maxRecDepth 100000 in
theorem Rd.short (A : Option Addr) (c : Nat) (l : List Int) (w : World) (h : decide ((l.length : Int) < 64) = true) :
    Calls Try.prog 14 #[.slice A l.length c] w fun e w' => e = .returned (.tuple #[.agg #[.int .u32 0, .int .i64 0, .int .i64 0, .int .i64 0], .int .i64 4]) ∧ Below w.heap.size w w' := by
  have hu24 := Try.underlying24
  have hmf : ∀ (fn : Fn) (first cap : Array Value) (w : World), (Instr.makeFunc fn first cap).run Try.prog w = .ok (.func fn first cap) w := fun _ _ _ _ => rfl
  go_enter Try.func14, Try.ntmps14
  go_wp2
  refine bodyPost_ret (results_ct rfl _ _ (w.heap.size + 1) 24 #[.int .u32 0, .int .i64 0, .int .i64 0, .int .i64 0] (0, 0) _ rfl (by have := blk_new (w.alloc (.cells #[.slice A l.length c] 25 (0, 0))) (.cells #[.int .u32 0, .int .i64 0, .int .i64 0, .int .i64 0] 24 (0, 0)); rw [World.size_alloc] at this; exact this) Try.underlying24 rfl (by kernel_rfl)) rfl ?_
  exact ⟨rfl, below_alloc (below_alloc (Below.refl _ _) _) _⟩

set_option maxHeartbeats 8000000 in
set_option maxRecDepth 100000 in
theorem Rd.long (A : Option Addr) (c : Nat) (l : List Int) (w : World) (h : decide ((l.length : Int) < 64) = false) (h2 : decide (64 < (l.length : Int)) = true) :
    Calls Try.prog 14 #[.slice A l.length c] w fun e w' => e = .returned (.tuple #[.agg #[.int .u32 0, .int .i64 0, .int .i64 0, .int .i64 0], .int .i64 3]) ∧ Below w.heap.size w w' := by
  have hu24 := Try.underlying24
  have hmf : ∀ (fn : Fn) (first cap : Array Value) (w : World), (Instr.makeFunc fn first cap).run Try.prog w = .ok (.func fn first cap) w := fun _ _ _ _ => rfl
  go_enter Try.func14, Try.ntmps14
  go_wp2
  refine bodyPost_ret (results_ct rfl _ _ (w.heap.size + 1) 24 #[.int .u32 0, .int .i64 0, .int .i64 0, .int .i64 0] (0, 0) _ rfl (by have := blk_new (w.alloc (.cells #[.slice A l.length c] 25 (0, 0))) (.cells #[.int .u32 0, .int .i64 0, .int .i64 0, .int .i64 0] 24 (0, 0)); rw [World.size_alloc] at this; exact this) Try.underlying24 rfl (by kernel_rfl)) rfl ?_
  exact ⟨rfl, below_alloc (below_alloc (Below.refl _ _) _) _⟩

theorem Rd.crc60 (A : Option Addr) (c : Nat) (l : List Int) (W : World) (hl : l.length = 64) (hc : l.length ≤ c) (hC : Kd.C (Kd.int .u8) W A l.length l) :
    Calls Try.prog 52 #[.slice A 60 c] W fun e w' => e = .returned (.int .u32 (Cr.sum (l.take 60))) ∧ Below W.heap.size W w' := by
  have e : (l.take 60).length = 60 := by rw [List.length_take]; omega
  have := sums_CRC.calls A c (l.take 60) (Cr.sum (l.take 60)) W (Kd.C_take hC (by omega)) (by omega) rfl
  rw [e] at this
  exact this

/-- What holds behind the sums: the box of the bytes, the result's cell, the bytes. -/
def Rd.S (w W : World) (A : Option Addr) (c : Nat) (l : List Int) : Prop :=
  W.heap[w.heap.size]? = some (.cells #[.slice A l.length c] 25 (0, 0)) ∧ W.heap[w.heap.size + 1]? = some (.cells #[.int .u32 0, .int .i64 0, .int .i64 0, .int .i64 0] 24 (0, 0)) ∧ Kd.C (Kd.int .u8) W A l.length l ∧ Below w.heap.size w W
theorem Rd.s_step {w W W1 : World} {A : Option Addr} {c : Nat} {l : List Int} (h : Rd.S w W A c l) (hb : Below W.heap.size W W1) : Rd.S w W1 A c l :=
  ⟨blk_below h.1 hb, blk_below h.2.1 hb, Kd.C_below h.2.2.1 hb, below_step h.2.2.2 hb⟩
theorem Rd.s_start (w : World) (A : Option Addr) (c : Nat) (l : List Int) (hC : Kd.C (Kd.int .u8) w A l.length l) : Rd.S w ((w.alloc (.cells #[.slice A l.length c] 25 (0, 0))).alloc (.cells #[.int .u32 0, .int .i64 0, .int .i64 0, .int .i64 0] 24 (0, 0))) A c l := by
  refine ⟨blk_alloc (blk_new w _) _, ?_, Kd.C_alloc (Kd.C_alloc hC _) _, below_alloc (below_alloc (Below.refl _ _) _) _⟩
  have := blk_new (w.alloc (.cells #[.slice A l.length c] 25 (0, 0))) (.cells #[.int .u32 0, .int .i64 0, .int .i64 0, .int .i64 0] 24 (0, 0))
  rw [World.size_alloc] at this
  exact this

set_option maxHeartbeats 8000000 in
set_option maxRecDepth 100000 in
theorem Rd.sum (A : Option Addr) (c : Nat) (l : List Int) (w : World) (hl : l.length = 64) (hC : Kd.C (Kd.int .u8) w A l.length l) (hc : l.length ≤ c) (d : (Rd.num (Rd.part l 60 4) != IntKind.u64.wrap (Cr.sum (l.take 60))) = true) :
    Calls Try.prog 14 #[.slice A l.length c] w fun e w' => e = .returned (.tuple #[.agg #[.int .u32 0, .int .i64 0, .int .i64 0, .int .i64 0], .int .i64 6]) ∧ Below w.heap.size w w' := by
  have hu24 := Try.underlying24
  have hmf : ∀ (fn : Fn) (first cap : Array Value) (w : World), (Instr.makeFunc fn first cap).run Try.prog w = .ok (.func fn first cap) w := fun _ _ _ _ => rfl
  have h : decide ((l.length : Int) < 64) = false := decide_eq_false (by omega)
  have h2 : decide (64 < (l.length : Int)) = false := decide_eq_false (by omega)
  have HS := Aside0.mk (Rd.s_start w A c l hC)
  have HC := Aside0.mk hc
  have HL := Aside0.mk hl
  obtain ⟨i0, hi, hz0, hz1, hz2⟩ := info_parts Rc.info5
  have hs60 := (print_take_int (P := Try.prog) (k := .u8) 25 5 Try.underlying25 hi hz1 A c l 60 (by omega) (by omega) hc).1
  rw [show (60 : Int).toNat = 60 from rfl, show (l.take 60).length = 60 by rw [List.length_take]; omega] at hs60
  clear hl hc hi hz0 hz1 hz2 hC
  go_enter Try.func14, Try.ntmps14
  go_upto_region 6 with (fail)
  generalize ((w.alloc (.cells #[.slice A l.length c] 25)).alloc (.cells #[.int .u32 0, .int .i64 0, .int .i64 0, .int .i64 0] 24)) = w5 at HS ⊢
  have g0 := blk_cell HS.out.1 0
  go_cut [16] (fun s16 wr => s16 = .bool true ∧ Aside0 (Rd.S w wr A c l))
  case first =>
    go_region_with (first
      | (go_at_call 53; (refine (Rd.clo l 60 4 A c w.heap.size _ (by decide) (by decide) (by rw [HL.out]; decide) ?p1 HC.out ?p2).mono ?_)
         (case p1 => exact Kd.C_drew HS.out.2.2.1)
         (case p2 => simpa using g0)
         rintro e w' ⟨rfl, rfl⟩)
      | (go_at_call 52; (refine (Rd.crc60 A c l _ HL.out HC.out ?p3).mono ?_)
         (case p3 => exact Kd.C_drew HS.out.2.2.1)
         rintro e w6 ⟨rfl, hb⟩))
    all_goals (go_wp2_with fail; go_meet)
    all_goals exact ⟨rfl, ⟨Rd.s_step HS.out ((below_drew1 (Below.refl _ _)).trans hb)⟩⟩
  case rest =>
    obtain ⟨rfl, HS6⟩ := hcut
    clear HS g0
    rename World => w6
    have r0 := blk_cell HS6.out.2.1 0
    have r1 := blk_cell HS6.out.2.1 1
    have r2 := blk_cell HS6.out.2.1 2
    have r3 := blk_cell HS6.out.2.1 3
    have f0 := blk_frozen HS6.out.2.1 0
    have f1 := blk_frozen HS6.out.2.1 1
    have f2 := blk_frozen HS6.out.2.1 2
    have f3 := blk_frozen HS6.out.2.1 3
    go_wp2
    refine bodyPost_ret (results_ct rfl _ _ (w.heap.size + 1) 24 #[.int .u32 0, .int .i64 0, .int .i64 0, .int .i64 0] (0, 0) _ rfl (blk_set (blk_set (blk_set (blk_set HS6.out.2.1 0 _) 1 _) 2 _) 3 _) Try.underlying24 rfl (by kernel_rfl)) rfl ?_
    exact ⟨rfl, (((HS6.out.2.2.2.setCell (p := ⟨w.heap.size + 1, 0, none⟩) (Nat.le_succ _) _).setCell (p := ⟨w.heap.size + 1, 1, none⟩) (Nat.le_succ _) _).setCell (p := ⟨w.heap.size + 1, 2, none⟩) (Nat.le_succ _) _).setCell (p := ⟨w.heap.size + 1, 3, none⟩) (Nat.le_succ _) _⟩

set_option maxHeartbeats 8000000 in
set_option maxRecDepth 100000 in
theorem Rd.mark (A : Option Addr) (c : Nat) (l : List Int) (w : World) (hl : l.length = 64) (hC : Kd.C (Kd.int .u8) w A l.length l) (hc : l.length ≤ c) (d : (Rd.num (Rd.part l 60 4) != IntKind.u64.wrap (Cr.sum (l.take 60))) = false) (m : ((strOfNums (l.take 4)).toList == [82, 77, 84, 82]) = false) :
    Calls Try.prog 14 #[.slice A l.length c] w fun e w' => e = .returned (.tuple #[.agg #[.int .u32 0, .int .i64 0, .int .i64 0, .int .i64 0], .int .i64 5]) ∧ Below w.heap.size w w' := by
  have hu24 := Try.underlying24
  have hmf : ∀ (fn : Fn) (first cap : Array Value) (w : World), (Instr.makeFunc fn first cap).run Try.prog w = .ok (.func fn first cap) w := fun _ _ _ _ => rfl
  have h : decide ((l.length : Int) < 64) = false := decide_eq_false (by omega)
  have h2 : decide (64 < (l.length : Int)) = false := decide_eq_false (by omega)
  have HS := Aside0.mk (Rd.s_start w A c l hC)
  have HC := Aside0.mk hc
  have HL := Aside0.mk hl
  obtain ⟨i0, hi, hz0, hz1, hz2⟩ := info_parts Rc.info5
  have hs60 := (print_take_int (P := Try.prog) (k := .u8) 25 5 Try.underlying25 hi hz1 A c l 60 (by omega) (by omega) hc).1
  rw [show (60 : Int).toNat = 60 from rfl, show (l.take 60).length = 60 by rw [List.length_take]; omega] at hs60
  clear hl hc hi hz0 hz1 hz2 hC
  go_enter Try.func14, Try.ntmps14
  go_upto_region 6 with (fail)
  generalize ((w.alloc (.cells #[.slice A l.length c] 25)).alloc (.cells #[.int .u32 0, .int .i64 0, .int .i64 0, .int .i64 0] 24)) = w5 at HS ⊢
  have g0 := blk_cell HS.out.1 0
  go_cut [16] (fun s16 wr => s16 = .bool false ∧ Aside0 (Rd.S w wr A c l))
  case first =>
    go_region_with (first
      | (go_at_call 53; (refine (Rd.clo l 60 4 A c w.heap.size _ (by decide) (by decide) (by rw [HL.out]; decide) ?p1 HC.out ?p2).mono ?_)
         (case p1 => exact Kd.C_drew HS.out.2.2.1)
         (case p2 => simpa using g0)
         rintro e w' ⟨rfl, rfl⟩)
      | (go_at_call 52; (refine (Rd.crc60 A c l _ HL.out HC.out ?p3).mono ?_)
         (case p3 => exact Kd.C_drew HS.out.2.2.1)
         rintro e w6 ⟨rfl, hb⟩))
    all_goals (go_wp2_with fail; go_meet)
    all_goals exact ⟨rfl, ⟨Rd.s_step HS.out ((below_drew1 (Below.refl _ _)).trans hb)⟩⟩
  case rest =>
    obtain ⟨rfl, HS6⟩ := hcut
    clear HS g0
    rename World => w6
    go_upto_region 8 with (fail)
    have hC6 := HS6.out.2.2.1
    have g0 := blk_cell HS6.out.1 0
    obtain ⟨i0, hi, hz0, hz1, hz2⟩ := info_parts Rc.info5
    have hs4 := (print_take_int (P := Try.prog) (k := .u8) 25 5 Try.underlying25 hi hz1 A c l 4 (by omega) (by rw [HL.out]; decide) HC.out).1
    rw [show (4 : Int).toNat = 4 from rfl, show (l.take 4).length = 4 by rw [List.length_take, HL.out]; rfl] at hs4
    have cv4 : (convert 25 9 (.slice A 4 c)).run Try.prog w6.drew = .ok (.string (strOfNums (l.take 4))) w6.drew := by
      have := Kd.C_string (P := Try.prog) (A := A) (c := c) Try.underlying25 Try.underlying5 Try.underlying9 (Kd.C_take (m := 4) (Kd.C_drew hC6) (by rw [HL.out]; decide))
      rwa [show (l.take 4).length = 4 by rw [List.length_take, HL.out]; rfl] at this
    clear hi hz0 hz1 hz2 hC6
    go_cut [25] (fun s25 wr => s25 = .bool true ∧ Aside0 (Rd.S w wr A c l))
    case first =>
      go_region
      all_goals (go_wp2_with fail; go_meet)
      all_goals exact ⟨rfl, ⟨Rd.s_step HS6.out (below_drew1 (Below.refl _ _))⟩⟩
    case rest =>
      obtain ⟨rfl, HS7⟩ := hcut
      clear HS6 g0 cv4
      have HS6 := HS7
      clear HS7
      have r0 := blk_cell HS6.out.2.1 0
      have r1 := blk_cell HS6.out.2.1 1
      have r2 := blk_cell HS6.out.2.1 2
      have r3 := blk_cell HS6.out.2.1 3
      have f0 := blk_frozen HS6.out.2.1 0
      have f1 := blk_frozen HS6.out.2.1 1
      have f2 := blk_frozen HS6.out.2.1 2
      have f3 := blk_frozen HS6.out.2.1 3
      go_wp2
      refine bodyPost_ret (results_ct rfl _ _ (w.heap.size + 1) 24 #[.int .u32 0, .int .i64 0, .int .i64 0, .int .i64 0] (0, 0) _ rfl (blk_set (blk_set (blk_set (blk_set HS6.out.2.1 0 _) 1 _) 2 _) 3 _) Try.underlying24 rfl (by kernel_rfl)) rfl ?_
      exact ⟨rfl, (((HS6.out.2.2.2.setCell (p := ⟨w.heap.size + 1, 0, none⟩) (Nat.le_succ _) _).setCell (p := ⟨w.heap.size + 1, 1, none⟩) (Nat.le_succ _) _).setCell (p := ⟨w.heap.size + 1, 2, none⟩) (Nat.le_succ _) _).setCell (p := ⟨w.heap.size + 1, 3, none⟩) (Nat.le_succ _) _⟩

set_option maxHeartbeats 8000000 in
set_option maxRecDepth 100000 in
theorem Rd.blank (A : Option Addr) (c : Nat) (l : List Int) (w : World) (hl : l.length = 64) (hC : Kd.C (Kd.int .u8) w A l.length l) (hc : l.length ≤ c) (d : (Rd.num (Rd.part l 60 4) != IntKind.u64.wrap (Cr.sum (l.take 60))) = false) (m : ((strOfNums (l.take 4)).toList == [82, 77, 84, 82]) = true) (m2 : ((strOfNums (Rd.part l 32 28)).toList == (strOfNums Rd.zeros).toList) = false) :
    Calls Try.prog 14 #[.slice A l.length c] w fun e w' => e = .returned (.tuple #[.agg #[.int .u32 0, .int .i64 0, .int .i64 0, .int .i64 0], .int .i64 5]) ∧ Below w.heap.size w w' := by
  have hu24 := Try.underlying24
  have hmf : ∀ (fn : Fn) (first cap : Array Value) (w : World), (Instr.makeFunc fn first cap).run Try.prog w = .ok (.func fn first cap) w := fun _ _ _ _ => rfl
  have h : decide ((l.length : Int) < 64) = false := decide_eq_false (by omega)
  have h2 : decide (64 < (l.length : Int)) = false := decide_eq_false (by omega)
  have HS := Aside0.mk (Rd.s_start w A c l hC)
  have HC := Aside0.mk hc
  have HL := Aside0.mk hl
  obtain ⟨i0, hi, hz0, hz1, hz2⟩ := info_parts Rc.info5
  have hs60 := (print_take_int (P := Try.prog) (k := .u8) 25 5 Try.underlying25 hi hz1 A c l 60 (by omega) (by omega) hc).1
  rw [show (60 : Int).toNat = 60 from rfl, show (l.take 60).length = 60 by rw [List.length_take]; omega] at hs60
  clear hl hc hi hz0 hz1 hz2 hC
  go_enter Try.func14, Try.ntmps14
  go_upto_region 6 with (fail)
  generalize ((w.alloc (.cells #[.slice A l.length c] 25)).alloc (.cells #[.int .u32 0, .int .i64 0, .int .i64 0, .int .i64 0] 24)) = w5 at HS ⊢
  have g0 := blk_cell HS.out.1 0
  go_cut [16] (fun s16 wr => s16 = .bool false ∧ Aside0 (Rd.S w wr A c l))
  case first =>
    go_region_with (first
      | (go_at_call 53; (refine (Rd.clo l 60 4 A c w.heap.size _ (by decide) (by decide) (by rw [HL.out]; decide) ?p1 HC.out ?p2).mono ?_)
         (case p1 => exact Kd.C_drew HS.out.2.2.1)
         (case p2 => simpa using g0)
         rintro e w' ⟨rfl, rfl⟩)
      | (go_at_call 52; (refine (Rd.crc60 A c l _ HL.out HC.out ?p3).mono ?_)
         (case p3 => exact Kd.C_drew HS.out.2.2.1)
         rintro e w6 ⟨rfl, hb⟩))
    all_goals (go_wp2_with fail; go_meet)
    all_goals exact ⟨rfl, ⟨Rd.s_step HS.out ((below_drew1 (Below.refl _ _)).trans hb)⟩⟩
  case rest =>
    obtain ⟨rfl, HS6⟩ := hcut
    clear HS g0
    rename World => w6
    go_upto_region 8 with (fail)
    have hC6 := HS6.out.2.2.1
    have g0 := blk_cell HS6.out.1 0
    obtain ⟨i0, hi, hz0, hz1, hz2⟩ := info_parts Rc.info5
    have hs4 := (print_take_int (P := Try.prog) (k := .u8) 25 5 Try.underlying25 hi hz1 A c l 4 (by omega) (by rw [HL.out]; decide) HC.out).1
    rw [show (4 : Int).toNat = 4 from rfl, show (l.take 4).length = 4 by rw [List.length_take, HL.out]; rfl] at hs4
    have cv4 : (convert 25 9 (.slice A 4 c)).run Try.prog w6.drew = .ok (.string (strOfNums (l.take 4))) w6.drew := by
      have := Kd.C_string (P := Try.prog) (A := A) (c := c) Try.underlying25 Try.underlying5 Try.underlying9 (Kd.C_take (m := 4) (Kd.C_drew hC6) (by rw [HL.out]; decide))
      rwa [show (l.take 4).length = 4 by rw [List.length_take, HL.out]; rfl] at this
    have hs28 := print_mid_int (P := Try.prog) (k := .u8) 25 5 Try.underlying25 hi hz1 A c l 32 60 (by omega) (by omega) (by rw [HL.out]; decide) HC.out
    obtain ⟨A', hm1, hm2, hm3⟩ := hs28
    have hp28 : Rd.part l 32 28 = (l.take (60 : Int).toNat).drop (32 : Int).toNat := rfl
    rw [← hp28] at hm1 hm2 hm3
    have hl28 : (Rd.part l 32 28).length = 28 := by rw [hp28, List.length_drop, List.length_take, HL.out]; rfl
    have hC28 : Kd.C (Kd.int .u8) w6 A' (Rd.part l 32 28).length (Rd.part l 32 28) := Kd.C_of_reads (enc := Value.int .u8) (d := (0 : Int)) (h1 := fun _ => rfl) (hm2 w6 (Kd.reads_of_C (enc := Value.int .u8) (d := (0 : Int)) (h1 := fun _ => rfl) hC6))
    rw [hl28] at hm1 hm3
    have hmk : ∀ W : World, (Instr.makeSlice 25 (.int .i64 28) (.int .i64 28)).run Try.prog W = .ok (.slice (some ⟨W.heap.size, 0, none⟩) 28 28) (W.alloc (.cells Rd.Z 5)) := print_make (P := Try.prog) 25 5 .u8 1 Try.underlying25 Rc.info5 (by decide) 28 (by decide)
    have g1 := blk_cell (blk_alloc HS6.out.1 (.cells Rd.Z 5)) 0
    have cv5 : (convert 25 9 (.slice A' 28 (c - 32))).run Try.prog w6.drew = .ok (.string (strOfNums (Rd.part l 32 28))) w6.drew := by
      have := Kd.C_string (P := Try.prog) (A := A') (c := c - 32) Try.underlying25 Try.underlying5 Try.underlying9 (Kd.C_drew hC28)
      rwa [hl28] at this
    have cv6 : (convert 25 9 (.slice A' 28 (c - 32))).run Try.prog (w6.alloc (.cells Rd.Z 5)).drew = .ok (.string (strOfNums (Rd.part l 32 28))) (w6.alloc (.cells Rd.Z 5)).drew := by
      have := Kd.C_string (P := Try.prog) (A := A') (c := c - 32) Try.underlying25 Try.underlying5 Try.underlying9 (Kd.C_alloc (Kd.C_drew hC28) (.cells Rd.Z 5))
      rwa [hl28] at this
    have cv7 : (convert 25 9 (.slice (some ⟨w6.heap.size, 0, none⟩) 28 28)).run Try.prog (w6.alloc (.cells Rd.Z 5)).drew = .ok (.string (strOfNums Rd.zeros)) (w6.alloc (.cells Rd.Z 5)).drew :=
      own_string Try.underlying25 Try.underlying5 Try.underlying9 (own_made w6.drew 0 5 .u8 28 (Nat.zero_le _) (by decide))
    clear hi hz0 hz1 hz2 hC6
    go_cut [25] (fun s25 wr => s25 = .bool true ∧ Aside0 (Rd.S w wr A c l))
    case first =>
      go_region
      all_goals (go_wp2_with fail; go_meet)
      all_goals exact ⟨by first | rfl | (show Value.bool (!((strOfNums (Rd.part l 32 28)).toList == (strOfNums Rd.zeros).toList)) = _; rw [m2]; rfl), ⟨Rd.s_step HS6.out (below_drew1 (below_alloc (Below.refl _ _) _))⟩⟩
    case rest =>
      obtain ⟨rfl, HS7⟩ := hcut
      clear HS6 g0 cv4 cv5 cv6 cv7
      have HS6 := HS7
      clear HS7
      have r0 := blk_cell HS6.out.2.1 0
      have r1 := blk_cell HS6.out.2.1 1
      have r2 := blk_cell HS6.out.2.1 2
      have r3 := blk_cell HS6.out.2.1 3
      have f0 := blk_frozen HS6.out.2.1 0
      have f1 := blk_frozen HS6.out.2.1 1
      have f2 := blk_frozen HS6.out.2.1 2
      have f3 := blk_frozen HS6.out.2.1 3
      go_wp2
      refine bodyPost_ret (results_ct rfl _ _ (w.heap.size + 1) 24 #[.int .u32 0, .int .i64 0, .int .i64 0, .int .i64 0] (0, 0) _ rfl (blk_set (blk_set (blk_set (blk_set HS6.out.2.1 0 _) 1 _) 2 _) 3 _) Try.underlying24 rfl (by kernel_rfl)) rfl ?_
      exact ⟨rfl, (((HS6.out.2.2.2.setCell (p := ⟨w.heap.size + 1, 0, none⟩) (Nat.le_succ _) _).setCell (p := ⟨w.heap.size + 1, 1, none⟩) (Nat.le_succ _) _).setCell (p := ⟨w.heap.size + 1, 2, none⟩) (Nat.le_succ _) _).setCell (p := ⟨w.heap.size + 1, 3, none⟩) (Nat.le_succ _) _⟩


set_option maxHeartbeats 8000000 in
set_option maxRecDepth 100000 in
theorem Rd.good (A : Option Addr) (c : Nat) (l : List Int) (w : World) (hl : l.length = 64) (hC : Kd.C (Kd.int .u8) w A l.length l) (hc : l.length ≤ c) (d : (Rd.num (Rd.part l 60 4) != IntKind.u64.wrap (Cr.sum (l.take 60))) = false) (m : ((strOfNums (l.take 4)).toList == [82, 77, 84, 82]) = true) (m2 : ((strOfNums (Rd.part l 32 28)).toList == (strOfNums Rd.zeros).toList) = true) :
    Calls Try.prog 14 #[.slice A l.length c] w fun e w' => e = .returned (.tuple #[.agg #[.int .u32 (IntKind.u32.wrap (Rd.num (Rd.part l 4 4))), .int .i64 (wrap64 (Rd.num (Rd.part l 8 8))), .int .i64 (wrap64 (Rd.num (Rd.part l 16 8))), .int .i64 (wrap64 (Rd.num (Rd.part l 24 8)))], .int .i64 0]) ∧ Below w.heap.size w w' := by
  have hu24 := Try.underlying24
  have hmf : ∀ (fn : Fn) (first cap : Array Value) (w : World), (Instr.makeFunc fn first cap).run Try.prog w = .ok (.func fn first cap) w := fun _ _ _ _ => rfl
  have h : decide ((l.length : Int) < 64) = false := decide_eq_false (by omega)
  have h2 : decide (64 < (l.length : Int)) = false := decide_eq_false (by omega)
  have HS := Aside0.mk (Rd.s_start w A c l hC)
  have HC := Aside0.mk hc
  have HL := Aside0.mk hl
  obtain ⟨i0, hi, hz0, hz1, hz2⟩ := info_parts Rc.info5
  have hs60 := (print_take_int (P := Try.prog) (k := .u8) 25 5 Try.underlying25 hi hz1 A c l 60 (by omega) (by omega) hc).1
  rw [show (60 : Int).toNat = 60 from rfl, show (l.take 60).length = 60 by rw [List.length_take]; omega] at hs60
  clear hl hc hi hz0 hz1 hz2 hC
  go_enter Try.func14, Try.ntmps14
  go_upto_region 6 with (fail)
  generalize ((w.alloc (.cells #[.slice A l.length c] 25)).alloc (.cells #[.int .u32 0, .int .i64 0, .int .i64 0, .int .i64 0] 24)) = w5 at HS ⊢
  have g0 := blk_cell HS.out.1 0
  go_cut [16] (fun s16 wr => s16 = .bool false ∧ Aside0 (Rd.S w wr A c l))
  case first =>
    go_region_with (first
      | (go_at_call 53; (refine (Rd.clo l 60 4 A c w.heap.size _ (by decide) (by decide) (by rw [HL.out]; decide) ?p1 HC.out ?p2).mono ?_)
         (case p1 => exact Kd.C_drew HS.out.2.2.1)
         (case p2 => simpa using g0)
         rintro e w' ⟨rfl, rfl⟩)
      | (go_at_call 52; (refine (Rd.crc60 A c l _ HL.out HC.out ?p3).mono ?_)
         (case p3 => exact Kd.C_drew HS.out.2.2.1)
         rintro e w6 ⟨rfl, hb⟩))
    all_goals (go_wp2_with fail; go_meet)
    all_goals exact ⟨rfl, ⟨Rd.s_step HS.out ((below_drew1 (Below.refl _ _)).trans hb)⟩⟩
  case rest =>
    obtain ⟨rfl, HS6⟩ := hcut
    clear HS g0
    rename World => w6
    go_upto_region 8 with (fail)
    have hC6 := HS6.out.2.2.1
    have g0 := blk_cell HS6.out.1 0
    obtain ⟨i0, hi, hz0, hz1, hz2⟩ := info_parts Rc.info5
    have hs4 := (print_take_int (P := Try.prog) (k := .u8) 25 5 Try.underlying25 hi hz1 A c l 4 (by omega) (by rw [HL.out]; decide) HC.out).1
    rw [show (4 : Int).toNat = 4 from rfl, show (l.take 4).length = 4 by rw [List.length_take, HL.out]; rfl] at hs4
    have cv4 : (convert 25 9 (.slice A 4 c)).run Try.prog w6.drew = .ok (.string (strOfNums (l.take 4))) w6.drew := by
      have := Kd.C_string (P := Try.prog) (A := A) (c := c) Try.underlying25 Try.underlying5 Try.underlying9 (Kd.C_take (m := 4) (Kd.C_drew hC6) (by rw [HL.out]; decide))
      rwa [show (l.take 4).length = 4 by rw [List.length_take, HL.out]; rfl] at this
    have hs28 := print_mid_int (P := Try.prog) (k := .u8) 25 5 Try.underlying25 hi hz1 A c l 32 60 (by omega) (by omega) (by rw [HL.out]; decide) HC.out
    obtain ⟨A', hm1, hm2, hm3⟩ := hs28
    have hp28 : Rd.part l 32 28 = (l.take (60 : Int).toNat).drop (32 : Int).toNat := rfl
    rw [← hp28] at hm1 hm2 hm3
    have hl28 : (Rd.part l 32 28).length = 28 := by rw [hp28, List.length_drop, List.length_take, HL.out]; rfl
    have hC28 : Kd.C (Kd.int .u8) w6 A' (Rd.part l 32 28).length (Rd.part l 32 28) := Kd.C_of_reads (enc := Value.int .u8) (d := (0 : Int)) (h1 := fun _ => rfl) (hm2 w6 (Kd.reads_of_C (enc := Value.int .u8) (d := (0 : Int)) (h1 := fun _ => rfl) hC6))
    rw [hl28] at hm1 hm3
    have hmk : ∀ W : World, (Instr.makeSlice 25 (.int .i64 28) (.int .i64 28)).run Try.prog W = .ok (.slice (some ⟨W.heap.size, 0, none⟩) 28 28) (W.alloc (.cells Rd.Z 5)) := print_make (P := Try.prog) 25 5 .u8 1 Try.underlying25 Rc.info5 (by decide) 28 (by decide)
    have g1 := blk_cell (blk_alloc HS6.out.1 (.cells Rd.Z 5)) 0
    have cv5 : (convert 25 9 (.slice A' 28 (c - 32))).run Try.prog w6.drew = .ok (.string (strOfNums (Rd.part l 32 28))) w6.drew := by
      have := Kd.C_string (P := Try.prog) (A := A') (c := c - 32) Try.underlying25 Try.underlying5 Try.underlying9 (Kd.C_drew hC28)
      rwa [hl28] at this
    have cv6 : (convert 25 9 (.slice A' 28 (c - 32))).run Try.prog (w6.alloc (.cells Rd.Z 5)).drew = .ok (.string (strOfNums (Rd.part l 32 28))) (w6.alloc (.cells Rd.Z 5)).drew := by
      have := Kd.C_string (P := Try.prog) (A := A') (c := c - 32) Try.underlying25 Try.underlying5 Try.underlying9 (Kd.C_alloc (Kd.C_drew hC28) (.cells Rd.Z 5))
      rwa [hl28] at this
    have cv7 : (convert 25 9 (.slice (some ⟨w6.heap.size, 0, none⟩) 28 28)).run Try.prog (w6.alloc (.cells Rd.Z 5)).drew = .ok (.string (strOfNums Rd.zeros)) (w6.alloc (.cells Rd.Z 5)).drew :=
      own_string Try.underlying25 Try.underlying5 Try.underlying9 (own_made w6.drew 0 5 .u8 28 (Nat.zero_le _) (by decide))
    clear hi hz0 hz1 hz2 hC6
    go_cut [25] (fun s25 wr => s25 = .bool false ∧ Aside0 (Rd.S w wr A c l))
    case first =>
      go_region
      all_goals (go_wp2_with fail; go_meet)
      all_goals exact ⟨by first | rfl | (show Value.bool (!((strOfNums (Rd.part l 32 28)).toList == (strOfNums Rd.zeros).toList)) = _; rw [m2]; rfl), ⟨Rd.s_step HS6.out (below_drew1 (below_alloc (Below.refl _ _) _))⟩⟩
    case rest =>
      obtain ⟨rfl, HS7⟩ := hcut
      clear HS6 g0 g1 cv4 cv5 cv6 cv7
      have HS6 := HS7
      clear HS7
      rename World => w7
      have r0 := blk_cell HS6.out.2.1 0
      have r1 := blk_cell HS6.out.2.1 1
      have r2 := blk_cell HS6.out.2.1 2
      have r3 := blk_cell HS6.out.2.1 3
      have f0 := blk_frozen HS6.out.2.1 0
      have f1 := blk_frozen HS6.out.2.1 1
      have f2 := blk_frozen HS6.out.2.1 2
      have f3 := blk_frozen HS6.out.2.1 3
      have q4 := Aside0.mk (show (0 : Int) ≤ 4 ∧ (0 : Int) ≤ 4 ∧ (4 : Int) + 4 ≤ l.length by have := HL.out; omega)
      have q8 := Aside0.mk (show (0 : Int) ≤ 8 ∧ (0 : Int) ≤ 8 ∧ (8 : Int) + 8 ≤ l.length by have := HL.out; omega)
      have q16 := Aside0.mk (show (0 : Int) ≤ 16 ∧ (0 : Int) ≤ 8 ∧ (16 : Int) + 8 ≤ l.length by have := HL.out; omega)
      have q24 := Aside0.mk (show (0 : Int) ≤ 24 ∧ (0 : Int) ≤ 8 ∧ (24 : Int) + 8 ≤ l.length by have := HL.out; omega)
      have hC7 := Aside0.mk HS6.out.2.2.1
      have b0 := Aside0.mk ((blk_cell HS6.out.1 0).trans rfl : w7.cell? ⟨w.heap.size, 0, none⟩ = some (.slice A l.length c))
      go_wp2_with (first
        | (go_at_call 53; (with_reducible refine (Rd.clo l 4 4 A c w.heap.size _ q4.out.1 q4.out.2.1 q4.out.2.2 hC7.out HC.out b0.out).mono ?_); rintro e w' ⟨rfl, rfl⟩)
        | (go_at_call 53; (with_reducible refine (Rd.clo l 8 8 A c w.heap.size _ q8.out.1 q8.out.2.1 q8.out.2.2 hC7.out HC.out b0.out).mono ?_); rintro e w' ⟨rfl, rfl⟩)
        | (go_at_call 53; (with_reducible refine (Rd.clo l 16 8 A c w.heap.size _ q16.out.1 q16.out.2.1 q16.out.2.2 hC7.out HC.out b0.out).mono ?_); rintro e w' ⟨rfl, rfl⟩)
        | (go_at_call 53; (with_reducible refine (Rd.clo l 24 8 A c w.heap.size _ q24.out.1 q24.out.2.1 q24.out.2.2 hC7.out HC.out b0.out).mono ?_); rintro e w' ⟨rfl, rfl⟩))
      refine bodyPost_ret (results_ct rfl _ _ (w.heap.size + 1) 24 #[.int .u32 (IntKind.u32.wrap (Rd.num (Rd.part l 4 4))), .int .i64 (wrap64 (Rd.num (Rd.part l 8 8))), .int .i64 (wrap64 (Rd.num (Rd.part l 16 8))), .int .i64 (wrap64 (Rd.num (Rd.part l 24 8)))] (0, 0) _ rfl (blk_set (blk_set (blk_set (blk_set HS6.out.2.1 0 _) 1 _) 2 _) 3 _) Try.underlying24 rfl (by kernel_rfl)) rfl ?_
      exact ⟨rfl, (((HS6.out.2.2.2.setCell (p := ⟨w.heap.size + 1, 0, none⟩) (Nat.le_succ _) _).setCell (p := ⟨w.heap.size + 1, 1, none⟩) (Nat.le_succ _) _).setCell (p := ⟨w.heap.size + 1, 2, none⟩) (Nat.le_succ _) _).setCell (p := ⟨w.heap.size + 1, 3, none⟩) (Nat.le_succ _) _⟩


theorem record_Decode.calls (A : Option Addr) (c : Nat) (l : List Int) (r1 r2 r3 r4 r5 : Int) (w : World) (hC : Kd.C (Kd.int .u8) w A l.length l) (hc : l.length ≤ c) (h : record_Decode.f l = some (r1, r2, r3, r4, r5)) :
    Calls Try.prog 14 #[.slice A l.length c] w fun e w' => e = .returned (.tuple #[.agg #[.int .u32 r1, .int .i64 r2, .int .i64 r3, .int .i64 r4], .int .i64 r5]) ∧ Below w.heap.size w w' := by
  have H := Option.some.inj h
  clear h
  unfold Rd.dec at H
  by_cases h1 : (l.length : Int) < 64
  · rw [if_pos h1] at H
    simp only [Prod.mk.injEq] at H
    obtain ⟨rfl, rfl, rfl, rfl, rfl⟩ := H
    exact Rd.short A c l w (decide_eq_true h1)
  rw [if_neg h1] at H
  by_cases h2 : 64 < (l.length : Int)
  · rw [if_pos h2] at H
    simp only [Prod.mk.injEq] at H
    obtain ⟨rfl, rfl, rfl, rfl, rfl⟩ := H
    exact Rd.long A c l w (decide_eq_false h1) (decide_eq_true h2)
  rw [if_neg h2] at H
  have hl : l.length = 64 := by omega
  by_cases h3 : Rd.num (Rd.part l 60 4) ≠ IntKind.u64.wrap (Cr.sum (l.take 60))
  · rw [if_pos h3] at H
    simp only [Prod.mk.injEq] at H
    obtain ⟨rfl, rfl, rfl, rfl, rfl⟩ := H
    exact Rd.sum A c l w hl hC hc (bne_iff_ne.mpr h3)
  rw [if_neg h3] at H
  have d : (Rd.num (Rd.part l 60 4) != IntKind.u64.wrap (Cr.sum (l.take 60))) = false := by simpa using h3
  cases m : ((strOfNums (l.take 4)).toList == [82, 77, 84, 82]) with
  | false =>
    rw [if_pos (show Rd.form l = false by unfold Rd.form; rw [m]; rfl)] at H
    simp only [Prod.mk.injEq] at H
    obtain ⟨rfl, rfl, rfl, rfl, rfl⟩ := H
    exact Rd.mark A c l w hl hC hc d m
  | true =>
    cases m2 : ((strOfNums (Rd.part l 32 28)).toList == (strOfNums Rd.zeros).toList) with
    | false =>
      rw [if_pos (show Rd.form l = false by unfold Rd.form; rw [m, m2]; rfl)] at H
      simp only [Prod.mk.injEq] at H
      obtain ⟨rfl, rfl, rfl, rfl, rfl⟩ := H
      exact Rd.blank A c l w hl hC hc d m m2
    | true =>
      rw [if_neg (show ¬ Rd.form l = false by unfold Rd.form; rw [m, m2]; decide)] at H
      simp only [Prod.mk.injEq] at H
      obtain ⟨rfl, rfl, rfl, rfl, rfl⟩ := H
      exact Rd.good A c l w hl hC hc d m m2
end Go.Proofs.Ytjldkgcabombhaa
