/- Opening of arguments: a struct of one-cell fields by value, cell by cell; what was read reads the same behind a call that leaves all that was there (no condition but those that stand in the statements). -/
import Derived.Lib.SmallJoins
import Derived.Carry
import Derived.ChangeOld
import Derived.ProofKit
import Derived.Deep.Slices
import Derived.Deep.Fields
import Derived.Test.YtjldkgcabombhaaProg
import Derived.Below
import Derived.Deep.Draws
import Derived.OwnWalk
import Derived.Tactics
import Derived.WalkKit
import Derived.WalkSpells
import Derived.WalkLawsBesides
import Derived.KernelRfl
import Derived.RowKit3
import Derived.Deep.LoopGhost
import Derived.Deep.QuietTactic
import Derived.BigQuiet
import Derived.WideLaws
import Derived.Deep.DeepCutAuto
import Derived.Deep.CutBlock
import Derived.Deep.RegionHeld3
import Derived.Lib.Hide
import Derived.IntWalk
import Derived.Outline
import Derived.Test.YtjldkgcabombhaaWWords
import Derived.Test.YtjldkgcabombhaaWLast
import Derived.Test.YtjldkgcabombhaaWMore
import Derived.Deep.AppendLies
import Derived.Maps.AppendAt
import Derived.Laws.BytesArg
import Derived.Laws.MakeOwn
import Derived.Laws.OwnMore
import Derived.Deep.OwnRows
import Derived.Lib.ConvBytes
import Derived.Laws.Slices
import Derived.Laws.Rows
import Derived.Lib.AppendStr
import Derived.ArgAppend
import Derived.Laws.IdiomCopy
import Derived.OrdersHeld
import Derived.Laws.BitsLemmas
import Derived.RowKit
import Derived.Test.YtjldkgcabombhaaWTab
import Derived.Test.YtjldkgcabombhaaWFour
import Derived.Test.YtjldkgcabombhaaWQPut
import Derived.Test.YtjldkgcabombhaaWApart
import Derived.Test.YtjldkgcabombhaaWArr
import Derived.Test.YtjldkgcabombhaaWZeros
import Derived.Test.YtjldkgcabombhaaWFoot
import Derived.Test.YtjldkgcabombhaaWKept
import Derived.Test.YtjldkgcabombhaaWShare
import Derived.Test.YtjldkgcabombhaaWN
import Derived.Test.YtjldkgcabombhaaWFootNe
import Derived.Test.YtjldkgcabombhaaWAt
import Derived.Test.YtjldkgcabombhaaWEqStruct
import Derived.Test.YtjldkgcabombhaaWRepsOne
import Derived.Test.YtjldkgcabombhaaWInv
import Derived.Test.YtjldkgcabombhaaWInvWords
import Derived.Test.YtjldkgcabombhaaWGuard
import Derived.Test.YtjldkgcabombhaaWNEv
import Derived.Lib.SlBytesConst
import Derived.Deep.RegionWith
import Derived.Lib.Bytes
import Derived.Laws.CopyRow
import Derived.OpenShut
import Derived.Deep.WholeRow
namespace Go.Proofs.Ytjldkgcabombhaa.Open
open Go.Joins Go.ChangeShapes Go.WideShapes Go.ChangeAt Go.RowKit Go.Deep
variable {H : Type} {enc : TypeId × Value → H} {P : Program} {w : World} {base : Nat} {spare : Nat → Bool} {held : Bool}

/-- A struct of one-cell fields: each field's cell, with its own reading. -/
theorem flat_struct {r : Reach} {b0 : Nat} {t : TypeId} {fs : Array Field} {v : Value} {d : DataW H} {p : List MemPlace}
    (hs : P.underlying t = some (.struct fs)) (hone : oneCellFields P fs = true) (hC : P.cellsOf t = fs.size)
    (hv : Value.okWide P w r b0 t v) (h : DataW.Trod enc P w base spare held t v d p) :
    ∃ cs : List Value, v = .agg cs.toArray ∧ cs.length = fs.size ∧
      ∀ (j : Nat) (f : Field), fs[j]? = some f → ∃ (c : Value) (n : Nat) (y : DataW H × List MemPlace), cs[j]? = some c ∧ DataW.trod enc P w base spare held n f.type [c] = some y := by
  obtain ⟨cs, rfl, hsz⟩ := okWide_struct hs hv
  obtain ⟨fuel, hf⟩ := h
  obtain ⟨xs, n, _, _, _, hlen, hg⟩ := DataW.trod_struct hs hf
  refine ⟨cs.toList, by simp, by rw [Array.length_toList]; omega, fun j f hj => ?_⟩
  obtain ⟨ho, hk⟩ := hone_of hone j f hj
  have hjl : j < fs.size := (Array.getElem?_eq_some_iff.1 hj).1
  have h1 := hg j f hj
  rw [ho, hk] at h1
  have hcs : (Value.cells (.agg cs)).toList = cs.toList := by simp [Value.cells]
  rw [hcs] at h1
  have hl : j < cs.toList.length := by rw [Array.length_toList]; omega
  have h2 : (cs.toList.drop j).take 1 = [cs.toList[j]] := by
    rw [List.drop_eq_getElem_cons hl]; rfl
  rw [h2, List.getElem?_eq_getElem (by omega)] at h1
  exact ⟨cs.toList[j], n, _, List.getElem?_eq_getElem hl, h1⟩

theorem int_cell {k : IntKind} {t : TypeId} {n : Nat} {c : Value} {y : DataW H × List MemPlace} (ht : P.underlying t = some (.int k))
    (h : DataW.trod enc P w base spare held n t [c] = some y) : ∃ a : Int, c = .int k a ∧ (Lit.int k a).wf = true := by
  obtain ⟨a, e, _, hw⟩ := DataW.trod_int ht h
  exact ⟨a, by simpa using e, hw⟩
theorem bool_cell {t : TypeId} {n : Nat} {c : Value} {y : DataW H × List MemPlace} (ht : P.underlying t = some .bool)
    (h : DataW.trod enc P w base spare held n t [c] = some y) : ∃ b : Bool, c = .bool b := by
  obtain ⟨b, e, _⟩ := DataW.trod_bool ht h
  exact ⟨b, by simpa using e⟩
theorem list_six {cs : List Value} {c0 c1 c2 c3 c4 c5 : Value} (hl : cs.length = 6) (h0 : cs[0]? = some c0) (h1 : cs[1]? = some c1) (h2 : cs[2]? = some c2) (h3 : cs[3]? = some c3) (h4 : cs[4]? = some c4) (h5 : cs[5]? = some c5) : cs = [c0, c1, c2, c3, c4, c5] := by
  match cs, hl with
  | [x0, x1, x2, x3, x4, x5], _ => simp at h0 h1 h2 h3 h4 h5; simp [h0, h1, h2, h3, h4, h5]
theorem list_four {cs : List Value} {c0 c1 c2 c3 : Value} (hl : cs.length = 4) (h0 : cs[0]? = some c0) (h1 : cs[1]? = some c1) (h2 : cs[2]? = some c2) (h3 : cs[3]? = some c3) : cs = [c0, c1, c2, c3] := by
  match cs, hl with
  | [x0, x1, x2, x3], _ => simp at h0 h1 h2 h3; simp [h0, h1, h2, h3]
theorem list_three {cs : List Value} {c0 c1 c2 : Value} (hl : cs.length = 3) (h0 : cs[0]? = some c0) (h1 : cs[1]? = some c1) (h2 : cs[2]? = some c2) : cs = [c0, c1, c2] := by
  match cs, hl with
  | [x0, x1, x2], _ => simp at h0 h1 h2; simp [h0, h1, h2]
theorem list_two {cs : List Value} {c0 c1 : Value} (hl : cs.length = 2) (h0 : cs[0]? = some c0) (h1 : cs[1]? = some c1) : cs = [c0, c1] := by
  match cs, hl with
  | [x0, x1], _ => simp at h0 h1; simp [h0, h1]
end Go.Proofs.Ytjldkgcabombhaa.Open

/- Contracts of the program's sum CRC, of its closure and of the range over it, walked by hand: they come to what the plain Lean functions here tell. -/
namespace Go.Proofs.Ytjldkgcabombhaa
open Go.RowKit Go.Proofs.YtjldkgcabombhaaW.PrintWords Go.Proofs.YtjldkgcabombhaaW.PrintLast Go.Proofs.YtjldkgcabombhaaW.PrintMore
set_option linter.unusedVariables false
set_option linter.unusedSimpArgs false

/-- One bit, and eight of them; a byte; a row of bytes. -/
def Cr.bit (c : Int) : Int := bits .xor .u32 (c / 2) (bits .and .u32 3988292384 (IntKind.u32.wrap (-bits .and .u32 c 1)))
def Cr.bitN (c : Int) : Nat → Int
  | 0 => c
  | n + 1 => Cr.bit (Cr.bitN c n)
def Cr.byte (c x : Int) : Int := Cr.bitN (bits .xor .u32 c (x % 4294967296)) 8
def Cr.fold (l : List Int) : Int := l.foldl Cr.byte 4294967295
def Cr.sum (l : List Int) : Int := bits .xor .u32 IntKind.u32.max (Cr.fold l)
def sums_CRC.f (l : List Int) : Option Int := some (Cr.sum l)

set_option maxHeartbeats 8000000 in
set_option maxRecDepth 100000 in
theorem Cr.clo (x c : Int) (b : Nat) (w : World) (hb : w.heap[b]? = some (.cells #[.int .u32 c] 22 (0, 0))) :
    Calls Try.prog 68 #[.int .u8 x, .pointer (some ⟨b, 0, none⟩)] w fun e w' => (∃ v, e = .returned v) ∧ w'.heap[b]? = some (.cells #[.int .u32 (Cr.byte c x)] 22 (0, 0)) ∧ Below b w w' := by
  have hk0 := blk_cell hb 0
  have j0 := blk_frozen hb 0
  have HB := Aside0.mk hb
  clear hb
  go_enter Try.func68, Try.ntmps68
  go_wp2
  go_loopw [7] (fun v7 wr => ∃ (i : Nat), v7 = .int .i64 i ∧ i ≤ 8 ∧ Aside0 (wr.heap[b]? = some (.cells #[.int .u32 (Cr.bitN (bits .xor .u32 c (x % 4294967296)) i)] 22 (0, 0))) ∧ Aside0 (Below b w wr)) (fun v7 _ => 8 - (intOf v7).toNat)
  case atStart => exact ⟨0, rfl, Nat.zero_le _, ⟨blk_set HB.out 0 _⟩, ⟨(Below.refl b w).setCell (p := ⟨b, 0, none⟩) (Nat.le_refl _) _⟩⟩
  case round =>
    obtain ⟨i, rfl, hi, HK, HW⟩ := hrel
    have g0 := blk_cell HK.out 0
    have f0 := blk_frozen HK.out 0
    by_cases hlt : i < 8
    · go_wp2
      go_roundw
      case rel => exact ⟨i + 1, by go_num, by omega, ⟨blk_set HK.out 0 _⟩, ⟨HW.out.setCell (p := ⟨b, 0, none⟩) (Nat.le_refl _) _⟩⟩
      case measure => simp [intOf]; omega
    · obtain rfl : i = 8 := by omega
      go_wp2
      go_end0
      exact ⟨⟨_, rfl⟩, HK.out, HW.out⟩

/-- What the rounds leave behind the first i bytes. -/
theorem Cr.take_snoc (l : List Int) (c : Int) (i : Nat) (h : i < l.length) : (l.take (i + 1)).foldl Cr.byte c = Cr.byte ((l.take i).foldl Cr.byte c) (rd l (i : Int)) := by
  rw [List.take_succ_eq_append_getElem h, List.foldl_append]
  unfold rd
  rw [Int.toNat_natCast, List.getD_eq_getElem?_getD, List.getElem?_eq_getElem h]
  rfl

set_option maxHeartbeats 8000000 in
set_option maxRecDepth 100000 in
theorem Cr.each (l : List Int) (c : Int) (A : Option Addr) (cp b : Nat) (w : World) (hC : Kd.C (Kd.int .u8) w A l.length l) (hA : ∀ wr, Below b w wr → Kd.C (Kd.int .u8) wr A l.length l) (hb : w.heap[b]? = some (.cells #[.int .u32 c] 22 (0, 0))) :
    Calls Try.prog 67 #[.slice A l.length cp, .func (.func 68) #[] #[.pointer (some ⟨b, 0, none⟩)]] w fun e w' => (∃ v, e = .returned v) ∧ w'.heap[b]? = some (.cells #[.int .u32 (l.foldl Cr.byte c)] 22 (0, 0)) ∧ Below b w w' := by
  have HB := Aside0.mk hb
  have HA := Aside0.mk hA
  have hm : (l.length : Int) ≤ 9223372036854775807 := by have := hC.2.1; omega
  clear hb hA hC
  go_enter Try.func67, Try.ntmps67
  go_wp2
  go_loopw [8] (fun v8 wr => ∃ (i : Nat), v8 = .int .i64 i ∧ Aside0 (i ≤ l.length) ∧ Aside0 (wr.heap[b]? = some (.cells #[.int .u32 ((l.take i).foldl Cr.byte c)] 22 (0, 0))) ∧ Aside0 (Below b w wr)) (fun v8 _ => l.length - (intOf v8).toNat)
  case atStart => exact ⟨0, rfl, ⟨Nat.zero_le _⟩, HB, ⟨Below.refl b w⟩⟩
  case round =>
    obtain ⟨i, rfl, HI, HK, HW⟩ := hrel
    by_cases hlt : i < l.length
    · have p0 : 0 ≤ ((i : Nat) : Int) := Int.natCast_nonneg _
      have q0 : ((i : Nat) : Int) < (l.length : Int) := by omega
      obtain ⟨ad, e, hx⟩ := Kd.at_int (HA.out wr HW.out) (i : Int) p0 q0
      cases e
      simp only [Int.toNat_natCast] at hx
      have HTS := Aside0.mk (Cr.take_snoc l c i hlt)
      have HLT := Aside0.mk hlt
      clear hlt
      go_wp2_with (go_at_call 68; (with_reducible refine (Cr.clo (rd l (i : Int)) _ b _ HK.out).mono ?_)
                   rintro e w2 ⟨⟨v, rfl⟩, hk2, hb2⟩
                   have HK2 := Aside0.mk hk2
                   have HW2 := Aside0.mk (HW.out.trans hb2)
                   clear hk2 hb2)
      go_roundw
      case rel => exact ⟨i + 1, by go_num, ⟨HLT.out⟩, ⟨by rw [HTS.out]; exact HK2.out⟩, HW2⟩
      case measure => have := HLT.out; simp [intOf]; omega
    · have HE := Aside0.mk (show l.take i = l from List.take_of_length_le (by omega))
      have q0 : ¬ ((i : Nat) : Int) < (l.length : Int) := by omega
      go_wp2
      go_end0
      exact ⟨⟨_, rfl⟩, by rw [← HE.out]; exact HK.out, HW.out⟩

set_option maxHeartbeats 8000000 in
set_option maxRecDepth 100000 in
theorem sums_CRC.calls (A : Option Addr) (cp : Nat) (l : List Int) (r : Int) (w : World) (hr0 : Kd.C (Kd.int .u8) w A l.length l) (hc0 : l.length ≤ cp) (h : sums_CRC.f l = some r) :
    Calls Try.prog 52 #[.slice A l.length cp] w fun e w' => e = .returned (.int .u32 r) ∧ Below w.heap.size w w' := by
  obtain rfl := Option.some.inj h
  have HC := Aside0.mk hr0
  clear h hr0 hc0
  have hmf : ∀ (fn : Fn) (first cap : Array Value) (w : World), (Instr.makeFunc fn first cap).run Try.prog w = .ok (.func fn first cap) w := fun _ _ _ _ => rfl
  go_enter Try.func52, Try.ntmps52
  go_wp2_with (go_at_call 67; (refine (Cr.each l 4294967295 A cp w.heap.size _ ?h1 ?h2 ?h3).mono ?_)
               (case h1 => exact Kd.C_alloc HC.out _)
               (case h2 => exact fun wr hb => Kd.C_below HC.out ((below_alloc (Below.refl w.heap.size w) _).trans hb))
               (case h3 => exact blk_new _ _)
               rintro e w1 ⟨⟨v, rfl⟩, hk, hb⟩
               have hk0 := blk_cell hk 0
               have j0 := blk_frozen hk 0
               have HB := Aside0.mk ((below_alloc (Below.refl w.heap.size w) _).trans hb)
               clear hk hb)
  trace_state
  go_ret
  exact ⟨rfl, HB.out⟩
end Go.Proofs.Ytjldkgcabombhaa

/- Written by a program of this session: Go functions as Lean functions, and proofs that each Go function comes to what its Lean function tells, where that tells something (a row: the Go law of its name answers true at every input). -/
namespace Go.Proofs.Ytjldkgcabombhaa.QJ
open Go.RowKit Go.Proofs.YtjldkgcabombhaaW.PrintWords Go.Proofs.YtjldkgcabombhaaW.PrintLast Go.Proofs.YtjldkgcabombhaaW.PrintMore
attribute [local go_sem] max2_int min2_int max_two min_two max_three min_three max_four min_four   -- for this text's walks alone
set_option linter.unusedVariables false
set_option linter.unusedSimpArgs false



def errW : Option Int → Value
  | none => .nilIface
  | some c => .iface 0 (.int .i64 c)
theorem errW_none : errW none = .nilIface := rfl
theorem errW_some (c : Int) : errW (some c) = .iface 0 (.int .i64 c) := rfl

theorem info5 : (Try.prog.info? 5).map (fun i => (i.zero, i.size, i.bytes)) = some (some (.int .u8 0), 1, 1) := by kernel_rfl
-- the values' own types

end Go.Proofs.Ytjldkgcabombhaa.QJ

/- Written by a program of this session: Go functions as Lean functions, and proofs that each Go function comes to what its Lean function tells, where that tells something (a row: the Go law of its name answers true at every input). -/
namespace Go.Proofs.Ytjldkgcabombhaa.QJ
open Go.RowKit Go.Proofs.YtjldkgcabombhaaW.PrintWords Go.Proofs.YtjldkgcabombhaaW.PrintLast Go.Proofs.YtjldkgcabombhaaW.PrintMore
attribute [local go_sem] max2_int min2_int max_two min_two max_three min_three max_four min_four   -- for this text's walks alone
set_option linter.unusedVariables false
set_option linter.unusedSimpArgs false

/-! ### remontoireref07_CRC: function 55 -/
def remontoireref07_CRC.l0 : Nat → List Int → Int → Int → Option (Int)
  | 0, _, _, _ => none
  | k + 1, x0, x3, x4 => if x4 < (wrap64 ((x0.length : Int) * 8)) then (if 0 ≤ (wrap64 (Int.tdiv x4 8)) then (if (wrap64 (Int.tdiv x4 8)) < (x0.length : Int) then (if 0 ≤ (IntKind.u64.wrap (Int.tmod x4 8)) then (if (shl .u32 1 (IntKind.u64.wrap (Int.tmod x4 8))) = 0 then (none) else (if (Int.tmod x3 2) = (((((rd x0 (wrap64 (Int.tdiv x4 8))) % 4294967296) / (shl .u32 1 (IntKind.u64.wrap (Int.tmod x4 8)))) % 4294967296) % 2) then (remontoireref07_CRC.l0 k x0 ((Int.tdiv x3 2) % 4294967296) (wrap64 (x4 + 1))) else (remontoireref07_CRC.l0 k x0 (Go.bits .xor .u32 ((Int.tdiv x3 2) % 4294967296) 3988292384) (wrap64 (x4 + 1))))) else (none)) else (none)) else (none)) else (some ((4294967295 - x3) % 4294967296))
def remontoireref07_CRC.f (k : Nat) (l0 : List Int) : Option (Int) := remontoireref07_CRC.l0 k l0 4294967295 0
theorem remontoireref07_CRC.mono_l : ∀ k, (∀ y0 y1 y2, LeO (remontoireref07_CRC.l0 k y0 y1 y2) (remontoireref07_CRC.l0 (k + 1) y0 y1 y2))
  | 0 => fun _ _ _ r h => by simp [remontoireref07_CRC.l0] at h
  | k + 1 => by
    have ih0 := remontoireref07_CRC.mono_l k
    · intro y0 y1 y2
      unfold remontoireref07_CRC.l0
      repeat' first
      | (with_reducible exact ih0 _ _ _)
      | (with_reducible exact LeO.refl _)
      | (with_reducible exact LeO.none _)
      | (with_reducible refine LeO.ite ?_ ?_)
      | (with_reducible refine LeO.bind ?_ (fun _ => ?_))
      | exact ih0 _ _ _
      | exact LeO.none _
      | refine LeO.ite ?_ ?_
      | refine LeO.bind ?_ (fun _ => ?_)
theorem remontoireref07_CRC.mono : ∀ a0 k, LeO (remontoireref07_CRC.f k a0) (remontoireref07_CRC.f (k + 1) a0) := by
  intro a0 k
  have ih0 := remontoireref07_CRC.mono_l k
  unfold remontoireref07_CRC.f
  repeat' first
      | (with_reducible exact ih0 _ _ _)
      | (with_reducible exact LeO.refl _)
      | (with_reducible exact LeO.none _)
      | (with_reducible refine LeO.ite ?_ ?_)
      | (with_reducible refine LeO.bind ?_ (fun _ => ?_))
      | exact ih0 _ _ _
      | exact LeO.none _
      | refine LeO.ite ?_ ?_
      | refine LeO.bind ?_ (fun _ => ?_)
set_option maxHeartbeats 8000000 in
set_option maxRecDepth 100000 in
theorem remontoireref07_CRC.calls (k : Nat) (A0 : Option Addr) (c0 : Nat) (l0 : List Int) (r : Int) (w : World) (hr0 : Kd.C (Kd.int .u8) w A0 l0.length l0) (hc0 : l0.length ≤ c0) (h : remontoireref07_CRC.f k l0 = some r) :
    Calls Try.prog 55 #[.slice A0 l0.length c0] w fun e w' => e = .returned (.int .u32 r) ∧ Drawn0 w w' := by
  have HR0 := Aside0.mk hr0
  have HC0 := Aside0.mk hc0
  clear hr0 hc0
  have H : (remontoireref07_CRC.l0 k l0 4294967295 0) = some r := h
  clear h
  have H' := Aside0.mk H
  clear H
  go_enter Try.func55, Try.ntmps55
  go_wp2
  go_loopg [3, 4] k (fun kq v3 v4 w' => ∃ (x3_1 : Int) (x4_1 : Int), v3 = .int .u32 x3_1 ∧ v4 = .int .i64 x4_1 ∧ Aside0 (remontoireref07_CRC.l0 kq l0 x3_1 x4_1 = some r) ∧ Aside0 (kq ≤ k) ∧ Drawn0 w w')
  case atStart => exact ⟨(4294967295), (0), (by first | rfl | (simp; done) | (simp [*]; done)), (by first | rfl | (simp; done) | (simp [*]; done)), H', ⟨Nat.le_refl _⟩, by repeat (first | exact Drawn0.refl _ | apply Drawn0.step)⟩
  case round =>
    clear H'
    obtain ⟨x3_1, x4_1, rfl, rfl, HA, HK1, ⟨m1, rfl⟩⟩ := hrel
    cases gk with
    | zero => exact absurd HA.out (by simp [remontoireref07_CRC.l0])
    | succ k1 =>
      have H := HA.out
      clear HA
      simp only [remontoireref07_CRC.l0] at H
      by_cases c2 : x4_1 < (wrap64 ((l0.length : Int) * 8))
      · rw [if_pos c2] at H
        have c2b0 : decide (x4_1 < (wrap64 ((l0.length : Int) * 8))) = true := decide_eq_true c2
        clear c2
        obtain ⟨ji3, hji3⟩ : ∃ j_ : Int, (wrap64 (Int.tdiv x4_1 8)) = j_ := ⟨_, rfl⟩
        replace H : (if 0 ≤ (ji3) then (if (ji3) < (l0.length : Int) then (if 0 ≤ (IntKind.u64.wrap (Int.tmod x4_1 8)) then (if (shl .u32 1 (IntKind.u64.wrap (Int.tmod x4_1 8))) = 0 then (none) else (if (Int.tmod x3_1 2) = (((((rd l0 (ji3)) % 4294967296) / (shl .u32 1 (IntKind.u64.wrap (Int.tmod x4_1 8)))) % 4294967296) % 2) then (remontoireref07_CRC.l0 k1 l0 ((Int.tdiv x3_1 2) % 4294967296) (wrap64 (x4_1 + 1))) else (remontoireref07_CRC.l0 k1 l0 (Go.bits .xor .u32 ((Int.tdiv x3_1 2) % 4294967296) 3988292384) (wrap64 (x4_1 + 1))))) else (none)) else (none)) else (none)) = some r := by first | (rw [hji3] at H; exact H) | (simp only [hji3] at H ⊢; exact H)
        have hji3w : (IntKind.i64.wrap (Int.tdiv x4_1 8)) = ji3 := (i64_w _).trans hji3
        by_cases c4 : 0 ≤ (ji3)
        · rw [if_pos c4] at H
          have c4b0 : decide (0 ≤ (ji3)) = true := decide_eq_true c4
          clear c4
          by_cases c5 : (ji3) < (l0.length : Int)
          · rw [if_pos c5] at H
            have c5b0 : decide ((ji3) < (l0.length : Int)) = true := decide_eq_true c5
            clear c5
            obtain ⟨ji6, hji6⟩ : ∃ j_ : Int, (IntKind.u64.wrap (Int.tmod x4_1 8)) = j_ := ⟨_, rfl⟩
            replace H : (if 0 ≤ (ji6) then (if (shl .u32 1 (ji6)) = 0 then (none) else (if (Int.tmod x3_1 2) = (((((rd l0 (ji3)) % 4294967296) / (shl .u32 1 (ji6))) % 4294967296) % 2) then (remontoireref07_CRC.l0 k1 l0 ((Int.tdiv x3_1 2) % 4294967296) (wrap64 (x4_1 + 1))) else (remontoireref07_CRC.l0 k1 l0 (Go.bits .xor .u32 ((Int.tdiv x3_1 2) % 4294967296) 3988292384) (wrap64 (x4_1 + 1))))) else (none)) = some r := by first | (rw [hji6] at H; exact H) | (simp only [hji6] at H ⊢; exact H)
            by_cases c7 : 0 ≤ (ji6)
            · rw [if_pos c7] at H
              have c7b0 := eq_true c7
              have c7b1 : decide (0 ≤ (ji6)) = true := decide_eq_true c7
              clear c7
              obtain ⟨ji8, hji8⟩ : ∃ j_ : Int, (shl .u32 1 (ji6)) = j_ := ⟨_, rfl⟩
              replace H : (if (ji8) = 0 then (none) else (if (Int.tmod x3_1 2) = (((((rd l0 (ji3)) % 4294967296) / (ji8)) % 4294967296) % 2) then (remontoireref07_CRC.l0 k1 l0 ((Int.tdiv x3_1 2) % 4294967296) (wrap64 (x4_1 + 1))) else (remontoireref07_CRC.l0 k1 l0 (Go.bits .xor .u32 ((Int.tdiv x3_1 2) % 4294967296) 3988292384) (wrap64 (x4_1 + 1))))) = some r := by first | (rw [hji8] at H; exact H) | (simp only [hji8] at H ⊢; exact H)
              have hji8_ : (IntKind.u32.wrap (1 * 2 ^ min (ji6).toNat 32)) = ji8 := hji8
              have hji8z : (ji6) ≤ 32 → (IntKind.u32.wrap (1 * 2 ^ (ji6).toNat)) = ji8 := shl_small hji8
              have hji8u : (IntKind.u32.wrap (2 ^ min (ji6).toNat 32)) = ji8 := by have h_ := hji8_; rw [Int.one_mul] at h_; exact h_
              have hji8v : (ji6) ≤ 32 → (IntKind.u32.wrap (2 ^ (ji6).toNat)) = ji8 := fun hle_ => by have h_ := hji8z hle_; rw [Int.one_mul] at h_; exact h_
              by_cases c9 : (ji8) = 0
              · rw [if_pos c9] at H
                exact absurd H (by simp)
              · rw [if_neg c9] at H
                have c9b0 : ((ji8) == 0) = false := beq_eq_false_iff_ne.mpr c9
                have c9b1 : ((ji8) != 0) = true := bne_iff_ne.mpr c9
                by_cases c10 : (Int.tmod x3_1 2) = (((((rd l0 (ji3)) % 4294967296) / (ji8)) % 4294967296) % 2)
                · rw [if_pos c10] at H
                  have c10b0 : ((Int.tmod x3_1 2) == (((((rd l0 (ji3)) % 4294967296) / (ji8)) % 4294967296) % 2)) = true := beq_iff_eq.mpr c10
                  have c10b1 : ((Int.tmod x3_1 2) != (((((rd l0 (ji3)) % 4294967296) / (ji8)) % 4294967296) % 2)) = false := bne_eq_false_iff_eq.mpr c10
                  have hdv_ : (Int.tdiv ((rd l0 (ji3)) % 4294967296) (ji8)) = ((rd l0 (ji3)) % 4294967296) / (ji8) := Int.tdiv_eq_ediv_of_nonneg (Int.emod_nonneg _ (by decide))
                  have hmm_ : (((rd l0 (ji3)) % 4294967296) / (ji8)) % 4294967296 % 2 = (((rd l0 (ji3)) % 4294967296) / (ji8)) % 2 := by omega
                  have c10q0 : ((Int.tmod x3_1 2) == ((((rd l0 (ji3)) % 4294967296) / (ji8)) % 2)) = true := by rw [← hmm_]; exact c10b0
                  have c10r0 : ((Int.tmod x3_1 2) != ((((rd l0 (ji3)) % 4294967296) / (ji8)) % 2)) = false := by rw [← hmm_]; exact c10b1
                  have c10q1 : ((Int.tmod x3_1 2) == (((Int.tdiv ((rd l0 (ji3)) % 4294967296) (ji8))) % 2)) = true := by rw [hdv_, ← hmm_]; exact c10b0
                  have c10r1 : ((Int.tmod x3_1 2) != (((Int.tdiv ((rd l0 (ji3)) % 4294967296) (ji8))) % 2)) = false := by rw [hdv_, ← hmm_]; exact c10b1
                  clear hdv_ hmm_
                  clear c10
                  have H' := Aside0.mk H
                  clear H
                  have p101 : 0 ≤ ((ji3) : Int) := of_decide_eq_true (by first | (with_reducible assumption) | assumption)
                  have q101 : (ji3) < (l0.length : Int) := of_decide_eq_true (by first | (with_reducible assumption) | assumption)
                  obtain ⟨ad101, e101, hx101_0⟩ := Kd.at_int HR0.out (ji3) p101 q101
                  cases e101
                  replace p101 := eq_true p101
                  replace q101 := eq_true q101
                  go_wp2
                  go_roundg k1
                  case measure => have := HK1.out; omega
                  case rel => exact ⟨((Int.tdiv x3_1 2) % 4294967296), (wrap64 (x4_1 + 1)), (by first | rfl | (simp; done) | (simp [*]; done)), (by first | rfl | (simp; done) | (simp [*]; done)), H', ⟨by have := HK1.out; omega⟩, by repeat (first | exact Drawn0.refl _ | apply Drawn0.step)⟩
                · rw [if_neg c10] at H
                  have c10b0 : ((Int.tmod x3_1 2) == (((((rd l0 (ji3)) % 4294967296) / (ji8)) % 4294967296) % 2)) = false := beq_eq_false_iff_ne.mpr c10
                  have c10b1 : ((Int.tmod x3_1 2) != (((((rd l0 (ji3)) % 4294967296) / (ji8)) % 4294967296) % 2)) = true := bne_iff_ne.mpr c10
                  have hdv_ : (Int.tdiv ((rd l0 (ji3)) % 4294967296) (ji8)) = ((rd l0 (ji3)) % 4294967296) / (ji8) := Int.tdiv_eq_ediv_of_nonneg (Int.emod_nonneg _ (by decide))
                  have hmm_ : (((rd l0 (ji3)) % 4294967296) / (ji8)) % 4294967296 % 2 = (((rd l0 (ji3)) % 4294967296) / (ji8)) % 2 := by omega
                  have c10q0 : ((Int.tmod x3_1 2) == ((((rd l0 (ji3)) % 4294967296) / (ji8)) % 2)) = false := by rw [← hmm_]; exact c10b0
                  have c10r0 : ((Int.tmod x3_1 2) != ((((rd l0 (ji3)) % 4294967296) / (ji8)) % 2)) = true := by rw [← hmm_]; exact c10b1
                  have c10q1 : ((Int.tmod x3_1 2) == (((Int.tdiv ((rd l0 (ji3)) % 4294967296) (ji8))) % 2)) = false := by rw [hdv_, ← hmm_]; exact c10b0
                  have c10r1 : ((Int.tmod x3_1 2) != (((Int.tdiv ((rd l0 (ji3)) % 4294967296) (ji8))) % 2)) = true := by rw [hdv_, ← hmm_]; exact c10b1
                  clear hdv_ hmm_
                  have H' := Aside0.mk H
                  clear H
                  have p101 : 0 ≤ ((ji3) : Int) := of_decide_eq_true (by first | (with_reducible assumption) | assumption)
                  have q101 : (ji3) < (l0.length : Int) := of_decide_eq_true (by first | (with_reducible assumption) | assumption)
                  obtain ⟨ad101, e101, hx101_0⟩ := Kd.at_int HR0.out (ji3) p101 q101
                  cases e101
                  replace p101 := eq_true p101
                  replace q101 := eq_true q101
                  go_wp2
                  go_roundg k1
                  case measure => have := HK1.out; omega
                  case rel => exact ⟨(Go.bits .xor .u32 ((Int.tdiv x3_1 2) % 4294967296) 3988292384), (wrap64 (x4_1 + 1)), (by first | rfl | (simp; done) | (simp [*]; done)), (by first | rfl | (simp; done) | (simp [*]; done)), H', ⟨by have := HK1.out; omega⟩, by repeat (first | exact Drawn0.refl _ | apply Drawn0.step)⟩
            · rw [if_neg c7] at H
              exact absurd H (by simp)
          · rw [if_neg c5] at H
            exact absurd H (by simp)
        · rw [if_neg c4] at H
          exact absurd H (by simp)
      · rw [if_neg c2] at H
        have c2b0 : decide (x4_1 < (wrap64 ((l0.length : Int) * 8))) = false := decide_eq_false c2
        clear c2
        obtain rfl := Option.some.inj H
        go_wp2
        go_ret
        exact ⟨by first | rfl | (simp; done) | (simp [*]; done), by repeat (first | exact Drawn0.refl _ | apply Drawn0.step)⟩

/-! ### remontoireref26_number: function 56 -/
def remontoireref26_number.l0 : Nat → List Int → Int → Int → Option (Int)
  | 0, _, _, _ => none
  | k + 1, x0, x3, x4 => if x4 < (x0.length : Int) then (if 0 ≤ x4 then (remontoireref26_number.l0 k x0 (IntKind.u64.wrap ((IntKind.u64.wrap (x3 * 256)) + (IntKind.u64.wrap (rd x0 x4)))) (wrap64 (x4 + 1))) else (none)) else (some x3)
def remontoireref26_number.f (k : Nat) (l0 : List Int) : Option (Int) := remontoireref26_number.l0 k l0 0 0
theorem remontoireref26_number.mono_l : ∀ k, (∀ y0 y1 y2, LeO (remontoireref26_number.l0 k y0 y1 y2) (remontoireref26_number.l0 (k + 1) y0 y1 y2))
  | 0 => fun _ _ _ r h => by simp [remontoireref26_number.l0] at h
  | k + 1 => by
    have ih0 := remontoireref26_number.mono_l k
    · intro y0 y1 y2
      unfold remontoireref26_number.l0
      repeat' first
      | (with_reducible exact ih0 _ _ _)
      | (with_reducible exact LeO.refl _)
      | (with_reducible exact LeO.none _)
      | (with_reducible refine LeO.ite ?_ ?_)
      | (with_reducible refine LeO.bind ?_ (fun _ => ?_))
      | exact ih0 _ _ _
      | exact LeO.none _
      | refine LeO.ite ?_ ?_
      | refine LeO.bind ?_ (fun _ => ?_)
theorem remontoireref26_number.mono : ∀ a0 k, LeO (remontoireref26_number.f k a0) (remontoireref26_number.f (k + 1) a0) := by
  intro a0 k
  have ih0 := remontoireref26_number.mono_l k
  unfold remontoireref26_number.f
  repeat' first
      | (with_reducible exact ih0 _ _ _)
      | (with_reducible exact LeO.refl _)
      | (with_reducible exact LeO.none _)
      | (with_reducible refine LeO.ite ?_ ?_)
      | (with_reducible refine LeO.bind ?_ (fun _ => ?_))
      | exact ih0 _ _ _
      | exact LeO.none _
      | refine LeO.ite ?_ ?_
      | refine LeO.bind ?_ (fun _ => ?_)
set_option maxHeartbeats 8000000 in
set_option maxRecDepth 100000 in
theorem remontoireref26_number.calls (k : Nat) (A0 : Option Addr) (c0 : Nat) (l0 : List Int) (r : Int) (w : World) (hr0 : Kd.C (Kd.int .u8) w A0 l0.length l0) (hc0 : l0.length ≤ c0) (h : remontoireref26_number.f k l0 = some r) :
    Calls Try.prog 56 #[.slice A0 l0.length c0] w fun e w' => e = .returned (.int .u64 r) ∧ Drawn0 w w' := by
  have HR0 := Aside0.mk hr0
  have HC0 := Aside0.mk hc0
  clear hr0 hc0
  have H : (remontoireref26_number.l0 k l0 0 0) = some r := h
  clear h
  have H' := Aside0.mk H
  clear H
  go_enter Try.func56, Try.ntmps56
  go_wp2
  go_loopg [3, 4] k (fun kq v3 v4 w' => ∃ (x3_1 : Int) (x4_1 : Int), v3 = .int .u64 x3_1 ∧ v4 = .int .i64 x4_1 ∧ Aside0 (remontoireref26_number.l0 kq l0 x3_1 x4_1 = some r) ∧ Aside0 (kq ≤ k) ∧ Drawn0 w w')
  case atStart => exact ⟨(0), (0), (by first | rfl | (simp; done) | (simp [*]; done)), (by first | rfl | (simp; done) | (simp [*]; done)), H', ⟨Nat.le_refl _⟩, by repeat (first | exact Drawn0.refl _ | apply Drawn0.step)⟩
  case round =>
    clear H'
    obtain ⟨x3_1, x4_1, rfl, rfl, HA, HK1, ⟨m1, rfl⟩⟩ := hrel
    cases gk with
    | zero => exact absurd HA.out (by simp [remontoireref26_number.l0])
    | succ k1 =>
      have H := HA.out
      clear HA
      simp only [remontoireref26_number.l0] at H
      by_cases c2 : x4_1 < (l0.length : Int)
      · rw [if_pos c2] at H
        have c2b0 : decide (x4_1 < (l0.length : Int)) = true := decide_eq_true c2
        clear c2
        by_cases c3 : 0 ≤ x4_1
        · rw [if_pos c3] at H
          have c3b0 : decide (0 ≤ x4_1) = true := decide_eq_true c3
          clear c3
          have H' := Aside0.mk H
          clear H
          have p102 : 0 ≤ (x4_1 : Int) := of_decide_eq_true (by first | (with_reducible assumption) | assumption)
          have q102 : x4_1 < (l0.length : Int) := of_decide_eq_true (by first | (with_reducible assumption) | assumption)
          obtain ⟨ad102, e102, hx102_0⟩ := Kd.at_int HR0.out x4_1 p102 q102
          cases e102
          replace p102 := eq_true p102
          replace q102 := eq_true q102
          go_wp2
          go_roundg k1
          case measure => have := HK1.out; omega
          case rel => exact ⟨(IntKind.u64.wrap ((IntKind.u64.wrap (x3_1 * 256)) + (IntKind.u64.wrap (rd l0 x4_1)))), (wrap64 (x4_1 + 1)), (by first | rfl | (simp; done) | (simp [*]; done)), (by first | rfl | (simp; done) | (simp [*]; done)), H', ⟨by have := HK1.out; omega⟩, by repeat (first | exact Drawn0.refl _ | apply Drawn0.step)⟩
        · rw [if_neg c3] at H
          exact absurd H (by simp)
      · rw [if_neg c2] at H
        have c2b0 : decide (x4_1 < (l0.length : Int)) = false := decide_eq_false c2
        clear c2
        obtain rfl := Option.some.inj H
        go_wp2
        go_ret
        exact ⟨by first | rfl | (simp; done) | (simp [*]; done), by repeat (first | exact Drawn0.refl _ | apply Drawn0.step)⟩

/-! ### remontoireref26_bytes: function 54 -/
def remontoireref26_bytes.l0 : Nat → Int → List Int → Int → Option (List Int)
  | 0, _, _, _ => none
  | k + 1, x0, x5, x6 => if x6 ≥ 0 then (if 0 ≤ x6 then (if x6 < (x5.length : Int) then (remontoireref26_bytes.l0 k (IntKind.u64.wrap (Int.tdiv x0 256)) (x5.set (x6 : Int).toNat ((Int.tmod x0 256) % 256)) (wrap64 (x6 - 1))) else (none)) else (none)) else (some x5)
def remontoireref26_bytes.f (k : Nat) (a0 : Int) (a1 : Int) : Option (List Int) := if 0 ≤ a1 then (if (a1 : Int).toNat ≤ 281474976710656 then (remontoireref26_bytes.l0 k a0 (List.replicate (a1 : Int).toNat 0) (wrap64 (a1 - 1))) else (none)) else (none)
theorem remontoireref26_bytes.mono_l : ∀ k, (∀ y0 y1 y2, LeO (remontoireref26_bytes.l0 k y0 y1 y2) (remontoireref26_bytes.l0 (k + 1) y0 y1 y2))
  | 0 => fun _ _ _ r h => by simp [remontoireref26_bytes.l0] at h
  | k + 1 => by
    have ih0 := remontoireref26_bytes.mono_l k
    · intro y0 y1 y2
      unfold remontoireref26_bytes.l0
      repeat' first
      | (with_reducible exact ih0 _ _ _)
      | (with_reducible exact LeO.refl _)
      | (with_reducible exact LeO.none _)
      | (with_reducible refine LeO.ite ?_ ?_)
      | (with_reducible refine LeO.bind ?_ (fun _ => ?_))
      | exact ih0 _ _ _
      | exact LeO.none _
      | refine LeO.ite ?_ ?_
      | refine LeO.bind ?_ (fun _ => ?_)
theorem remontoireref26_bytes.mono : ∀ a0 a1 k, LeO (remontoireref26_bytes.f k a0 a1) (remontoireref26_bytes.f (k + 1) a0 a1) := by
  intro a0 a1 k
  have ih0 := remontoireref26_bytes.mono_l k
  unfold remontoireref26_bytes.f
  repeat' first
      | (with_reducible exact ih0 _ _ _)
      | (with_reducible exact LeO.refl _)
      | (with_reducible exact LeO.none _)
      | (with_reducible refine LeO.ite ?_ ?_)
      | (with_reducible refine LeO.bind ?_ (fun _ => ?_))
      | exact ih0 _ _ _
      | exact LeO.none _
      | refine LeO.ite ?_ ?_
      | refine LeO.bind ?_ (fun _ => ?_)
set_option maxHeartbeats 8000000 in
set_option maxRecDepth 100000 in
theorem remontoireref26_bytes.calls (k : Nat) (a0 : Int) (a1 : Int) (r : List Int) (w : World) (h : remontoireref26_bytes.f k a0 a1 = some r) :
    Calls Try.prog 54 #[.int .u64 a0, .int .i64 a1] w fun e w' => ∃ v0_ : Value, e = .returned (v0_) ∧ Kd.R (Kd.int .u8) 5 w' w.heap.size (fun _ => True) v0_ r ∧ Below w.heap.size w w' := by
  have HB := Aside0.mk (Below.refl w.heap.size w)
  have H : (if 0 ≤ a1 then (if (a1 : Int).toNat ≤ 281474976710656 then (remontoireref26_bytes.l0 k a0 (List.replicate (a1 : Int).toNat 0) (wrap64 (a1 - 1))) else (none)) else (none)) = some r := h
  clear h
  by_cases c3 : 0 ≤ a1
  · rw [if_pos c3] at H
    have c3b0 := eq_true c3
    have c3b1 : decide (0 ≤ a1) = true := decide_eq_true c3
    clear c3
    by_cases c4 : (a1 : Int).toNat ≤ 281474976710656
    · rw [if_pos c4] at H
      have c4b0 := eq_true c4
      have c4b1 : decide ((a1 : Int).toNat ≤ 281474976710656) = true := decide_eq_true c4
      clear c4
      obtain ⟨y103, hy103⟩ : ∃ y_ : List Int, y_ = (List.replicate (a1 : Int).toNat 0) := ⟨_, rfl⟩
      replace H : (remontoireref26_bytes.l0 k a0 y103 (wrap64 (a1 - 1))) = some r := by first | (rw [hy103]; with_reducible exact H) | (have H2_ := (Option.bind_some _ _).symm.trans H; rw [hy103]; with_reducible exact H2_) | (have H2_ := (Option.bind_some _ _).symm.trans H; with_reducible exact H2_) | with_reducible exact H | (rw [hy103]; exact H) | exact H
      have Ny103 := Aside0.mk hy103
      clear hy103
      have H' := Aside0.mk H
      clear H
      go_enter Try.func54, Try.ntmps54
      go_wp2_with (first | ((with_reducible refine gate_dst (N := 8) rfl ?_); refine Kd.R_make (Kd.int .u8) _ 5 rfl (N := 8) rfl 25 _ _ rfl a1 rfl rfl Try.underlying25 (.int .u8 0) 1 info5 rfl (by decide) (by omega) 0 (ok := fun _ => True) (okp := fun _ => True) rfl (fun _ hk => hk) trivial (of_decide_eq_true (by first | (with_reducible assumption) | assumption)) (Nat.le_trans (Nat.mul_le_mul_right _ (of_decide_eq_true (by first | (with_reducible assumption) | assumption) : a1.toNat ≤ 281474976710656)) (by omega)) (Below.refl _ _) (Nat.le_refl _) ?_; intro v104 w5 ho6 hb hg_ hnew_; clear hg_ hnew_; (first | rw [← Ny103.out] at ho6 | (simp only [Int.reduceToNat] at ho6; rw [← Ny103.out] at ho6)); have n0_ := Aside0.mk (Kd.R_lower ho6 (below_size (by repeat (first | (with_reducible first | exact HB.out | apply below_alloc | apply pw_below_drewN | apply below_drew1) | exact HB.out)))); have n1_ := Aside0.mk (below_step (by repeat (first | (with_reducible first | exact HB.out | apply below_alloc | apply pw_below_drewN | apply below_drew1) | exact HB.out)) hb); clear HB; have HO105 := n0_; have HB := n1_; clear n0_ n1_; clear hb ho6))
      go_loopg [0, 6] k (fun kq v0 v6 w' => ∃ (x0_1 : Int) (x5_1 : List Int) (x6_1 : Int), v0 = .int .u64 x0_1 ∧ v6 = .int .i64 x6_1 ∧ Aside0 (remontoireref26_bytes.l0 kq x0_1 x5_1 x6_1 = some r) ∧ Aside0 (kq ≤ k) ∧ Aside0 (Kd.R (Kd.int .u8) 5 w' w.heap.size (fun _ => True) v104 x5_1) ∧ Aside0 (Below w.heap.size w w'))
      case atStart => exact ⟨(a0), (y103), (wrap64 (a1 - 1)), (by first | rfl | (simp; done) | (simp [*]; done)), (by first | rfl | (simp; done) | (simp [*]; done)), H', ⟨Nat.le_refl _⟩, ⟨by (with_reducible repeat (first | apply Kd.R_alloc | apply Kd.R_drewN | apply Kd.R_drew)); exact HO105.out⟩, ⟨by repeat (first | (with_reducible first | exact HB.out | apply below_alloc | apply pw_below_drewN | apply below_drew1) | exact HB.out)⟩⟩
      case round =>
        clear H'
        try clear p2
        try clear c3
        try clear c3b0
        try clear c3b1
        try clear c4
        try clear c4b0
        try clear c4b1
        try clear c5
        try clear p6
        obtain ⟨x0_1, x5_1, x6_1, rfl, rfl, HA, HK1, HO_5, HB⟩ := hrel
        cases gk with
        | zero => exact absurd HA.out (by simp [remontoireref26_bytes.l0])
        | succ k1 =>
          have H := HA.out
          clear HA
          simp only [remontoireref26_bytes.l0] at H
          by_cases c7 : x6_1 ≥ 0
          · rw [if_pos c7] at H
            have c7b0 : decide (0 ≤ x6_1) = true := decide_eq_true c7
            clear c7
            by_cases c8 : 0 ≤ x6_1
            · rw [if_pos c8] at H
              have c8b0 : decide (0 ≤ x6_1) = true := decide_eq_true c8
              clear c8
              by_cases c9 : x6_1 < (x5_1.length : Int)
              · rw [if_pos c9] at H
                have c9b0 : decide (x6_1 < (x5_1.length : Int)) = true := decide_eq_true c9
                clear c9
                obtain ⟨y106, hy106⟩ : ∃ y_ : List Int, y_ = (x5_1.set (x6_1 : Int).toNat ((Int.tmod x0_1 256) % 256)) := ⟨_, rfl⟩
                replace H : (remontoireref26_bytes.l0 k1 (IntKind.u64.wrap (Int.tdiv x0_1 256)) y106 (wrap64 (x6_1 - 1))) = some r := by first | (rw [hy106]; with_reducible exact H) | (have H2_ := (Option.bind_some _ _).symm.trans H; rw [hy106]; with_reducible exact H2_) | (have H2_ := (Option.bind_some _ _).symm.trans H; with_reducible exact H2_) | with_reducible exact H | (rw [hy106]; exact H) | exact H
                have Ny106 := Aside0.mk hy106
                clear hy106
                have H' := Aside0.mk H
                clear H
                have p10 : 0 ≤ (x6_1 : Int) := of_decide_eq_true (by first | (with_reducible assumption) | assumption)
                have q10 : (x6_1 : Int) < ((x5_1.length : Int) : Int) := of_decide_eq_true (by first | (with_reducible assumption) | assumption)
                obtain ⟨go10, co10, eo10, gb10, gl10, cl10, HG10⟩ := Kd.R_form HO_5.out (by omega)
                (first | cases eo10 | (injection eo10 with ea_ en_ ec_; (first | subst ea_ | (injection ea_ with ea_; subst ea_)); subst ec_; clear en_))
                have GB10 := Aside0.mk gb10
                have GG10 := Aside0.mk HG10
                clear gb10 gl10 HG10
                obtain ⟨hx10_0, hf10_0⟩ := Kd.R_celln 0 HO_5.out (x6_1 : Int) p10 q10
                replace p10 := eq_true p10
                replace q10 := eq_true q10
                have HP11 := Kd.R_putg HO_5.out (x6_1 : Int) ((Int.tmod x0_1 256) % 256)
                go_wp2_with (first | ((with_reducible refine gate_store (t := 5) (p := 20) rfl ?_); refine store_event (t := 5) (p := 20) (v := ?vo_w12) (w1 := (wr.setCell ⟨go10, (x6_1 : Int).toNat, none⟩ (.int .u8 ((Int.tmod x0_1 256) % 256)))) ?hg ?ho ?hn ?hr ?_; (case ho => rfl); (case hg => rfl); (case hn => rfl); (case hr => first | (go_simp; done) | (go_simp; rfl)); intro w12 hw; have hg : wr.grownBy w12 (some go10) := (by rw [hw]; exact HP11.2); have hp_ : Kd.R (Kd.int .u8) 5 w12 w.heap.size (fun _ => True) (.slice (some ⟨go10, 0, none⟩) x5_1.length co10) y106 := (by rw [hw, Ny106.out]; exact HP11.1); clear HP11; have n0_ := Aside0.mk (hp_); have n1_ := Aside0.mk ((by rw [hw]; exact below_set (HB.out) GB10.out : Below w.heap.size w w12)); clear HO_5; clear HB; have HO_5 := n0_; have HB := n1_; clear n0_ n1_; clear hg hw hp_))
                go_roundg k1
                case measure => have := HK1.out; omega
                case rel => exact ⟨(IntKind.u64.wrap (Int.tdiv x0_1 256)), (y106), (wrap64 (x6_1 - 1)), (by first | rfl | (simp; done) | (simp [*]; done)), (by first | rfl | (simp; done) | (simp [*]; done)), H', ⟨by have := HK1.out; omega⟩, ⟨by (with_reducible repeat (first | apply Kd.R_alloc | apply Kd.R_drewN | apply Kd.R_drew)); exact HO_5.out⟩, ⟨by repeat (first | (with_reducible first | exact HB.out | apply below_alloc | apply pw_below_drewN | apply below_drew1) | exact HB.out)⟩⟩
              · rw [if_neg c9] at H
                exact absurd H (by simp)
            · rw [if_neg c8] at H
              exact absurd H (by simp)
          · rw [if_neg c7] at H
            have c7b0 : decide (0 ≤ x6_1) = false := decide_eq_false c7
            clear c7
            obtain rfl := Option.some.inj H
            go_wp2
            go_ret
            exact ⟨_, by first | rfl | (simp [errW_none, errW_some] <;> rfl) | (simp [*, errW_none, errW_some] <;> rfl), by (with_reducible repeat (first | apply Kd.R_alloc | apply Kd.R_drewN | apply Kd.R_drew)); exact HO_5.out, by repeat (first | (with_reducible first | exact HB.out | apply below_alloc | apply pw_below_drewN | apply below_drew1) | exact HB.out)⟩
    · rw [if_neg c4] at H
      exact absurd H (by simp)
  · rw [if_neg c3] at H
    exact absurd H (by simp)

end Go.Proofs.Ytjldkgcabombhaa.QJ

/- Plain laws of the sum CRC: the program's and the document's are one; another byte, or another state, makes another one. -/
namespace Go.Proofs.Ytjldkgcabombhaa.Rec
set_option linter.unusedVariables false
open Go.RowKit Go.Proofs.Ytjldkgcabombhaa Go.Proofs.Ytjldkgcabombhaa.QJ Go.Proofs.YtjldkgcabombhaaW.PrintWords Go.Proofs.YtjldkgcabombhaaW.PrintLast Go.Proofs.YtjldkgcabombhaaW.PrintMore

theorem i64s (n : Int) (h : -9223372036854775808 ≤ n ∧ n ≤ 9223372036854775807) : wrap64 n = n := by unfold wrap64; omega
theorem u64s (n : Int) (h : 0 ≤ n ∧ n ≤ 18446744073709551615) : IntKind.u64.wrap n = n := by simp [IntKind.wrap, IntKind.bits, IntKind.signed]; omega
theorem e_neg {α : Type} {c : Prop} [Decidable c] (hc : ¬ c) {g f : Nat → Option α} {r : α} (h : Ev f r) : Ev (fun n => if c then g n else f n) r := Ev.congr (fun k => if_neg hc) h
theorem e_pos {α : Type} {c : Prop} [Decidable c] (hc : c) {g f : Nat → Option α} {r : α} (h : Ev g r) : Ev (fun n => if c then g n else f n) r := Ev.congr (fun k => if_pos hc) h
theorem xor32 (a b : Nat) (ha : a < 4294967296) (hb : b < 4294967296) : bits .xor .u32 (a : Int) (b : Int) = ((a ^^^ b : Nat) : Int) := by
  have h : a ^^^ b < 2 ^ 32 := Nat.xor_lt_two_pow ha hb
  have e : bits .xor .u32 (a : Int) (b : Int) = IntKind.u32.wrap ((BitVec.ofInt 32 (a : Int) ^^^ BitVec.ofInt 32 (b : Int)).toNat : Int) := rfl
  rw [e, BitVec.ofInt_natCast, BitVec.ofInt_natCast, BitVec.toNat_xor, BitVec.toNat_ofNat, BitVec.toNat_ofNat, Nat.mod_eq_of_lt ha, Nat.mod_eq_of_lt hb, IntKind.wrap_u32]
  omega
theorem mask32n (x : Int) (i : Nat) (hi : i ≤ 32) (h : 0 ≤ x ∧ x < 4294967296) : bits .and .u32 x (2 ^ i - 1) = x % 2 ^ i := bits_mask .u32 32 (by decide) (fun n h0 h1 => by rw [IntKind.wrap_u32]; omega) i hi x h.1 h.2

def bitn (c : Nat) : Nat := (c / 2) ^^^ (if c % 2 = 1 then 3988292384 else 0)
theorem pick_lt (c : Nat) : (if c % 2 = 1 then 3988292384 else 0) < 2 ^ 32 := by split <;> decide
theorem bitn_lt {c : Nat} (h : c < 4294967296) : bitn c < 4294967296 := Nat.xor_lt_two_pow (n := 32) (by omega) (pick_lt c)
theorem bit_nat (c : Nat) (h : c < 4294967296) : Cr.bit (c : Int) = ((bitn c : Nat) : Int) := by
  unfold Cr.bit bitn
  have e1 : bits .and .u32 (c : Int) 1 = (c : Int) % 2 := mask32n c 1 (by decide) (by omega)
  have e0 : bits .and .u32 3988292384 0 = 0 := by
    have := mask32n 3988292384 0 (by decide) (by omega)
    simpa using this
  have e2 : bits .and .u32 3988292384 4294967295 = 3988292384 := mask32n 3988292384 32 (by decide) (by omega)
  rw [e1]
  have hd : (c : Int) / 2 = ((c / 2 : Nat) : Int) := by omega
  by_cases p : c % 2 = 1
  · rw [if_pos p, show (c : Int) % 2 = 1 by omega, show IntKind.u32.wrap (-1) = 4294967295 by decide, e2, hd]
    exact xor32 (c / 2) 3988292384 (by omega) (by decide)
  · rw [if_neg p, show (c : Int) % 2 = 0 by omega, show IntKind.u32.wrap (-0) = 0 by decide, e0, hd]
    exact xor32 (c / 2) 0 (by omega) (by decide)
def bitN (c : Nat) : Nat → Nat
  | 0 => c
  | n + 1 => bitn (bitN c n)
theorem bitN_lt {c : Nat} (h : c < 4294967296) : ∀ n, bitN c n < 4294967296
  | 0 => h
  | n + 1 => bitn_lt (bitN_lt h n)
theorem bitN_nat (c : Nat) (h : c < 4294967296) : ∀ n, Cr.bitN (c : Int) n = ((bitN c n : Nat) : Int)
  | 0 => rfl
  | n + 1 => by
    show Cr.bit (Cr.bitN (c : Int) n) = _
    rw [bitN_nat c h n, bit_nat _ (bitN_lt h n)]
    rfl
def byte (c x : Nat) : Nat := bitN (c ^^^ x) 8
theorem xor_lt {c x : Nat} (h : c < 4294967296) (hx : x < 256) : c ^^^ x < 4294967296 := Nat.xor_lt_two_pow (n := 32) h (by omega)
theorem byte_lt {c x : Nat} (h : c < 4294967296) (hx : x < 256) : byte c x < 4294967296 := bitN_lt (xor_lt h hx) 8
theorem byte_nat (c x : Nat) (h : c < 4294967296) (hx : x < 256) : Cr.byte (c : Int) (x : Int) = ((byte c x : Nat) : Int) := by
  unfold Cr.byte byte
  rw [show (x : Int) % 4294967296 = (x : Int) by omega, xor32 c x h (by omega), bitN_nat _ (xor_lt h hx)]
def Bytes (l : List Int) : Prop := ∀ x ∈ l, 0 ≤ x ∧ x < 256
def fold (c : Nat) (l : List Int) : Nat := l.foldl (fun c x => byte c x.toNat) c
theorem bytes_cons {x : Int} {t : List Int} (h : Bytes (x :: t)) : (0 ≤ x ∧ x < 256) ∧ Bytes t := ⟨h x (List.mem_cons_self ..), fun y hy => h y (List.mem_cons_of_mem _ hy)⟩
theorem fold_nat : ∀ (l : List Int) (c : Nat), c < 4294967296 → Bytes l → l.foldl Cr.byte (c : Int) = ((fold c l : Nat) : Int) ∧ fold c l < 4294967296
  | [], c, h, _ => ⟨rfl, h⟩
  | x :: t, c, h, hb => by
    obtain ⟨hx, ht⟩ := bytes_cons hb
    have e : (x : Int) = ((x.toNat : Nat) : Int) := by omega
    have hn := fold_nat t (byte c x.toNat) (byte_lt h (by omega)) ht
    rw [List.foldl_cons]
    have : Cr.byte (c : Int) x = ((byte c x.toNat : Nat) : Int) := by
      have := byte_nat c x.toNat h (by omega)
      rwa [← e] at this
    rw [this]
    exact hn
theorem sum_nat {l : List Int} (hb : Bytes l) : Cr.sum l = 4294967295 - ((fold 4294967295 l : Nat) : Int) ∧ fold 4294967295 l < 4294967296 := by
  obtain ⟨h1, h2⟩ := fold_nat l 4294967295 (by decide) hb
  refine ⟨?_, h2⟩
  unfold Cr.sum Cr.fold
  rw [show (4294967295 : Int) = ((4294967295 : Nat) : Int) from rfl, h1]
  have hx : (4294967295 : Nat) ^^^ fold 4294967295 l = 4294967295 - fold 4294967295 l := by
    have e : (BitVec.allOnes 32 ^^^ BitVec.ofNat 32 (fold 4294967295 l)).toNat = (~~~ BitVec.ofNat 32 (fold 4294967295 l)).toNat := by rw [BitVec.allOnes_xor]
    rw [BitVec.toNat_xor, BitVec.toNat_not, BitVec.toNat_ofNat, Nat.mod_eq_of_lt h2] at e
    exact e
  have hm : IntKind.u32.max = ((4294967295 : Nat) : Int) := by decide
  rw [hm, xor32 4294967295 _ (by decide) h2, hx]
  omega
theorem sum_bd {l : List Int} (hb : Bytes l) : 0 ≤ Cr.sum l ∧ Cr.sum l < 4294967296 := by
  obtain ⟨h1, h2⟩ := sum_nat hb
  omega

/-! ### the document's, bit by bit -/
def rbit (c b : Nat) : Nat := if c % 2 = b then c / 2 else (c / 2) ^^^ 3988292384
theorem rbit_lt {c b : Nat} (h : c < 4294967296) : rbit c b < 4294967296 := by
  unfold rbit
  split
  · omega
  · exact Nat.xor_lt_two_pow (n := 32) (by omega) (by decide)
theorem bit_step (r y : Nat) : bitn (r ^^^ y) = rbit r (y % 2) ^^^ (y / 2) := by
  unfold bitn rbit
  have hp := @Nat.xor_mod_two_eq_one r y
  rw [Nat.xor_div_two]
  by_cases c : r % 2 = y % 2
  · rw [if_pos c, if_neg (fun h => (hp.mp h) (by omega)), Nat.xor_zero]
  · rw [if_neg c, if_pos (hp.mpr (by omega)), Nat.xor_assoc, Nat.xor_assoc, Nat.xor_comm (y / 2)]
def rbits (c x : Nat) : Nat → Nat
  | 0 => c
  | n + 1 => rbit (rbits c x n) (x / 2 ^ n % 2)
theorem rbits_lt {c x : Nat} (h : c < 4294967296) : ∀ n, rbits c x n < 4294967296
  | 0 => h
  | n + 1 => rbit_lt (rbits_lt h n)
theorem bits_rel (c x : Nat) : ∀ n, bitN (c ^^^ x) n = rbits c x n ^^^ (x / 2 ^ n)
  | 0 => by rw [Nat.pow_zero, Nat.div_one]; rfl
  | n + 1 => by
    show bitn (bitN (c ^^^ x) n) = rbit (rbits c x n) (x / 2 ^ n % 2) ^^^ (x / 2 ^ (n + 1))
    rw [bits_rel c x n, bit_step, Nat.pow_succ, Nat.div_div_eq_div_mul]
theorem byte_rel {c x : Nat} (hx : x < 256) : byte c x = rbits c x 8 := by
  unfold byte
  rw [bits_rel, Nat.div_eq_of_lt (by omega), Nat.xor_zero]

theorem rcrc_bit (l : List Int) (hb : Bytes l) (hl : l.length ≤ 1000000) (q j c : Nat) (hq : q < l.length) (hj : j < 8) (hc : c < 4294967296) (R : Int)
    (h : Ev (fun k => remontoireref07_CRC.l0 k l ((rbit c ((rd l (q : Int)).toNat / 2 ^ j % 2) : Nat) : Int) ((8 * q + (j + 1) : Nat) : Int)) R) :
    Ev (fun k => remontoireref07_CRC.l0 k l (c : Int) ((8 * q + j : Nat) : Int)) R := by
  have hx : 0 ≤ rd l (q : Int) ∧ rd l (q : Int) < 256 := by
    refine hb _ ?_
    unfold rd
    rw [Int.toNat_natCast, List.getD_eq_getElem?_getD, List.getElem?_eq_getElem hq]
    exact List.getElem_mem hq
  have e1 : Int.tdiv ((8 * q + j : Nat) : Int) 8 = (q : Int) := by rw [Int.tdiv_eq_ediv_of_nonneg (by omega)]; omega
  have e2 : Int.tmod ((8 * q + j : Nat) : Int) 8 = (j : Int) := by rw [Int.tmod_eq_emod_of_nonneg (by omega)]; omega
  have hp : 2 ^ j ≤ 128 := by have := Nat.pow_le_pow_right (n := 2) (by decide) (show j ≤ 7 by omega); simpa using this
  have hp0 : 0 < 2 ^ j := Nat.two_pow_pos j
  have e3 : shl .u32 1 ((j : Nat) : Int) = ((2 ^ j : Nat) : Int) := by
    unfold shl
    have hb : IntKind.u32.bits = 32 := rfl
    rw [hb, Int.toNat_natCast, show min j 32 = j by omega, Int.one_mul, show ((2 : Int) ^ j) = ((2 ^ j : Nat) : Int) by simp, IntKind.wrap_u32]
    omega
  have e4 : Int.tmod (c : Int) 2 = ((c % 2 : Nat) : Int) := by rw [Int.tmod_eq_emod_of_nonneg (by omega)]; omega
  have e5 : Int.tdiv (c : Int) 2 = ((c / 2 : Nat) : Int) := by rw [Int.tdiv_eq_ediv_of_nonneg (by omega)]; omega
  obtain ⟨x, hxe⟩ : ∃ x : Nat, rd l (q : Int) = (x : Int) := ⟨(rd l (q : Int)).toNat, by omega⟩
  have hbit : ((rd l (q : Int)) % 4294967296 / ((2 ^ j : Nat) : Int)) % 4294967296 % 2 = ((x / 2 ^ j % 2 : Nat) : Int) := by
    rw [hxe, show (x : Int) % 4294967296 = (x : Int) by omega, ← Int.natCast_ediv]
    have : x / 2 ^ j ≤ x := Nat.div_le_self _ _
    omega
  rw [hxe, Int.toNat_natCast] at h
  refine Ev.step (fun k => ?_) h
  rw [remontoireref07_CRC.l0, i64s _ (by omega), if_pos (by omega), e1, e2, i64s (q : Int) (by omega), if_pos (by omega), if_pos (by omega), u64s (j : Int) (by omega), if_pos (by omega), e3, if_neg (by omega), hbit, e4, e5, i64s _ (by omega)]
  unfold rbit
  by_cases p : c % 2 = x / 2 ^ j % 2
  · rw [if_pos (by omega), if_pos p, show ((c / 2 : Nat) : Int) % 4294967296 = ((c / 2 : Nat) : Int) by omega]
    rfl
  · rw [if_neg (by omega), if_neg p, show ((c / 2 : Nat) : Int) % 4294967296 = ((c / 2 : Nat) : Int) by omega, show (3988292384 : Int) = ((3988292384 : Nat) : Int) from rfl, xor32 _ _ (by omega) (by decide)]
    rfl
theorem rcrc_byte (l : List Int) (hb : Bytes l) (hl : l.length ≤ 1000000) (q c : Nat) (hq : q < l.length) (hc : c < 4294967296) (R : Int)
    (h : Ev (fun k => remontoireref07_CRC.l0 k l ((byte c (rd l (q : Int)).toNat : Nat) : Int) ((8 * (q + 1) : Nat) : Int)) R) :
    Ev (fun k => remontoireref07_CRC.l0 k l (c : Int) ((8 * q : Nat) : Int)) R := by
  have hx : 0 ≤ rd l (q : Int) ∧ rd l (q : Int) < 256 := by
    refine hb _ ?_
    unfold rd
    rw [Int.toNat_natCast, List.getD_eq_getElem?_getD, List.getElem?_eq_getElem hq]
    exact List.getElem_mem hq
  have key : ∀ n : Nat, n ≤ 8 → Ev (fun k => remontoireref07_CRC.l0 k l ((rbits c (rd l (q : Int)).toNat (8 - n) : Nat) : Int) ((8 * q + (8 - n) : Nat) : Int)) R := by
    intro n
    induction n with
    | zero =>
      intro _
      rw [byte_rel (by omega)] at h
      exact h
    | succ n ih =>
      intro hn
      have := ih (by omega)
      refine rcrc_bit l hb hl q (8 - (n + 1)) _ hq (by omega) (rbits_lt hc _) R ?_
      rw [show 8 - (n + 1) + 1 = 8 - n by omega]
      have e : rbits c (rd l (q : Int)).toNat (8 - n) = rbit (rbits c (rd l (q : Int)).toNat (8 - (n + 1))) ((rd l (q : Int)).toNat / 2 ^ (8 - (n + 1)) % 2) := by
        rw [show 8 - n = (8 - (n + 1)) + 1 by omega]
        rfl
      rw [e] at this
      exact this
  exact key 8 (by omega)
theorem rcrc_tells (l : List Int) (hb : Bytes l) (hl : l.length ≤ 1000000) : Ev (fun k => remontoireref07_CRC.f k l) (Cr.sum l) := by
  have key : ∀ j q c : Nat, q + j = l.length → c < 4294967296 → Ev (fun k => remontoireref07_CRC.l0 k l (c : Int) ((8 * q : Nat) : Int)) (4294967295 - ((fold c (l.drop q) : Nat) : Int)) := by
    intro j
    induction j with
    | zero =>
      intro q c h hc
      rw [List.drop_of_length_le (by omega)]
      refine Ev.step (f := fun _ => some (4294967295 - (c : Int))) (fun k => ?_) (Ev.now _)
      rw [remontoireref07_CRC.l0, i64s _ (by omega), if_neg (by omega), show (4294967295 - (c : Int)) % 4294967296 = 4294967295 - (c : Int) by omega]
    | succ j ih =>
      intro q c h hc
      have hq : q < l.length := by omega
      have hd : l.drop q = rd l (q : Int) :: l.drop (q + 1) := by
        rw [List.drop_eq_getElem_cons hq]
        unfold rd
        rw [Int.toNat_natCast, List.getD_eq_getElem?_getD, List.getElem?_eq_getElem hq]
        rfl
      have hx : 0 ≤ rd l (q : Int) ∧ rd l (q : Int) < 256 := hb _ (List.mem_of_mem_drop (by rw [hd]; exact List.mem_cons_self ..))
      refine rcrc_byte l hb hl q c hq hc _ ?_
      have := ih (q + 1) (byte c (rd l (q : Int)).toNat) (by omega) (byte_lt hc (by omega))
      rw [hd]
      exact this
  have := key l.length 0 4294967295 (by omega) (by decide)
  rw [List.drop_zero, ← (sum_nat hb).1] at this
  exact this

/-! ### Another byte makes another sum -/
theorem xor_cancel {a b c : Nat} (h : a ^^^ c = b ^^^ c) : a = b := by
  have := congrArg (· ^^^ c) h
  simpa [Nat.xor_assoc] using this
theorem bitn_top {c : Nat} (h : c < 4294967296) : bitn c / 2147483648 = c % 2 := by
  unfold bitn
  have e := @Nat.xor_div_two_pow (c / 2) (if c % 2 = 1 then 3988292384 else 0) 31
  rw [show (2 : Nat) ^ 31 = 2147483648 from rfl] at e
  rw [e, show c / 2 / 2147483648 = 0 by omega, Nat.zero_xor]
  by_cases p : c % 2 = 1
  · rw [if_pos p, p]
  · rw [if_neg p]; omega
theorem bitn_inj {a b : Nat} (ha : a < 4294967296) (hb : b < 4294967296) (h : bitn a = bitn b) : a = b := by
  have h1 := bitn_top ha
  have h2 := bitn_top hb
  rw [h] at h1
  have hp : a % 2 = b % 2 := by omega
  unfold bitn at h
  rw [hp] at h
  have := xor_cancel h
  omega
theorem bitN_inj {a b : Nat} (ha : a < 4294967296) (hb : b < 4294967296) : ∀ n, bitN a n = bitN b n → a = b
  | 0, h => h
  | n + 1, h => bitN_inj ha hb n (bitn_inj (bitN_lt ha n) (bitN_lt hb n) h)
theorem byte_inj_c {a b x : Nat} (ha : a < 4294967296) (hb : b < 4294967296) (hx : x < 256) (h : byte a x = byte b x) : a = b :=
  xor_cancel (bitN_inj (xor_lt ha hx) (xor_lt hb hx) 8 h)
theorem byte_inj_x {a x y : Nat} (ha : a < 4294967296) (hx : x < 256) (hy : y < 256) (h : byte a x = byte a y) : x = y := by
  have := bitN_inj (xor_lt ha hx) (xor_lt ha hy) 8 h
  rw [Nat.xor_comm a x, Nat.xor_comm a y] at this
  exact xor_cancel this
theorem fold_inj : ∀ (l : List Int) (a b : Nat), a < 4294967296 → b < 4294967296 → Bytes l → fold a l = fold b l → a = b
  | [], a, b, _, _, _, h => h
  | x :: t, a, b, ha, hb, hl, h => by
    obtain ⟨hx, ht⟩ := bytes_cons hl
    exact byte_inj_c ha hb (by omega) (fold_inj t _ _ (byte_lt ha (by omega)) (byte_lt hb (by omega)) ht h)
theorem fold_set : ∀ (l : List Int) (i : Nat) (c : Nat) (y : Int), c < 4294967296 → Bytes l → (0 ≤ y ∧ y < 256) → i < l.length → y ≠ rd l (i : Int) → fold c (l.set i y) ≠ fold c l
  | [], i, c, y, _, _, _, hi, _ => absurd hi (by simp)
  | x :: t, 0, c, y, hc, hl, hy, hi, hne => by
    obtain ⟨hx, ht⟩ := bytes_cons hl
    intro h
    have h2 := fold_inj t _ _ (byte_lt hc (by omega)) (byte_lt hc (by omega)) ht h
    have h3 := byte_inj_x hc (by omega) (by omega) h2
    have : rd (x :: t) ((0 : Nat) : Int) = x := rfl
    rw [this] at hne
    omega
  | x :: t, i + 1, c, y, hc, hl, hy, hi, hne => by
    obtain ⟨hx, ht⟩ := bytes_cons hl
    refine fold_set t i (byte c x.toNat) y (byte_lt hc (by omega)) ht hy (by simpa using hi) ?_
    have : rd (x :: t) ((i + 1 : Nat) : Int) = rd t (i : Int) := by
      unfold rd
      rw [Int.toNat_natCast, Int.toNat_natCast]
      rfl
    rwa [this] at hne
theorem bytes_set {l : List Int} (hl : Bytes l) (i : Nat) {y : Int} (hy : 0 ≤ y ∧ y < 256) : Bytes (l.set i y) := by
  intro x hx
  rcases List.mem_or_eq_of_mem_set hx with h | h
  · exact hl x h
  · rw [h]; exact hy
theorem sum_set {l : List Int} (hl : Bytes l) (i : Nat) {y : Int} (hy : 0 ≤ y ∧ y < 256) (hi : i < l.length) (hne : y ≠ rd l (i : Int)) : Cr.sum (l.set i y) ≠ Cr.sum l := by
  have h1 := (sum_nat hl).1
  have h2 := (sum_nat (bytes_set hl i hy)).1
  have h3 := fold_set l i 4294967295 y (by decide) hl hy hi hne
  intro h
  exact h3 (by omega)
end Go.Proofs.Ytjldkgcabombhaa.Rec

/- The contract of record.Encode, walked by hand: the bytes that it makes. -/
namespace Go.Proofs.Ytjldkgcabombhaa
open Go.RowKit Go.Proofs.YtjldkgcabombhaaW.PrintWords Go.Proofs.YtjldkgcabombhaaW.PrintLast Go.Proofs.YtjldkgcabombhaaW.PrintMore
set_option linter.unusedVariables false
set_option linter.unusedSimpArgs false

/-- The bytes of a number, so many, the highest one first. -/
def Rc.be (size : Nat) (n : Int) : List Int := (List.range size).map (fun i => n / 2 ^ (8 * (size - 1 - i)) % 256)
theorem Rc.be_length (size : Nat) (n : Int) : (Rc.be size n).length = size := by unfold Rc.be; simp
theorem Rc.w64 (n : Int) (h : -9223372036854775808 ≤ n ∧ n ≤ 9223372036854775807) : wrap64 n = n := by unfold wrap64; omega
theorem Rc.be_get (size : Nat) (n : Int) (i : Nat) (h : i < size) : (Rc.be size n)[i]'(by rw [Rc.be_length]; exact h) = n / 2 ^ (8 * (size - 1 - i)) % 256 := by simp [Rc.be]

/-- A row of the call's own beside the record's box. -/
def Rc.I (w W : World) (a0 a1 a2 a3 : Int) (v : Value) (l : List Int) : Prop :=
  Kd.R (Kd.int .u8) 5 W w.heap.size (fun k => w.heap.size < k) v l ∧ W.heap[w.heap.size]? = some (.cells #[.int .u32 a0, .int .i64 a1, .int .i64 a2, .int .i64 a3] 24 (0, 0)) ∧ Below w.heap.size w W
/-- A row that is as long as its room, wherever it lies. -/
def Rc.Full (W : World) (v : Value) (l : List Int) : Prop := ∃ g : Nat, v = .slice (some ⟨g, 0, none⟩) l.length l.length ∧ ∀ (j : Nat) (u : Value), (nums .u8 l)[j]? = some u → W.cell? ⟨g, j, none⟩ = some u
theorem Rc.full_below {W W1 : World} {v : Value} {l : List Int} (h : Rc.Full W v l) (hb : Below W.heap.size W W1) : Rc.Full W1 v l := by
  obtain ⟨g, rfl, hc⟩ := h
  refine ⟨g, rfl, fun j u hu => ?_⟩
  have := hc j u hu
  exact (hb.cell (p := ⟨g, j, none⟩) (World.block_lt_of_cell? W _ this)).trans this
def Rc.J (w W : World) (a0 a1 a2 a3 : Int) (v : Value) (l : List Int) : Prop :=
  (Kd.R (Kd.int .u8) 5 W w.heap.size (fun k => w.heap.size < k) v l ∨ Rc.Full W v l) ∧ W.heap[w.heap.size]? = some (.cells #[.int .u32 a0, .int .i64 a1, .int .i64 a2, .int .i64 a3] 24 (0, 0)) ∧ Below w.heap.size w W
theorem Rc.start (w : World) (a0 a1 a2 a3 : Int) (m : Nat × Nat) :
    Rc.J w ((w.alloc (.cells #[.int .u32 a0, .int .i64 a1, .int .i64 a2, .int .i64 a3] 24 (0, 0))).alloc (.cells #[.int .u8 82, .int .u8 77, .int .u8 84, .int .u8 82] 5 m)) a0 a1 a2 a3
      (.slice (some ⟨w.heap.size + 1, 0, none⟩) 4 4) [82, 77, 84, 82] := by
  have hs : (w.alloc (.cells #[.int .u32 a0, .int .i64 a1, .int .i64 a2, .int .i64 a3] 24 (0, 0))).heap.size = w.heap.size + 1 := by simp
  have hn := blk_new (w.alloc (.cells #[.int .u32 a0, .int .i64 a1, .int .i64 a2, .int .i64 a3] 24 (0, 0))) (.cells #[.int .u8 82, .int .u8 77, .int .u8 84, .int .u8 82] 5 m)
  rw [hs] at hn
  refine ⟨.inr ⟨w.heap.size + 1, rfl, fun j u hu => ?_⟩, blk_alloc (blk_new w _) _, below_alloc (below_alloc (Below.refl _ _) _) _⟩
  have : (((w.alloc (.cells #[.int .u32 a0, .int .i64 a1, .int .i64 a2, .int .i64 a3] 24 (0, 0))).alloc (.cells #[.int .u8 82, .int .u8 77, .int .u8 84, .int .u8 82] 5 m)).cell? ⟨w.heap.size + 1, j, none⟩) = #[Value.int .u8 82, .int .u8 77, .int .u8 84, .int .u8 82][j]? := by
    exact cell_of_row _ _ j _ _ _ hn
  rw [this, ← hu]
  simp [nums]

section
variable {ops : Array Oper} {rest : List Oper} {o : Oper} {a : Act} {Q : Exit → Act → World → Prop}
theorem Rc.size2 (h : 2 < Try.prog.types.size) : (Try.prog.types[2]'h).size = 1 := by kernel_rfl
theorem Rc.get3_0 (a b c : Value) (n : Nat) (hn : n = 1) (h : Int.toNat 0 * n < #[a, b, c].size) : #[a, b, c][Int.toNat 0 * n]'h = a := by subst hn; rfl
theorem Rc.get3_1 (a b c : Value) (n : Nat) (hn : n = 1) (h : Int.toNat 1 * n < #[a, b, c].size) : #[a, b, c][Int.toNat 1 * n]'h = b := by subst hn; rfl
theorem Rc.get3_2 (a b c : Value) (n : Nat) (hn : n = 1) (h : Int.toNat 2 * n < #[a, b, c].size) : #[a, b, c][Int.toNat 2 * n]'h = c := by subst hn; rfl
theorem Rc.info5 : (Try.prog.info? 5).map (fun i => (i.zero, i.size, i.bytes)) = some (some (.int .u8 0), 1, 1) := by kernel_rfl
/-- append of one byte to such a row. -/
theorem Rc.append {w W : World} {a0 a1 a2 a3 : Int} (hgd : o.guard = none) (s x : Operand) (ho : o.op = .call { callee := .builtin .append, args := #[s, x], argTypes := #[25, 25] })
    (v : Value) (xs : List Int) (p : Int) (hs : a.eval s = v) (hx : a.eval x = .slice (some ⟨W.heap.size, 0, none⟩) 1 1) (hJ : Rc.J w W a0 a1 a2 a3 v xs) (hl : xs.length ≤ 1000000)
    (h : ∀ v1 w1, Rc.I w w1 a0 a1 a2 a3 v1 (xs ++ [p]) → wpList Try.prog ops Q rest (a.put o.dst v1) w1) :
    wpList Try.prog ops Q (o :: rest) a (W.alloc (.cells #[.int .u8 p] 5)) := by
  obtain ⟨hv, hk, hb⟩ := hJ
  have hlt := blk_lt hk
  rcases hv with hR | ⟨g, rfl, hc⟩
  · refine Kd.R_append (Kd.int .u8) (w0 := w) (W := W) w.heap.size hgd s x 25 5 (.int .u8 0) 1 ho Try.underlying25 Rc.info5 rfl (by decide) (by omega) v xs p [.int .u8 p] (fun k => w.heap.size < k) (fun _ => False) hs hx rfl (fun _ hk => hk.elim)
      (fun k hk => by omega) hR hb (by omega) (by omega) ?_
    intro v1 w1 h1 h2 h3 _
    refine h v1 w1 ⟨h1, (h3.block _ hlt (fun e => ?_)).trans hk, h2⟩
    have := hR.1 _ e.symm
    omega
  · obtain ⟨i0, hi, hz⟩ := Option.map_eq_some_iff.1 Rc.info5
    simp only [Prod.mk.injEq] at hz
    obtain ⟨z0, z1, z2⟩ := hz
    refine wpList_append_grows (W.alloc (.cells #[.int .u8 p] 5)) hgd s x 25 ho 5 i0 (.int .u8 0) 1 1 Try.underlying25 hi z0 z1 z2 rfl (by decide) (some ⟨g, 0, none⟩) xs.length xs.length (nums .u8 xs) hs (fun e => by cases e) (by simp [nums]) ?_
      ⟨W.heap.size, 0, none⟩ 1 1 [.int .u8 p] hx rfl ?_ (by simp [Value.oneCell']) (by omega) (by simp only [maxLen]; omega) (by omega) ?_
    · intro b e j u hu
      obtain rfl : (⟨g, 0, none⟩ : Addr) = b := Option.some.inj e
      have := hc j u hu
      rw [add_plain]
      exact (World.cell?_alloc_lt W _ _ (World.block_lt_of_cell? W _ this)).trans this
    · intro j u hu
      match j, hu with
      | 0, hu =>
        obtain rfl : Value.int .u8 p = u := by simpa using hu
        exact blk_cell (blk_new W _) 0
      | j + 1, hu => simp at hu
    · intro v1 w1 hown hg
      have hsz : (W.alloc (.cells #[.int .u8 p] 5)).heap.size = W.heap.size + 1 := by simp
      have hwl : w.heap.size ≤ (W.alloc (.cells #[.int .u8 p] 5)).heap.size := by rw [hsz]; omega
      refine h v1 w1 ⟨?_, (hg.block _ (by rw [hsz]; omega) (by simp)).trans (blk_alloc hk _), (below_alloc hb _).grown hg hwl (fun k hk => by simp at hk)⟩
      have ho2 : w1.ownsRow (W.alloc (.cells #[.int .u8 p] 5)).heap.size 5 1 v1 (xs ++ [p]).length (nums .u8 (xs ++ [p])) := by
        have e1 : (xs ++ [p]).length = xs.length + 1 := by simp
        have e2 : nums .u8 (xs ++ [p]) = nums .u8 xs ++ [.int .u8 p] := by simp [nums]
        rw [e1, e2]
        exact hown
      refine Kd.R_of_own (own_weaken ho2 hwl) (fun k hk => ?_)
      have := own_base ho2 k hk
      rw [hsz] at this
      omega
end
theorem Rc.i_j {w W : World} {a0 a1 a2 a3 : Int} {v : Value} {l : List Int} (h : Rc.I w W a0 a1 a2 a3 v l) : Rc.J w W a0 a1 a2 a3 v l := ⟨.inl h.1, h.2⟩

set_option maxHeartbeats 8000000 in
set_option maxRecDepth 100000 in
theorem Rc.put (w W : World) (a0 a1 a2 a3 : Int) (v : Value) (l : List Int) (n : Int) (size : Nat) (hs : 1 ≤ size ∧ size ≤ 8) (hl : l.length ≤ 1000) (hJ : Rc.J w W a0 a1 a2 a3 v l) :
    Calls Try.prog 51 #[v, .int .u64 n, .int .i64 (size : Int)] W fun e W' => ∃ v', e = .returned v' ∧ Rc.I w W' a0 a1 a2 a3 v' (l ++ Rc.be size n) := by
  obtain ⟨z, hz⟩ : ∃ z : Int, z = (size : Int) := ⟨_, rfl⟩
  rw [← hz]
  have HZ := Aside0.mk hz
  have HS := Aside0.mk hs
  have HJ := Aside0.mk hJ
  have HL := Aside0.mk hl
  clear hz hs hJ hl
  go_enter Try.func51, Try.ntmps51
  go_wp2
  go_loopw [0, 9] (fun v0 v9 wr => ∃ (x : Int), v9 = .int .i64 x ∧ Aside0 (0 ≤ x ∧ x ≤ z) ∧ Aside0 (Rc.J w wr a0 a1 a2 a3 v0 (l ++ (Rc.be size n).take x.toNat)) ∧ Aside0 (0 < x → Rc.I w wr a0 a1 a2 a3 v0 (l ++ (Rc.be size n).take x.toNat))) (fun _ v9 _ => (z - intOf v9).toNat)
  case atStart => exact ⟨0, rfl, ⟨Int.le_refl _, by have := HZ.out; omega⟩, ⟨by rw [show (0 : Int).toNat = 0 from rfl, List.take_zero, List.append_nil]; exact HJ.out⟩, ⟨fun h => absurd h (by omega)⟩⟩
  case round =>
    clear HJ
    obtain ⟨x, rfl, HX, HJ, HI⟩ := hrel
    by_cases hlt : x < z
    · have d1 : decide (x < z) = true := decide_eq_true hlt
      have hz := HZ.out
      have hs := HS.out
      have hx := HX.out
      obtain ⟨ji, hji⟩ : ∃ ji : Int, (wrap64 (8 * (wrap64 ((wrap64 (z - 1)) - x)))) = ji := ⟨_, rfl⟩
      have hji2 := hji
      rw [Rc.w64 (z - 1) (by omega), Rc.w64 (z - 1 - x) (by omega), Rc.w64 (8 * (z - 1 - x)) (by omega)] at hji2
      have hjw : (IntKind.i64.wrap (8 * (wrap64 ((wrap64 (z - 1)) - x)))) = ji := (i64_w _).trans hji
      have c6b1 : decide (0 ≤ ji) = true := decide_eq_true (by omega)
      have c6b0 := eq_true (show 0 ≤ ji by omega)
      obtain ⟨q, hq⟩ : ∃ q : Int, (shr .u64 n ji) = q := ⟨_, rfl⟩
      have hq2 : (n / 2 ^ min ji.toNat 64) = q := hq
      have hq3 : ji ≤ 64 → (n / 2 ^ ji.toNat) = q := shr_small hq
      have HTS := Aside0.mk (show l ++ (Rc.be size n).take (x + 1).toNat = (l ++ (Rc.be size n).take x.toNat) ++ [q % 256] by
        have hlt2 : x.toNat < (Rc.be size n).length := by rw [Rc.be_length]; omega
        rw [show (x + 1).toNat = x.toNat + 1 by omega, List.take_succ_eq_append_getElem hlt2, Rc.be_get size n x.toNat (by omega), ← hq2, show min ji.toNat 64 = 8 * (size - 1 - x.toNat) by omega, List.append_assoc])
      have HLL := Aside0.mk (show (l ++ (Rc.be size n).take x.toNat).length ≤ 1000000 by
        have := HL.out
        have := Rc.be_length size n
        rw [List.length_append, List.length_take]; omega)
      have HN := Aside0.mk (show wrap64 (x + 1) = x + 1 from Rc.w64 _ (by omega))
      have HX1 := Aside0.mk (show 0 ≤ x + 1 ∧ x + 1 ≤ z ∧ 0 < x + 1 by omega)
      clear hlt hz hs hx hji2 hq HX
      go_wp2_with (at_builtin; refine Rc.append rfl (.tmp 12) (.tmp 21) rfl _ _ (q % 256) rfl rfl HJ.out HLL.out ?_
                   intro v1 w1 hi
                   rw [← HTS.out] at hi
                   have HI1 := Aside0.mk hi
                   clear hi HI HJ)
      go_roundw
      case rel => exact ⟨x + 1, by first | rfl | (rw [← HN.out]; rfl) | (simp [HN.out]), ⟨HX1.out.1, HX1.out.2.1⟩, ⟨Rc.i_j HI1.out⟩, ⟨fun _ => HI1.out⟩⟩
      case measure => have := HN.out; have := HX1.out; simp [intOf]; omega
    · have d1 : decide (x < z) = false := decide_eq_false hlt
      have HI2 := Aside0.mk (show Rc.I w wr a0 a1 a2 a3 u0 (l ++ Rc.be size n) by
        have hz := HZ.out
        have hs := HS.out
        have hx := HX.out
        have := HI.out (by omega)
        rwa [List.take_of_length_le (by rw [Rc.be_length]; omega)] at this)
      clear hlt HI HJ HX
      go_wp2
      go_ret
      exact ⟨_, rfl, HI2.out⟩

def Rc.u64 (n : Int) : Int := IntKind.u64.wrap n
def Rc.r0 (a0 : Int) : List Int := [82, 77, 84, 82] ++ Rc.be 4 (Rc.u64 a0)
def Rc.r1 (a0 a1 : Int) : List Int := Rc.r0 a0 ++ Rc.be 8 (Rc.u64 a1)
def Rc.r2 (a0 a1 a2 : Int) : List Int := Rc.r1 a0 a1 ++ Rc.be 8 (Rc.u64 a2)
def Rc.r3 (a0 a1 a2 a3 : Int) : List Int := Rc.r2 a0 a1 a2 ++ Rc.be 8 (Rc.u64 a3)
def Rc.rows (a0 a1 a2 a3 : Int) (i : Nat) : List Int := if i = 0 then Rc.r0 a0 else if i = 1 then Rc.r1 a0 a1 else if i = 2 then Rc.r2 a0 a1 a2 else Rc.r3 a0 a1 a2 a3
def Rc.head (a0 a1 a2 a3 : Int) : List Int := Rc.rows a0 a1 a2 a3 3 ++ List.replicate 28 0
def Rc.enc (a0 a1 a2 a3 : Int) : List Int := Rc.head a0 a1 a2 a3 ++ Rc.be 4 (Rc.u64 (Cr.sum (Rc.head a0 a1 a2 a3)))
def record_Encode.f (a0 a1 a2 a3 : Int) : Option (List Int) := some (Rc.enc a0 a1 a2 a3)
theorem Rc.rows_length (a0 a1 a2 a3 : Int) : (Rc.rows a0 a1 a2 a3 0).length = 8 ∧ (Rc.rows a0 a1 a2 a3 1).length = 16 ∧ (Rc.rows a0 a1 a2 a3 2).length = 24 ∧ (Rc.rows a0 a1 a2 a3 3).length = 32 := by
  refine ⟨?_, ?_, ?_, ?_⟩ <;> simp [Rc.rows, Rc.r0, Rc.r1, Rc.r2, Rc.r3, Rc.be_length]

set_option maxRecDepth 100000 in
theorem Rc.index0 (a1 a2 a3 : Int) (w : World) : (Instr.index 90 (.agg #[.int .i64 a1, .int .i64 a2, .int .i64 a3]) (.int .i64 0)).run Try.prog w = .ok (.int .i64 a1) w := by kernel_rfl
set_option maxRecDepth 100000 in
theorem Rc.index1 (a1 a2 a3 : Int) (w : World) : (Instr.index 90 (.agg #[.int .i64 a1, .int .i64 a2, .int .i64 a3]) (.int .i64 1)).run Try.prog w = .ok (.int .i64 a2) w := by kernel_rfl
set_option maxRecDepth 100000 in
theorem Rc.index2 (a1 a2 a3 : Int) (w : World) : (Instr.index 90 (.agg #[.int .i64 a1, .int .i64 a2, .int .i64 a3]) (.int .i64 2)).run Try.prog w = .ok (.int .i64 a3) w := by kernel_rfl

set_option maxHeartbeats 8000000 in
set_option maxRecDepth 100000 in
theorem record_Encode.calls (a0 a1 a2 a3 : Int) (r : List Int) (w : World) (h : record_Encode.f a0 a1 a2 a3 = some r) :
    Calls Try.prog 13 #[.agg #[.int .u32 a0, .int .i64 a1, .int .i64 a2, .int .i64 a3]] w fun e w' => ∃ v0_ : Value, e = .returned (v0_) ∧ Kd.R (Kd.int .u8) 5 w' w.heap.size (fun _ => True) v0_ r ∧ Below w.heap.size w w' := by
  obtain rfl := Option.some.inj h
  clear h
  have hu24 := Try.underlying24
  have HS := Aside0.mk (Rc.start w a0 a1 a2 a3 (4, 5))
  obtain ⟨hl0, hl1, hl2, hl3⟩ := Rc.rows_length a0 a1 a2 a3
  have HL0 := Aside0.mk hl0
  have HL1 := Aside0.mk hl1
  have HL2 := Aside0.mk hl2
  have HL3 := Aside0.mk hl3
  clear hl0 hl1 hl2 hl3
  have hcv : (convert 25 25 (.slice (some ⟨w.heap.size + 1, 0, none⟩) 4 4)).run Try.prog ((w.alloc (.cells #[.int .u32 a0, .int .i64 a1, .int .i64 a2, .int .i64 a3] 24)).alloc (.cells #[.int .u8 82, .int .u8 77, .int .u8 84, .int .u8 82] 5)) =
      .ok (.slice (some ⟨w.heap.size + 1, 0, none⟩) 4 4) ((w.alloc (.cells #[.int .u32 a0, .int .i64 a1, .int .i64 a2, .int .i64 a3] 24)).alloc (.cells #[.int .u8 82, .int .u8 77, .int .u8 84, .int .u8 82] 5 (4, 5))) := by
    have := Lib.run_convert_bytes_const (P := Try.prog) (w.alloc (.cells #[.int .u32 a0, .int .i64 a1, .int .i64 a2, .int .i64 a3] 24)) 25 5 #[.int .u8 82, .int .u8 77, .int .u8 84, .int .u8 82] 4 4 Try.underlying25 Try.underlying5
    have e : (w.alloc (.cells #[.int .u32 a0, .int .i64 a1, .int .i64 a2, .int .i64 a3] 24)).heap.size = w.heap.size + 1 := by simp
    rw [e] at this
    exact this
  go_enter Try.func13, Try.ntmps13
  go_wp2_with (go_at_call 51; (refine (Rc.put w _ a0 a1 a2 a3 _ _ (Rc.u64 a0) 4 (by decide) (by decide) HS.out).mono ?_)
               rintro e W1 ⟨v1, rfl, hi⟩
               have HI := Aside0.mk hi
               have g1 := blk_cell hi.2.1 1
               have g2 := blk_cell hi.2.1 2
               have g3 := blk_cell hi.2.1 3
               clear hi)
  go_loopw [3, 19] (fun v3 v19 wr => ∃ (i : Nat), v19 = .int .i64 i ∧ i ≤ 3 ∧ Aside0 (Rc.I w wr a0 a1 a2 a3 v3 (Rc.rows a0 a1 a2 a3 i))) (fun _ v19 _ => 3 - (intOf v19).toNat)
  case atStart => exact ⟨0, rfl, Nat.zero_le _, HI⟩
  case round =>
    clear HI g1 g2 g3
    obtain ⟨i, rfl, hi3, HI⟩ := hrel
    by_cases hlt : i < 3
    · obtain rfl | rfl | rfl : i = 0 ∨ i = 1 ∨ i = 2 := by omega
      · have hix := Rc.index0 a1 a2 a3
        go_wp2_with (go_at_call 51; (refine (Rc.put w _ a0 a1 a2 a3 _ (Rc.rows a0 a1 a2 a3 0) (Rc.u64 a1) 8 (by decide) (by rw [HL0.out]; decide) (Rc.i_j HI.out)).mono ?_)
                     rintro e W1 ⟨v1, rfl, hi⟩
                     have HI2 := Aside0.mk (show Rc.I w W1 a0 a1 a2 a3 v1 (Rc.rows a0 a1 a2 a3 1) from hi)
                     clear hi)
        go_roundw
        case rel => exact ⟨1, rfl, by decide, HI2⟩
        case measure => simp [intOf]
      · have hix := Rc.index1 a1 a2 a3
        go_wp2_with (go_at_call 51; (refine (Rc.put w _ a0 a1 a2 a3 _ (Rc.rows a0 a1 a2 a3 1) (Rc.u64 a2) 8 (by decide) (by rw [HL1.out]; decide) (Rc.i_j HI.out)).mono ?_)
                     rintro e W1 ⟨v1, rfl, hi⟩
                     have HI2 := Aside0.mk (show Rc.I w W1 a0 a1 a2 a3 v1 (Rc.rows a0 a1 a2 a3 2) from hi)
                     clear hi)
        go_roundw
        case rel => exact ⟨2, rfl, by decide, HI2⟩
        case measure => simp [intOf]
      · have hix := Rc.index2 a1 a2 a3
        go_wp2_with (go_at_call 51; (refine (Rc.put w _ a0 a1 a2 a3 _ (Rc.rows a0 a1 a2 a3 2) (Rc.u64 a3) 8 (by decide) (by rw [HL2.out]; decide) (Rc.i_j HI.out)).mono ?_)
                     rintro e W1 ⟨v1, rfl, hi⟩
                     have HI2 := Aside0.mk (show Rc.I w W1 a0 a1 a2 a3 v1 (Rc.rows a0 a1 a2 a3 3) from hi)
                     clear hi)
        go_roundw
        case rel => exact ⟨3, rfl, by decide, HI2⟩
        case measure => simp [intOf]
    · obtain rfl : i = 3 := by omega
      have HW := Aside0.mk (HI.out.2.2.size)
      go_wp2_with (first
        | (at_builtin; refine Kd.R_append_zeros (Kd.int .u8) (w0 := w) w.heap.size rfl (.tmp 27) (.const (.int .i64 28)) 25 3 5 (.int .u8 0) 1 rfl Try.underlying25 Try.underlying3 Rc.info5 rfl (by decide) (by omega) _ (Rc.rows a0 a1 a2 a3 3) 0 (28 : Int) (fun k => w.heap.size < k) rfl rfl rfl ?aF HI.out.1 (by omega) HI.out.2.2 HW.out ?aL ?_
           (case aF => exact fun k hk => by have := blk_lt HI.out.2.1; omega)
           (case aL => rw [HL3.out]; decide)
           intro v2 w2 ho hb hg hat
           have HI3 := Aside0.mk (show Rc.I w w2 a0 a1 a2 a3 v2 (Rc.head a0 a1 a2 a3) from ⟨ho, (hg.block _ (blk_lt HI.out.2.1) (fun e => by have := HI.out.1.1 _ e.symm; omega)).trans HI.out.2.1, hb⟩)
           clear ho hb hg hat HI HW
           obtain ⟨A1, c1, e1⟩ := Kd.R_slice HI3.out.1
           subst e1)
        | (go_at_call 52; (refine (sums_CRC.calls _ _ (Rc.head a0 a1 a2 a3) (Cr.sum (Rc.head a0 a1 a2 a3)) _ ?s1 ?s2 rfl).mono ?_)
           (case s1 => exact (Kd.R_reads' HI3.out.1).2.2)
           (case s2 => exact (Kd.R_reads' HI3.out.1).2.1)
           rintro e w4 ⟨rfl, hb⟩
           have HI4 := Aside0.mk (show Rc.I w w4 a0 a1 a2 a3 (.slice A1 (Rc.head a0 a1 a2 a3).length c1) (Rc.head a0 a1 a2 a3) from ⟨Kd.R_below HI3.out.1 hb, blk_below HI3.out.2.1 hb, below_step HI3.out.2.2 hb⟩)
           clear hb HI3)
        | (go_at_call 51; (refine (Rc.put w _ a0 a1 a2 a3 _ (Rc.head a0 a1 a2 a3) (Rc.u64 (Cr.sum (Rc.head a0 a1 a2 a3))) 4 (by decide) ?s3 (Rc.i_j HI4.out)).mono ?_)
           (case s3 => unfold Rc.head; rw [List.length_append, HL3.out, List.length_replicate]; decide)
           rintro e W1 ⟨v1, rfl, hi⟩
           have HI5 := Aside0.mk hi
           clear hi))
      go_ret
      exact ⟨_, rfl, Kd.R_mono HI5.out.1 (fun _ _ => trivial), HI5.out.2.2⟩
end Go.Proofs.Ytjldkgcabombhaa

/- The contract of record.Decode, and of its closure that reads a number, walked by hand. -/
namespace Go.Proofs.Ytjldkgcabombhaa
open Go.RowKit Go.Proofs.YtjldkgcabombhaaW.PrintWords Go.Proofs.YtjldkgcabombhaaW.PrintLast Go.Proofs.YtjldkgcabombhaaW.PrintMore
set_option linter.unusedVariables false
set_option linter.unusedSimpArgs false

def Rd.step (n x : Int) : Int := bits .or .u64 (IntKind.u64.wrap (n * 256)) (IntKind.u64.wrap x)
def Rd.num (l : List Int) : Int := l.foldl Rd.step 0
def Rd.part (l : List Int) (a s : Int) : List Int := (l.take (a + s).toNat).drop a.toNat
theorem Rd.take_snoc (l : List Int) (i : Nat) (h : i < l.length) : Rd.num (l.take (i + 1)) = Rd.step (Rd.num (l.take i)) (rd l (i : Int)) := by
  unfold Rd.num
  rw [List.take_succ_eq_append_getElem h, List.foldl_append]
  unfold rd
  rw [Int.toNat_natCast, List.getD_eq_getElem?_getD, List.getElem?_eq_getElem h]
  rfl

set_option maxHeartbeats 8000000 in
set_option maxRecDepth 100000 in
theorem Rd.clo (l : List Int) (a s : Int) (A : Option Addr) (c b : Nat) (w : World) (h0 : 0 ≤ a) (h1 : 0 ≤ s) (h2 : a + s ≤ l.length) (hC : Kd.C (Kd.int .u8) w A l.length l) (hc : l.length ≤ c) (hb : w.cell? ⟨b, 0, none⟩ = some (.slice A l.length c)) :
    Calls Try.prog 53 #[.int .i64 a, .int .i64 s, .pointer (some ⟨b, 0, none⟩)] w fun e w' => e = .returned (.int .u64 (Rd.num (Rd.part l a s))) ∧ w' = w := by
  have hm : (l.length : Int) ≤ 9223372036854775807 := by have := hC.2.1; omega
  obtain ⟨i0, hi, hz0, hz1, hz2⟩ := info_parts Rc.info5
  obtain ⟨A', hs1, hs2, hs3⟩ := print_mid_int (P := Try.prog) (k := .u8) 25 5 Try.underlying25 hi hz1 A c l a (a + s) h0 (by omega) h2 hc
  have hpl : ((l.take (a + s).toNat).drop a.toNat).length = s.toNat := by rw [List.length_drop, List.length_take]; omega
  have HC : Aside0 (Kd.C (Kd.int .u8) w A' (Rd.part l a s).length (Rd.part l a s)) := ⟨Kd.C_of_reads (enc := Value.int .u8) (d := (0 : Int)) (h1 := fun _ => rfl) (hs2 w (Kd.reads_of_C (enc := Value.int .u8) (d := (0 : Int)) (h1 := fun _ => rfl) hC))⟩
  have HPL := Aside0.mk (show (Rd.part l a s).length = s.toNat from hpl)
  have hs1' : ∀ (W : World), (Instr.slice 25 (.slice A l.length c) (some (.int .i64 a)) (some (.int .i64 (a + s))) none).run Try.prog W = .ok (.slice A' s.toNat (c - a.toNat)) W := fun W => by rw [hs1 W, hpl]
  have ha : a + s ≤ 9223372036854775807 := by omega
  clear hs1 hs2 hs3 hC hpl hz0 hz1 hz2 hi hm h2
  go_enter Try.func53, Try.ntmps53
  go_wp2
  go_loopw [5, 15] (fun v5 v15 wr => ∃ (i : Nat), v15 = .int .i64 i ∧ Aside0 (i ≤ (Rd.part l a s).length) ∧ v5 = .int .u64 (Rd.num ((Rd.part l a s).take i)) ∧ wr = w) (fun _ v15 _ => s.toNat - (intOf v15).toNat)
  case atStart => exact ⟨0, rfl, ⟨Nat.zero_le _⟩, rfl, rfl⟩
  case round =>
    obtain ⟨i, rfl, HI, rfl, rfl⟩ := hrel
    by_cases hlt : i < s.toNat
    · have hlt2 : i < (Rd.part l a s).length := by rw [HPL.out]; exact hlt
      have p0 : 0 ≤ ((i : Nat) : Int) := Int.natCast_nonneg _
      have q0 : ((i : Nat) : Int) < ((Rd.part l a s).length : Int) := by omega
      obtain ⟨ad, e, hx⟩ := Kd.at_int HC.out (i : Int) p0 q0
      cases e
      simp only [Int.toNat_natCast] at hx
      have HTS := Aside0.mk (Rd.take_snoc (Rd.part l a s) i hlt2)
      have hsm : (s.toNat : Int) ≤ 9223372036854775807 := by omega
      have HLT := Aside0.mk hlt2
      clear hlt2 q0
      go_wp2
      go_roundw
      case rel => exact ⟨i + 1, by go_num, ⟨HLT.out⟩, by rw [HTS.out]; rfl, trivial⟩
      case measure => simp [intOf]; omega
    · have HE := Aside0.mk (show (Rd.part l a s).take i = Rd.part l a s from List.take_of_length_le (by rw [HPL.out]; omega))
      go_wp2
      go_ret
      exact ⟨by show Ending.returned (.int .u64 (Rd.num ((Rd.part l a s).take i))) = _; rw [HE.out], rfl⟩

/-! ### Decode -/
def Rd.Z : Array Value := madeCells #[.int .u8 0] 28
def Rd.zeros : List Int := List.replicate 28 0
/-- Is it a record's form: the mark, and noughts? -/
def Rd.form (l : List Int) : Bool := (strOfNums (l.take 4)).toList == [82, 77, 84, 82] && (strOfNums (Rd.part l 32 28)).toList == (strOfNums Rd.zeros).toList
def Rd.dec (l : List Int) : Int × Int × Int × Int × Int :=
  if (l.length : Int) < 64 then (0, 0, 0, 0, 4) else if 64 < (l.length : Int) then (0, 0, 0, 0, 3)
  else if Rd.num (Rd.part l 60 4) ≠ IntKind.u64.wrap (Cr.sum (l.take 60)) then (0, 0, 0, 0, 6)
  else if Rd.form l = false then (0, 0, 0, 0, 5)
  else (IntKind.u32.wrap (Rd.num (Rd.part l 4 4)), wrap64 (Rd.num (Rd.part l 8 8)), wrap64 (Rd.num (Rd.part l 16 8)), wrap64 (Rd.num (Rd.part l 24 8)), 0)
def record_Decode.f (l : List Int) : Option (Int × Int × Int × Int × Int) := some (Rd.dec l)

set_option maxHeartbeats 8000000 in
set_option maxRecDepth 100000 in
theorem Rd.short (A : Option Addr) (c : Nat) (l : List Int) (w : World) (h : decide ((l.length : Int) < 64) = true) :
    Calls Try.prog 14 #[.slice A l.length c] w fun e w' => e = .returned (.tuple #[.agg #[.int .u32 0, .int .i64 0, .int .i64 0, .int .i64 0], .int .i64 4]) ∧ Below w.heap.size w w' := by
  have hu24 := Try.underlying24
  have hmf : ∀ (fn : Fn) (first cap : Array Value) (w : World), (Instr.makeFunc fn first cap).run Try.prog w = .ok (.func fn first cap) w := fun _ _ _ _ => rfl
  go_enter Try.func14, Try.ntmps14
  go_wp2
  refine bodyPost_ret (results_ct rfl _ _ (w.heap.size + 1) 24 #[.int .u32 0, .int .i64 0, .int .i64 0, .int .i64 0] (0, 0) _ rfl (by have := blk_new (w.alloc (.cells #[.slice A l.length c] 25 (0, 0))) (.cells #[.int .u32 0, .int .i64 0, .int .i64 0, .int .i64 0] 24 (0, 0)); rw [World.size_alloc] at this; exact this) Try.underlying24 rfl (by kernel_rfl)) rfl ?_
  exact ⟨rfl, below_alloc (below_alloc (Below.refl _ _) _) _⟩

set_option maxHeartbeats 8000000 in
set_option maxRecDepth 100000 in
theorem Rd.long (A : Option Addr) (c : Nat) (l : List Int) (w : World) (h : decide ((l.length : Int) < 64) = false) (h2 : decide (64 < (l.length : Int)) = true) :
    Calls Try.prog 14 #[.slice A l.length c] w fun e w' => e = .returned (.tuple #[.agg #[.int .u32 0, .int .i64 0, .int .i64 0, .int .i64 0], .int .i64 3]) ∧ Below w.heap.size w w' := by
  have hu24 := Try.underlying24
  have hmf : ∀ (fn : Fn) (first cap : Array Value) (w : World), (Instr.makeFunc fn first cap).run Try.prog w = .ok (.func fn first cap) w := fun _ _ _ _ => rfl
  go_enter Try.func14, Try.ntmps14
  go_wp2
  refine bodyPost_ret (results_ct rfl _ _ (w.heap.size + 1) 24 #[.int .u32 0, .int .i64 0, .int .i64 0, .int .i64 0] (0, 0) _ rfl (by have := blk_new (w.alloc (.cells #[.slice A l.length c] 25 (0, 0))) (.cells #[.int .u32 0, .int .i64 0, .int .i64 0, .int .i64 0] 24 (0, 0)); rw [World.size_alloc] at this; exact this) Try.underlying24 rfl (by kernel_rfl)) rfl ?_
  exact ⟨rfl, below_alloc (below_alloc (Below.refl _ _) _) _⟩

theorem Rd.crc60 (A : Option Addr) (c : Nat) (l : List Int) (W : World) (hl : l.length = 64) (hc : l.length ≤ c) (hC : Kd.C (Kd.int .u8) W A l.length l) :
    Calls Try.prog 52 #[.slice A 60 c] W fun e w' => e = .returned (.int .u32 (Cr.sum (l.take 60))) ∧ Below W.heap.size W w' := by
  have e : (l.take 60).length = 60 := by rw [List.length_take]; omega
  have := sums_CRC.calls A c (l.take 60) (Cr.sum (l.take 60)) W (Kd.C_take hC (by omega)) (by omega) rfl
  rw [e] at this
  exact this

/-- What holds behind the sums: the box of the bytes, the result's cell, the bytes. -/
def Rd.S (w W : World) (A : Option Addr) (c : Nat) (l : List Int) : Prop :=
  W.heap[w.heap.size]? = some (.cells #[.slice A l.length c] 25 (0, 0)) ∧ W.heap[w.heap.size + 1]? = some (.cells #[.int .u32 0, .int .i64 0, .int .i64 0, .int .i64 0] 24 (0, 0)) ∧ Kd.C (Kd.int .u8) W A l.length l ∧ Below w.heap.size w W
theorem Rd.s_step {w W W1 : World} {A : Option Addr} {c : Nat} {l : List Int} (h : Rd.S w W A c l) (hb : Below W.heap.size W W1) : Rd.S w W1 A c l :=
  ⟨blk_below h.1 hb, blk_below h.2.1 hb, Kd.C_below h.2.2.1 hb, below_step h.2.2.2 hb⟩
theorem Rd.s_start (w : World) (A : Option Addr) (c : Nat) (l : List Int) (hC : Kd.C (Kd.int .u8) w A l.length l) : Rd.S w ((w.alloc (.cells #[.slice A l.length c] 25 (0, 0))).alloc (.cells #[.int .u32 0, .int .i64 0, .int .i64 0, .int .i64 0] 24 (0, 0))) A c l := by
  refine ⟨blk_alloc (blk_new w _) _, ?_, Kd.C_alloc (Kd.C_alloc hC _) _, below_alloc (below_alloc (Below.refl _ _) _) _⟩
  have := blk_new (w.alloc (.cells #[.slice A l.length c] 25 (0, 0))) (.cells #[.int .u32 0, .int .i64 0, .int .i64 0, .int .i64 0] 24 (0, 0))
  rw [World.size_alloc] at this
  exact this

set_option maxHeartbeats 8000000 in
set_option maxRecDepth 100000 in
theorem Rd.sum (A : Option Addr) (c : Nat) (l : List Int) (w : World) (hl : l.length = 64) (hC : Kd.C (Kd.int .u8) w A l.length l) (hc : l.length ≤ c) (d : (Rd.num (Rd.part l 60 4) != IntKind.u64.wrap (Cr.sum (l.take 60))) = true) :
    Calls Try.prog 14 #[.slice A l.length c] w fun e w' => e = .returned (.tuple #[.agg #[.int .u32 0, .int .i64 0, .int .i64 0, .int .i64 0], .int .i64 6]) ∧ Below w.heap.size w w' := by
  have hu24 := Try.underlying24
  have hmf : ∀ (fn : Fn) (first cap : Array Value) (w : World), (Instr.makeFunc fn first cap).run Try.prog w = .ok (.func fn first cap) w := fun _ _ _ _ => rfl
  have h : decide ((l.length : Int) < 64) = false := decide_eq_false (by omega)
  have h2 : decide (64 < (l.length : Int)) = false := decide_eq_false (by omega)
  have HS := Aside0.mk (Rd.s_start w A c l hC)
  have HC := Aside0.mk hc
  have HL := Aside0.mk hl
  obtain ⟨i0, hi, hz0, hz1, hz2⟩ := info_parts Rc.info5
  have hs60 := (print_take_int (P := Try.prog) (k := .u8) 25 5 Try.underlying25 hi hz1 A c l 60 (by omega) (by omega) hc).1
  rw [show (60 : Int).toNat = 60 from rfl, show (l.take 60).length = 60 by rw [List.length_take]; omega] at hs60
  clear hl hc hi hz0 hz1 hz2 hC
  go_enter Try.func14, Try.ntmps14
  go_upto_region 6 with (fail)
  generalize ((w.alloc (.cells #[.slice A l.length c] 25)).alloc (.cells #[.int .u32 0, .int .i64 0, .int .i64 0, .int .i64 0] 24)) = w5 at HS ⊢
  have g0 := blk_cell HS.out.1 0
  go_cut [16] (fun s16 wr => s16 = .bool true ∧ Aside0 (Rd.S w wr A c l))
  case first =>
    go_region_with (first
      | (go_at_call 53; (refine (Rd.clo l 60 4 A c w.heap.size _ (by decide) (by decide) (by rw [HL.out]; decide) ?p1 HC.out ?p2).mono ?_)
         (case p1 => exact Kd.C_drew HS.out.2.2.1)
         (case p2 => simpa using g0)
         rintro e w' ⟨rfl, rfl⟩)
      | (go_at_call 52; (refine (Rd.crc60 A c l _ HL.out HC.out ?p3).mono ?_)
         (case p3 => exact Kd.C_drew HS.out.2.2.1)
         rintro e w6 ⟨rfl, hb⟩))
    all_goals (go_wp2_with fail; go_meet)
    all_goals exact ⟨rfl, ⟨Rd.s_step HS.out ((below_drew1 (Below.refl _ _)).trans hb)⟩⟩
  case rest =>
    obtain ⟨rfl, HS6⟩ := hcut
    clear HS g0
    rename World => w6
    have r0 := blk_cell HS6.out.2.1 0
    have r1 := blk_cell HS6.out.2.1 1
    have r2 := blk_cell HS6.out.2.1 2
    have r3 := blk_cell HS6.out.2.1 3
    have f0 := blk_frozen HS6.out.2.1 0
    have f1 := blk_frozen HS6.out.2.1 1
    have f2 := blk_frozen HS6.out.2.1 2
    have f3 := blk_frozen HS6.out.2.1 3
    go_wp2
    refine bodyPost_ret (results_ct rfl _ _ (w.heap.size + 1) 24 #[.int .u32 0, .int .i64 0, .int .i64 0, .int .i64 0] (0, 0) _ rfl (blk_set (blk_set (blk_set (blk_set HS6.out.2.1 0 _) 1 _) 2 _) 3 _) Try.underlying24 rfl (by kernel_rfl)) rfl ?_
    exact ⟨rfl, (((HS6.out.2.2.2.setCell (p := ⟨w.heap.size + 1, 0, none⟩) (Nat.le_succ _) _).setCell (p := ⟨w.heap.size + 1, 1, none⟩) (Nat.le_succ _) _).setCell (p := ⟨w.heap.size + 1, 2, none⟩) (Nat.le_succ _) _).setCell (p := ⟨w.heap.size + 1, 3, none⟩) (Nat.le_succ _) _⟩

set_option maxHeartbeats 8000000 in
set_option maxRecDepth 100000 in
theorem Rd.mark (A : Option Addr) (c : Nat) (l : List Int) (w : World) (hl : l.length = 64) (hC : Kd.C (Kd.int .u8) w A l.length l) (hc : l.length ≤ c) (d : (Rd.num (Rd.part l 60 4) != IntKind.u64.wrap (Cr.sum (l.take 60))) = false) (m : ((strOfNums (l.take 4)).toList == [82, 77, 84, 82]) = false) :
    Calls Try.prog 14 #[.slice A l.length c] w fun e w' => e = .returned (.tuple #[.agg #[.int .u32 0, .int .i64 0, .int .i64 0, .int .i64 0], .int .i64 5]) ∧ Below w.heap.size w w' := by
  have hu24 := Try.underlying24
  have hmf : ∀ (fn : Fn) (first cap : Array Value) (w : World), (Instr.makeFunc fn first cap).run Try.prog w = .ok (.func fn first cap) w := fun _ _ _ _ => rfl
  have h : decide ((l.length : Int) < 64) = false := decide_eq_false (by omega)
  have h2 : decide (64 < (l.length : Int)) = false := decide_eq_false (by omega)
  have HS := Aside0.mk (Rd.s_start w A c l hC)
  have HC := Aside0.mk hc
  have HL := Aside0.mk hl
  obtain ⟨i0, hi, hz0, hz1, hz2⟩ := info_parts Rc.info5
  have hs60 := (print_take_int (P := Try.prog) (k := .u8) 25 5 Try.underlying25 hi hz1 A c l 60 (by omega) (by omega) hc).1
  rw [show (60 : Int).toNat = 60 from rfl, show (l.take 60).length = 60 by rw [List.length_take]; omega] at hs60
  clear hl hc hi hz0 hz1 hz2 hC
  go_enter Try.func14, Try.ntmps14
  go_upto_region 6 with (fail)
  generalize ((w.alloc (.cells #[.slice A l.length c] 25)).alloc (.cells #[.int .u32 0, .int .i64 0, .int .i64 0, .int .i64 0] 24)) = w5 at HS ⊢
  have g0 := blk_cell HS.out.1 0
  go_cut [16] (fun s16 wr => s16 = .bool false ∧ Aside0 (Rd.S w wr A c l))
  case first =>
    go_region_with (first
      | (go_at_call 53; (refine (Rd.clo l 60 4 A c w.heap.size _ (by decide) (by decide) (by rw [HL.out]; decide) ?p1 HC.out ?p2).mono ?_)
         (case p1 => exact Kd.C_drew HS.out.2.2.1)
         (case p2 => simpa using g0)
         rintro e w' ⟨rfl, rfl⟩)
      | (go_at_call 52; (refine (Rd.crc60 A c l _ HL.out HC.out ?p3).mono ?_)
         (case p3 => exact Kd.C_drew HS.out.2.2.1)
         rintro e w6 ⟨rfl, hb⟩))
    all_goals (go_wp2_with fail; go_meet)
    all_goals exact ⟨rfl, ⟨Rd.s_step HS.out ((below_drew1 (Below.refl _ _)).trans hb)⟩⟩
  case rest =>
    obtain ⟨rfl, HS6⟩ := hcut
    clear HS g0
    rename World => w6
    go_upto_region 8 with (fail)
    have hC6 := HS6.out.2.2.1
    have g0 := blk_cell HS6.out.1 0
    obtain ⟨i0, hi, hz0, hz1, hz2⟩ := info_parts Rc.info5
    have hs4 := (print_take_int (P := Try.prog) (k := .u8) 25 5 Try.underlying25 hi hz1 A c l 4 (by omega) (by rw [HL.out]; decide) HC.out).1
    rw [show (4 : Int).toNat = 4 from rfl, show (l.take 4).length = 4 by rw [List.length_take, HL.out]; rfl] at hs4
    have cv4 : (convert 25 9 (.slice A 4 c)).run Try.prog w6.drew = .ok (.string (strOfNums (l.take 4))) w6.drew := by
      have := Kd.C_string (P := Try.prog) (A := A) (c := c) Try.underlying25 Try.underlying5 Try.underlying9 (Kd.C_take (m := 4) (Kd.C_drew hC6) (by rw [HL.out]; decide))
      rwa [show (l.take 4).length = 4 by rw [List.length_take, HL.out]; rfl] at this
    clear hi hz0 hz1 hz2 hC6
    go_cut [25] (fun s25 wr => s25 = .bool true ∧ Aside0 (Rd.S w wr A c l))
    case first =>
      go_region
      all_goals (go_wp2_with fail; go_meet)
      all_goals exact ⟨rfl, ⟨Rd.s_step HS6.out (below_drew1 (Below.refl _ _))⟩⟩
    case rest =>
      obtain ⟨rfl, HS7⟩ := hcut
      clear HS6 g0 cv4
      have HS6 := HS7
      clear HS7
      have r0 := blk_cell HS6.out.2.1 0
      have r1 := blk_cell HS6.out.2.1 1
      have r2 := blk_cell HS6.out.2.1 2
      have r3 := blk_cell HS6.out.2.1 3
      have f0 := blk_frozen HS6.out.2.1 0
      have f1 := blk_frozen HS6.out.2.1 1
      have f2 := blk_frozen HS6.out.2.1 2
      have f3 := blk_frozen HS6.out.2.1 3
      go_wp2
      refine bodyPost_ret (results_ct rfl _ _ (w.heap.size + 1) 24 #[.int .u32 0, .int .i64 0, .int .i64 0, .int .i64 0] (0, 0) _ rfl (blk_set (blk_set (blk_set (blk_set HS6.out.2.1 0 _) 1 _) 2 _) 3 _) Try.underlying24 rfl (by kernel_rfl)) rfl ?_
      exact ⟨rfl, (((HS6.out.2.2.2.setCell (p := ⟨w.heap.size + 1, 0, none⟩) (Nat.le_succ _) _).setCell (p := ⟨w.heap.size + 1, 1, none⟩) (Nat.le_succ _) _).setCell (p := ⟨w.heap.size + 1, 2, none⟩) (Nat.le_succ _) _).setCell (p := ⟨w.heap.size + 1, 3, none⟩) (Nat.le_succ _) _⟩

set_option maxHeartbeats 8000000 in
set_option maxRecDepth 100000 in
theorem Rd.blank (A : Option Addr) (c : Nat) (l : List Int) (w : World) (hl : l.length = 64) (hC : Kd.C (Kd.int .u8) w A l.length l) (hc : l.length ≤ c) (d : (Rd.num (Rd.part l 60 4) != IntKind.u64.wrap (Cr.sum (l.take 60))) = false) (m : ((strOfNums (l.take 4)).toList == [82, 77, 84, 82]) = true) (m2 : ((strOfNums (Rd.part l 32 28)).toList == (strOfNums Rd.zeros).toList) = false) :
    Calls Try.prog 14 #[.slice A l.length c] w fun e w' => e = .returned (.tuple #[.agg #[.int .u32 0, .int .i64 0, .int .i64 0, .int .i64 0], .int .i64 5]) ∧ Below w.heap.size w w' := by
  have hu24 := Try.underlying24
  have hmf : ∀ (fn : Fn) (first cap : Array Value) (w : World), (Instr.makeFunc fn first cap).run Try.prog w = .ok (.func fn first cap) w := fun _ _ _ _ => rfl
  have h : decide ((l.length : Int) < 64) = false := decide_eq_false (by omega)
  have h2 : decide (64 < (l.length : Int)) = false := decide_eq_false (by omega)
  have HS := Aside0.mk (Rd.s_start w A c l hC)
  have HC := Aside0.mk hc
  have HL := Aside0.mk hl
  obtain ⟨i0, hi, hz0, hz1, hz2⟩ := info_parts Rc.info5
  have hs60 := (print_take_int (P := Try.prog) (k := .u8) 25 5 Try.underlying25 hi hz1 A c l 60 (by omega) (by omega) hc).1
  rw [show (60 : Int).toNat = 60 from rfl, show (l.take 60).length = 60 by rw [List.length_take]; omega] at hs60
  clear hl hc hi hz0 hz1 hz2 hC
  go_enter Try.func14, Try.ntmps14
  go_upto_region 6 with (fail)
  generalize ((w.alloc (.cells #[.slice A l.length c] 25)).alloc (.cells #[.int .u32 0, .int .i64 0, .int .i64 0, .int .i64 0] 24)) = w5 at HS ⊢
  have g0 := blk_cell HS.out.1 0
  go_cut [16] (fun s16 wr => s16 = .bool false ∧ Aside0 (Rd.S w wr A c l))
  case first =>
    go_region_with (first
      | (go_at_call 53; (refine (Rd.clo l 60 4 A c w.heap.size _ (by decide) (by decide) (by rw [HL.out]; decide) ?p1 HC.out ?p2).mono ?_)
         (case p1 => exact Kd.C_drew HS.out.2.2.1)
         (case p2 => simpa using g0)
         rintro e w' ⟨rfl, rfl⟩)
      | (go_at_call 52; (refine (Rd.crc60 A c l _ HL.out HC.out ?p3).mono ?_)
         (case p3 => exact Kd.C_drew HS.out.2.2.1)
         rintro e w6 ⟨rfl, hb⟩))
    all_goals (go_wp2_with fail; go_meet)
    all_goals exact ⟨rfl, ⟨Rd.s_step HS.out ((below_drew1 (Below.refl _ _)).trans hb)⟩⟩
  case rest =>
    obtain ⟨rfl, HS6⟩ := hcut
    clear HS g0
    rename World => w6
    go_upto_region 8 with (fail)
    have hC6 := HS6.out.2.2.1
    have g0 := blk_cell HS6.out.1 0
    obtain ⟨i0, hi, hz0, hz1, hz2⟩ := info_parts Rc.info5
    have hs4 := (print_take_int (P := Try.prog) (k := .u8) 25 5 Try.underlying25 hi hz1 A c l 4 (by omega) (by rw [HL.out]; decide) HC.out).1
    rw [show (4 : Int).toNat = 4 from rfl, show (l.take 4).length = 4 by rw [List.length_take, HL.out]; rfl] at hs4
    have cv4 : (convert 25 9 (.slice A 4 c)).run Try.prog w6.drew = .ok (.string (strOfNums (l.take 4))) w6.drew := by
      have := Kd.C_string (P := Try.prog) (A := A) (c := c) Try.underlying25 Try.underlying5 Try.underlying9 (Kd.C_take (m := 4) (Kd.C_drew hC6) (by rw [HL.out]; decide))
      rwa [show (l.take 4).length = 4 by rw [List.length_take, HL.out]; rfl] at this
    have hs28 := print_mid_int (P := Try.prog) (k := .u8) 25 5 Try.underlying25 hi hz1 A c l 32 60 (by omega) (by omega) (by rw [HL.out]; decide) HC.out
    obtain ⟨A', hm1, hm2, hm3⟩ := hs28
    have hp28 : Rd.part l 32 28 = (l.take (60 : Int).toNat).drop (32 : Int).toNat := rfl
    rw [← hp28] at hm1 hm2 hm3
    have hl28 : (Rd.part l 32 28).length = 28 := by rw [hp28, List.length_drop, List.length_take, HL.out]; rfl
    have hC28 : Kd.C (Kd.int .u8) w6 A' (Rd.part l 32 28).length (Rd.part l 32 28) := Kd.C_of_reads (enc := Value.int .u8) (d := (0 : Int)) (h1 := fun _ => rfl) (hm2 w6 (Kd.reads_of_C (enc := Value.int .u8) (d := (0 : Int)) (h1 := fun _ => rfl) hC6))
    rw [hl28] at hm1 hm3
    have hmk : ∀ W : World, (Instr.makeSlice 25 (.int .i64 28) (.int .i64 28)).run Try.prog W = .ok (.slice (some ⟨W.heap.size, 0, none⟩) 28 28) (W.alloc (.cells Rd.Z 5)) := print_make (P := Try.prog) 25 5 .u8 1 Try.underlying25 Rc.info5 (by decide) 28 (by decide)
    have g1 := blk_cell (blk_alloc HS6.out.1 (.cells Rd.Z 5)) 0
    have cv5 : (convert 25 9 (.slice A' 28 (c - 32))).run Try.prog w6.drew = .ok (.string (strOfNums (Rd.part l 32 28))) w6.drew := by
      have := Kd.C_string (P := Try.prog) (A := A') (c := c - 32) Try.underlying25 Try.underlying5 Try.underlying9 (Kd.C_drew hC28)
      rwa [hl28] at this
    have cv6 : (convert 25 9 (.slice A' 28 (c - 32))).run Try.prog (w6.alloc (.cells Rd.Z 5)).drew = .ok (.string (strOfNums (Rd.part l 32 28))) (w6.alloc (.cells Rd.Z 5)).drew := by
      have := Kd.C_string (P := Try.prog) (A := A') (c := c - 32) Try.underlying25 Try.underlying5 Try.underlying9 (Kd.C_alloc (Kd.C_drew hC28) (.cells Rd.Z 5))
      rwa [hl28] at this
    have cv7 : (convert 25 9 (.slice (some ⟨w6.heap.size, 0, none⟩) 28 28)).run Try.prog (w6.alloc (.cells Rd.Z 5)).drew = .ok (.string (strOfNums Rd.zeros)) (w6.alloc (.cells Rd.Z 5)).drew :=
      own_string Try.underlying25 Try.underlying5 Try.underlying9 (own_made w6.drew 0 5 .u8 28 (Nat.zero_le _) (by decide))
    clear hi hz0 hz1 hz2 hC6
    go_cut [25] (fun s25 wr => s25 = .bool true ∧ Aside0 (Rd.S w wr A c l))
    case first =>
      go_region
      all_goals (go_wp2_with fail; go_meet)
      all_goals exact ⟨by first | rfl | (show Value.bool (!((strOfNums (Rd.part l 32 28)).toList == (strOfNums Rd.zeros).toList)) = _; rw [m2]; rfl), ⟨Rd.s_step HS6.out (below_drew1 (below_alloc (Below.refl _ _) _))⟩⟩
    case rest =>
      obtain ⟨rfl, HS7⟩ := hcut
      clear HS6 g0 cv4 cv5 cv6 cv7
      have HS6 := HS7
      clear HS7
      have r0 := blk_cell HS6.out.2.1 0
      have r1 := blk_cell HS6.out.2.1 1
      have r2 := blk_cell HS6.out.2.1 2
      have r3 := blk_cell HS6.out.2.1 3
      have f0 := blk_frozen HS6.out.2.1 0
      have f1 := blk_frozen HS6.out.2.1 1
      have f2 := blk_frozen HS6.out.2.1 2
      have f3 := blk_frozen HS6.out.2.1 3
      go_wp2
      refine bodyPost_ret (results_ct rfl _ _ (w.heap.size + 1) 24 #[.int .u32 0, .int .i64 0, .int .i64 0, .int .i64 0] (0, 0) _ rfl (blk_set (blk_set (blk_set (blk_set HS6.out.2.1 0 _) 1 _) 2 _) 3 _) Try.underlying24 rfl (by kernel_rfl)) rfl ?_
      exact ⟨rfl, (((HS6.out.2.2.2.setCell (p := ⟨w.heap.size + 1, 0, none⟩) (Nat.le_succ _) _).setCell (p := ⟨w.heap.size + 1, 1, none⟩) (Nat.le_succ _) _).setCell (p := ⟨w.heap.size + 1, 2, none⟩) (Nat.le_succ _) _).setCell (p := ⟨w.heap.size + 1, 3, none⟩) (Nat.le_succ _) _⟩


set_option maxHeartbeats 8000000 in
set_option maxRecDepth 100000 in
theorem Rd.good (A : Option Addr) (c : Nat) (l : List Int) (w : World) (hl : l.length = 64) (hC : Kd.C (Kd.int .u8) w A l.length l) (hc : l.length ≤ c) (d : (Rd.num (Rd.part l 60 4) != IntKind.u64.wrap (Cr.sum (l.take 60))) = false) (m : ((strOfNums (l.take 4)).toList == [82, 77, 84, 82]) = true) (m2 : ((strOfNums (Rd.part l 32 28)).toList == (strOfNums Rd.zeros).toList) = true) :
    Calls Try.prog 14 #[.slice A l.length c] w fun e w' => e = .returned (.tuple #[.agg #[.int .u32 (IntKind.u32.wrap (Rd.num (Rd.part l 4 4))), .int .i64 (wrap64 (Rd.num (Rd.part l 8 8))), .int .i64 (wrap64 (Rd.num (Rd.part l 16 8))), .int .i64 (wrap64 (Rd.num (Rd.part l 24 8)))], .int .i64 0]) ∧ Below w.heap.size w w' := by
  have hu24 := Try.underlying24
  have hmf : ∀ (fn : Fn) (first cap : Array Value) (w : World), (Instr.makeFunc fn first cap).run Try.prog w = .ok (.func fn first cap) w := fun _ _ _ _ => rfl
  have h : decide ((l.length : Int) < 64) = false := decide_eq_false (by omega)
  have h2 : decide (64 < (l.length : Int)) = false := decide_eq_false (by omega)
  have HS := Aside0.mk (Rd.s_start w A c l hC)
  have HC := Aside0.mk hc
  have HL := Aside0.mk hl
  obtain ⟨i0, hi, hz0, hz1, hz2⟩ := info_parts Rc.info5
  have hs60 := (print_take_int (P := Try.prog) (k := .u8) 25 5 Try.underlying25 hi hz1 A c l 60 (by omega) (by omega) hc).1
  rw [show (60 : Int).toNat = 60 from rfl, show (l.take 60).length = 60 by rw [List.length_take]; omega] at hs60
  clear hl hc hi hz0 hz1 hz2 hC
  go_enter Try.func14, Try.ntmps14
  go_upto_region 6 with (fail)
  generalize ((w.alloc (.cells #[.slice A l.length c] 25)).alloc (.cells #[.int .u32 0, .int .i64 0, .int .i64 0, .int .i64 0] 24)) = w5 at HS ⊢
  have g0 := blk_cell HS.out.1 0
  go_cut [16] (fun s16 wr => s16 = .bool false ∧ Aside0 (Rd.S w wr A c l))
  case first =>
    go_region_with (first
      | (go_at_call 53; (refine (Rd.clo l 60 4 A c w.heap.size _ (by decide) (by decide) (by rw [HL.out]; decide) ?p1 HC.out ?p2).mono ?_)
         (case p1 => exact Kd.C_drew HS.out.2.2.1)
         (case p2 => simpa using g0)
         rintro e w' ⟨rfl, rfl⟩)
      | (go_at_call 52; (refine (Rd.crc60 A c l _ HL.out HC.out ?p3).mono ?_)
         (case p3 => exact Kd.C_drew HS.out.2.2.1)
         rintro e w6 ⟨rfl, hb⟩))
    all_goals (go_wp2_with fail; go_meet)
    all_goals exact ⟨rfl, ⟨Rd.s_step HS.out ((below_drew1 (Below.refl _ _)).trans hb)⟩⟩
  case rest =>
    obtain ⟨rfl, HS6⟩ := hcut
    clear HS g0
    rename World => w6
    go_upto_region 8 with (fail)
    have hC6 := HS6.out.2.2.1
    have g0 := blk_cell HS6.out.1 0
    obtain ⟨i0, hi, hz0, hz1, hz2⟩ := info_parts Rc.info5
    have hs4 := (print_take_int (P := Try.prog) (k := .u8) 25 5 Try.underlying25 hi hz1 A c l 4 (by omega) (by rw [HL.out]; decide) HC.out).1
    rw [show (4 : Int).toNat = 4 from rfl, show (l.take 4).length = 4 by rw [List.length_take, HL.out]; rfl] at hs4
    have cv4 : (convert 25 9 (.slice A 4 c)).run Try.prog w6.drew = .ok (.string (strOfNums (l.take 4))) w6.drew := by
      have := Kd.C_string (P := Try.prog) (A := A) (c := c) Try.underlying25 Try.underlying5 Try.underlying9 (Kd.C_take (m := 4) (Kd.C_drew hC6) (by rw [HL.out]; decide))
      rwa [show (l.take 4).length = 4 by rw [List.length_take, HL.out]; rfl] at this
    have hs28 := print_mid_int (P := Try.prog) (k := .u8) 25 5 Try.underlying25 hi hz1 A c l 32 60 (by omega) (by omega) (by rw [HL.out]; decide) HC.out
    obtain ⟨A', hm1, hm2, hm3⟩ := hs28
    have hp28 : Rd.part l 32 28 = (l.take (60 : Int).toNat).drop (32 : Int).toNat := rfl
    rw [← hp28] at hm1 hm2 hm3
    have hl28 : (Rd.part l 32 28).length = 28 := by rw [hp28, List.length_drop, List.length_take, HL.out]; rfl
    have hC28 : Kd.C (Kd.int .u8) w6 A' (Rd.part l 32 28).length (Rd.part l 32 28) := Kd.C_of_reads (enc := Value.int .u8) (d := (0 : Int)) (h1 := fun _ => rfl) (hm2 w6 (Kd.reads_of_C (enc := Value.int .u8) (d := (0 : Int)) (h1 := fun _ => rfl) hC6))
    rw [hl28] at hm1 hm3
    have hmk : ∀ W : World, (Instr.makeSlice 25 (.int .i64 28) (.int .i64 28)).run Try.prog W = .ok (.slice (some ⟨W.heap.size, 0, none⟩) 28 28) (W.alloc (.cells Rd.Z 5)) := print_make (P := Try.prog) 25 5 .u8 1 Try.underlying25 Rc.info5 (by decide) 28 (by decide)
    have g1 := blk_cell (blk_alloc HS6.out.1 (.cells Rd.Z 5)) 0
    have cv5 : (convert 25 9 (.slice A' 28 (c - 32))).run Try.prog w6.drew = .ok (.string (strOfNums (Rd.part l 32 28))) w6.drew := by
      have := Kd.C_string (P := Try.prog) (A := A') (c := c - 32) Try.underlying25 Try.underlying5 Try.underlying9 (Kd.C_drew hC28)
      rwa [hl28] at this
    have cv6 : (convert 25 9 (.slice A' 28 (c - 32))).run Try.prog (w6.alloc (.cells Rd.Z 5)).drew = .ok (.string (strOfNums (Rd.part l 32 28))) (w6.alloc (.cells Rd.Z 5)).drew := by
      have := Kd.C_string (P := Try.prog) (A := A') (c := c - 32) Try.underlying25 Try.underlying5 Try.underlying9 (Kd.C_alloc (Kd.C_drew hC28) (.cells Rd.Z 5))
      rwa [hl28] at this
    have cv7 : (convert 25 9 (.slice (some ⟨w6.heap.size, 0, none⟩) 28 28)).run Try.prog (w6.alloc (.cells Rd.Z 5)).drew = .ok (.string (strOfNums Rd.zeros)) (w6.alloc (.cells Rd.Z 5)).drew :=
      own_string Try.underlying25 Try.underlying5 Try.underlying9 (own_made w6.drew 0 5 .u8 28 (Nat.zero_le _) (by decide))
    clear hi hz0 hz1 hz2 hC6
    go_cut [25] (fun s25 wr => s25 = .bool false ∧ Aside0 (Rd.S w wr A c l))
    case first =>
      go_region
      all_goals (go_wp2_with fail; go_meet)
      all_goals exact ⟨by first | rfl | (show Value.bool (!((strOfNums (Rd.part l 32 28)).toList == (strOfNums Rd.zeros).toList)) = _; rw [m2]; rfl), ⟨Rd.s_step HS6.out (below_drew1 (below_alloc (Below.refl _ _) _))⟩⟩
    case rest =>
      obtain ⟨rfl, HS7⟩ := hcut
      clear HS6 g0 g1 cv4 cv5 cv6 cv7
      have HS6 := HS7
      clear HS7
      rename World => w7
      have r0 := blk_cell HS6.out.2.1 0
      have r1 := blk_cell HS6.out.2.1 1
      have r2 := blk_cell HS6.out.2.1 2
      have r3 := blk_cell HS6.out.2.1 3
      have f0 := blk_frozen HS6.out.2.1 0
      have f1 := blk_frozen HS6.out.2.1 1
      have f2 := blk_frozen HS6.out.2.1 2
      have f3 := blk_frozen HS6.out.2.1 3
      have q4 := Aside0.mk (show (0 : Int) ≤ 4 ∧ (0 : Int) ≤ 4 ∧ (4 : Int) + 4 ≤ l.length by have := HL.out; omega)
      have q8 := Aside0.mk (show (0 : Int) ≤ 8 ∧ (0 : Int) ≤ 8 ∧ (8 : Int) + 8 ≤ l.length by have := HL.out; omega)
      have q16 := Aside0.mk (show (0 : Int) ≤ 16 ∧ (0 : Int) ≤ 8 ∧ (16 : Int) + 8 ≤ l.length by have := HL.out; omega)
      have q24 := Aside0.mk (show (0 : Int) ≤ 24 ∧ (0 : Int) ≤ 8 ∧ (24 : Int) + 8 ≤ l.length by have := HL.out; omega)
      have hC7 := Aside0.mk HS6.out.2.2.1
      have b0 := Aside0.mk ((blk_cell HS6.out.1 0).trans rfl : w7.cell? ⟨w.heap.size, 0, none⟩ = some (.slice A l.length c))
      go_wp2_with (first
        | (go_at_call 53; (with_reducible refine (Rd.clo l 4 4 A c w.heap.size _ q4.out.1 q4.out.2.1 q4.out.2.2 hC7.out HC.out b0.out).mono ?_); rintro e w' ⟨rfl, rfl⟩)
        | (go_at_call 53; (with_reducible refine (Rd.clo l 8 8 A c w.heap.size _ q8.out.1 q8.out.2.1 q8.out.2.2 hC7.out HC.out b0.out).mono ?_); rintro e w' ⟨rfl, rfl⟩)
        | (go_at_call 53; (with_reducible refine (Rd.clo l 16 8 A c w.heap.size _ q16.out.1 q16.out.2.1 q16.out.2.2 hC7.out HC.out b0.out).mono ?_); rintro e w' ⟨rfl, rfl⟩)
        | (go_at_call 53; (with_reducible refine (Rd.clo l 24 8 A c w.heap.size _ q24.out.1 q24.out.2.1 q24.out.2.2 hC7.out HC.out b0.out).mono ?_); rintro e w' ⟨rfl, rfl⟩))
      refine bodyPost_ret (results_ct rfl _ _ (w.heap.size + 1) 24 #[.int .u32 (IntKind.u32.wrap (Rd.num (Rd.part l 4 4))), .int .i64 (wrap64 (Rd.num (Rd.part l 8 8))), .int .i64 (wrap64 (Rd.num (Rd.part l 16 8))), .int .i64 (wrap64 (Rd.num (Rd.part l 24 8)))] (0, 0) _ rfl (blk_set (blk_set (blk_set (blk_set HS6.out.2.1 0 _) 1 _) 2 _) 3 _) Try.underlying24 rfl (by kernel_rfl)) rfl ?_
      exact ⟨rfl, (((HS6.out.2.2.2.setCell (p := ⟨w.heap.size + 1, 0, none⟩) (Nat.le_succ _) _).setCell (p := ⟨w.heap.size + 1, 1, none⟩) (Nat.le_succ _) _).setCell (p := ⟨w.heap.size + 1, 2, none⟩) (Nat.le_succ _) _).setCell (p := ⟨w.heap.size + 1, 3, none⟩) (Nat.le_succ _) _⟩


theorem record_Decode.calls (A : Option Addr) (c : Nat) (l : List Int) (r1 r2 r3 r4 r5 : Int) (w : World) (hC : Kd.C (Kd.int .u8) w A l.length l) (hc : l.length ≤ c) (h : record_Decode.f l = some (r1, r2, r3, r4, r5)) :
    Calls Try.prog 14 #[.slice A l.length c] w fun e w' => e = .returned (.tuple #[.agg #[.int .u32 r1, .int .i64 r2, .int .i64 r3, .int .i64 r4], .int .i64 r5]) ∧ Below w.heap.size w w' := by
  have H := Option.some.inj h
  clear h
  unfold Rd.dec at H
  by_cases h1 : (l.length : Int) < 64
  · rw [if_pos h1] at H
    simp only [Prod.mk.injEq] at H
    obtain ⟨rfl, rfl, rfl, rfl, rfl⟩ := H
    exact Rd.short A c l w (decide_eq_true h1)
  rw [if_neg h1] at H
  by_cases h2 : 64 < (l.length : Int)
  · rw [if_pos h2] at H
    simp only [Prod.mk.injEq] at H
    obtain ⟨rfl, rfl, rfl, rfl, rfl⟩ := H
    exact Rd.long A c l w (decide_eq_false h1) (decide_eq_true h2)
  rw [if_neg h2] at H
  have hl : l.length = 64 := by omega
  by_cases h3 : Rd.num (Rd.part l 60 4) ≠ IntKind.u64.wrap (Cr.sum (l.take 60))
  · rw [if_pos h3] at H
    simp only [Prod.mk.injEq] at H
    obtain ⟨rfl, rfl, rfl, rfl, rfl⟩ := H
    exact Rd.sum A c l w hl hC hc (bne_iff_ne.mpr h3)
  rw [if_neg h3] at H
  have d : (Rd.num (Rd.part l 60 4) != IntKind.u64.wrap (Cr.sum (l.take 60))) = false := by simpa using h3
  cases m : ((strOfNums (l.take 4)).toList == [82, 77, 84, 82]) with
  | false =>
    rw [if_pos (show Rd.form l = false by unfold Rd.form; rw [m]; rfl)] at H
    simp only [Prod.mk.injEq] at H
    obtain ⟨rfl, rfl, rfl, rfl, rfl⟩ := H
    exact Rd.mark A c l w hl hC hc d m
  | true =>
    cases m2 : ((strOfNums (Rd.part l 32 28)).toList == (strOfNums Rd.zeros).toList) with
    | false =>
      rw [if_pos (show Rd.form l = false by unfold Rd.form; rw [m, m2]; rfl)] at H
      simp only [Prod.mk.injEq] at H
      obtain ⟨rfl, rfl, rfl, rfl, rfl⟩ := H
      exact Rd.blank A c l w hl hC hc d m m2
    | true =>
      rw [if_neg (show ¬ Rd.form l = false by unfold Rd.form; rw [m, m2]; decide)] at H
      simp only [Prod.mk.injEq] at H
      obtain ⟨rfl, rfl, rfl, rfl, rfl⟩ := H
      exact Rd.good A c l w hl hC hc d m m2
end Go.Proofs.Ytjldkgcabombhaa

/- Plain laws of chapter 26: a number out of bytes and back; the document's readings of it. -/
namespace Go.Proofs.Ytjldkgcabombhaa.Rec
set_option linter.unusedVariables false
open Go.RowKit Go.Proofs.Ytjldkgcabombhaa Go.Proofs.Ytjldkgcabombhaa.QJ Go.Proofs.YtjldkgcabombhaaW.PrintWords Go.Proofs.YtjldkgcabombhaaW.PrintLast Go.Proofs.YtjldkgcabombhaaW.PrintMore

def nvF (c : Int) (l : List Int) : Int := l.foldl (fun n x => n * 256 + x) c
def nv (l : List Int) : Int := nvF 0 l
theorem nv_snoc (l : List Int) (x : Int) : nv (l ++ [x]) = nv l * 256 + x := by simp [nv, nvF, List.foldl_append]
theorem nvF_bd : ∀ (l : List Int) (c : Int) (m : Nat), 0 ≤ c → c < 256 ^ m → Bytes l → 0 ≤ nvF c l ∧ nvF c l < 256 ^ (m + l.length)
  | [], c, m, h0, h1, _ => ⟨h0, h1⟩
  | x :: t, c, m, h0, h1, hb => by
    obtain ⟨hx, ht⟩ := bytes_cons hb
    have e : (256 : Int) ^ (m + 1) = 256 ^ m * 256 := Int.pow_succ ..
    have := nvF_bd t (c * 256 + x) (m + 1) (by omega) (by rw [e]; generalize (256 : Int) ^ m = p at h1 ⊢; omega) ht
    rw [show m + (x :: t).length = m + 1 + t.length by rw [List.length_cons]; omega]
    exact this
theorem nv_bd (l : List Int) (hb : Bytes l) : 0 ≤ nv l ∧ nv l < 256 ^ l.length := by
  have := nvF_bd l 0 0 (by decide) (by decide) hb
  rwa [Nat.zero_add] at this
theorem bytes_be (s : Nat) (n : Int) : Bytes (Rc.be s n) := by
  intro x hx
  unfold Rc.be at hx
  obtain ⟨i, _, rfl⟩ := List.mem_map.mp hx
  omega
theorem be_zero (n : Int) : Rc.be 0 n = [] := rfl
theorem be_succ (s : Nat) (n : Int) : Rc.be (s + 1) n = Rc.be s (n / 256) ++ [n % 256] := by
  unfold Rc.be
  rw [List.range_succ, List.map_append]
  congr 1
  · refine List.map_congr_left (fun i hi => ?_)
    have hi := List.mem_range.mp hi
    rw [show 8 * (s + 1 - 1 - i) = 8 + 8 * (s - 1 - i) by omega, Int.pow_add, ← Int.ediv_ediv_of_nonneg (by decide)]
    rfl
  · simp
theorem nv_be : ∀ (s : Nat) (n : Int), 0 ≤ n → n < 256 ^ s → nv (Rc.be s n) = n
  | 0, n, h0, h1 => by
    have : n < 1 := h1
    have : n = 0 := by omega
    subst this
    rfl
  | s + 1, n, h0, h1 => by
    have e : (256 : Int) ^ (s + 1) = 256 ^ s * 256 := Int.pow_succ ..
    rw [be_succ, nv_snoc, nv_be s (n / 256) (by omega) (by rw [e] at h1; generalize (256 : Int) ^ s = p at h1 ⊢; omega)]
    omega
theorem be_nv : ∀ (s : Nat) (l : List Int), l.length = s → Bytes l → Rc.be s (nv l) = l
  | 0, l, h, _ => by rw [List.eq_nil_of_length_eq_zero h]; rfl
  | s + 1, l, h, hb => by
    have hne : l ≠ [] := by intro e; rw [e] at h; cases h
    have el := List.dropLast_concat_getLast hne
    have hd : Bytes l.dropLast := fun x hx => hb x (List.dropLast_subset l hx)
    have hx := hb _ (List.getLast_mem hne)
    have hlen : l.dropLast.length = s := by rw [List.length_dropLast]; omega
    obtain ⟨d, hde⟩ : ∃ d, d = l.dropLast := ⟨_, rfl⟩
    obtain ⟨x, hxe⟩ : ∃ x, x = l.getLast hne := ⟨_, rfl⟩
    rw [← hde] at el hd hlen
    rw [← hxe] at el hx
    rw [← el, nv_snoc, be_succ, show (nv d * 256 + x) / 256 = nv d by omega, show (nv d * 256 + x) % 256 = x by omega, be_nv s d hlen hd]
theorem or64 (a b : Nat) (ha : a < 18446744073709551616) (hb : b < 18446744073709551616) : bits .or .u64 (a : Int) (b : Int) = ((a ||| b : Nat) : Int) := by
  have h : a ||| b < 2 ^ 64 := Nat.or_lt_two_pow ha hb
  have e : bits .or .u64 (a : Int) (b : Int) = IntKind.u64.wrap ((BitVec.ofInt 64 (a : Int) ||| BitVec.ofInt 64 (b : Int)).toNat : Int) := rfl
  rw [e, BitVec.ofInt_natCast, BitVec.ofInt_natCast, BitVec.toNat_or, BitVec.toNat_ofNat, BitVec.toNat_ofNat, Nat.mod_eq_of_lt ha, Nat.mod_eq_of_lt hb, u64s _ (by omega)]
theorem step_eq (n x : Int) (h0 : 0 ≤ n) (h1 : n < 256 ^ 7) (hx : 0 ≤ x ∧ x < 256) : Rd.step n x = n * 256 + x := by
  unfold Rd.step
  have e7 : (256 : Int) ^ 7 = 72057594037927936 := by decide
  rw [e7] at h1
  rw [u64s _ (by omega), u64s _ (by omega)]
  obtain ⟨a, rfl⟩ := Int.eq_ofNat_of_zero_le h0
  obtain ⟨b, rfl⟩ := Int.eq_ofNat_of_zero_le hx.1
  have e := or64 (a * 256) b (by omega) (by omega)
  have o := Nat.two_pow_add_eq_or_of_lt (i := 8) (b := b) (by omega) a
  rw [show 2 ^ 8 * a = a * 256 by omega] at o
  rw [← o] at e
  have c : ((a * 256 : Nat) : Int) = (a : Int) * 256 := by omega
  rw [c] at e
  refine e.trans ?_
  rw [Int.natCast_add, c]
theorem pow256_le {m n : Nat} (h : m ≤ n) : (256 : Int) ^ m ≤ 256 ^ n := by
  have := Nat.pow_le_pow_right (n := 256) (by decide) h
  have e : ∀ k : Nat, ((256 ^ k : Nat) : Int) = (256 : Int) ^ k := fun k => by simp
  rw [← e, ← e]
  omega
theorem numF_eq : ∀ (l : List Int) (c : Int) (m : Nat), 0 ≤ c → c < 256 ^ m → m + l.length ≤ 8 → Bytes l → l.foldl Rd.step c = nvF c l
  | [], c, m, h0, h1, _, _ => rfl
  | x :: t, c, m, h0, h1, hl, hb => by
    obtain ⟨hx, ht⟩ := bytes_cons hb
    have hl' : m + (t.length + 1) ≤ 8 := hl
    have e : (256 : Int) ^ (m + 1) = 256 ^ m * 256 := Int.pow_succ ..
    have hm := pow256_le (show m ≤ 7 by omega)
    rw [List.foldl_cons, step_eq c x h0 (by omega) hx]
    exact numF_eq t (c * 256 + x) (m + 1) (by omega) (by rw [e]; generalize (256 : Int) ^ m = p at h1 ⊢; omega) (by omega) ht
theorem num_eq (l : List Int) (hl : l.length ≤ 8) (hb : Bytes l) : Rd.num l = nv l := numF_eq l 0 0 (by decide) (by decide) (by omega) hb

/-! ### the document's -/
theorem drop_rd (l : List Int) (q : Nat) (h : q < l.length) : l.drop q = rd l (q : Int) :: l.drop (q + 1) := by
  rw [List.drop_eq_getElem_cons h]
  unfold rd
  rw [Int.toNat_natCast, List.getD_eq_getElem?_getD, List.getElem?_eq_getElem h]
  rfl
theorem number_tells (l : List Int) (hl : l.length ≤ 8) (hb : Bytes l) : Ev (fun k => remontoireref26_number.f k l) (nv l) := by
  have key : ∀ j q (c : Int), q + j = l.length → 0 ≤ c → c < 256 ^ q → Ev (fun k => remontoireref26_number.l0 k l c (q : Int)) (nvF c (l.drop q)) := by
    intro j
    induction j with
    | zero =>
      intro q c h h0 h1
      rw [List.drop_of_length_le (by omega)]
      refine Ev.step (f := fun _ => some c) (fun k => ?_) (Ev.now _)
      rw [remontoireref26_number.l0, if_neg (by omega)]
    | succ j ih =>
      intro q c h h0 h1
      have hq : q < l.length := by omega
      have hd := drop_rd l q hq
      have hx : 0 ≤ rd l (q : Int) ∧ rd l (q : Int) < 256 := hb _ (List.mem_of_mem_drop (by rw [hd]; exact List.mem_cons_self ..))
      have e : (256 : Int) ^ (q + 1) = 256 ^ q * 256 := Int.pow_succ ..
      have hm := pow256_le (show q ≤ 7 by omega)
      have hm7 : (256 : Int) ^ 7 = 72057594037927936 := by decide
      rw [hm7] at hm
      have := ih (q + 1) (c * 256 + rd l (q : Int)) (by omega) (by omega) (by rw [e]; generalize (256 : Int) ^ q = p at h1 ⊢; omega)
      rw [hd]
      refine Ev.step (fun k => ?_) this
      rw [remontoireref26_number.l0, if_pos (by omega), if_pos (by omega), u64s (c * 256) (by omega), u64s (rd l (q : Int)) (by omega), u64s _ (by omega), i64s _ (by omega)]
      rfl
  have := key l.length 0 0 (by omega) (by decide) (by decide)
  rwa [List.drop_zero] at this
theorem set_mid (i : Nat) (t : List Int) (v : Int) : (List.replicate (i + 1) 0 ++ t).set i v = List.replicate i 0 ++ v :: t := by
  rw [List.replicate_succ', List.append_assoc, List.set_append_right _ _ (by simp)]
  simp
theorem bytes_tells (n : Int) (s : Nat) (h0 : 0 ≤ n) (h1 : n ≤ 18446744073709551615) (hs : s ≤ 8) : Ev (fun k => remontoireref26_bytes.f k n (s : Int)) (Rc.be s n) := by
  have key : ∀ i, i ≤ s → Ev (fun k => remontoireref26_bytes.l0 k (n / 2 ^ (8 * (s - i))) (List.replicate i 0 ++ (Rc.be s n).drop i) ((i : Int) - 1)) (Rc.be s n) := by
    intro i
    induction i with
    | zero =>
      intro _
      refine Ev.step (f := fun _ => some (Rc.be s n)) (fun k => ?_) (Ev.now _)
      rw [remontoireref26_bytes.l0, if_neg (by omega)]
      rfl
    | succ i ih =>
      intro hi
      have hq : i < (Rc.be s n).length := by rw [Rc.be_length]; omega
      have hp : (0 : Int) < 2 ^ (8 * (s - (i + 1))) := Int.pow_pos (by decide)
      have hd0 : 0 ≤ n / 2 ^ (8 * (s - (i + 1))) := Int.ediv_nonneg h0 (by omega)
      have hd1 : n / 2 ^ (8 * (s - (i + 1))) ≤ n := Int.ediv_le_self _ h0
      have e1 : n / 2 ^ (8 * (s - i)) = n / 2 ^ (8 * (s - (i + 1))) / 256 := by
        rw [show 8 * (s - i) = 8 * (s - (i + 1)) + 8 by omega, Int.pow_add, ← Int.ediv_ediv_of_nonneg (by omega)]
        rfl
      have e2 : (Rc.be s n).drop i = n / 2 ^ (8 * (s - (i + 1))) % 256 :: (Rc.be s n).drop (i + 1) := by
        rw [List.drop_eq_getElem_cons hq, Rc.be_get s n i (by omega), show s - 1 - i = s - (i + 1) by omega]
      have := ih (by omega)
      rw [e1, e2] at this
      generalize n / 2 ^ (8 * (s - (i + 1))) = m at hd0 hd1 this ⊢
      refine Ev.step (fun k => ?_) this
      have hlen : (List.replicate (i + 1) 0 ++ (Rc.be s n).drop (i + 1)).length = s := by rw [List.length_append, List.length_replicate, List.length_drop, Rc.be_length]; omega
      rw [remontoireref26_bytes.l0, if_pos (by omega), if_pos (by omega), if_pos (by rw [hlen]; omega), Int.tdiv_eq_ediv_of_nonneg hd0, Int.tmod_eq_emod_of_nonneg hd0, u64s _ (by omega), i64s _ (by omega),
        show (((i + 1 : Nat) : Int) - 1).toNat = i by omega, set_mid, show m % 256 % 256 = m % 256 by omega, show ((i + 1 : Nat) : Int) - 1 - 1 = (i : Int) - 1 by omega]
  have := key s (Nat.le_refl _)
  rw [Nat.sub_self, Nat.mul_zero, show n / 2 ^ 0 = n by simp, List.drop_of_length_le (by rw [Rc.be_length]; omega), List.append_nil] at this
  refine Ev.congr (fun k => ?_) this
  unfold remontoireref26_bytes.f
  rw [if_pos (by omega), if_pos (by omega), Int.toNat_natCast, i64s _ (by omega)]
theorem word32 (n : Int) (h : 0 ≤ n ∧ n < 256 ^ 4) : nv (Rc.be 4 n) = n := nv_be 4 n h.1 h.2
end Go.Proofs.Ytjldkgcabombhaa.Rec

/- The contract of the document's Encode, walked by hand: what it makes is what record.Encode makes. -/
namespace Go.Proofs.Ytjldkgcabombhaa
open Go.RowKit Go.Proofs.Ytjldkgcabombhaa.QJ Go.Proofs.Ytjldkgcabombhaa.Rec Go.Proofs.YtjldkgcabombhaaW.PrintWords Go.Proofs.YtjldkgcabombhaaW.PrintLast Go.Proofs.YtjldkgcabombhaaW.PrintMore
set_option linter.unusedVariables false
set_option linter.unusedSimpArgs false

theorem Rf.u64 (n : Int) : 0 ≤ Rc.u64 n ∧ Rc.u64 n ≤ 18446744073709551615 := by
  unfold Rc.u64
  simp [IntKind.wrap, IntKind.bits, IntKind.signed]
  omega
theorem Rf.bytes (W : World) (n : Int) (s : Nat) (hs : s ≤ 8) :
    Calls Try.prog 54 #[.int .u64 (Rc.u64 n), .int .i64 (s : Int)] W fun e w' => ∃ v : Value, e = .returned v ∧ Kd.R (Kd.int .u8) 5 w' W.heap.size (fun _ => True) v (Rc.be s (Rc.u64 n)) ∧ Below W.heap.size W w' := by
  obtain ⟨k, hk⟩ := (bytes_tells (Rc.u64 n) s (Rf.u64 n).1 (Rf.u64 n).2 hs).rounds
  exact remontoireref26_bytes.calls k (Rc.u64 n) (s : Int) _ W hk
theorem Rf.crc (W : World) (A : Option Addr) (c : Nat) (l : List Int) (hr : Kd.C (Kd.int .u8) W A l.length l) (hc : l.length ≤ c) (hb : Bytes l) (hl : l.length ≤ 1000000) :
    Calls Try.prog 55 #[.slice A l.length c] W fun e w' => e = .returned (.int .u32 (Cr.sum l)) ∧ Drawn0 W w' := by
  obtain ⟨k, hk⟩ := (rcrc_tells l hb hl).rounds
  exact remontoireref07_CRC.calls k A c l _ W hr hc hk
theorem Rf.bytes_app {l m : List Int} (h1 : Bytes l) (h2 : Bytes m) : Bytes (l ++ m) := fun x hx => (List.mem_append.mp hx).elim (h1 x) (h2 x)
theorem Rf.head_bytes (a0 a1 a2 a3 : Int) : Bytes (Rc.head a0 a1 a2 a3) := by
  refine Rf.bytes_app (show Bytes (Rc.r3 a0 a1 a2 a3) from Rf.bytes_app (Rf.bytes_app (Rf.bytes_app (Rf.bytes_app ?_ (bytes_be _ _)) (bytes_be _ _)) (bytes_be _ _)) (bytes_be _ _)) ?_
  · intro x hx
    simp at hx
    omega
  · intro x hx
    obtain ⟨_, rfl⟩ := List.mem_replicate.mp hx
    omega
theorem Rf.head_length (a0 a1 a2 a3 : Int) : (Rc.head a0 a1 a2 a3).length = 60 := by
  obtain ⟨_, _, _, h⟩ := Rc.rows_length a0 a1 a2 a3
  unfold Rc.head
  rw [List.length_append, h, List.length_replicate]
theorem Rf.i_step {w W W1 : World} {a0 a1 a2 a3 : Int} {v : Value} {l : List Int} (h : Rc.I w W a0 a1 a2 a3 v l) (hb : Below W.heap.size W W1) : Rc.I w W1 a0 a1 a2 a3 v l :=
  ⟨Kd.R_below h.1 hb, blk_below h.2.1 hb, below_step h.2.2 hb⟩
theorem Rf.i_drew {w W : World} {a0 a1 a2 a3 : Int} {v : Value} {l : List Int} (h : Rc.I w W a0 a1 a2 a3 v l) : Rc.I w W.drew a0 a1 a2 a3 v l :=
  ⟨Kd.R_drew h.1, blk_drew h.2.1, below_drew1 h.2.2⟩
theorem Rf.start (w : World) (a0 a1 a2 a3 : Int) :
    Rc.I w ((w.alloc (.cells #[.int .u32 a0, .int .i64 a1, .int .i64 a2, .int .i64 a3] 24 (0, 0))).alloc (.cells #[.int .u8 82, .int .u8 77, .int .u8 84, .int .u8 82] 5 (0, 0))) a0 a1 a2 a3
      (.slice (some ⟨w.heap.size + 1, 0, none⟩) 4 4) [82, 77, 84, 82] := by
  have hs : (w.alloc (.cells #[.int .u32 a0, .int .i64 a1, .int .i64 a2, .int .i64 a3] 24 (0, 0))).heap.size = w.heap.size + 1 := by simp
  have ho := World.ownsRow_lit (base := w.heap.size + 1) (e := 5) (size := 1) (w.alloc (.cells #[.int .u32 a0, .int .i64 a1, .int .i64 a2, .int .i64 a3] 24 (0, 0))) #[.int .u8 82, .int .u8 77, .int .u8 84, .int .u8 82] 4 (by omega) (by decide) rfl
  rw [hs] at ho
  refine ⟨Kd.R_of_own (own_weaken ho (Nat.le_succ _)) (fun k hk => ?_), blk_alloc (blk_new w _) _, below_alloc (below_alloc (Below.refl _ _) _) _⟩
  have := own_base ho k hk
  omega

section
variable {ops : Array Oper} {rest : List Oper} {o : Oper} {a : Act} {Q : Exit → Act → World → Prop}
theorem Rf.app {w W : World} {b : Nat} {a0 a1 a2 a3 : Int} (hgd : o.guard = none) (s x : Operand) (ho : o.op = .call { callee := .builtin .append, args := #[s, x], argTypes := #[25, 25] })
    (v u : Value) (xs ys : List Int) (hs : a.eval s = v) (hx : a.eval x = u) (hI : Rc.I w W a0 a1 a2 a3 v xs) (hu : Kd.R (Kd.int .u8) 5 W b (fun _ => True) u ys) (hl : xs.length + ys.length ≤ 1000000)
    (h : ∀ v1 w1, Rc.I w w1 a0 a1 a2 a3 v1 (xs ++ ys) → wpList Try.prog ops Q rest (a.put o.dst v1) w1) :
    wpList Try.prog ops Q (o :: rest) a W := by
  obtain ⟨A, c, rfl⟩ := Kd.R_slice hu
  obtain ⟨hR, hk, hb⟩ := hI
  have hlt := blk_lt hk
  refine Kd.R_append_rows (Kd.int .u8) (w0 := w) w.heap.size hgd s x 25 5 (.int .u8 0) 1 ho Try.underlying25 Rc.info5 rfl (by decide) (by omega) v xs ys _ _ _ (fun k => w.heap.size < k) (fun _ => False) hs hx hR (Kd.R_reads' hu).2.2 (fun _ _ h => h) (fun _ h => h.elim) (fun k hk => by omega) hb (by omega) (by omega) ?_
  intro v1 w1 h1 h2 h3 _
  refine h v1 w1 ⟨h1, (h3.block _ hlt (fun e => ?_)).trans hk, h2⟩
  have := hR.1 _ e.symm
  omega
end
def remontoireref26_Encode.f (a0 a1 a2 a3 : Int) : Option (List Int) := record_Encode.f a0 a1 a2 a3

set_option maxHeartbeats 8000000 in
set_option maxRecDepth 100000 in
theorem remontoireref26_Encode.calls (a0 a1 a2 a3 : Int) (r : List Int) (w : World) (h : remontoireref26_Encode.f a0 a1 a2 a3 = some r) :
    Calls Try.prog 15 #[.agg #[.int .u32 a0, .int .i64 a1, .int .i64 a2, .int .i64 a3]] w fun e w' => ∃ v0_ : Value, e = .returned (v0_) ∧ Kd.R (Kd.int .u8) 5 w' w.heap.size (fun _ => True) v0_ r ∧ Below w.heap.size w w' := by
  obtain rfl := Option.some.inj h
  clear h
  have hu24 := Try.underlying24
  have HI := Aside0.mk (Rf.start w a0 a1 a2 a3)
  obtain ⟨hl0, hl1, hl2, hl3⟩ := Rc.rows_length a0 a1 a2 a3
  have HL0 := Aside0.mk (show (Rc.r0 a0).length = 8 from hl0)
  have HL1 := Aside0.mk (show (Rc.r1 a0 a1).length = 16 from hl1)
  have HL2 := Aside0.mk (show (Rc.r2 a0 a1 a2).length = 24 from hl2)
  have HL3 := Aside0.mk (show (Rc.r3 a0 a1 a2 a3).length = 32 from hl3)
  have HLH := Aside0.mk (Rf.head_length a0 a1 a2 a3)
  have HBY := Aside0.mk (Rf.head_bytes a0 a1 a2 a3)
  clear hl0 hl1 hl2 hl3
  go_enter Try.func15, Try.ntmps15
  go_upto_region 2 with (fail)
  have g := blk_cell HI.out.2.1 0
  go_upto_region 3 with (first
        | (go_at_call 54; (refine (Rf.bytes _ a0 4 (by decide)).mono ?_)
           rintro e W1 ⟨v1, rfl, hv, hb⟩
           have HI2 := Aside0.mk (by first | exact Rf.i_step HI.out hb | exact Rf.i_step (Rf.i_drew HI.out) hb)
           have HV := Aside0.mk hv
           clear hv hb HI)
        | (at_builtin; refine Rf.app rfl (.tmp 5) (.tmp 9) rfl _ _ _ _ rfl rfl (by first | exact HI2.out | exact Rf.i_drew HI2.out) (by first | exact HV.out | exact Kd.R_drew HV.out) (by rw [Rc.be_length]; decide) ?_
           intro v2 w2 hi
           have HI3 := Aside0.mk (show Rc.I w w2 a0 a1 a2 a3 v2 (Rc.r0 a0) from hi)
           clear hi HI2 HV))
  have HI := HI3
  clear HI3 g
  have g := blk_cell HI.out.2.1 1
  go_upto_region 4 with (first
        | (go_at_call 54; (refine (Rf.bytes _ a1 8 (by decide)).mono ?_)
           rintro e W1 ⟨v1, rfl, hv, hb⟩
           have HI2 := Aside0.mk (by first | exact Rf.i_step HI.out hb | exact Rf.i_step (Rf.i_drew HI.out) hb)
           have HV := Aside0.mk hv
           clear hv hb HI)
        | (at_builtin; refine Rf.app rfl (.tmp 11) (.tmp 15) rfl _ _ _ _ rfl rfl (by first | exact HI2.out | exact Rf.i_drew HI2.out) (by first | exact HV.out | exact Kd.R_drew HV.out) (by rw [HL0.out, Rc.be_length]; decide) ?_
           intro v2 w2 hi
           have HI3 := Aside0.mk (show Rc.I w w2 a0 a1 a2 a3 v2 (Rc.r1 a0 a1) from hi)
           clear hi HI2 HV))
  have HI := HI3
  clear HI3 g
  have g := blk_cell HI.out.2.1 2
  go_upto_region 5 with (first
        | (go_at_call 54; (refine (Rf.bytes _ a2 8 (by decide)).mono ?_)
           rintro e W1 ⟨v1, rfl, hv, hb⟩
           have HI2 := Aside0.mk (by first | exact Rf.i_step HI.out hb | exact Rf.i_step (Rf.i_drew HI.out) hb)
           have HV := Aside0.mk hv
           clear hv hb HI)
        | (at_builtin; refine Rf.app rfl (.tmp 17) (.tmp 21) rfl _ _ _ _ rfl rfl (by first | exact HI2.out | exact Rf.i_drew HI2.out) (by first | exact HV.out | exact Kd.R_drew HV.out) (by rw [HL1.out, Rc.be_length]; decide) ?_
           intro v2 w2 hi
           have HI3 := Aside0.mk (show Rc.I w w2 a0 a1 a2 a3 v2 (Rc.r2 a0 a1 a2) from hi)
           clear hi HI2 HV))
  have HI := HI3
  clear HI3 g
  have g := blk_cell HI.out.2.1 3
  go_upto_region 6 with (first
        | (go_at_call 54; (refine (Rf.bytes _ a3 8 (by decide)).mono ?_)
           rintro e W1 ⟨v1, rfl, hv, hb⟩
           have HI2 := Aside0.mk (by first | exact Rf.i_step HI.out hb | exact Rf.i_step (Rf.i_drew HI.out) hb)
           have HV := Aside0.mk hv
           clear hv hb HI)
        | (at_builtin; refine Rf.app rfl (.tmp 23) (.tmp 27) rfl _ _ _ _ rfl rfl (by first | exact HI2.out | exact Rf.i_drew HI2.out) (by first | exact HV.out | exact Kd.R_drew HV.out) (by rw [HL2.out, Rc.be_length]; decide) ?_
           intro v2 w2 hi
           have HI3 := Aside0.mk (show Rc.I w w2 a0 a1 a2 a3 v2 (Rc.r3 a0 a1 a2 a3) from hi)
           clear hi HI2 HV))
  have HI := HI3
  clear HI3 g
  have HW := Aside0.mk (HI.out.2.2.size)
  go_upto_region 7 with (first
        | (at_builtin; refine Kd.R_append_zeros (Kd.int .u8) (w0 := w) w.heap.size rfl (.tmp 29) (.const (.int .i64 28)) 25 3 5 (.int .u8 0) 1 rfl Try.underlying25 Try.underlying3 Rc.info5 rfl (by decide) (by omega) _ (Rc.r3 a0 a1 a2 a3) 0 (28 : Int) (fun k => w.heap.size < k) rfl rfl rfl ?aF HI.out.1 (by omega) HI.out.2.2 HW.out ?aL ?_
           (case aF => exact fun k hk => by have := blk_lt HI.out.2.1; omega)
           (case aL => rw [HL3.out]; decide)
           intro v2 w2 ho hb hg hat
           have HI3 := Aside0.mk (show Rc.I w w2 a0 a1 a2 a3 v2 (Rc.head a0 a1 a2 a3) from ⟨ho, (hg.block _ (blk_lt HI.out.2.1) (fun e => by have := HI.out.1.1 _ e.symm; omega)).trans HI.out.2.1, hb⟩)
           clear ho hb hg hat HI HW
           obtain ⟨A1, c1, e1⟩ := Kd.R_slice HI3.out.1
           subst e1))
  go_wp2_with (first
        | (go_at_call 55; (refine (Rf.crc _ _ _ (Rc.head a0 a1 a2 a3) ?s1 ?s2 HBY.out (by rw [HLH.out]; decide)).mono ?_)
           (case s1 => first | exact (Kd.R_reads' HI3.out.1).2.2 | exact (Kd.R_reads' (Rf.i_drew HI3.out).1).2.2)
           (case s2 => exact (Kd.R_reads' HI3.out.1).2.1)
           rintro e w4 ⟨rfl, hb⟩
           have HI4 := Aside0.mk (show Rc.I w w4 a0 a1 a2 a3 (.slice A1 (Rc.head a0 a1 a2 a3).length c1) (Rc.head a0 a1 a2 a3) from by first | exact Rf.i_step HI3.out (hb.below) | exact Rf.i_step (Rf.i_drew HI3.out) (hb.below))
           clear hb HI3)
        | (go_at_call 54; (refine (Rf.bytes _ (Cr.sum (Rc.head a0 a1 a2 a3)) 4 (by decide)).mono ?_)
           rintro e W1 ⟨v1, rfl, hv, hb⟩
           have HI5 := Aside0.mk (by first | exact Rf.i_step HI4.out hb | exact Rf.i_step (Rf.i_drew HI4.out) hb)
           have HV := Aside0.mk hv
           clear hv hb HI4)
        | (at_builtin; refine Rf.app rfl (.tmp 31) (.tmp 35) rfl _ _ _ _ rfl rfl (by first | exact HI5.out | exact Rf.i_drew HI5.out) (by first | exact HV.out | exact Kd.R_drew HV.out) (by rw [HLH.out, Rc.be_length]; decide) ?_
           intro v2 w2 hi
           have HI6 := Aside0.mk hi
           clear hi HI5 HV))
  go_ret
  exact ⟨_, rfl, Kd.R_mono HI6.out.1 (fun _ _ => trivial), HI6.out.2.2⟩
end Go.Proofs.Ytjldkgcabombhaa

/- Plain laws of the record: its bytes are read back; torn bytes are not. -/
namespace Go.Proofs.Ytjldkgcabombhaa.Rec
set_option linter.unusedVariables false
open Go.RowKit Go.Proofs.Ytjldkgcabombhaa Go.Proofs.Ytjldkgcabombhaa.QJ Go.Proofs.YtjldkgcabombhaaW.PrintWords Go.Proofs.YtjldkgcabombhaaW.PrintLast Go.Proofs.YtjldkgcabombhaaW.PrintMore

theorem str_inj : ∀ (a b : List Int), Bytes a → Bytes b → Lib.bytesOf a = Lib.bytesOf b → a = b
  | [], [], _, _, _ => rfl
  | [], y :: t, _, _, h => by cases h
  | x :: s, [], _, _, h => by cases h
  | x :: s, y :: t, ha, hb, h => by
    obtain ⟨hx, hs⟩ := bytes_cons ha
    obtain ⟨hy, ht⟩ := bytes_cons hb
    unfold Lib.bytesOf at h
    rw [List.map_cons, List.map_cons] at h
    obtain ⟨h1, h2⟩ := List.cons.inj h
    have e := congrArg UInt8.toNat h1
    rw [UInt8.toNat_ofNat', UInt8.toNat_ofNat'] at e
    rw [str_inj s t hs ht h2, show x = y by omega]
theorem bytes_take {l : List Int} (h : Bytes l) (n : Nat) : Bytes (l.take n) := fun x hx => h x (List.mem_of_mem_take hx)
theorem bytes_drop {l : List Int} (h : Bytes l) (n : Nat) : Bytes (l.drop n) := fun x hx => h x (List.mem_of_mem_drop hx)
theorem bytes_part {l : List Int} (h : Bytes l) (a s : Int) : Bytes (Rd.part l a s) := bytes_drop (bytes_take h _) _
theorem part_length (l : List Int) (a s : Nat) (h : a + s ≤ l.length) : (Rd.part l (a : Int) (s : Int)).length = s := by
  unfold Rd.part
  rw [List.length_drop, List.length_take]
  omega
theorem form_iff {l : List Int} (h : Bytes l) : Rd.form l = true ↔ l.take 4 = [82, 77, 84, 82] ∧ Rd.part l 32 28 = Rd.zeros := by
  have m : ([82, 77, 84, 82] : List UInt8) = Lib.bytesOf [82, 77, 84, 82] := rfl
  unfold Rd.form
  rw [Bool.and_eq_true, beq_iff_eq, beq_iff_eq, m, Lib.strOfNums_toList, Lib.strOfNums_toList, Lib.strOfNums_toList]
  refine ⟨fun ⟨h1, h2⟩ => ⟨str_inj _ _ (bytes_take h 4) ?_ h1, str_inj _ _ (bytes_part h _ _) ?_ h2⟩, fun ⟨h1, h2⟩ => ⟨by rw [h1], by rw [h2]⟩⟩
  · intro x hx
    simp at hx
    omega
  · intro x hx
    obtain ⟨_, rfl⟩ := List.mem_replicate.mp hx
    omega
theorem part_of (X Y T : List Int) (a s : Nat) (hX : X.length = a) (hY : Y.length = s) : Rd.part (X ++ (Y ++ T)) (a : Int) (s : Int) = Y := by
  unfold Rd.part
  rw [show ((a : Int) + (s : Int)).toNat = a + s by omega, Int.toNat_natCast, ← List.append_assoc, List.take_left' (by rw [List.length_append]; omega), List.drop_left' hX]
theorem part_join (l : List Int) (a s : Nat) : l.take a ++ Rd.part l (a : Int) (s : Int) = l.take (a + s) := by
  unfold Rd.part
  rw [show ((a : Int) + (s : Int)).toNat = a + s by omega, Int.toNat_natCast]
  have := List.take_append_drop a (l.take (a + s))
  rwa [List.take_take, show min a (a + s) = a by omega] at this
theorem part_take (l : List Int) (a s n : Nat) (h : a + s ≤ n) : Rd.part (l.take n) (a : Int) (s : Int) = Rd.part l (a : Int) (s : Int) := by
  unfold Rd.part
  rw [show ((a : Int) + (s : Int)).toNat = a + s by omega, List.take_take, show min (a + s) n = a + s by omega]
theorem split60 (l : List Int) : l.take 60 = l.take 4 ++ (Rd.part l 4 4 ++ (Rd.part l 8 8 ++ (Rd.part l 16 8 ++ (Rd.part l 24 8 ++ Rd.part l 32 28)))) := by
  have h1 : l.take 4 ++ Rd.part l 4 4 = l.take 8 := part_join l 4 4
  have h2 : l.take 8 ++ Rd.part l 8 8 = l.take 16 := part_join l 8 8
  have h3 : l.take 16 ++ Rd.part l 16 8 = l.take 24 := part_join l 16 8
  have h4 : l.take 24 ++ Rd.part l 24 8 = l.take 32 := part_join l 24 8
  have h5 : l.take 32 ++ Rd.part l 32 28 = l.take 60 := part_join l 32 28
  rw [← h5, ← h4, ← h3, ← h2, ← h1]
  simp only [List.append_assoc]
theorem head_eq (a0 a1 a2 a3 : Int) : Rc.head a0 a1 a2 a3 = [82, 77, 84, 82] ++ (Rc.be 4 (Rc.u64 a0) ++ (Rc.be 8 (Rc.u64 a1) ++ (Rc.be 8 (Rc.u64 a2) ++ (Rc.be 8 (Rc.u64 a3) ++ Rd.zeros)))) := by
  have e : Rc.head a0 a1 a2 a3 = ((((([82, 77, 84, 82] ++ Rc.be 4 (Rc.u64 a0)) ++ Rc.be 8 (Rc.u64 a1)) ++ Rc.be 8 (Rc.u64 a2)) ++ Rc.be 8 (Rc.u64 a3)) ++ Rd.zeros) := rfl
  rw [e]
  simp only [List.append_assoc]
/-- The parts of such a head. -/
theorem head_parts {l : List Int} {a0 a1 a2 a3 : Int} (h : l.take 60 = Rc.head a0 a1 a2 a3) : l.take 4 = [82, 77, 84, 82] ∧ Rd.part l 4 4 = Rc.be 4 (Rc.u64 a0) ∧ Rd.part l 8 8 = Rc.be 8 (Rc.u64 a1) ∧ Rd.part l 16 8 = Rc.be 8 (Rc.u64 a2) ∧ Rd.part l 24 8 = Rc.be 8 (Rc.u64 a3) ∧ Rd.part l 32 28 = Rd.zeros := by
  have hl : 60 ≤ l.length := by
    have := congrArg List.length h
    rw [Rf.head_length, List.length_take] at this
    omega
  rw [split60, head_eq] at h
  obtain ⟨h1, h⟩ := List.append_inj h (by rw [List.length_take]; simp; omega)
  obtain ⟨h2, h⟩ := List.append_inj h ((part_length l 4 4 (by omega)).trans (Rc.be_length _ _).symm)
  obtain ⟨h3, h⟩ := List.append_inj h ((part_length l 8 8 (by omega)).trans (Rc.be_length _ _).symm)
  obtain ⟨h4, h⟩ := List.append_inj h ((part_length l 16 8 (by omega)).trans (Rc.be_length _ _).symm)
  obtain ⟨h5, h⟩ := List.append_inj h ((part_length l 24 8 (by omega)).trans (Rc.be_length _ _).symm)
  exact ⟨h1, h2, h3, h4, h5, h⟩

theorem num_be {n : Int} (s : Nat) (hs : s ≤ 8) (h0 : 0 ≤ n) (h1 : n < 256 ^ s) : Rd.num (Rc.be s n) = n := by
  rw [num_eq _ (by rw [Rc.be_length]; exact hs) (bytes_be _ _), nv_be s n h0 h1]
theorem u64_lt (n : Int) : Rc.u64 n < 256 ^ 8 := by
  have e : (256 : Int) ^ 8 = 18446744073709551616 := by decide
  have := Rf.u64 n
  rw [e]; omega
theorem u64_u32 {n : Int} (h : 0 ≤ n ∧ n < 4294967296) : Rc.u64 n = n := u64s n (by omega)
theorem wrap_u64 {n : Int} (h : -9223372036854775808 ≤ n ∧ n ≤ 9223372036854775807) : wrap64 (Rc.u64 n) = n := by
  unfold Rc.u64 wrap64
  simp [IntKind.wrap, IntKind.bits, IntKind.signed]
  omega
theorem u64_wrap {n : Int} (h : 0 ≤ n ∧ n < 18446744073709551616) : Rc.u64 (wrap64 n) = n := by
  unfold Rc.u64 wrap64
  simp [IntKind.wrap, IntKind.bits, IntKind.signed]
  omega
def Wf (a0 a1 a2 a3 : Int) : Prop := (0 ≤ a0 ∧ a0 < 4294967296) ∧ (-9223372036854775808 ≤ a1 ∧ a1 ≤ 9223372036854775807) ∧ (-9223372036854775808 ≤ a2 ∧ a2 ≤ 9223372036854775807) ∧ (-9223372036854775808 ≤ a3 ∧ a3 ≤ 9223372036854775807)
theorem pow4 : (256 : Int) ^ 4 = 4294967296 := by decide
theorem pow8 : (256 : Int) ^ 8 = 18446744073709551616 := by decide

/-! ### the record's bytes -/
theorem enc_length (a0 a1 a2 a3 : Int) : (Rc.enc a0 a1 a2 a3).length = 64 := by
  unfold Rc.enc
  rw [List.length_append, Rf.head_length, Rc.be_length]
theorem enc_bytes (a0 a1 a2 a3 : Int) : Bytes (Rc.enc a0 a1 a2 a3) := Rf.bytes_app (Rf.head_bytes a0 a1 a2 a3) (bytes_be _ _)
theorem enc_take (a0 a1 a2 a3 : Int) : (Rc.enc a0 a1 a2 a3).take 60 = Rc.head a0 a1 a2 a3 := List.take_left' (Rf.head_length ..)
theorem enc_part (a0 a1 a2 a3 : Int) : Rd.part (Rc.enc a0 a1 a2 a3) 60 4 = Rc.be 4 (Rc.u64 (Cr.sum (Rc.head a0 a1 a2 a3))) := by
  have := part_of (Rc.head a0 a1 a2 a3) (Rc.be 4 (Rc.u64 (Cr.sum (Rc.head a0 a1 a2 a3)))) [] 60 4 (Rf.head_length ..) (Rc.be_length _ _)
  rw [List.append_nil] at this
  exact this
theorem sum_u64 {l : List Int} (h : Bytes l) : Rc.u64 (Cr.sum l) = Cr.sum l := u64_u32 (sum_bd h)
theorem num_sum {l : List Int} (h : Bytes l) : Rd.num (Rc.be 4 (Rc.u64 (Cr.sum l))) = Rc.u64 (Cr.sum l) := by
  rw [sum_u64 h]
  have := sum_bd h
  exact num_be 4 (by decide) this.1 (by rw [pow4]; exact this.2)
theorem dec_enc {a0 a1 a2 a3 : Int} (w : Wf a0 a1 a2 a3) : Rd.dec (Rc.enc a0 a1 a2 a3) = (a0, a1, a2, a3, 0) := by
  obtain ⟨w0, w1, w2, w3⟩ := w
  have hl := enc_length a0 a1 a2 a3
  obtain ⟨p0, p1, p2, p3, p4, p5⟩ := head_parts (enc_take a0 a1 a2 a3)
  have hf := (form_iff (enc_bytes a0 a1 a2 a3)).mpr ⟨p0, p5⟩
  unfold Rd.dec
  rw [if_neg (by omega), if_neg (by omega), enc_part, enc_take, num_sum (Rf.head_bytes a0 a1 a2 a3), if_neg (fun h => h rfl), hf, if_neg (by decide), p1, p2, p3, p4,
    num_be 8 (by decide) (Rf.u64 a1).1 (u64_lt a1), num_be 8 (by decide) (Rf.u64 a2).1 (u64_lt a2), num_be 8 (by decide) (Rf.u64 a3).1 (u64_lt a3),
    wrap_u64 w1, wrap_u64 w2, wrap_u64 w3, u64_u32 w0, num_be 4 (by decide) w0.1 (by rw [pow4]; exact w0.2), IntKind.wrap_u32, show a0 % 4294967296 = a0 by omega]

/-! ### torn -/
theorem rd_take (l : List Int) (n q : Nat) (h : q < n) : rd (l.take n) (q : Int) = rd l (q : Int) := by
  unfold rd
  rw [Int.toNat_natCast, List.getD_eq_getElem?_getD, List.getD_eq_getElem?_getD, List.getElem?_take, if_pos h]
theorem dec_torn (a0 a1 a2 a3 : Int) (p : Nat) (hp : p < 64) (y : Int) (hy : 0 ≤ y ∧ y < 256) (hne : y ≠ rd (Rc.enc a0 a1 a2 a3) (p : Int)) : (Rd.dec ((Rc.enc a0 a1 a2 a3).set p y)).2.2.2.2 = 6 := by
  have hl := enc_length a0 a1 a2 a3
  have hl2 : ((Rc.enc a0 a1 a2 a3).set p y).length = 64 := by rw [List.length_set, hl]
  have hb := Rf.head_bytes a0 a1 a2 a3
  have hh := Rf.head_length a0 a1 a2 a3
  have key : Rd.num (Rd.part ((Rc.enc a0 a1 a2 a3).set p y) 60 4) ≠ IntKind.u64.wrap (Cr.sum (((Rc.enc a0 a1 a2 a3).set p y).take 60)) := by
    show _ ≠ Rc.u64 (Cr.sum _)
    rcases Nat.lt_or_ge p 60 with h | h
    · have e : (Rc.enc a0 a1 a2 a3).set p y = (Rc.head a0 a1 a2 a3).set p y ++ (Rc.be 4 (Rc.u64 (Cr.sum (Rc.head a0 a1 a2 a3))) ++ []) := by
        rw [List.append_nil]
        exact List.set_append_left _ _ (by rw [hh]; exact h)
      have hs : ((Rc.head a0 a1 a2 a3).set p y).length = 60 := by rw [List.length_set, hh]
      have e2 : Rd.part ((Rc.enc a0 a1 a2 a3).set p y) 60 4 = Rc.be 4 (Rc.u64 (Cr.sum (Rc.head a0 a1 a2 a3))) := by
        rw [e]
        exact part_of _ _ _ 60 4 hs (Rc.be_length _ _)
      have e3 : ((Rc.enc a0 a1 a2 a3).set p y).take 60 = (Rc.head a0 a1 a2 a3).set p y := by
        rw [e]
        exact List.take_left' hs
      rw [e2, e3, num_sum hb, sum_u64 hb, sum_u64 (bytes_set hb p hy)]
      refine fun h2 => sum_set hb p hy (by rw [hh]; exact h) ?_ h2.symm
      rw [← enc_take, rd_take _ _ _ h]
      exact hne
    · have e : (Rc.enc a0 a1 a2 a3).set p y = Rc.head a0 a1 a2 a3 ++ ((Rc.be 4 (Rc.u64 (Cr.sum (Rc.head a0 a1 a2 a3)))).set (p - 60) y ++ []) := by
        rw [List.append_nil]
        have := List.set_append_right (s := Rc.head a0 a1 a2 a3) (t := Rc.be 4 (Rc.u64 (Cr.sum (Rc.head a0 a1 a2 a3)))) p y (by rw [hh]; exact h)
        rw [hh] at this
        exact this
      have e2 : Rd.part ((Rc.enc a0 a1 a2 a3).set p y) 60 4 = (Rc.be 4 (Rc.u64 (Cr.sum (Rc.head a0 a1 a2 a3)))).set (p - 60) y := by
        rw [e]
        exact part_of _ _ _ 60 4 hh (by rw [List.length_set, Rc.be_length])
      have e3 : ((Rc.enc a0 a1 a2 a3).set p y).take 60 = Rc.head a0 a1 a2 a3 := by
        rw [e]
        exact List.take_left' hh
      have hb4 := bytes_be 4 (Rc.u64 (Cr.sum (Rc.head a0 a1 a2 a3)))
      have hs4 := bytes_set hb4 (p - 60) hy
      have hls : ((Rc.be 4 (Rc.u64 (Cr.sum (Rc.head a0 a1 a2 a3)))).set (p - 60) y).length = 4 := by rw [List.length_set, Rc.be_length]
      rw [e2, e3]
      intro h2
      rw [num_eq _ (by rw [hls]; decide) hs4] at h2
      have h3 := be_nv 4 _ hls hs4
      rw [h2] at h3
      have h4 : rd ((Rc.be 4 (Rc.u64 (Cr.sum (Rc.head a0 a1 a2 a3)))).set (p - 60) y) ((p - 60 : Nat) : Int) = y := by
        unfold rd
        rw [Int.toNat_natCast, List.getD_eq_getElem?_getD, List.getElem?_set_self (by rw [Rc.be_length]; omega)]
        rfl
      have h5 : rd (Rc.enc a0 a1 a2 a3) (p : Int) = rd (Rc.be 4 (Rc.u64 (Cr.sum (Rc.head a0 a1 a2 a3)))) ((p - 60 : Nat) : Int) := by
        unfold rd Rc.enc
        rw [Int.toNat_natCast, Int.toNat_natCast, List.getD_eq_getElem?_getD, List.getD_eq_getElem?_getD, List.getElem?_append_right (by rw [hh]; exact h), hh]
      rw [← h3] at h4
      exact hne (by rw [h5, h4])
  unfold Rd.dec
  rw [if_neg (by omega), if_neg (by omega), if_pos key]
theorem dec_short {l : List Int} (h : l.length < 64) : (Rd.dec l).2.2.2.2 = 4 := by
  unfold Rd.dec
  rw [if_pos (by omega)]
/-- What the law's own example comes to. -/
theorem known_at :
    ((Rd.dec ((Rc.enc 1 0 0 7).set (63 : Int).toNat ((rd (Rc.enc 1 0 0 7) 63 + 1) % 256))).2.2.2.2 = 6) ∧ ((Rd.dec (((Rc.enc 1 0 0 7).set (63 : Int).toNat ((rd (Rc.enc 1 0 0 7) 63 + 1) % 256)).take 63)).2.2.2.2 = 4) := by
  have hx : 0 ≤ rd (Rc.enc 1 0 0 7) ((63 : Nat) : Int) ∧ rd (Rc.enc 1 0 0 7) ((63 : Nat) : Int) < 256 := by
    refine enc_bytes 1 0 0 7 _ ?_
    unfold rd
    have hq : 63 < (Rc.enc 1 0 0 7).length := by rw [enc_length]; decide
    rw [Int.toNat_natCast, List.getD_eq_getElem?_getD, List.getElem?_eq_getElem hq]
    exact List.getElem_mem hq
  have e1 : (63 : Int).toNat = 63 := rfl
  have e2 : rd (Rc.enc 1 0 0 7) 63 = rd (Rc.enc 1 0 0 7) ((63 : Nat) : Int) := rfl
  have hl : (((Rc.enc 1 0 0 7).set 63 ((rd (Rc.enc 1 0 0 7) ((63 : Nat) : Int) + 1) % 256)).take 63).length < 64 := by
    rw [List.length_take, List.length_set, enc_length]
    decide
  have ht := dec_torn 1 0 0 7 63 (by decide) ((rd (Rc.enc 1 0 0 7) ((63 : Nat) : Int) + 1) % 256) (by omega) (by omega)
  rw [e1, e2]
  exact ⟨ht, dec_short hl⟩
end Go.Proofs.Ytjldkgcabombhaa.Rec

/- block.File as Lean sees it, and the contracts of Size, New and the closure of may. -/
namespace Go.Proofs.Ytjldkgcabombhaa
open Go.RowKit Go.Proofs.YtjldkgcabombhaaW.PrintWords Go.Proofs.YtjldkgcabombhaaW.PrintLast Go.Proofs.YtjldkgcabombhaaW.PrintMore
set_option linter.unusedVariables false
set_option linter.unusedSimpArgs false

/-- A file: its 4096 bytes, and its five cells. -/
structure Fs where
  b : List Int
  size : Int
  set : Bool
  pre : Int
  down : Bool
  wr : Int
def Fs.tail (s : Fs) : List Value := [.int .i64 s.size, .bool s.set, .int .i64 s.pre, .bool s.down, .int .i64 s.wr]
def Fs.cells (s : Fs) : Array Value := (nums .u8 s.b ++ s.tail).toArray
def Fs.new (size : Int) : Fs := ⟨List.replicate 4096 0, size, false, 0, false, 0⟩
theorem Fs.zero : (Try.prog.info? 101).map (fun i => (i.zero, i.size, i.bytes)) = some (some (.agg (Fs.new 0).cells), 4101, 4136) := by kernel_rfl
/-- The file lies in block g. -/
def Fs.At (s : Fs) (w : World) (g : Nat) : Prop := w.heap[g]? = some (.cells s.cells 101 (0, 0)) ∧ s.b.length = 4096
theorem Fs.cell_tail {s : Fs} {w : World} {g : Nat} (h : s.At w g) (i : Nat) : w.cell? ⟨g, 4096 + i, none⟩ = s.tail[i]? := by
  rw [blk_cell h.1]
  unfold Fs.cells
  have hl : (nums .u8 s.b).length = 4096 := by simp [nums, h.2]
  rw [List.getElem?_toArray, List.getElem?_append_right (by omega), hl, Nat.add_sub_cancel_left]
theorem Fs.c_size {s : Fs} {w : World} {g : Nat} (h : s.At w g) : w.cell? ⟨g, 4096, none⟩ = some (.int .i64 s.size) := Fs.cell_tail h 0
theorem Fs.c_set {s : Fs} {w : World} {g : Nat} (h : s.At w g) : w.cell? ⟨g, 4097, none⟩ = some (.bool s.set) := Fs.cell_tail h 1
theorem Fs.c_pre {s : Fs} {w : World} {g : Nat} (h : s.At w g) : w.cell? ⟨g, 4098, none⟩ = some (.int .i64 s.pre) := Fs.cell_tail h 2
theorem Fs.c_down {s : Fs} {w : World} {g : Nat} (h : s.At w g) : w.cell? ⟨g, 4099, none⟩ = some (.bool s.down) := Fs.cell_tail h 3
theorem Fs.c_wr {s : Fs} {w : World} {g : Nat} (h : s.At w g) : w.cell? ⟨g, 4100, none⟩ = some (.int .i64 s.wr) := Fs.cell_tail h 4
theorem Fs.put_tail {s s' : Fs} {w : World} {g : Nat} (h : s.At w g) (i : Nat) (v : Value) (hb : s'.b = s.b) (ht : s.tail.set i v = s'.tail) : s'.At (w.setCell ⟨g, 4096 + i, none⟩ v) g := by
  refine ⟨?_, by rw [hb]; exact h.2⟩
  have hl : (nums .u8 s.b).length = 4096 := by simp [nums, h.2]
  refine blk_put h.1 _ _ ?_
  unfold Fs.cells
  rw [List.setIfInBounds_toArray, List.set_append_right _ _ (by omega), hl, Nat.add_sub_cancel_left, ht, hb]
theorem Fs.below {s : Fs} {w w1 : World} {g : Nat} (h : s.At w g) (hb : Below w.heap.size w w1) : s.At w1 g := ⟨blk_below h.1 hb, h.2⟩

set_option maxHeartbeats 8000000 in
set_option maxRecDepth 100000 in
theorem Fs.size_nil (w : World) : Calls Try.prog 43 #[.pointer none] w fun e w' => e = .returned (.int .i64 0) ∧ w' = w := by
  go_enter Try.func43, Try.ntmps43
  go_wp2
  go_ret
  exact ⟨rfl, rfl⟩
set_option maxHeartbeats 8000000 in
set_option maxRecDepth 100000 in
theorem Fs.size_calls {s : Fs} {w : World} {g : Nat} (h : s.At w g) : Calls Try.prog 43 #[.pointer (some ⟨g, 0, none⟩)] w fun e w' => e = .returned (.int .i64 s.size) ∧ w' = w := by
  have hu := Try.underlying101
  have c0 := Fs.c_size h
  clear h
  go_enter Try.func43, Try.ntmps43
  go_wp2
  go_ret
  exact ⟨rfl, rfl⟩
theorem Fs.build (size : Int) : Try.zeroCells101.setIfInBounds 4096 (.int .i64 size) = (Fs.new size).cells := by kernel_rfl
set_option maxHeartbeats 8000000 in
set_option maxRecDepth 100000 in
theorem Fs.new_bad (size : Int) (w : World) (h : size < 1 ∨ 4096 < size) : Calls Try.prog 30 #[.int .i64 size] w fun e w' => e = .returned (.tuple #[.pointer none, .int .i64 2]) ∧ w' = w := by
  rcases Int.lt_or_le size 1 with c | c
  · have d1 : decide (size < 1) = true := decide_eq_true c
    go_enter Try.func30, Try.ntmps30
    go_wp2
    go_ret2
    exact ⟨rfl, rfl⟩
  · have d1 : decide (size < 1) = false := decide_eq_false (by omega)
    have d2 : decide (4096 < size) = true := decide_eq_true (by omega)
    go_enter Try.func30, Try.ntmps30
    go_wp2
    go_ret2
    exact ⟨rfl, rfl⟩
set_option maxHeartbeats 8000000 in
set_option maxRecDepth 100000 in
theorem Fs.new_calls (size : Int) (w : World) (h : 1 ≤ size ∧ size ≤ 4096) : Calls Try.prog 30 #[.int .i64 size] w fun e w' => e = .returned (.tuple #[.pointer (some ⟨w.heap.size, 0, none⟩), .int .i64 0]) ∧ (Fs.new size).At w' w.heap.size ∧ Below w.heap.size w w' := by
  have d1 : decide (size < 1) = false := decide_eq_false (by omega)
  have d2 : decide (4096 < size) = false := decide_eq_false (by omega)
  clear h
  go_enter Try.func30, Try.ntmps30
  go_wp2
  go_ret2
  exact ⟨rfl, ⟨by rw [← Fs.build]; exact blk_new w _, by simp [Fs.new]⟩, below_alloc (Below.refl _ _) _⟩

/-! ### the closure of may -/
def Fs.inn (s : Fs) (x : Int) : Bool := decide (0 ≤ x) && decide (x ≤ s.size)
set_option maxHeartbeats 8000000 in
set_option maxRecDepth 100000 in
theorem Fs.in_calls {s : Fs} {w : World} {g b : Nat} (x : Int) (h : s.At w g) (hb : w.cell? ⟨b, 0, none⟩ = some (.pointer (some ⟨g, 0, none⟩))) :
    Calls Try.prog 69 #[.int .i64 x, .pointer (some ⟨b, 0, none⟩)] w fun e w' => e = .returned (.bool (s.inn x)) ∧ Below w.heap.size w w' := by
  have hu := Try.underlying101
  have c0 := Fs.c_size h
  clear h
  unfold Fs.inn
  by_cases c : 0 ≤ x
  · have d1 : decide (0 ≤ x) = true := decide_eq_true c
    rw [d1]
    go_enter Try.func69, Try.ntmps69
    go_wp2
    go_ret
    exact ⟨rfl, by first | exact Below.refl _ _ | exact below_drew1 (Below.refl _ _)⟩
  · have d1 : decide (0 ≤ x) = false := decide_eq_false c
    rw [d1]
    go_enter Try.func69, Try.ntmps69
    go_wp2
    go_ret
    exact ⟨rfl, by first | exact Below.refl _ _ | exact below_drew1 (Below.refl _ _)⟩
end Go.Proofs.Ytjldkgcabombhaa

/- The contract of block's may, walked by hand. -/
namespace Go.Proofs.Ytjldkgcabombhaa
open Go.RowKit Go.Proofs.YtjldkgcabombhaaW.PrintWords Go.Proofs.YtjldkgcabombhaaW.PrintLast Go.Proofs.YtjldkgcabombhaaW.PrintMore
set_option linter.unusedVariables false
set_option linter.unusedSimpArgs false

def Fs.may (s : Fs) (at' n : Int) : Int := if s.down = true then 10 else if s.inn at' = false then 2 else if s.inn n = false then 2 else if s.inn (wrap64 (at' + n)) = false then 2 else 0
def Fs.M (s : Fs) (w W : World) (g : Nat) : Prop := s.At W g ∧ W.heap[w.heap.size]? = some (.cells #[.pointer (some ⟨g, 0, none⟩)] 53 (0, 0)) ∧ Below w.heap.size w W
theorem Fs.m_start {s : Fs} {w : World} {g : Nat} (h : s.At w g) : s.M w (w.alloc (.cells #[.pointer (some ⟨g, 0, none⟩)] 53 (0, 0))) g := ⟨⟨blk_alloc h.1 _, h.2⟩, blk_new w _, below_alloc (Below.refl _ _) _⟩
theorem Fs.m_step {s : Fs} {w W W1 : World} {g : Nat} (h : s.M w W g) (hb : Below W.heap.size W W1) : s.M w W1 g := ⟨Fs.below h.1 hb, blk_below h.2.1 hb, below_step h.2.2 hb⟩
theorem Fs.m_drew {s : Fs} {w W : World} {g : Nat} (h : s.M w W g) : s.M w W.drew g := ⟨⟨blk_drew h.1.1, h.1.2⟩, blk_drew h.2.1, below_drew1 h.2.2⟩
theorem Fs.m_drewN {s : Fs} {w W : World} {g : Nat} (h : s.M w W g) (n : Nat) : s.M w (W.drewN n) g := ⟨⟨blk_drewN h.1.1 n, h.1.2⟩, blk_drewN h.2.1 n, pw_below_drewN h.2.2 n⟩
theorem Fs.m_in {s : Fs} {w W : World} {g : Nat} (h : s.M w W g) (x : Int) :
    Calls Try.prog 69 #[.int .i64 x, .pointer (some ⟨w.heap.size, 0, none⟩)] W fun e W' => e = .returned (.bool (s.inn x)) ∧ s.M w W' g :=
  (Fs.in_calls x h.1 (blk_cell h.2.1 0)).mono (fun _ _ ⟨he, hb⟩ => ⟨he, Fs.m_step h hb⟩)

set_option maxHeartbeats 8000000 in
set_option maxRecDepth 100000 in
theorem Fs.may_nil (at' n : Int) (w : World) : Calls Try.prog 63 #[.pointer none, .int .i64 at', .int .i64 n] w fun e w' => e = .returned (.int .i64 1) ∧ Below w.heap.size w w' := by
  have hmf : ∀ (fn : Fn) (first cap : Array Value) (w : World), (Instr.makeFunc fn first cap).run Try.prog w = .ok (.func fn first cap) w := fun _ _ _ _ => rfl
  go_enter Try.func63, Try.ntmps63
  go_wp2
  go_ret
  exact ⟨rfl, below_alloc (Below.refl _ _) _⟩
set_option maxHeartbeats 8000000 in
set_option maxRecDepth 100000 in
theorem Fs.may_down {s : Fs} {w : World} {g : Nat} (at' n : Int) (h : s.At w g) (hd : s.down = true) : Calls Try.prog 63 #[.pointer (some ⟨g, 0, none⟩), .int .i64 at', .int .i64 n] w fun e w' => e = .returned (.int .i64 10) ∧ Below w.heap.size w w' := by
  have hmf : ∀ (fn : Fn) (first cap : Array Value) (w : World), (Instr.makeFunc fn first cap).run Try.prog w = .ok (.func fn first cap) w := fun _ _ _ _ => rfl
  have hu := Try.underlying101
  have HS := Aside0.mk (Fs.m_start h)
  have c3 := Fs.c_down HS.out.1
  rw [hd] at c3
  clear h
  go_enter Try.func63, Try.ntmps63
  go_wp2
  go_ret
  exact ⟨rfl, below_alloc (Below.refl _ _) _⟩
set_option maxHeartbeats 8000000 in
set_option maxRecDepth 100000 in
theorem Fs.may_1 {s : Fs} {w : World} {g : Nat} (at' n : Int) (h : s.At w g) (hd : s.down = false) (d1 : s.inn at' = false) : Calls Try.prog 63 #[.pointer (some ⟨g, 0, none⟩), .int .i64 at', .int .i64 n] w fun e w' => e = .returned (.int .i64 2) ∧ Below w.heap.size w w' := by
  have hmf : ∀ (fn : Fn) (first cap : Array Value) (w : World), (Instr.makeFunc fn first cap).run Try.prog w = .ok (.func fn first cap) w := fun _ _ _ _ => rfl
  have hu := Try.underlying101
  have HS := Aside0.mk (Fs.m_start h)
  have c3 := Fs.c_down HS.out.1
  rw [hd] at c3
  clear h hd
  go_enter Try.func63, Try.ntmps63
  go_upto_region 6 with (fail)
  generalize (w.alloc (.cells #[.pointer (some ⟨g, 0, none⟩)] 53)) = w5 at HS c3 ⊢
  clear c3
  go_wp2_with (first
      | (go_at_call 69; (refine (Fs.m_in (w := w) (s := s) (g := g) (by first | exact HS.out | exact Fs.m_drew HS.out | exact Fs.m_drewN HS.out _) _).mono ?_)
         rintro e w6 ⟨he, hm⟩
         (try rw [d1] at he)
         (try rw [d2] at he)
         (try rw [d3] at he)
         subst he
         clear HS
         have HS := Aside0.mk hm
         clear hm))
  go_ret
  exact ⟨rfl, HS.out.2.2⟩
set_option maxHeartbeats 8000000 in
set_option maxRecDepth 100000 in
theorem Fs.may_2 {s : Fs} {w : World} {g : Nat} (at' n : Int) (h : s.At w g) (hd : s.down = false) (d1 : s.inn at' = true) (d2 : s.inn n = false) : Calls Try.prog 63 #[.pointer (some ⟨g, 0, none⟩), .int .i64 at', .int .i64 n] w fun e w' => e = .returned (.int .i64 2) ∧ Below w.heap.size w w' := by
  have hmf : ∀ (fn : Fn) (first cap : Array Value) (w : World), (Instr.makeFunc fn first cap).run Try.prog w = .ok (.func fn first cap) w := fun _ _ _ _ => rfl
  have hu := Try.underlying101
  have HS := Aside0.mk (Fs.m_start h)
  have c3 := Fs.c_down HS.out.1
  rw [hd] at c3
  clear h hd
  go_enter Try.func63, Try.ntmps63
  go_upto_region 6 with (fail)
  generalize (w.alloc (.cells #[.pointer (some ⟨g, 0, none⟩)] 53)) = w5 at HS c3 ⊢
  clear c3
  go_wp2_with (first
      | (go_at_call 69; (refine (Fs.m_in (w := w) (s := s) (g := g) (by first | exact HS.out | exact Fs.m_drew HS.out | exact Fs.m_drewN HS.out _) _).mono ?_)
         rintro e w6 ⟨he, hm⟩
         (try rw [d1] at he)
         (try rw [d2] at he)
         (try rw [d3] at he)
         subst he
         clear HS
         have HS := Aside0.mk hm
         clear hm))
  go_ret
  exact ⟨rfl, HS.out.2.2⟩
set_option maxHeartbeats 8000000 in
set_option maxRecDepth 100000 in
theorem Fs.may_3 {s : Fs} {w : World} {g : Nat} (at' n : Int) (h : s.At w g) (hd : s.down = false) (d1 : s.inn at' = true) (d2 : s.inn n = true) (d3 : s.inn (wrap64 (at' + n)) = false) : Calls Try.prog 63 #[.pointer (some ⟨g, 0, none⟩), .int .i64 at', .int .i64 n] w fun e w' => e = .returned (.int .i64 2) ∧ Below w.heap.size w w' := by
  have hmf : ∀ (fn : Fn) (first cap : Array Value) (w : World), (Instr.makeFunc fn first cap).run Try.prog w = .ok (.func fn first cap) w := fun _ _ _ _ => rfl
  have hu := Try.underlying101
  have HS := Aside0.mk (Fs.m_start h)
  have c3 := Fs.c_down HS.out.1
  rw [hd] at c3
  clear h hd
  go_enter Try.func63, Try.ntmps63
  go_upto_region 6 with (fail)
  generalize (w.alloc (.cells #[.pointer (some ⟨g, 0, none⟩)] 53)) = w5 at HS c3 ⊢
  clear c3
  go_wp2_with (first
      | (go_at_call 69; (refine (Fs.m_in (w := w) (s := s) (g := g) (by first | exact HS.out | exact Fs.m_drew HS.out | exact Fs.m_drewN HS.out _) _).mono ?_)
         rintro e w6 ⟨he, hm⟩
         (try rw [d1] at he)
         (try rw [d2] at he)
         (try rw [d3] at he)
         subst he
         clear HS
         have HS := Aside0.mk hm
         clear hm))
  go_ret
  exact ⟨rfl, HS.out.2.2⟩
set_option maxHeartbeats 8000000 in
set_option maxRecDepth 100000 in
theorem Fs.may_4 {s : Fs} {w : World} {g : Nat} (at' n : Int) (h : s.At w g) (hd : s.down = false) (d1 : s.inn at' = true) (d2 : s.inn n = true) (d3 : s.inn (wrap64 (at' + n)) = true) : Calls Try.prog 63 #[.pointer (some ⟨g, 0, none⟩), .int .i64 at', .int .i64 n] w fun e w' => e = .returned (.int .i64 0) ∧ Below w.heap.size w w' := by
  have hmf : ∀ (fn : Fn) (first cap : Array Value) (w : World), (Instr.makeFunc fn first cap).run Try.prog w = .ok (.func fn first cap) w := fun _ _ _ _ => rfl
  have hu := Try.underlying101
  have HS := Aside0.mk (Fs.m_start h)
  have c3 := Fs.c_down HS.out.1
  rw [hd] at c3
  clear h hd
  go_enter Try.func63, Try.ntmps63
  go_upto_region 6 with (fail)
  generalize (w.alloc (.cells #[.pointer (some ⟨g, 0, none⟩)] 53)) = w5 at HS c3 ⊢
  clear c3
  go_wp2_with (first
      | (go_at_call 69; (refine (Fs.m_in (w := w) (s := s) (g := g) (by first | exact HS.out | exact Fs.m_drew HS.out | exact Fs.m_drewN HS.out _) _).mono ?_)
         rintro e w6 ⟨he, hm⟩
         (try rw [d1] at he)
         (try rw [d2] at he)
         (try rw [d3] at he)
         subst he
         clear HS
         have HS := Aside0.mk hm
         clear hm))
  go_ret
  exact ⟨rfl, HS.out.2.2⟩

theorem Fs.may_calls {s : Fs} {w : World} {g : Nat} (at' n : Int) (h : s.At w g) : Calls Try.prog 63 #[.pointer (some ⟨g, 0, none⟩), .int .i64 at', .int .i64 n] w fun e w' => e = .returned (.int .i64 (s.may at' n)) ∧ Below w.heap.size w w' := by
  unfold Fs.may
  cases hd : s.down with
  | true => exact Fs.may_down at' n h hd
  | false =>
    rw [if_neg (by decide)]
    cases d1 : s.inn at' with
    | false => exact Fs.may_1 at' n h hd d1
    | true =>
      rw [if_neg (by decide)]
      cases d2 : s.inn n with
      | false => exact Fs.may_2 at' n h hd d1 d2
      | true =>
        rw [if_neg (by decide)]
        cases d3 : s.inn (wrap64 (at' + n)) with
        | false => exact Fs.may_3 at' n h hd d1 d2 d3
        | true => exact Fs.may_4 at' n h hd d1 d2 d3
end Go.Proofs.Ytjldkgcabombhaa

/- The contracts of bytes.Clone and of block's Read, Crash, Up, walked by hand. -/
namespace Go.Proofs.Ytjldkgcabombhaa
open Go.RowKit Go.Proofs.YtjldkgcabombhaaW.PrintWords Go.Proofs.YtjldkgcabombhaaW.PrintLast Go.Proofs.YtjldkgcabombhaaW.PrintMore
set_option linter.unusedVariables false
set_option linter.unusedSimpArgs false

theorem Fs.row0 (w : World) : Kd.R (Kd.int .u8) 5 (w.alloc (.cells #[] 5 (0, 0))) w.heap.size (fun _ => True) (.slice (some ⟨w.heap.size, 0, none⟩) 0 0) [] := by
  have ho := World.ownsRow_lit (base := w.heap.size) (e := 5) (size := 1) w #[] 0 (Nat.le_refl _) (by decide) rfl
  exact Kd.R_of_own ho (fun k hk => trivial)
set_option maxHeartbeats 8000000 in
set_option maxRecDepth 100000 in
theorem Fs.clone {A : Addr} {c : Nat} {xs : List Int} {w : World} (hC : Kd.C (Kd.int .u8) w (some A) xs.length xs) (hl : xs.length ≤ 1000000) :
    Calls Try.prog 64 #[.slice (some A) xs.length c] w fun e w' => ∃ v : Value, e = .returned v ∧ Kd.R (Kd.int .u8) 5 w' w.heap.size (fun _ => True) v xs ∧ Below w.heap.size w w' := by
  have HR := Aside0.mk (Fs.row0 w)
  have HC := Aside0.mk hC
  have HL := Aside0.mk hl
  have HB := Aside0.mk (below_alloc (Below.refl w.heap.size w) (.cells #[] 5 (0, 0)))
  have HZ := Aside0.mk (show w.heap.size ≤ (w.alloc (.cells #[] 5 (0, 0))).heap.size by simp)
  have heq : ∀ W : World, (binOp BinOp.eql 25 (Value.slice (some A) xs.length c) (Value.slice none 0 0)).run Try.prog W = .ok (.bool false) W := fun W => by kernel_rfl
  clear hC hl
  go_enter Try.func64, Try.ntmps64
  go_wp2_with (first
    | (at_builtin; refine Kd.R_append_rows (Kd.int .u8) (w0 := w) w.heap.size rfl (.tmp 5) (.tmp 6) 25 5 (.int .u8 0) 1 rfl Try.underlying25 Rc.info5 rfl (by decide) (by omega) _ [] xs _ _ _ (fun _ => True) (fun _ => False) rfl rfl HR.out (Kd.C_alloc HC.out _) (fun _ _ h => h) (fun _ h => h.elim) (fun _ _ => trivial) HB.out HZ.out (by have := HL.out; simp; omega) ?_
       intro v1 w1 h1 h2 h3 h4
       have HO := Aside0.mk h1
       have HB2 := Aside0.mk h2
       clear h1 h2 h3 h4 HB HR HC))
  go_ret
  exact ⟨_, rfl, HO.out, HB2.out⟩

theorem Fs.wider {A : Addr} {c m : Nat} {xs : List Int} {w : World} {Q : Ending → World → Prop} (h : Calls Try.prog 64 #[.slice (some A) xs.length c] w Q) (e : xs.length = m) : Calls Try.prog 64 #[.slice (some A) m c] w Q := e ▸ h
/-! ### a slice of a file's bytes -/
def Fs.ad (g l : Nat) : Addr := if 4096 = l then ⟨g, 0, none⟩ else (⟨g, 0, none⟩ : Addr).add (l * 1)
theorem Fs.al : Try.prog.arrayLen 99 = 4096 := by kernel_rfl
theorem Fs.arr : Try.prog.underlying 99 = some (.array (Try.prog.arrayLen 99) (Try.prog.elem 99)) := by kernel_rfl
theorem Fs.sz (W : World) : (sizeOf (Try.prog.elem 99)).run Try.prog W = .ok 1 W := by kernel_rfl
theorem Fs.sl (g : Nat) (l h : Int) (h0 : 0 ≤ l) (h1 : l ≤ h) (h2 : h ≤ 4096) (W : World) : (Instr.sliceAt 99 (.pointer (some ⟨g, 0, none⟩)) (some (.int .i64 l)) (some (.int .i64 h)) none).run Try.prog W = .ok (.slice (some (Fs.ad g l.toNat)) (h.toNat - l.toNat) (4096 - l.toNat)) W := by
  rw [run_sliceAt_array_lh (P := Try.prog) W 99 ⟨g, 0, none⟩ Fs.arr .i64 .i64 l h h0 h1 (by rw [Fs.al]; exact h2), Fs.sz, Fs.al]
  rfl
theorem Fs.slc {s : Fs} {w : World} {g : Nat} (h : s.At w g) (l n : Nat) (hl : l + n ≤ 4096) : Kd.C (Kd.int .u8) w (some (Fs.ad g l)) n ((s.b.drop l).take n) := by
  have hb := h.2
  have hlen : ((s.b.drop l).take n).length = n := by rw [List.length_take, List.length_drop]; omega
  refine Kd.C_of_reads (enc := Value.int .u8) (d := (0 : Int)) (h1 := fun _ => rfl) ⟨hlen, by omega, fun hn => ⟨_, rfl, fun j hj => ?_⟩⟩
  have e : (Fs.ad g l).add j = ⟨g, l + j, none⟩ := by
    unfold Fs.ad
    rw [if_neg (by omega)]
    by_cases a : l = 0 <;> by_cases b : j = 0 <;> simp [Addr.add, a, b]
  rw [e, blk_cell h.1]
  unfold Fs.cells
  have hn2 : (nums .u8 s.b).length = 4096 := by simp [nums, hb]
  rw [List.getElem?_toArray, List.getElem?_append_left (by omega)]
  have hq : l + j < s.b.length := by omega
  have e2 : ((s.b.drop l).take n).getD j 0 = s.b[l + j] := by
    rw [List.getD_eq_getElem?_getD, List.getElem?_take, if_pos hj, List.getElem?_drop, List.getElem?_eq_getElem hq]
    rfl
  rw [e2]
  simp [nums, hq]
def Fs.Ok (s : Fs) : Prop := 0 ≤ s.size ∧ s.size ≤ 4096
theorem Fs.may_zero {s : Fs} {at' n : Int} (ho : s.Ok) (h : s.may at' n = 0) : s.down = false ∧ 0 ≤ at' ∧ 0 ≤ n ∧ at' + n ≤ s.size ∧ wrap64 (at' + n) = at' + n := by
  unfold Fs.may at h
  have hd : s.down = false := by
    cases hd : s.down with
    | false => rfl
    | true => rw [hd, if_pos rfl] at h; exact absurd h (by decide)
  rw [hd, if_neg (by decide)] at h
  obtain ⟨h0, h1⟩ := ho
  by_cases c1 : s.inn at' = false
  · rw [if_pos c1] at h; exact absurd h (by decide)
  rw [if_neg c1] at h
  by_cases c2 : s.inn n = false
  · rw [if_pos c2] at h; exact absurd h (by decide)
  rw [if_neg c2] at h
  by_cases c3 : s.inn (wrap64 (at' + n)) = false
  · rw [if_pos c3] at h; exact absurd h (by decide)
  simp [Fs.inn] at c1 c2 c3
  have e := Rc.w64 (at' + n) (by omega)
  rw [e] at c3
  exact ⟨hd, by omega, by omega, by omega, e⟩

set_option maxHeartbeats 8000000 in
set_option maxRecDepth 100000 in
theorem Fs.read_bad {s : Fs} {w : World} {g : Nat} (at' n : Int) (h : s.At w g) (hm : s.may at' n ≠ 0) : Calls Try.prog 34 #[.pointer (some ⟨g, 0, none⟩), .int .i64 at', .int .i64 n] w fun e w' => e = .returned (.tuple #[.slice none 0 0, .int .i64 (s.may at' n)]) ∧ Below w.heap.size w w' := by
  obtain ⟨m, hme⟩ : ∃ m, s.may at' n = m := ⟨_, rfl⟩
  have HM := Aside0.mk (Fs.may_calls at' n h)
  rw [hme] at hm HM ⊢
  have d1 : (m != 0) = true := bne_iff_ne.mpr hm
  have d2 : (m == 0) = false := beq_eq_false_iff_ne.mpr hm
  clear h hm hme
  go_enter Try.func34, Try.ntmps34
  go_wp2_with (first
    | (go_at_call 63; (refine HM.out.mono ?_)
       rintro e w1 ⟨rfl, hb⟩
       have HB := Aside0.mk hb
       clear hb))
  go_ret2
  exact ⟨rfl, HB.out⟩
set_option maxHeartbeats 8000000 in
set_option maxRecDepth 100000 in
theorem Fs.read_ok {s : Fs} {w : World} {g : Nat} (at' n : Int) (h : s.At w g) (ho : s.Ok) (hm : s.may at' n = 0) : Calls Try.prog 34 #[.pointer (some ⟨g, 0, none⟩), .int .i64 at', .int .i64 n] w fun e w' => ∃ v : Value, e = .returned (.tuple #[v, .int .i64 0]) ∧ Kd.R (Kd.int .u8) 5 w' w.heap.size (fun _ => True) v ((s.b.drop at'.toNat).take n.toNat) ∧ Below w.heap.size w w' := by
  have HM := Aside0.mk (Fs.may_calls at' n h)
  rw [hm] at HM
  have HA := Aside0.mk h
  obtain ⟨_, z0, z1, z2, z3⟩ := Fs.may_zero ho hm
  have hu := Try.underlying101
  have hsl := Fs.sl g at' (wrap64 (at' + n)) z0 (by omega) (by rw [z3]; have := ho.2; omega)
  have e3 : (wrap64 (at' + n)).toNat - at'.toNat = n.toNat := by rw [z3]; omega
  simp only [e3] at hsl
  have HN := Aside0.mk (show at'.toNat + n.toNat ≤ 4096 by have := ho.2; omega)
  have HL := Aside0.mk (show ((s.b.drop at'.toNat).take n.toNat).length = n.toNat by have := ho.2; have := h.2; rw [List.length_take, List.length_drop]; omega)
  clear h hm z0 z1 z2 z3 e3 ho
  go_enter Try.func34, Try.ntmps34
  go_wp2_with (first
    | (go_at_call 63; (refine HM.out.mono ?_)
       rintro e w1 ⟨rfl, hb⟩
       have HB := Aside0.mk hb
       have HA1 := Aside0.mk (Fs.below HA.out hb)
       clear hb)
    | (go_at_call 64; (refine (Fs.wider (Fs.clone (w := w1) (A := Fs.ad g at'.toNat) (c := 4096 - at'.toNat) (xs := (s.b.drop at'.toNat).take n.toNat) (by rw [HL.out]; exact Fs.slc HA1.out _ _ HN.out) (by rw [HL.out]; have := HN.out; omega)) HL.out).mono ?_)
       rintro e w2 ⟨v, rfl, hr, hb⟩
       have HR := Aside0.mk (Kd.R_lower hr (below_size HB.out))
       have HB2 := Aside0.mk (below_step HB.out hb)
       clear hr hb))
  go_ret2
  exact ⟨_, rfl, HR.out, HB2.out⟩
set_option maxHeartbeats 8000000 in
set_option maxRecDepth 100000 in
theorem Fs.up_calls {s : Fs} {w : World} {g : Nat} (h : s.At w g) : Calls Try.prog 38 #[.pointer (some ⟨g, 0, none⟩)] w fun e w' => e = .returned (.tuple #[]) ∧ w' = w.setCell ⟨g, 4099, none⟩ (.bool false) := by
  have hu := Try.underlying101
  have c3 := Fs.c_down h
  have f3 := blk_frozen h.1 4099
  clear h
  go_enter Try.func38, Try.ntmps38
  go_wp2
  go_end0
  exact ⟨rfl, rfl⟩
end Go.Proofs.Ytjldkgcabombhaa

/- The contracts of block's Crash and Write, walked by hand. -/
namespace Go.Proofs.Ytjldkgcabombhaa
open Go.RowKit Go.Proofs.YtjldkgcabombhaaW.PrintWords Go.Proofs.YtjldkgcabombhaaW.PrintLast Go.Proofs.YtjldkgcabombhaaW.PrintMore
set_option linter.unusedVariables false
set_option linter.unusedSimpArgs false

def Fs.crash (s : Fs) (p : Int) : Fs := {s with set := true, pre := p}
/-- Block g alone is written, of what there was. -/
def Fs.Fr (g : Nat) (w W : World) : Prop := Below 0 w W ∧ ∀ k, k < w.heap.size → k ≠ g → W.heap[k]? = w.heap[k]?
theorem Fs.fr_refl (g : Nat) (w : World) : Fs.Fr g w w := ⟨Below.refl _ _, fun _ _ _ => rfl⟩
theorem Fs.fr_trans {g : Nat} {w W X : World} (h : Fs.Fr g w W) (k : Fs.Fr g W X) : Fs.Fr g w X := ⟨h.1.trans k.1, fun i hi hg => (k.2 i (by have := h.1.size; omega) hg).trans (h.2 i hi hg)⟩
theorem Fs.fr_of_below {w W : World} (g : Nat) (h : Below w.heap.size w W) : Fs.Fr g w W := ⟨⟨h.os, h.tape, h.output, h.size, fun k hk => absurd hk (by omega)⟩, fun k hk _ => h.block k hk⟩
theorem Fs.fr_set {g : Nat} {w W : World} (h : Fs.Fr g w W) (i : Nat) (v : Value) : Fs.Fr g w (W.setCell ⟨g, i, none⟩ v) := ⟨h.1.setCell (Nat.zero_le _) v, fun k hk hg => (Below.heap_setCell W ⟨g, i, none⟩ v k hg).trans (h.2 k hk hg)⟩
theorem Fs.fr_row {g : Nat} {w W : World} (h : Fs.Fr g w W) (cs : Array Value) : Fs.Fr g w (W.setRow g cs) := ⟨⟨h.1.os, h.1.tape, h.1.output, by rw [setRow_size]; exact h.1.size, fun k hk => absurd hk (by omega)⟩, fun k hk hg => (setRow_other W g k cs hg).trans (h.2 k hk hg)⟩
theorem Fs.fr_drew {g : Nat} {w W : World} (h : Fs.Fr g w W) : Fs.Fr g w W.drew := ⟨below_drew1 h.1, h.2⟩
theorem Fs.fr_below {g base : Nat} {w W : World} (h : Fs.Fr g w W) (hg : base ≤ g) (hb : base ≤ w.heap.size) : Below base w W := ⟨h.1.os, h.1.tape, h.1.output, h.1.size, fun k hk => h.2 k (by omega) (by omega)⟩

set_option maxHeartbeats 8000000 in
set_option maxRecDepth 100000 in
theorem Fs.crash_bad {s : Fs} {w : World} {g : Nat} (p : Int) (h : s.At w g) (hm : s.may 0 0 ≠ 0) : Calls Try.prog 36 #[.pointer (some ⟨g, 0, none⟩), .int .i64 p] w fun e w' => e = .returned (.int .i64 (s.may 0 0)) ∧ Below w.heap.size w w' := by
  obtain ⟨m, hme⟩ : ∃ m, s.may 0 0 = m := ⟨_, rfl⟩
  have HM := Aside0.mk (Fs.may_calls 0 0 h)
  rw [hme] at hm HM ⊢
  have d1 : (m != 0) = true := bne_iff_ne.mpr hm
  have d2 : (m == 0) = false := beq_eq_false_iff_ne.mpr hm
  clear h hm hme
  go_enter Try.func36, Try.ntmps36
  go_wp2_with (first
    | (go_at_call 63; (refine HM.out.mono ?_)
       rintro e w1 ⟨rfl, hb⟩
       have HB := Aside0.mk hb
       clear hb))
  go_ret
  exact ⟨rfl, HB.out⟩
set_option maxHeartbeats 8000000 in
set_option maxRecDepth 100000 in
theorem Fs.crash_neg {s : Fs} {w : World} {g : Nat} (p : Int) (h : s.At w g) (hm : s.may 0 0 = 0) (hp : p < 0) : Calls Try.prog 36 #[.pointer (some ⟨g, 0, none⟩), .int .i64 p] w fun e w' => e = .returned (.int .i64 2) ∧ Below w.heap.size w w' := by
  have HM := Aside0.mk (Fs.may_calls 0 0 h)
  rw [hm] at HM
  have d1 : decide (p < 0) = true := decide_eq_true hp
  clear h hm hp
  go_enter Try.func36, Try.ntmps36
  go_wp2_with (first
    | (go_at_call 63; (refine HM.out.mono ?_)
       rintro e w1 ⟨rfl, hb⟩
       have HB := Aside0.mk hb
       clear hb))
  go_ret
  exact ⟨rfl, HB.out⟩
set_option maxHeartbeats 8000000 in
set_option maxRecDepth 100000 in
theorem Fs.crash_ok {s : Fs} {w : World} {g : Nat} (p : Int) (h : s.At w g) (hm : s.may 0 0 = 0) (hp : 0 ≤ p) : Calls Try.prog 36 #[.pointer (some ⟨g, 0, none⟩), .int .i64 p] w fun e w' => e = .returned (.int .i64 0) ∧ (s.crash p).At w' g ∧ Fs.Fr g w w' := by
  have HM := Aside0.mk (Fs.may_calls 0 0 h)
  rw [hm] at HM
  have HA := Aside0.mk h
  have hu := Try.underlying101
  have d1 : decide (p < 0) = false := decide_eq_false (by omega)
  clear h hm hp
  go_enter Try.func36, Try.ntmps36
  go_wp2_with (first
    | (go_at_call 63; (refine HM.out.mono ?_)
       rintro e w1 ⟨rfl, hb⟩
       have HF := Aside0.mk (Fs.fr_of_below g hb)
       have HA1 := Aside0.mk (Fs.below HA.out hb)
       have c1 := Fs.c_set HA1.out
       have c2 := Fs.c_pre HA1.out
       have f1 := blk_frozen HA1.out.1 4097
       have f2 := blk_frozen HA1.out.1 4098
       clear hb))
  go_ret
  exact ⟨rfl, Fs.put_tail (s := {s with set := true}) (s' := s.crash p) (Fs.put_tail HA1.out 1 (.bool true) rfl rfl) 2 (.int .i64 p) rfl rfl, Fs.fr_set (Fs.fr_set HF.out _ _) _ _⟩

/-! ### copy into a file -/
def Fs.lay (s : Fs) (l : Nat) (xs : List Int) : Fs := {s with b := s.b.take l ++ xs ++ s.b.drop (l + xs.length)}
def Fs.wrote (s : Fs) (l : Nat) (xs : List Int) : Fs := {s.lay l xs with wr := wrap64 (s.wr + 1)}
def Fs.torn (s : Fs) (l : Nat) (xs : List Int) : Fs := {s.lay l xs with set := false, down := true}

theorem Fs.copy {s : Fs} {w : World} {g : Nat} (h : s.At w g) (l n c : Nat) (A : Option Addr) (xs : List Int) (hn : l + n ≤ 4096) (hC : Kd.C (Kd.int .u8) w A n xs) :
    ∃ w', (Builtin.copy_ #[25, 25] 3 #[.slice (some (Fs.ad g l)) (4096 - l) (4096 - l), .slice A n c]).run Try.prog w = .ok (.int .i64 (n : Int)) w' ∧ (s.lay l xs).At w' g ∧ Fs.Fr g w w' := by
  have hx0 := hC.1
  unfold Fs.lay
  rw [hx0]
  have hb := h.2
  have hr := Kd.reads_of_C (enc := Value.int .u8) (d := (0 : Int)) (h1 := fun _ => rfl) hC
  have hx : xs.length = n := hr.1
  have hinf : (Try.prog.info? 5).map (·.size) = some 1 := by kernel_rfl
  rcases Nat.eq_zero_or_pos n with h0 | h0
  · subst h0
    obtain rfl : xs = [] := List.eq_nil_of_length_eq_zero hx
    refine ⟨w, run_copy_none (P := Try.prog) w 25 25 3 5 _ A _ _ 0 c Try.underlying25 hinf (Nat.zero_min _), ?_, Fs.fr_refl g w⟩
    have e : s.b.take l ++ [] ++ s.b.drop (l + 0) = s.b := by rw [List.append_nil, Nat.add_zero, List.take_append_drop]
    rw [e]
    exact h
  · obtain ⟨ad, rfl, hcell⟩ := hr.2.2 h0
    have ea : Fs.ad g l = ⟨g, l, none⟩ := by
      unfold Fs.ad
      rw [if_neg (by omega)]
      by_cases a : l = 0 <;> simp [Addr.add, a]
    have hcl : s.cells.toList = nums .u8 s.b ++ s.tail := rfl
    have hnl : (nums .u8 s.b).length = 4096 := by simp [nums, hb]
    have hxl : (nums .u8 xs).length = n := by simp [nums, hx]
    have hcs : s.cells.size = 4101 := by rw [← Array.length_toList, hcl, List.length_append, hnl]; rfl
    have hrun := run_copy_row (P := Try.prog) w 25 25 3 5 g l (4096 - l) (4096 - l) ad n c s.cells 101 (nums .u8 xs) Try.underlying25 hinf h.1 (by rw [hxl]; exact (Nat.min_eq_left (by omega)).symm) ?_ (by rw [hxl, hcs]; omega) ?_
    · rw [ea]
      refine ⟨_, by rw [hrun, hxl]; rfl, ⟨?_, by simp [hx, hb]; omega⟩, Fs.fr_row (Fs.fr_refl g w) _⟩
      have hce : s.cells.toList.take l ++ nums .u8 xs ++ s.cells.toList.drop (l + n) = nums .u8 (s.b.take l ++ xs ++ s.b.drop (l + n)) ++ s.tail := by
        rw [hcl, List.take_append_of_le_length (by omega), List.drop_append_of_le_length (by omega)]
        simp [nums]
      have hce2 := congrArg List.toArray hce
      have hsh := setRow_heap w g s.cells (s.cells.toList.take l ++ nums .u8 xs ++ s.cells.toList.drop (l + n)).toArray 101 (0, 0) h.1
      rw [hce2] at hsh ⊢
      exact hsh
    · intro j v hv
      have hj : j < n := by rw [← hxl]; exact (List.getElem?_eq_some_iff.1 hv).1
      rw [hcell j hj, ← hv]
      simp [nums, hx, hj]
    · intro v hv
      obtain ⟨x, _, rfl⟩ := List.mem_map.mp hv
      rfl
theorem Fs.sll (g : Nat) (l : Int) (h0 : 0 ≤ l) (h1 : l ≤ 4096) (W : World) : (Instr.sliceAt 99 (.pointer (some ⟨g, 0, none⟩)) (some (.int .i64 l)) none none).run Try.prog W = .ok (.slice (some (Fs.ad g l.toNat)) (4096 - l.toNat) (4096 - l.toNat)) W := by
  rw [run_sliceAt_array_l (P := Try.prog) W 99 ⟨g, 0, none⟩ Fs.arr .i64 l h0 (by rw [Fs.al]; exact h1), Fs.sz, Fs.al]
  rfl

set_option maxHeartbeats 8000000 in
set_option maxRecDepth 100000 in
theorem Fs.write_bad {s : Fs} {w : World} {g : Nat} (at' : Int) (A : Option Addr) (n c : Nat) (h : s.At w g) (hm : s.may at' n ≠ 0) : Calls Try.prog 32 #[.pointer (some ⟨g, 0, none⟩), .int .i64 at', .slice A n c] w fun e w' => e = .returned (.int .i64 (s.may at' n)) ∧ Below w.heap.size w w' := by
  obtain ⟨m, hme⟩ : ∃ m, s.may at' n = m := ⟨_, rfl⟩
  have HM := Aside0.mk (Fs.may_calls at' n h)
  rw [hme] at hm HM ⊢
  have d1 : (m != 0) = true := bne_iff_ne.mpr hm
  have d2 : (m == 0) = false := beq_eq_false_iff_ne.mpr hm
  clear h hm hme
  go_enter Try.func32, Try.ntmps32
  go_wp2_with (first
    | (go_at_call 63; (refine HM.out.mono ?_)
       rintro e w1 ⟨rfl, hb⟩
       have HB := Aside0.mk hb
       clear hb))
  go_ret
  exact ⟨rfl, HB.out⟩
set_option maxHeartbeats 8000000 in
set_option maxRecDepth 100000 in
theorem Fs.write_ok {s : Fs} {w : World} {g : Nat} (at' : Int) (A : Option Addr) (n c : Nat) (xs : List Int) (h : s.At w g) (ho : s.Ok) (hm : s.may at' n = 0) (hs : s.set = false) (hC : Kd.C (Kd.int .u8) w A n xs) : Calls Try.prog 32 #[.pointer (some ⟨g, 0, none⟩), .int .i64 at', .slice A n c] w fun e w' => e = .returned (.int .i64 0) ∧ (s.wrote at'.toNat xs).At w' g ∧ Fs.Fr g w w' := by
  have HM := Aside0.mk (Fs.may_calls at' n h)
  rw [hm] at HM
  have HA := Aside0.mk h
  have HC := Aside0.mk hC
  obtain ⟨zd, z0, z1, z2, z3⟩ := Fs.may_zero ho hm
  have hu := Try.underlying101
  have hsl := Fs.sll g at' z0 (by have := ho.2; omega)
  have HN := Aside0.mk (show at'.toNat + n ≤ 4096 by have := ho.2; omega)
  have HS := Aside0.mk hs
  clear h hm zd z0 z1 z2 z3 ho hC hs
  go_enter Try.func32, Try.ntmps32
  go_upto_region 8 with (first
    | (go_at_call 63; (refine HM.out.mono ?_)
       rintro e w1 ⟨rfl, hb⟩
       have HF := Aside0.mk (Fs.fr_of_below g hb)
       have HA1 := Aside0.mk (Fs.below HA.out hb)
       have HC1 := Aside0.mk (Kd.C_below HC.out hb)
       have c1 := Fs.c_set HA1.out
       rw [HS.out] at c1
       clear hb))
  obtain ⟨w2, hrun, hA2, hF2⟩ := Fs.copy HA1.out at'.toNat n c A xs HN.out HC1.out
  have HA2 := Aside0.mk hA2
  have HF2 := Aside0.mk (Fs.fr_trans HF.out hF2)
  have c4 : w2.cell? ⟨g, 4100, none⟩ = some (.int .i64 s.wr) := Fs.c_wr (s := s.lay at'.toNat xs) hA2
  have f4 := blk_frozen hA2.1 4100
  clear hA2 hF2 c1
  go_wp2
  go_ret
  exact ⟨rfl, Fs.put_tail (s := s.lay at'.toNat xs) (s' := s.wrote at'.toNat xs) HA2.out 4 _ rfl rfl, Fs.fr_set HF2.out _ _⟩
end Go.Proofs.Ytjldkgcabombhaa

/- The contract of block's Write where a crash is set, walked by hand. -/
namespace Go.Proofs.Ytjldkgcabombhaa
open Go.RowKit Go.Proofs.YtjldkgcabombhaaW.PrintWords Go.Proofs.YtjldkgcabombhaaW.PrintLast Go.Proofs.YtjldkgcabombhaaW.PrintMore
attribute [local go_sem] max2_int min2_int max_two min_two
set_option linter.unusedVariables false
set_option linter.unusedSimpArgs false

def Fs.cut (s : Fs) (n : Nat) : Int := if (n : Int) < s.pre then (n : Int) else s.pre
def Fs.Same (w W : World) : Prop := Below w.heap.size w W
theorem Fs.same_at {s : Fs} {w W : World} {g : Nat} (hW : Fs.Same w W) (h : s.At w g) : s.At W g := Fs.below h hW
set_option maxHeartbeats 8000000 in
set_option maxRecDepth 100000 in
theorem Fs.write_torn {s : Fs} {w : World} {g : Nat} (at' : Int) (A : Option Addr) (c : Nat) (xs : List Int) (h : s.At w g) (ho : s.Ok) (hm : s.may at' xs.length = 0) (hs : s.set = true) (hp : 0 ≤ s.pre) (hC : Kd.C (Kd.int .u8) w A xs.length xs) (hc : xs.length ≤ c) : Calls Try.prog 32 #[.pointer (some ⟨g, 0, none⟩), .int .i64 at', .slice A xs.length c] w fun e w' => e = .returned (.int .i64 10) ∧ (s.torn at'.toNat (xs.take (Fs.cut s xs.length).toNat)).At w' g ∧ Fs.Fr g w w' := by
  have HM := Aside0.mk (Fs.may_calls at' xs.length h)
  rw [hm] at HM
  have HA := Aside0.mk h
  obtain ⟨zd, z0, z1, z2, z3⟩ := Fs.may_zero ho hm
  have hu := Try.underlying101
  have hsl := Fs.sll g at' z0 (by have := ho.2; omega)
  obtain ⟨i0, hi, hz0, hz1, hz2⟩ := info_parts Rc.info5
  obtain ⟨m, hme⟩ : ∃ m, Fs.cut s xs.length = m := ⟨_, rfl⟩
  have hmn : 0 ≤ m ∧ m ≤ xs.length := by
    rw [← hme]
    unfold Fs.cut
    split <;> omega
  rw [hme]
  have hmin : (if (xs.length : Int) < s.pre then (xs.length : Int) else s.pre) = m := hme
  have hst := (print_take_int (P := Try.prog) (k := .u8) 25 5 Try.underlying25 hi hz1 A c xs m hmn.1 hmn.2 hc).1
  have hlt : (xs.take m.toNat).length = m.toNat := by rw [List.length_take]; omega
  have HN := Aside0.mk (show at'.toNat + (xs.take m.toNat).length ≤ 4096 by have := ho.2; omega)
  have HC := Aside0.mk (show Kd.C (Kd.int .u8) w A (xs.take m.toNat).length (xs.take m.toNat) from Kd.C_take (m := m.toNat) hC (by omega))
  have HS := Aside0.mk hs
  obtain ⟨ys, hys⟩ : ∃ ys, xs.take m.toNat = ys := ⟨_, rfl⟩
  rw [hys] at hst HN HC ⊢
  clear hme h hm zd z0 z1 z2 z3 ho hC hs hi hz0 hz1 hz2 hmn hlt hys hc hp
  go_enter Try.func32, Try.ntmps32
  go_upto_region 5 with (first
    | (go_at_call 63; (refine HM.out.mono ?_)
       rintro e w1 ⟨rfl, hb⟩
       have HF := Aside0.mk (Fs.fr_of_below g hb)
       have HA1 := Aside0.mk (Fs.below HA.out hb)
       have HC1 := Aside0.mk (Kd.C_below HC.out hb)
       have c1 := Fs.c_set HA1.out
       rw [HS.out] at c1
       clear hb))
  have c2 := Fs.c_pre HA1.out
  have HX := Aside0.mk (show ∀ W, Fs.Same w1 W → ∃ w2, (Builtin.copy_ #[25, 25] 3 #[.slice (some (Fs.ad g at'.toNat)) (4096 - at'.toNat) (4096 - at'.toNat), .slice A ys.length c]).run Try.prog W = .ok (.int .i64 (ys.length : Int)) w2 ∧ (s.lay at'.toNat ys).At w2 g ∧ Fs.Fr g w w2 from fun W hW => by
    obtain ⟨w2, h1, h2, h3⟩ := Fs.copy (Fs.same_at hW HA1.out) at'.toNat ys.length c A ys HN.out (Kd.C_below HC1.out hW)
    exact ⟨w2, h1, h2, Fs.fr_trans HF.out (Fs.fr_trans (Fs.fr_of_below g hW) h3)⟩)
  obtain ⟨w2, hrun, hA2, hF2⟩ := HX.out w1.drew (below_drew1 (Below.refl _ _))
  have HA2 := Aside0.mk hA2
  have HF2 := Aside0.mk hF2
  clear hA2 hF2 HX c1
  go_cut [34] (fun s34 wr => Aside0 ((s.lay at'.toNat ys).At wr g ∧ Fs.Fr g w wr))
  case first =>
    go_region
    all_goals (go_wp2_with fail; go_meet)
    all_goals exact ⟨HA2.out, HF2.out⟩
  case rest =>
    clear HA2 HF2 hrun w2
    rename World => w2
    have HA2 := hcut
    have c3 : w2.cell? ⟨g, 4097, none⟩ = some (.bool s.set) := Fs.c_set (s := s.lay at'.toNat ys) HA2.out.1
    have c4 : w2.cell? ⟨g, 4099, none⟩ = some (.bool s.down) := Fs.c_down (s := s.lay at'.toNat ys) HA2.out.1
    have f3 := blk_frozen HA2.out.1.1 4097
    have f4 := blk_frozen HA2.out.1.1 4099
    go_wp2
    go_ret
    exact ⟨rfl, Fs.put_tail (s := {s.lay at'.toNat ys with set := false}) (s' := s.torn at'.toNat ys) (Fs.put_tail (s := s.lay at'.toNat ys) HA2.out.1 1 (.bool false) rfl rfl) 3 (.bool true) rfl rfl, Fs.fr_set (Fs.fr_set HA2.out.2 _ _) _ _⟩
end Go.Proofs.Ytjldkgcabombhaa

/- The contracts of slots' held and of its closure, walked by hand. -/
namespace Go.Proofs.Ytjldkgcabombhaa
open Go.RowKit Go.Proofs.YtjldkgcabombhaaW.PrintWords Go.Proofs.YtjldkgcabombhaaW.PrintLast Go.Proofs.YtjldkgcabombhaaW.PrintMore
set_option linter.unusedVariables false
set_option linter.unusedSimpArgs false

def Sl.ahead (a0 : Int) (wa : Bool) (b0 : Int) (wb : Bool) : Bool := wa && (!wb || decide (b0 ≤ a0))
def Sl.now (a0 : Int) (wa : Bool) (b0 : Int) (wb : Bool) : Int := if Sl.ahead a0 wa b0 wb = true then 0 else 1
def Sl.next (a0 : Int) (wa : Bool) (b0 : Int) (wb : Bool) : Int := if wa = false then 0 else if (!wb || decide (b0 < a0)) = true then 1 else 0

set_option maxHeartbeats 8000000 in
set_option maxRecDepth 100000 in
theorem Sl.clo (a0 a1 a2 a3 : Int) (wa : Bool) (b0 b1 b2 b3 : Int) (wb : Bool) (w : World) : Calls Try.prog 70 #[.agg #[.int .u32 a0, .int .i64 a1, .int .i64 a2, .int .i64 a3, .bool wa], .agg #[.int .u32 b0, .int .i64 b1, .int .i64 b2, .int .i64 b3, .bool wb]] w fun e w' => e = .returned (.bool (Sl.ahead a0 wa b0 wb)) ∧ Below w.heap.size w w' := by
  have hu := Try.underlying105
  have hu2 := Try.underlying24
  unfold Sl.ahead
  cases wa <;> cases wb <;> (
    go_enter Try.func70, Try.ntmps70
    go_wp2
    go_ret
    exact ⟨by simp, below_alloc (below_alloc (Below.refl _ _) _) _⟩)

set_option maxHeartbeats 8000000 in
set_option maxRecDepth 100000 in
theorem Sl.held (a0 a1 a2 a3 : Int) (wa : Bool) (b0 b1 b2 b3 : Int) (wb : Bool) (w : World) : Calls Try.prog 66 #[.agg #[.int .u32 a0, .int .i64 a1, .int .i64 a2, .int .i64 a3, .bool wa, .int .u32 b0, .int .i64 b1, .int .i64 b2, .int .i64 b3, .bool wb]] w fun e w' => e = .returned (.tuple #[.int .i64 (Sl.now a0 wa b0 wb), .int .i64 (Sl.next a0 wa b0 wb)]) ∧ Below w.heap.size w w' := by
  have hu := Try.underlying105
  have hu2 := Try.underlying24
  have HB := Aside0.mk (below_alloc (Below.refl w.heap.size w) (.cells #[.int .u32 a0, .int .i64 a1, .int .i64 a2, .int .i64 a3, .bool wa, .int .u32 b0, .int .i64 b1, .int .i64 b2, .int .i64 b3, .bool wb] 106 (0, 0)))
  have HK := Aside0.mk (blk_new w (.cells #[.int .u32 a0, .int .i64 a1, .int .i64 a2, .int .i64 a3, .bool wa, .int .u32 b0, .int .i64 b1, .int .i64 b2, .int .i64 b3, .bool wb] 106 (0, 0)))
  obtain ⟨ah, hah⟩ : ∃ ah, Sl.ahead a0 wa b0 wb = ah := ⟨_, rfl⟩
  have HC := Aside0.mk (fun W => Sl.clo a0 a1 a2 a3 wa b0 b1 b2 b3 wb W)
  rw [hah] at HC
  unfold Sl.now Sl.next
  rw [hah]
  clear hah
  by_cases c : b0 < a0
  · have d1 : decide (b0 < a0) = true := decide_eq_true c
    rw [d1]
    clear c
    cases ah <;> cases wa <;> cases wb <;> (
      go_enter Try.func66, Try.ntmps66
      go_wp2_with (first
        | (go_at_call 70; (refine (HC.out _).mono ?_)
           rintro e w1 ⟨rfl, hb⟩
           have HB1 := Aside0.mk (below_step HB.out hb)
           have hk := blk_below HK.out hb
           have e0 := blk_cell hk 0
           have e4 := blk_cell hk 4
           have e5 := blk_cell hk 5
           have e9 := blk_cell hk 9
           clear hb HB HC hk))
      go_ret2
      exact ⟨by simp, HB1.out⟩)
  · have d1 : decide (b0 < a0) = false := decide_eq_false c
    rw [d1]
    clear c
    cases ah <;> cases wa <;> cases wb <;> (
      go_enter Try.func66, Try.ntmps66
      go_wp2_with (first
        | (go_at_call 70; (refine (HC.out _).mono ?_)
           rintro e w1 ⟨rfl, hb⟩
           have HB1 := Aside0.mk (below_step HB.out hb)
           have hk := blk_below HK.out hb
           have e0 := blk_cell hk 0
           have e4 := blk_cell hk 4
           have e5 := blk_cell hk 5
           have e9 := blk_cell hk 9
           clear hb HB HC hk))
      go_ret2
      exact ⟨by simp, HB1.out⟩)
end Go.Proofs.Ytjldkgcabombhaa

/- The contract of slots.read, walked by hand. -/
namespace Go.Proofs.Ytjldkgcabombhaa
open Go.RowKit Go.Proofs.YtjldkgcabombhaaW.PrintWords Go.Proofs.YtjldkgcabombhaaW.PrintLast Go.Proofs.YtjldkgcabombhaaW.PrintMore
set_option linter.unusedVariables false
set_option linter.unusedSimpArgs false

theorem Sr.set10 {W : World} {g : Nat} {t : TypeId} {x0 x1 x2 x3 x4 x5 x6 x7 x8 x9 y0 y1 y2 y3 y4 y5 y6 y7 y8 y9 : Value} (h : W.heap[g]? = some (.cells #[x0, x1, x2, x3, x4, x5, x6, x7, x8, x9] t (0, 0))) : ((((((((((W.setCell ⟨g, 0, none⟩ y0).setCell ⟨g, 1, none⟩ y1).setCell ⟨g, 2, none⟩ y2).setCell ⟨g, 3, none⟩ y3).setCell ⟨g, 4, none⟩ y4).setCell ⟨g, 5, none⟩ y5).setCell ⟨g, 6, none⟩ y6).setCell ⟨g, 7, none⟩ y7).setCell ⟨g, 8, none⟩ y8).setCell ⟨g, 9, none⟩ y9).heap[g]? = some (.cells #[y0, y1, y2, y3, y4, y5, y6, y7, y8, y9] t (0, 0)) := by
  have h := blk_put (cs' := #[y0, x1, x2, x3, x4, x5, x6, x7, x8, x9]) h 0 y0 rfl
  have h := blk_put (cs' := #[y0, y1, x2, x3, x4, x5, x6, x7, x8, x9]) h 1 y1 rfl
  have h := blk_put (cs' := #[y0, y1, y2, x3, x4, x5, x6, x7, x8, x9]) h 2 y2 rfl
  have h := blk_put (cs' := #[y0, y1, y2, y3, x4, x5, x6, x7, x8, x9]) h 3 y3 rfl
  have h := blk_put (cs' := #[y0, y1, y2, y3, y4, x5, x6, x7, x8, x9]) h 4 y4 rfl
  have h := blk_put (cs' := #[y0, y1, y2, y3, y4, y5, x6, x7, x8, x9]) h 5 y5 rfl
  have h := blk_put (cs' := #[y0, y1, y2, y3, y4, y5, y6, x7, x8, x9]) h 6 y6 rfl
  have h := blk_put (cs' := #[y0, y1, y2, y3, y4, y5, y6, y7, x8, x9]) h 7 y7 rfl
  have h := blk_put (cs' := #[y0, y1, y2, y3, y4, y5, y6, y7, y8, x9]) h 8 y8 rfl
  have h := blk_put (cs' := #[y0, y1, y2, y3, y4, y5, y6, y7, y8, y9]) h 9 y9 rfl
  exact h
theorem Sr.bel10 {w W : World} {g base : Nat} {y0 y1 y2 y3 y4 y5 y6 y7 y8 y9 : Value} (hg : base ≤ g) (h : Below base w W) : Below base w ((((((((((W.setCell ⟨g, 0, none⟩ y0).setCell ⟨g, 1, none⟩ y1).setCell ⟨g, 2, none⟩ y2).setCell ⟨g, 3, none⟩ y3).setCell ⟨g, 4, none⟩ y4).setCell ⟨g, 5, none⟩ y5).setCell ⟨g, 6, none⟩ y6).setCell ⟨g, 7, none⟩ y7).setCell ⟨g, 8, none⟩ y8).setCell ⟨g, 9, none⟩ y9) := by
  have h := Below.setCell h (p := ⟨g, 0, none⟩) hg y0
  have h := Below.setCell h (p := ⟨g, 1, none⟩) hg y1
  have h := Below.setCell h (p := ⟨g, 2, none⟩) hg y2
  have h := Below.setCell h (p := ⟨g, 3, none⟩) hg y3
  have h := Below.setCell h (p := ⟨g, 4, none⟩) hg y4
  have h := Below.setCell h (p := ⟨g, 5, none⟩) hg y5
  have h := Below.setCell h (p := ⟨g, 6, none⟩) hg y6
  have h := Below.setCell h (p := ⟨g, 7, none⟩) hg y7
  have h := Below.setCell h (p := ⟨g, 8, none⟩) hg y8
  have h := Below.setCell h (p := ⟨g, 9, none⟩) hg y9
  exact h
set_option maxHeartbeats 1000000 in
set_option maxRecDepth 100000 in
theorem Sr.nil (w : World) : Calls Try.prog 65 #[.pointer none] w fun e w' => e = .returned (.tuple #[.agg #[.int .u32 0, .int .i64 0, .int .i64 0, .int .i64 0, .bool false, .int .u32 0, .int .i64 0, .int .i64 0, .int .i64 0, .bool false], .int .i64 1]) ∧ Below w.heap.size w w' := by
  have hu := Try.underlying106
  go_enter Try.func65, Try.ntmps65
  go_wp2
  refine bodyPost_ret (results_ct rfl _ _ w.heap.size 106 #[.int .u32 0, .int .i64 0, .int .i64 0, .int .i64 0, .bool false, .int .u32 0, .int .i64 0, .int .i64 0, .int .i64 0, .bool false] (0, 0) _ rfl (blk_new w (.cells #[.int .u32 0, .int .i64 0, .int .i64 0, .int .i64 0, .bool false, .int .u32 0, .int .i64 0, .int .i64 0, .int .i64 0, .bool false] 106 (0, 0))) Try.underlying106 rfl (by kernel_rfl)) rfl ?_
  exact ⟨rfl, below_alloc (Below.refl w.heap.size w) (.cells #[.int .u32 0, .int .i64 0, .int .i64 0, .int .i64 0, .bool false, .int .u32 0, .int .i64 0, .int .i64 0, .int .i64 0, .bool false] 106 (0, 0))⟩
set_option maxHeartbeats 1000000 in
set_option maxRecDepth 100000 in
theorem Sr.other {s : Fs} {w : World} {g : Nat} (h : s.At w g) (hz : s.size ≠ 128) : Calls Try.prog 65 #[.pointer (some ⟨g, 0, none⟩)] w fun e w' => e = .returned (.tuple #[.agg #[.int .u32 0, .int .i64 0, .int .i64 0, .int .i64 0, .bool false, .int .u32 0, .int .i64 0, .int .i64 0, .int .i64 0, .bool false], .int .i64 2]) ∧ Below w.heap.size w w' := by
  have hu := Try.underlying106
  have d1 : (s.size != 128) = true := bne_iff_ne.mpr hz
  have HA := Aside0.mk (show s.At (w.alloc (.cells #[.int .u32 0, .int .i64 0, .int .i64 0, .int .i64 0, .bool false, .int .u32 0, .int .i64 0, .int .i64 0, .int .i64 0, .bool false] 106 (0, 0))) g from ⟨blk_alloc h.1 _, h.2⟩)
  clear h hz
  go_enter Try.func65, Try.ntmps65
  go_wp2_with (first
    | (go_at_call 43; (refine (Fs.size_calls HA.out).mono ?_)
       rintro e w1 ⟨rfl, rfl⟩
       clear HA))
  refine bodyPost_ret (results_ct rfl _ _ w.heap.size 106 #[.int .u32 0, .int .i64 0, .int .i64 0, .int .i64 0, .bool false, .int .u32 0, .int .i64 0, .int .i64 0, .int .i64 0, .bool false] (0, 0) _ rfl (blk_new w (.cells #[.int .u32 0, .int .i64 0, .int .i64 0, .int .i64 0, .bool false, .int .u32 0, .int .i64 0, .int .i64 0, .int .i64 0, .bool false] 106 (0, 0))) Try.underlying106 rfl (by kernel_rfl)) rfl ?_
  exact ⟨rfl, below_alloc (Below.refl w.heap.size w) (.cells #[.int .u32 0, .int .i64 0, .int .i64 0, .int .i64 0, .bool false, .int .u32 0, .int .i64 0, .int .i64 0, .int .i64 0, .bool false] 106 (0, 0))⟩

/-- The two slots' cells, and the file. -/
def Sr.S (s : Fs) (w W : World) (g : Nat) (cs : Array Value) : Prop := W.heap[w.heap.size]? = some (.cells cs 106 (0, 0)) ∧ s.At W g ∧ Below w.heap.size w W
theorem Sr.s_below {s : Fs} {w W W1 : World} {g : Nat} {cs : Array Value} (h : Sr.S s w W g cs) (hb : Below W.heap.size W W1) : Sr.S s w W1 g cs := ⟨blk_below h.1 hb, Fs.below h.2.1 hb, below_step h.2.2 hb⟩
theorem Sr.s_alloc {s : Fs} {w W : World} {g : Nat} {cs : Array Value} (h : Sr.S s w W g cs) (o : Obj) : Sr.S s w (W.alloc o) g cs := ⟨blk_alloc h.1 _, ⟨blk_alloc h.2.1.1 _, h.2.1.2⟩, below_alloc h.2.2 _⟩
theorem Sr.s_start {s : Fs} {w : World} {g : Nat} (h : s.At w g) : Sr.S s w (w.alloc (.cells #[.int .u32 0, .int .i64 0, .int .i64 0, .int .i64 0, .bool false, .int .u32 0, .int .i64 0, .int .i64 0, .int .i64 0, .bool false] 106 (0, 0))) g #[.int .u32 0, .int .i64 0, .int .i64 0, .int .i64 0, .bool false, .int .u32 0, .int .i64 0, .int .i64 0, .int .i64 0, .bool false] := ⟨blk_new w _, ⟨blk_alloc h.1 _, h.2⟩, below_alloc (Below.refl _ _) _⟩
theorem Sr.s_set5a {s : Fs} {w W : World} {g : Nat} {x0 x1 x2 x3 x4 x5 x6 x7 x8 x9 y0 y1 y2 y3 y4 : Value} (hg : g ≠ w.heap.size) (h : Sr.S s w W g #[x0, x1, x2, x3, x4, x5, x6, x7, x8, x9]) : Sr.S s w (((((W.setCell ⟨w.heap.size, 0, none⟩ y0).setCell ⟨w.heap.size, 1, none⟩ y1).setCell ⟨w.heap.size, 2, none⟩ y2).setCell ⟨w.heap.size, 3, none⟩ y3).setCell ⟨w.heap.size, 4, none⟩ y4) g #[y0, y1, y2, y3, y4, x5, x6, x7, x8, x9] := by
  obtain ⟨h, ha, hb⟩ := h
  have h := blk_put (cs' := #[y0, x1, x2, x3, x4, x5, x6, x7, x8, x9]) h 0 y0 rfl
  have ha : s.At _ g := ⟨blk_far ha.1 (p := ⟨w.heap.size, 0, none⟩) hg y0, ha.2⟩
  have hb := Below.setCell hb (p := ⟨w.heap.size, 0, none⟩) (Nat.le_refl _) y0
  have h := blk_put (cs' := #[y0, y1, x2, x3, x4, x5, x6, x7, x8, x9]) h 1 y1 rfl
  have ha : s.At _ g := ⟨blk_far ha.1 (p := ⟨w.heap.size, 1, none⟩) hg y1, ha.2⟩
  have hb := Below.setCell hb (p := ⟨w.heap.size, 1, none⟩) (Nat.le_refl _) y1
  have h := blk_put (cs' := #[y0, y1, y2, x3, x4, x5, x6, x7, x8, x9]) h 2 y2 rfl
  have ha : s.At _ g := ⟨blk_far ha.1 (p := ⟨w.heap.size, 2, none⟩) hg y2, ha.2⟩
  have hb := Below.setCell hb (p := ⟨w.heap.size, 2, none⟩) (Nat.le_refl _) y2
  have h := blk_put (cs' := #[y0, y1, y2, y3, x4, x5, x6, x7, x8, x9]) h 3 y3 rfl
  have ha : s.At _ g := ⟨blk_far ha.1 (p := ⟨w.heap.size, 3, none⟩) hg y3, ha.2⟩
  have hb := Below.setCell hb (p := ⟨w.heap.size, 3, none⟩) (Nat.le_refl _) y3
  have h := blk_put (cs' := #[y0, y1, y2, y3, y4, x5, x6, x7, x8, x9]) h 4 y4 rfl
  have ha : s.At _ g := ⟨blk_far ha.1 (p := ⟨w.heap.size, 4, none⟩) hg y4, ha.2⟩
  have hb := Below.setCell hb (p := ⟨w.heap.size, 4, none⟩) (Nat.le_refl _) y4
  exact ⟨h, ha, hb⟩
theorem Sr.s_set5b {s : Fs} {w W : World} {g : Nat} {x0 x1 x2 x3 x4 x5 x6 x7 x8 x9 y0 y1 y2 y3 y4 : Value} (hg : g ≠ w.heap.size) (h : Sr.S s w W g #[x0, x1, x2, x3, x4, x5, x6, x7, x8, x9]) : Sr.S s w (((((W.setCell ⟨w.heap.size, 5, none⟩ y0).setCell ⟨w.heap.size, 6, none⟩ y1).setCell ⟨w.heap.size, 7, none⟩ y2).setCell ⟨w.heap.size, 8, none⟩ y3).setCell ⟨w.heap.size, 9, none⟩ y4) g #[x0, x1, x2, x3, x4, y0, y1, y2, y3, y4] := by
  obtain ⟨h, ha, hb⟩ := h
  have h := blk_put (cs' := #[x0, x1, x2, x3, x4, y0, x6, x7, x8, x9]) h 5 y0 rfl
  have ha : s.At _ g := ⟨blk_far ha.1 (p := ⟨w.heap.size, 5, none⟩) hg y0, ha.2⟩
  have hb := Below.setCell hb (p := ⟨w.heap.size, 5, none⟩) (Nat.le_refl _) y0
  have h := blk_put (cs' := #[x0, x1, x2, x3, x4, y0, y1, x7, x8, x9]) h 6 y1 rfl
  have ha : s.At _ g := ⟨blk_far ha.1 (p := ⟨w.heap.size, 6, none⟩) hg y1, ha.2⟩
  have hb := Below.setCell hb (p := ⟨w.heap.size, 6, none⟩) (Nat.le_refl _) y1
  have h := blk_put (cs' := #[x0, x1, x2, x3, x4, y0, y1, y2, x8, x9]) h 7 y2 rfl
  have ha : s.At _ g := ⟨blk_far ha.1 (p := ⟨w.heap.size, 7, none⟩) hg y2, ha.2⟩
  have hb := Below.setCell hb (p := ⟨w.heap.size, 7, none⟩) (Nat.le_refl _) y2
  have h := blk_put (cs' := #[x0, x1, x2, x3, x4, y0, y1, y2, y3, x9]) h 8 y3 rfl
  have ha : s.At _ g := ⟨blk_far ha.1 (p := ⟨w.heap.size, 8, none⟩) hg y3, ha.2⟩
  have hb := Below.setCell hb (p := ⟨w.heap.size, 8, none⟩) (Nat.le_refl _) y3
  have h := blk_put (cs' := #[x0, x1, x2, x3, x4, y0, y1, y2, y3, y4]) h 9 y4 rfl
  have ha : s.At _ g := ⟨blk_far ha.1 (p := ⟨w.heap.size, 9, none⟩) hg y4, ha.2⟩
  have hb := Below.setCell hb (p := ⟨w.heap.size, 9, none⟩) (Nat.le_refl _) y4
  exact ⟨h, ha, hb⟩

theorem Sr.may128 {s : Fs} (hz : s.size = 128) (i : Nat) (hi : i ≤ 1) : s.may (64 * i) 64 = if s.down = true then 10 else 0 := by
  have h1 : s.inn (64 * i) = true := by simp [Fs.inn, hz]; omega
  have h2 : s.inn 64 = true := by simp [Fs.inn, hz]
  have h3 : s.inn (wrap64 (64 * i + 64)) = true := by rw [Rc.w64 _ (by omega)]; simp [Fs.inn, hz]; omega
  unfold Fs.may
  rw [h1, h2, h3]
  simp
set_option maxHeartbeats 1000000 in
set_option maxRecDepth 100000 in
theorem Sr.ok {s : Fs} {w : World} {g : Nat} {p0 p1 p2 p3 p4 q0 q1 q2 q3 q4 : Int} (h : s.At w g) (hz : s.size = 128) (hd : s.down = false) (hp : Rd.dec ((s.b.drop 0).take 64) = (p0, p1, p2, p3, p4)) (hq : Rd.dec ((s.b.drop 64).take 64) = (q0, q1, q2, q3, q4)) :
    Calls Try.prog 65 #[.pointer (some ⟨g, 0, none⟩)] w fun e w' => e = .returned (.tuple #[.agg #[.int .u32 p0, .int .i64 p1, .int .i64 p2, .int .i64 p3, .bool (p4 == 0), .int .u32 q0, .int .i64 q1, .int .i64 q2, .int .i64 q3, .bool (q4 == 0)], .int .i64 0]) ∧ Below w.heap.size w w' := by
  have hu := Try.underlying106
  have hu2 := Try.underlying105
  have hu3 := Try.underlying24
  have d1 : (s.size != 128) = false := by rw [hz]; rfl
  have ho : s.Ok := ⟨by omega, by omega⟩
  have hm0 := Sr.may128 (s := s) hz 0 (by decide)
  have hm1 := Sr.may128 (s := s) hz 1 (by decide)
  rw [hd, if_neg (by decide)] at hm0 hm1
  have HG := Aside0.mk (show g ≠ w.heap.size by have := blk_lt h.1; omega)
  have HS := Aside0.mk (Sr.s_start h)
  obtain ⟨y0, hy0⟩ : ∃ y, (s.b.drop 0).take 64 = y := ⟨_, rfl⟩
  obtain ⟨y1, hy1⟩ : ∃ y, (s.b.drop 64).take 64 = y := ⟨_, rfl⟩
  have HR0 := Aside0.mk (fun (W : World) (hA : s.At W g) => (show Calls Try.prog 34 #[.pointer (some ⟨g, 0, none⟩), .int .i64 0, .int .i64 64] W fun e w' => ∃ v : Value, e = .returned (.tuple #[v, .int .i64 0]) ∧ Kd.R (Kd.int .u8) 5 w' W.heap.size (fun _ => True) v ((s.b.drop 0).take 64) ∧ Below W.heap.size W w' from Fs.read_ok (w := W) 0 64 hA ho hm0))
  have HR1 := Aside0.mk (fun (W : World) (hA : s.At W g) => (show Calls Try.prog 34 #[.pointer (some ⟨g, 0, none⟩), .int .i64 64, .int .i64 64] W fun e w' => ∃ v : Value, e = .returned (.tuple #[v, .int .i64 0]) ∧ Kd.R (Kd.int .u8) 5 w' W.heap.size (fun _ => True) v ((s.b.drop 64).take 64) ∧ Below W.heap.size W w' from Fs.read_ok (w := W) 64 64 hA ho hm1))
  rw [hy0] at HR0 hp
  rw [hy1] at HR1 hq
  have HD0 := Aside0.mk (show record_Decode.f y0 = some (p0, p1, p2, p3, p4) from congrArg some hp)
  have HD1 := Aside0.mk (show record_Decode.f y1 = some (q0, q1, q2, q3, q4) from congrArg some hq)
  clear h hz hm0 hm1 hd ho hy0 hy1 hp hq
  go_enter Try.func65, Try.ntmps65
  go_upto_region 5 with (first
    | (go_at_call 43; (refine (Fs.size_calls HS.out.2.1).mono ?_)
       rintro e w1 ⟨rfl, rfl⟩))
  go_wp2
  go_loopw [17] (fun v17 wr => ∃ i : Int, v17 = .int .i64 i ∧ ((i = 0 ∧ Aside0 (Sr.S s w wr g #[.int .u32 0, .int .i64 0, .int .i64 0, .int .i64 0, .bool false, .int .u32 0, .int .i64 0, .int .i64 0, .int .i64 0, .bool false])) ∨ (i = 1 ∧ Aside0 (Sr.S s w wr g #[.int .u32 p0, .int .i64 p1, .int .i64 p2, .int .i64 p3, .bool (p4 == 0), .int .u32 0, .int .i64 0, .int .i64 0, .int .i64 0, .bool false])) ∨ (i = 2 ∧ Aside0 (Sr.S s w wr g #[.int .u32 p0, .int .i64 p1, .int .i64 p2, .int .i64 p3, .bool (p4 == 0), .int .u32 q0, .int .i64 q1, .int .i64 q2, .int .i64 q3, .bool (q4 == 0)])))) (fun v17 _ => (2 - intOf v17).toNat)
  case atStart => exact ⟨0, rfl, Or.inl ⟨rfl, HS⟩⟩
  case round =>
    clear HS
    obtain ⟨i, rfl, hrel⟩ := hrel
    rcases hrel with ⟨rfl, HS⟩ | ⟨rfl, HS⟩ | ⟨rfl, HS⟩
    · skip
      go_upto_region 11 with (first
        | (go_at_call 34; (refine (HR0.out _ HS.out.2.1).mono ?_)
           rintro e w2 ⟨v, rfl, hr, hb⟩
           obtain ⟨A, c, rfl⟩ := Kd.R_slice hr
           have HR := Aside0.mk hr
           have HS2 := Aside0.mk (Sr.s_below HS.out hb)
           clear hr hb HS))
      go_cut [6, 7] (fun s6 s7 wr => ∃ b, s6 = .int .i64 p4 ∧ s7 = .pointer (some ⟨b, 0, none⟩) ∧ Aside0 (b ≠ w.heap.size ∧ wr.heap[b]? = some (.cells #[.int .u32 p0, .int .i64 p1, .int .i64 p2, .int .i64 p3] 24 (0, 0)) ∧ Sr.S s w wr g #[.int .u32 0, .int .i64 0, .int .i64 0, .int .i64 0, .bool false, .int .u32 0, .int .i64 0, .int .i64 0, .int .i64 0, .bool false]))
      case first =>
        go_wp2_with (first
          | (go_at_call 14; (refine (record_Decode.calls A c y0 p0 p1 p2 p3 p4 _ (Kd.R_reads' HR.out).2.2 (Kd.R_reads' HR.out).2.1 HD0.out).mono ?_)
             rintro e w3 ⟨rfl, hb⟩
             have HS3 := Aside0.mk (Sr.s_below HS2.out hb)
             clear hb HS2 HR))
        go_meet
        exact ⟨w3.heap.size, rfl, rfl, ⟨(by have := blk_lt HS3.out.1; omega), blk_new w3 _, Sr.s_alloc HS3.out _⟩⟩
      case rest =>
        obtain ⟨b, rfl, rfl, H⟩ := hcut
        clear HS2 HR
        rename World => w4
        have r0 := blk_cell H.out.2.1 0
        have r1 := blk_cell H.out.2.1 1
        have r2 := blk_cell H.out.2.1 2
        have r3 := blk_cell H.out.2.1 3
        have k0 := blk_cell H.out.2.2.1 0
        have f0 := blk_frozen H.out.2.2.1 0
        have k1 := blk_cell H.out.2.2.1 1
        have f1 := blk_frozen H.out.2.2.1 1
        have k2 := blk_cell H.out.2.2.1 2
        have f2 := blk_frozen H.out.2.2.1 2
        have k3 := blk_cell H.out.2.2.1 3
        have f3 := blk_frozen H.out.2.2.1 3
        have k4 := blk_cell H.out.2.2.1 4
        have f4 := blk_frozen H.out.2.2.1 4
        go_wp2
        go_roundw
        case rel => exact ⟨1, rfl, Or.inr (Or.inl ⟨rfl, ⟨Sr.s_set5a HG.out H.out.2.2⟩⟩)⟩
        case measure => simp [intOf]
    · skip
      go_upto_region 11 with (first
        | (go_at_call 34; (refine (HR1.out _ HS.out.2.1).mono ?_)
           rintro e w2 ⟨v, rfl, hr, hb⟩
           obtain ⟨A, c, rfl⟩ := Kd.R_slice hr
           have HR := Aside0.mk hr
           have HS2 := Aside0.mk (Sr.s_below HS.out hb)
           clear hr hb HS))
      go_cut [6, 7] (fun s6 s7 wr => ∃ b, s6 = .int .i64 q4 ∧ s7 = .pointer (some ⟨b, 0, none⟩) ∧ Aside0 (b ≠ w.heap.size ∧ wr.heap[b]? = some (.cells #[.int .u32 q0, .int .i64 q1, .int .i64 q2, .int .i64 q3] 24 (0, 0)) ∧ Sr.S s w wr g #[.int .u32 p0, .int .i64 p1, .int .i64 p2, .int .i64 p3, .bool (p4 == 0), .int .u32 0, .int .i64 0, .int .i64 0, .int .i64 0, .bool false]))
      case first =>
        go_wp2_with (first
          | (go_at_call 14; (refine (record_Decode.calls A c y1 q0 q1 q2 q3 q4 _ (Kd.R_reads' HR.out).2.2 (Kd.R_reads' HR.out).2.1 HD1.out).mono ?_)
             rintro e w3 ⟨rfl, hb⟩
             have HS3 := Aside0.mk (Sr.s_below HS2.out hb)
             clear hb HS2 HR))
        go_meet
        exact ⟨w3.heap.size, rfl, rfl, ⟨(by have := blk_lt HS3.out.1; omega), blk_new w3 _, Sr.s_alloc HS3.out _⟩⟩
      case rest =>
        obtain ⟨b, rfl, rfl, H⟩ := hcut
        clear HS2 HR
        rename World => w4
        have r0 := blk_cell H.out.2.1 0
        have r1 := blk_cell H.out.2.1 1
        have r2 := blk_cell H.out.2.1 2
        have r3 := blk_cell H.out.2.1 3
        have k0 := blk_cell H.out.2.2.1 5
        have f0 := blk_frozen H.out.2.2.1 5
        have k1 := blk_cell H.out.2.2.1 6
        have f1 := blk_frozen H.out.2.2.1 6
        have k2 := blk_cell H.out.2.2.1 7
        have f2 := blk_frozen H.out.2.2.1 7
        have k3 := blk_cell H.out.2.2.1 8
        have f3 := blk_frozen H.out.2.2.1 8
        have k4 := blk_cell H.out.2.2.1 9
        have f4 := blk_frozen H.out.2.2.1 9
        go_wp2
        go_roundw
        case rel => exact ⟨2, rfl, Or.inr (Or.inr ⟨rfl, ⟨Sr.s_set5b HG.out H.out.2.2⟩⟩)⟩
        case measure => simp [intOf]
    · skip
      have k0 := blk_cell HS.out.1 0
      have f0 := blk_frozen HS.out.1 0
      have k1 := blk_cell HS.out.1 1
      have f1 := blk_frozen HS.out.1 1
      have k2 := blk_cell HS.out.1 2
      have f2 := blk_frozen HS.out.1 2
      have k3 := blk_cell HS.out.1 3
      have f3 := blk_frozen HS.out.1 3
      have k4 := blk_cell HS.out.1 4
      have f4 := blk_frozen HS.out.1 4
      have k5 := blk_cell HS.out.1 5
      have f5 := blk_frozen HS.out.1 5
      have k6 := blk_cell HS.out.1 6
      have f6 := blk_frozen HS.out.1 6
      have k7 := blk_cell HS.out.1 7
      have f7 := blk_frozen HS.out.1 7
      have k8 := blk_cell HS.out.1 8
      have f8 := blk_frozen HS.out.1 8
      have k9 := blk_cell HS.out.1 9
      have f9 := blk_frozen HS.out.1 9
      go_wp2
      have hx := Sr.set10 (y0 := .int .u32 p0) (y1 := .int .i64 p1) (y2 := .int .i64 p2) (y3 := .int .i64 p3) (y4 := .bool (p4 == 0)) (y5 := .int .u32 q0) (y6 := .int .i64 q1) (y7 := .int .i64 q2) (y8 := .int .i64 q3) (y9 := .bool (q4 == 0)) HS.out.1
      have hy := Sr.bel10 (y0 := .int .u32 p0) (y1 := .int .i64 p1) (y2 := .int .i64 p2) (y3 := .int .i64 p3) (y4 := .bool (p4 == 0)) (y5 := .int .u32 q0) (y6 := .int .i64 q1) (y7 := .int .i64 q2) (y8 := .int .i64 q3) (y9 := .bool (q4 == 0)) (Nat.le_refl w.heap.size) HS.out.2.2
      generalize ((((((((((wr.setCell ⟨w.heap.size, 0, none⟩ (.int .u32 p0)).setCell ⟨w.heap.size, 1, none⟩ (.int .i64 p1)).setCell ⟨w.heap.size, 2, none⟩ (.int .i64 p2)).setCell ⟨w.heap.size, 3, none⟩ (.int .i64 p3)).setCell ⟨w.heap.size, 4, none⟩ (.bool (p4 == 0))).setCell ⟨w.heap.size, 5, none⟩ (.int .u32 q0)).setCell ⟨w.heap.size, 6, none⟩ (.int .i64 q1)).setCell ⟨w.heap.size, 7, none⟩ (.int .i64 q2)).setCell ⟨w.heap.size, 8, none⟩ (.int .i64 q3)).setCell ⟨w.heap.size, 9, none⟩ (.bool (q4 == 0))) = w9 at hx hy ⊢
      refine bodyPost_ret (results_ct rfl _ _ w.heap.size 106 #[.int .u32 p0, .int .i64 p1, .int .i64 p2, .int .i64 p3, .bool (p4 == 0), .int .u32 q0, .int .i64 q1, .int .i64 q2, .int .i64 q3, .bool (q4 == 0)] (0, 0) _ rfl hx Try.underlying106 rfl (by kernel_rfl)) rfl ?_
      exact ⟨rfl, hy⟩
end Go.Proofs.Ytjldkgcabombhaa

/- The contracts of slots.Next and slots.Load, walked by hand. -/
namespace Go.Proofs.Ytjldkgcabombhaa
open Go.RowKit Go.Proofs.YtjldkgcabombhaaW.PrintWords Go.Proofs.YtjldkgcabombhaaW.PrintLast Go.Proofs.YtjldkgcabombhaaW.PrintMore
set_option linter.unusedVariables false
set_option linter.unusedSimpArgs false

set_option maxHeartbeats 1000000 in
set_option maxRecDepth 100000 in
theorem Sn.nil (w : World) : Calls Try.prog 48 #[.pointer none] w fun e w' => e = .returned (.tuple #[.int .i64 0, .int .i64 1]) ∧ Below w.heap.size w w' := by
  have hu := Try.underlying106
  have HC := Aside0.mk (Sr.nil w)
  go_enter Try.func48, Try.ntmps48
  go_wp2_with (first
    | (go_at_call 65; (refine HC.out.mono ?_)
       rintro e w1 ⟨rfl, hb⟩
       have HB := Aside0.mk hb
       clear hb))
  go_ret2
  exact ⟨rfl, by first | exact below_alloc HB.out _ | exact HB.out⟩
set_option maxHeartbeats 1000000 in
set_option maxRecDepth 100000 in
theorem Sn.other {s : Fs} {w : World} {g : Nat} (h : s.At w g) (hz : s.size ≠ 128) : Calls Try.prog 48 #[.pointer (some ⟨g, 0, none⟩)] w fun e w' => e = .returned (.tuple #[.int .i64 0, .int .i64 2]) ∧ Below w.heap.size w w' := by
  have hu := Try.underlying106
  have HC := Aside0.mk (Sr.other h hz)
  go_enter Try.func48, Try.ntmps48
  go_wp2_with (first
    | (go_at_call 65; (refine HC.out.mono ?_)
       rintro e w1 ⟨rfl, hb⟩
       have HB := Aside0.mk hb
       clear hb))
  go_ret2
  exact ⟨rfl, by first | exact below_alloc HB.out _ | exact HB.out⟩

set_option maxHeartbeats 1000000 in
set_option maxRecDepth 100000 in
theorem Sn.ok {s : Fs} {w : World} {g : Nat} {p0 p1 p2 p3 p4 q0 q1 q2 q3 q4 : Int} (h : s.At w g) (hz : s.size = 128) (hd : s.down = false) (hp : Rd.dec ((s.b.drop 0).take 64) = (p0, p1, p2, p3, p4)) (hq : Rd.dec ((s.b.drop 64).take 64) = (q0, q1, q2, q3, q4)) :
    Calls Try.prog 48 #[.pointer (some ⟨g, 0, none⟩)] w fun e w' => e = .returned (.tuple #[.int .i64 (Sl.next p0 (p4 == 0) q0 (q4 == 0)), .int .i64 0]) ∧ Below w.heap.size w w' := by
  have hu := Try.underlying106
  have HC := Aside0.mk (Sr.ok h hz hd hp hq)
  have HH := Aside0.mk (fun W => Sl.held p0 p1 p2 p3 (p4 == 0) q0 q1 q2 q3 (q4 == 0) W)
  clear h hz hd hp hq
  generalize Sl.next p0 (p4 == 0) q0 (q4 == 0) = nx at HH ⊢
  generalize Sl.now p0 (p4 == 0) q0 (q4 == 0) = nw at HH
  generalize (p4 == 0) = wp at HC HH
  generalize (q4 == 0) = wq at HC HH
  go_enter Try.func48, Try.ntmps48
  go_wp2_with (first
    | (go_at_call 65; (refine HC.out.mono ?_)
       rintro e w1 ⟨rfl, hb⟩
       have HB := Aside0.mk hb
       clear hb)
    | (go_at_call 66; (refine (HH.out _).mono ?_)
       rintro e w2 ⟨rfl, hb⟩
       have HB2 := Aside0.mk (below_step (below_alloc HB.out _) hb)
       clear hb))
  go_ret2
  exact ⟨rfl, HB2.out⟩
end Go.Proofs.Ytjldkgcabombhaa

/- The contract of slots.Load, walked by hand. -/
namespace Go.Proofs.Ytjldkgcabombhaa
open Go.RowKit Go.Proofs.YtjldkgcabombhaaW.PrintWords Go.Proofs.YtjldkgcabombhaaW.PrintLast Go.Proofs.YtjldkgcabombhaaW.PrintMore
set_option linter.unusedVariables false
set_option linter.unusedSimpArgs false

theorem Sq.set4 {w W : World} {base g : Nat} {t : TypeId} {x0 x1 x2 x3 y0 y1 y2 y3 : Value} (hg : base ≤ g) (h : W.heap[g]? = some (.cells #[x0, x1, x2, x3] t (0, 0))) (hb : Below base w W) :
    ((((W.setCell ⟨g, 0, none⟩ y0).setCell ⟨g, 1, none⟩ y1).setCell ⟨g, 2, none⟩ y2).setCell ⟨g, 3, none⟩ y3).heap[g]? = some (.cells #[y0, y1, y2, y3] t (0, 0)) ∧ Below base w ((((W.setCell ⟨g, 0, none⟩ y0).setCell ⟨g, 1, none⟩ y1).setCell ⟨g, 2, none⟩ y2).setCell ⟨g, 3, none⟩ y3) := by
  have h := blk_put (cs' := #[y0, x1, x2, x3]) h 0 y0 rfl
  have h := blk_put (cs' := #[y0, y1, x2, x3]) h 1 y1 rfl
  have h := blk_put (cs' := #[y0, y1, y2, x3]) h 2 y2 rfl
  have h := blk_put (cs' := #[y0, y1, y2, y3]) h 3 y3 rfl
  exact ⟨h, (((hb.setCell (p := ⟨g, 0, none⟩) hg y0).setCell (p := ⟨g, 1, none⟩) hg y1).setCell (p := ⟨g, 2, none⟩) hg y2).setCell (p := ⟨g, 3, none⟩) hg y3⟩
set_option maxHeartbeats 1000000 in
set_option maxRecDepth 100000 in
theorem Sq.nil (w : World) : Calls Try.prog 47 #[.pointer none] w fun e w' => e = .returned (.tuple #[.agg #[.int .u32 0, .int .i64 0, .int .i64 0, .int .i64 0], .bool false, .int .i64 1]) ∧ Below w.heap.size w w' := by
  have hu := Try.underlying106
  have hu2 := Try.underlying24
  have HC := Aside0.mk (Sr.nil (w.alloc (.cells #[.int .u32 0, .int .i64 0, .int .i64 0, .int .i64 0] 24 (0, 0))))
  go_enter Try.func47, Try.ntmps47
  go_wp2_with (first
    | (go_at_call 65; (refine HC.out.mono ?_)
       rintro e w1 ⟨rfl, hb⟩
       have HB := Aside0.mk (below_alloc (below_step (below_alloc (Below.refl w.heap.size w) (.cells #[.int .u32 0, .int .i64 0, .int .i64 0, .int .i64 0] 24 (0, 0))) hb) (.cells #[.int .u32 0, .int .i64 0, .int .i64 0, .int .i64 0, .bool false, .int .u32 0, .int .i64 0, .int .i64 0, .int .i64 0, .bool false] 106 (0, 0)))
       have HK := Aside0.mk (blk_alloc (blk_below (blk_new w (.cells #[.int .u32 0, .int .i64 0, .int .i64 0, .int .i64 0] 24 (0, 0))) hb) (.cells #[.int .u32 0, .int .i64 0, .int .i64 0, .int .i64 0, .bool false, .int .u32 0, .int .i64 0, .int .i64 0, .int .i64 0, .bool false] 106 (0, 0)))
       have k0 := blk_cell HK.out 0
       have f0 := blk_frozen HK.out 0
       have k1 := blk_cell HK.out 1
       have f1 := blk_frozen HK.out 1
       have k2 := blk_cell HK.out 2
       have f2 := blk_frozen HK.out 2
       have k3 := blk_cell HK.out 3
       have f3 := blk_frozen HK.out 3
       clear hb))
  obtain ⟨hx, hy⟩ := Sq.set4 (y0 := .int .u32 0) (y1 := .int .i64 0) (y2 := .int .i64 0) (y3 := .int .i64 0) (Nat.le_refl w.heap.size) HK.out HB.out
  generalize (((((w1.alloc (.cells #[.int .u32 0, .int .i64 0, .int .i64 0, .int .i64 0, .bool false, .int .u32 0, .int .i64 0, .int .i64 0, .int .i64 0, .bool false] 106)).setCell ⟨w.heap.size, 0, none⟩ (.int .u32 0)).setCell ⟨w.heap.size, 1, none⟩ (.int .i64 0)).setCell ⟨w.heap.size, 2, none⟩ (.int .i64 0)).setCell ⟨w.heap.size, 3, none⟩ (.int .i64 0)) = w9 at hx hy ⊢
  refine bodyPost_ret (results_ctt rfl _ _ w.heap.size 24 #[.int .u32 0, .int .i64 0, .int .i64 0, .int .i64 0] (0, 0) _ rfl hx Try.underlying24 rfl (by kernel_rfl)) rfl ?_
  exact ⟨rfl, hy⟩
set_option maxHeartbeats 1000000 in
set_option maxRecDepth 100000 in
theorem Sq.other {s : Fs} {w : World} {g : Nat} (h : s.At w g) (hz : s.size ≠ 128) : Calls Try.prog 47 #[.pointer (some ⟨g, 0, none⟩)] w fun e w' => e = .returned (.tuple #[.agg #[.int .u32 0, .int .i64 0, .int .i64 0, .int .i64 0], .bool false, .int .i64 2]) ∧ Below w.heap.size w w' := by
  have hu := Try.underlying106
  have hu2 := Try.underlying24
  have HC := Aside0.mk (Sr.other (w := (w.alloc (.cells #[.int .u32 0, .int .i64 0, .int .i64 0, .int .i64 0] 24 (0, 0)))) ⟨blk_alloc h.1 _, h.2⟩ hz)
  go_enter Try.func47, Try.ntmps47
  go_wp2_with (first
    | (go_at_call 65; (refine HC.out.mono ?_)
       rintro e w1 ⟨rfl, hb⟩
       have HB := Aside0.mk (below_alloc (below_step (below_alloc (Below.refl w.heap.size w) (.cells #[.int .u32 0, .int .i64 0, .int .i64 0, .int .i64 0] 24 (0, 0))) hb) (.cells #[.int .u32 0, .int .i64 0, .int .i64 0, .int .i64 0, .bool false, .int .u32 0, .int .i64 0, .int .i64 0, .int .i64 0, .bool false] 106 (0, 0)))
       have HK := Aside0.mk (blk_alloc (blk_below (blk_new w (.cells #[.int .u32 0, .int .i64 0, .int .i64 0, .int .i64 0] 24 (0, 0))) hb) (.cells #[.int .u32 0, .int .i64 0, .int .i64 0, .int .i64 0, .bool false, .int .u32 0, .int .i64 0, .int .i64 0, .int .i64 0, .bool false] 106 (0, 0)))
       have k0 := blk_cell HK.out 0
       have f0 := blk_frozen HK.out 0
       have k1 := blk_cell HK.out 1
       have f1 := blk_frozen HK.out 1
       have k2 := blk_cell HK.out 2
       have f2 := blk_frozen HK.out 2
       have k3 := blk_cell HK.out 3
       have f3 := blk_frozen HK.out 3
       clear hb))
  obtain ⟨hx, hy⟩ := Sq.set4 (y0 := .int .u32 0) (y1 := .int .i64 0) (y2 := .int .i64 0) (y3 := .int .i64 0) (Nat.le_refl w.heap.size) HK.out HB.out
  generalize (((((w1.alloc (.cells #[.int .u32 0, .int .i64 0, .int .i64 0, .int .i64 0, .bool false, .int .u32 0, .int .i64 0, .int .i64 0, .int .i64 0, .bool false] 106)).setCell ⟨w.heap.size, 0, none⟩ (.int .u32 0)).setCell ⟨w.heap.size, 1, none⟩ (.int .i64 0)).setCell ⟨w.heap.size, 2, none⟩ (.int .i64 0)).setCell ⟨w.heap.size, 3, none⟩ (.int .i64 0)) = w9 at hx hy ⊢
  refine bodyPost_ret (results_ctt rfl _ _ w.heap.size 24 #[.int .u32 0, .int .i64 0, .int .i64 0, .int .i64 0] (0, 0) _ rfl hx Try.underlying24 rfl (by kernel_rfl)) rfl ?_
  exact ⟨rfl, hy⟩
set_option maxHeartbeats 2000000 in
set_option maxRecDepth 100000 in
theorem Sq.ok0t {s : Fs} {w : World} {g : Nat} {p0 p1 p2 p3 p4 q0 q1 q2 q3 q4 : Int} (h : s.At w g) (hz : s.size = 128) (hd : s.down = false) (hp : Rd.dec ((s.b.drop 0).take 64) = (p0, p1, p2, p3, p4)) (hq : Rd.dec ((s.b.drop 64).take 64) = (q0, q1, q2, q3, q4)) (hn : Sl.now p0 (p4 == 0) q0 (q4 == 0) = 0) (hw : (p4 == 0) = true) :
    Calls Try.prog 47 #[.pointer (some ⟨g, 0, none⟩)] w fun e w' => e = .returned (.tuple #[.agg #[.int .u32 p0, .int .i64 p1, .int .i64 p2, .int .i64 p3], .bool true, .int .i64 0]) ∧ Below w.heap.size w w' := by
  have hu := Try.underlying106
  have hu2 := Try.underlying24
  have hu3 := Try.underlying105
  have HC := Aside0.mk (Sr.ok (w := (w.alloc (.cells #[.int .u32 0, .int .i64 0, .int .i64 0, .int .i64 0] 24 (0, 0)))) ⟨blk_alloc h.1 _, h.2⟩ hz hd hp hq)
  have HH := Aside0.mk (fun W => Sl.held p0 p1 p2 p3 (p4 == 0) q0 q1 q2 q3 (q4 == 0) W)
  rw [hn] at HH
  clear h hz hd hp hq hn
  generalize Sl.next p0 (p4 == 0) q0 (q4 == 0) = nx at HH
  generalize (p4 == 0) = wp at HC HH hw
  generalize (q4 == 0) = wq at HC HH hw
  subst hw
  go_enter Try.func47, Try.ntmps47
  go_wp2_with (first
    | (go_at_call 65; (refine HC.out.mono ?_)
       rintro e w1 ⟨rfl, hb⟩
       have HB := Aside0.mk (below_alloc (below_step (below_alloc (Below.refl w.heap.size w) (.cells #[.int .u32 0, .int .i64 0, .int .i64 0, .int .i64 0] 24 (0, 0))) hb) (.cells #[.int .u32 p0, .int .i64 p1, .int .i64 p2, .int .i64 p3, .bool true, .int .u32 q0, .int .i64 q1, .int .i64 q2, .int .i64 q3, .bool wq] 106 (0, 0)))
       have HK := Aside0.mk (blk_alloc (blk_below (blk_new w (.cells #[.int .u32 0, .int .i64 0, .int .i64 0, .int .i64 0] 24 (0, 0))) hb) (.cells #[.int .u32 p0, .int .i64 p1, .int .i64 p2, .int .i64 p3, .bool true, .int .u32 q0, .int .i64 q1, .int .i64 q2, .int .i64 q3, .bool wq] 106 (0, 0)))
       have HL := Aside0.mk (blk_new w1 (.cells #[.int .u32 p0, .int .i64 p1, .int .i64 p2, .int .i64 p3, .bool true, .int .u32 q0, .int .i64 q1, .int .i64 q2, .int .i64 q3, .bool wq] 106 (0, 0)))
       clear hb HC)
    | (go_at_call 66; (refine (HH.out _).mono ?_)
       rintro e w2 ⟨rfl, hb⟩
       have HB2 := Aside0.mk (below_step HB.out hb)
       have HK2 := Aside0.mk (blk_below HK.out hb)
       have HL2 := Aside0.mk (blk_below HL.out hb)
       have k0 := blk_cell HK2.out 0
       have f0 := blk_frozen HK2.out 0
       have k1 := blk_cell HK2.out 1
       have f1 := blk_frozen HK2.out 1
       have k2 := blk_cell HK2.out 2
       have f2 := blk_frozen HK2.out 2
       have k3 := blk_cell HK2.out 3
       have f3 := blk_frozen HK2.out 3
       have e0 := blk_cell HL2.out 0
       have h0 := blk_frozen HL2.out 0
       have e1 := blk_cell HL2.out 1
       have h1 := blk_frozen HL2.out 1
       have e2 := blk_cell HL2.out 2
       have h2 := blk_frozen HL2.out 2
       have e3 := blk_cell HL2.out 3
       have h3 := blk_frozen HL2.out 3
       have e4 := blk_cell HL2.out 4
       have h4 := blk_frozen HL2.out 4
       have e5 := blk_cell HL2.out 5
       have h5 := blk_frozen HL2.out 5
       have e6 := blk_cell HL2.out 6
       have h6 := blk_frozen HL2.out 6
       have e7 := blk_cell HL2.out 7
       have h7 := blk_frozen HL2.out 7
       have e8 := blk_cell HL2.out 8
       have h8 := blk_frozen HL2.out 8
       have e9 := blk_cell HL2.out 9
       have h9 := blk_frozen HL2.out 9
       clear hb HB HK HL HH))
  obtain ⟨hx, hy⟩ := Sq.set4 (y0 := .int .u32 p0) (y1 := .int .i64 p1) (y2 := .int .i64 p2) (y3 := .int .i64 p3) (Nat.le_refl w.heap.size) HK2.out HB2.out
  generalize ((((w2.setCell ⟨w.heap.size, 0, none⟩ (.int .u32 p0)).setCell ⟨w.heap.size, 1, none⟩ (.int .i64 p1)).setCell ⟨w.heap.size, 2, none⟩ (.int .i64 p2)).setCell ⟨w.heap.size, 3, none⟩ (.int .i64 p3)) = w9 at hx hy ⊢
  refine bodyPost_ret (results_ctt rfl _ _ w.heap.size 24 #[.int .u32 p0, .int .i64 p1, .int .i64 p2, .int .i64 p3] (0, 0) _ rfl hx Try.underlying24 rfl (by kernel_rfl)) rfl ?_
  exact ⟨rfl, hy⟩
set_option maxHeartbeats 2000000 in
set_option maxRecDepth 100000 in
theorem Sq.ok0f {s : Fs} {w : World} {g : Nat} {p0 p1 p2 p3 p4 q0 q1 q2 q3 q4 : Int} (h : s.At w g) (hz : s.size = 128) (hd : s.down = false) (hp : Rd.dec ((s.b.drop 0).take 64) = (p0, p1, p2, p3, p4)) (hq : Rd.dec ((s.b.drop 64).take 64) = (q0, q1, q2, q3, q4)) (hn : Sl.now p0 (p4 == 0) q0 (q4 == 0) = 0) (hw : (p4 == 0) = false) :
    Calls Try.prog 47 #[.pointer (some ⟨g, 0, none⟩)] w fun e w' => e = .returned (.tuple #[.agg #[.int .u32 0, .int .i64 0, .int .i64 0, .int .i64 0], .bool false, .int .i64 0]) ∧ Below w.heap.size w w' := by
  have hu := Try.underlying106
  have hu2 := Try.underlying24
  have hu3 := Try.underlying105
  have HC := Aside0.mk (Sr.ok (w := (w.alloc (.cells #[.int .u32 0, .int .i64 0, .int .i64 0, .int .i64 0] 24 (0, 0)))) ⟨blk_alloc h.1 _, h.2⟩ hz hd hp hq)
  have HH := Aside0.mk (fun W => Sl.held p0 p1 p2 p3 (p4 == 0) q0 q1 q2 q3 (q4 == 0) W)
  rw [hn] at HH
  clear h hz hd hp hq hn
  generalize Sl.next p0 (p4 == 0) q0 (q4 == 0) = nx at HH
  generalize (p4 == 0) = wp at HC HH hw
  generalize (q4 == 0) = wq at HC HH hw
  subst hw
  go_enter Try.func47, Try.ntmps47
  go_wp2_with (first
    | (go_at_call 65; (refine HC.out.mono ?_)
       rintro e w1 ⟨rfl, hb⟩
       have HB := Aside0.mk (below_alloc (below_step (below_alloc (Below.refl w.heap.size w) (.cells #[.int .u32 0, .int .i64 0, .int .i64 0, .int .i64 0] 24 (0, 0))) hb) (.cells #[.int .u32 p0, .int .i64 p1, .int .i64 p2, .int .i64 p3, .bool false, .int .u32 q0, .int .i64 q1, .int .i64 q2, .int .i64 q3, .bool wq] 106 (0, 0)))
       have HK := Aside0.mk (blk_alloc (blk_below (blk_new w (.cells #[.int .u32 0, .int .i64 0, .int .i64 0, .int .i64 0] 24 (0, 0))) hb) (.cells #[.int .u32 p0, .int .i64 p1, .int .i64 p2, .int .i64 p3, .bool false, .int .u32 q0, .int .i64 q1, .int .i64 q2, .int .i64 q3, .bool wq] 106 (0, 0)))
       have HL := Aside0.mk (blk_new w1 (.cells #[.int .u32 p0, .int .i64 p1, .int .i64 p2, .int .i64 p3, .bool false, .int .u32 q0, .int .i64 q1, .int .i64 q2, .int .i64 q3, .bool wq] 106 (0, 0)))
       clear hb HC)
    | (go_at_call 66; (refine (HH.out _).mono ?_)
       rintro e w2 ⟨rfl, hb⟩
       have HB2 := Aside0.mk (below_step HB.out hb)
       have HK2 := Aside0.mk (blk_below HK.out hb)
       have HL2 := Aside0.mk (blk_below HL.out hb)
       have k0 := blk_cell HK2.out 0
       have f0 := blk_frozen HK2.out 0
       have k1 := blk_cell HK2.out 1
       have f1 := blk_frozen HK2.out 1
       have k2 := blk_cell HK2.out 2
       have f2 := blk_frozen HK2.out 2
       have k3 := blk_cell HK2.out 3
       have f3 := blk_frozen HK2.out 3
       have e0 := blk_cell HL2.out 0
       have h0 := blk_frozen HL2.out 0
       have e1 := blk_cell HL2.out 1
       have h1 := blk_frozen HL2.out 1
       have e2 := blk_cell HL2.out 2
       have h2 := blk_frozen HL2.out 2
       have e3 := blk_cell HL2.out 3
       have h3 := blk_frozen HL2.out 3
       have e4 := blk_cell HL2.out 4
       have h4 := blk_frozen HL2.out 4
       have e5 := blk_cell HL2.out 5
       have h5 := blk_frozen HL2.out 5
       have e6 := blk_cell HL2.out 6
       have h6 := blk_frozen HL2.out 6
       have e7 := blk_cell HL2.out 7
       have h7 := blk_frozen HL2.out 7
       have e8 := blk_cell HL2.out 8
       have h8 := blk_frozen HL2.out 8
       have e9 := blk_cell HL2.out 9
       have h9 := blk_frozen HL2.out 9
       clear hb HB HK HL HH))
  obtain ⟨hx, hy⟩ := Sq.set4 (y0 := .int .u32 0) (y1 := .int .i64 0) (y2 := .int .i64 0) (y3 := .int .i64 0) (Nat.le_refl w.heap.size) HK2.out HB2.out
  generalize ((((w2.setCell ⟨w.heap.size, 0, none⟩ (.int .u32 0)).setCell ⟨w.heap.size, 1, none⟩ (.int .i64 0)).setCell ⟨w.heap.size, 2, none⟩ (.int .i64 0)).setCell ⟨w.heap.size, 3, none⟩ (.int .i64 0)) = w9 at hx hy ⊢
  refine bodyPost_ret (results_ctt rfl _ _ w.heap.size 24 #[.int .u32 0, .int .i64 0, .int .i64 0, .int .i64 0] (0, 0) _ rfl hx Try.underlying24 rfl (by kernel_rfl)) rfl ?_
  exact ⟨rfl, hy⟩
set_option maxHeartbeats 2000000 in
set_option maxRecDepth 100000 in
theorem Sq.ok1t {s : Fs} {w : World} {g : Nat} {p0 p1 p2 p3 p4 q0 q1 q2 q3 q4 : Int} (h : s.At w g) (hz : s.size = 128) (hd : s.down = false) (hp : Rd.dec ((s.b.drop 0).take 64) = (p0, p1, p2, p3, p4)) (hq : Rd.dec ((s.b.drop 64).take 64) = (q0, q1, q2, q3, q4)) (hn : Sl.now p0 (p4 == 0) q0 (q4 == 0) = 1) (hw : (q4 == 0) = true) :
    Calls Try.prog 47 #[.pointer (some ⟨g, 0, none⟩)] w fun e w' => e = .returned (.tuple #[.agg #[.int .u32 q0, .int .i64 q1, .int .i64 q2, .int .i64 q3], .bool true, .int .i64 0]) ∧ Below w.heap.size w w' := by
  have hu := Try.underlying106
  have hu2 := Try.underlying24
  have hu3 := Try.underlying105
  have HC := Aside0.mk (Sr.ok (w := (w.alloc (.cells #[.int .u32 0, .int .i64 0, .int .i64 0, .int .i64 0] 24 (0, 0)))) ⟨blk_alloc h.1 _, h.2⟩ hz hd hp hq)
  have HH := Aside0.mk (fun W => Sl.held p0 p1 p2 p3 (p4 == 0) q0 q1 q2 q3 (q4 == 0) W)
  rw [hn] at HH
  clear h hz hd hp hq hn
  generalize Sl.next p0 (p4 == 0) q0 (q4 == 0) = nx at HH
  generalize (p4 == 0) = wp at HC HH hw
  generalize (q4 == 0) = wq at HC HH hw
  subst hw
  go_enter Try.func47, Try.ntmps47
  go_wp2_with (first
    | (go_at_call 65; (refine HC.out.mono ?_)
       rintro e w1 ⟨rfl, hb⟩
       have HB := Aside0.mk (below_alloc (below_step (below_alloc (Below.refl w.heap.size w) (.cells #[.int .u32 0, .int .i64 0, .int .i64 0, .int .i64 0] 24 (0, 0))) hb) (.cells #[.int .u32 p0, .int .i64 p1, .int .i64 p2, .int .i64 p3, .bool wp, .int .u32 q0, .int .i64 q1, .int .i64 q2, .int .i64 q3, .bool true] 106 (0, 0)))
       have HK := Aside0.mk (blk_alloc (blk_below (blk_new w (.cells #[.int .u32 0, .int .i64 0, .int .i64 0, .int .i64 0] 24 (0, 0))) hb) (.cells #[.int .u32 p0, .int .i64 p1, .int .i64 p2, .int .i64 p3, .bool wp, .int .u32 q0, .int .i64 q1, .int .i64 q2, .int .i64 q3, .bool true] 106 (0, 0)))
       have HL := Aside0.mk (blk_new w1 (.cells #[.int .u32 p0, .int .i64 p1, .int .i64 p2, .int .i64 p3, .bool wp, .int .u32 q0, .int .i64 q1, .int .i64 q2, .int .i64 q3, .bool true] 106 (0, 0)))
       clear hb HC)
    | (go_at_call 66; (refine (HH.out _).mono ?_)
       rintro e w2 ⟨rfl, hb⟩
       have HB2 := Aside0.mk (below_step HB.out hb)
       have HK2 := Aside0.mk (blk_below HK.out hb)
       have HL2 := Aside0.mk (blk_below HL.out hb)
       have k0 := blk_cell HK2.out 0
       have f0 := blk_frozen HK2.out 0
       have k1 := blk_cell HK2.out 1
       have f1 := blk_frozen HK2.out 1
       have k2 := blk_cell HK2.out 2
       have f2 := blk_frozen HK2.out 2
       have k3 := blk_cell HK2.out 3
       have f3 := blk_frozen HK2.out 3
       have e0 := blk_cell HL2.out 0
       have h0 := blk_frozen HL2.out 0
       have e1 := blk_cell HL2.out 1
       have h1 := blk_frozen HL2.out 1
       have e2 := blk_cell HL2.out 2
       have h2 := blk_frozen HL2.out 2
       have e3 := blk_cell HL2.out 3
       have h3 := blk_frozen HL2.out 3
       have e4 := blk_cell HL2.out 4
       have h4 := blk_frozen HL2.out 4
       have e5 := blk_cell HL2.out 5
       have h5 := blk_frozen HL2.out 5
       have e6 := blk_cell HL2.out 6
       have h6 := blk_frozen HL2.out 6
       have e7 := blk_cell HL2.out 7
       have h7 := blk_frozen HL2.out 7
       have e8 := blk_cell HL2.out 8
       have h8 := blk_frozen HL2.out 8
       have e9 := blk_cell HL2.out 9
       have h9 := blk_frozen HL2.out 9
       clear hb HB HK HL HH))
  obtain ⟨hx, hy⟩ := Sq.set4 (y0 := .int .u32 q0) (y1 := .int .i64 q1) (y2 := .int .i64 q2) (y3 := .int .i64 q3) (Nat.le_refl w.heap.size) HK2.out HB2.out
  generalize ((((w2.setCell ⟨w.heap.size, 0, none⟩ (.int .u32 q0)).setCell ⟨w.heap.size, 1, none⟩ (.int .i64 q1)).setCell ⟨w.heap.size, 2, none⟩ (.int .i64 q2)).setCell ⟨w.heap.size, 3, none⟩ (.int .i64 q3)) = w9 at hx hy ⊢
  refine bodyPost_ret (results_ctt rfl _ _ w.heap.size 24 #[.int .u32 q0, .int .i64 q1, .int .i64 q2, .int .i64 q3] (0, 0) _ rfl hx Try.underlying24 rfl (by kernel_rfl)) rfl ?_
  exact ⟨rfl, hy⟩
set_option maxHeartbeats 2000000 in
set_option maxRecDepth 100000 in
theorem Sq.ok1f {s : Fs} {w : World} {g : Nat} {p0 p1 p2 p3 p4 q0 q1 q2 q3 q4 : Int} (h : s.At w g) (hz : s.size = 128) (hd : s.down = false) (hp : Rd.dec ((s.b.drop 0).take 64) = (p0, p1, p2, p3, p4)) (hq : Rd.dec ((s.b.drop 64).take 64) = (q0, q1, q2, q3, q4)) (hn : Sl.now p0 (p4 == 0) q0 (q4 == 0) = 1) (hw : (q4 == 0) = false) :
    Calls Try.prog 47 #[.pointer (some ⟨g, 0, none⟩)] w fun e w' => e = .returned (.tuple #[.agg #[.int .u32 0, .int .i64 0, .int .i64 0, .int .i64 0], .bool false, .int .i64 0]) ∧ Below w.heap.size w w' := by
  have hu := Try.underlying106
  have hu2 := Try.underlying24
  have hu3 := Try.underlying105
  have HC := Aside0.mk (Sr.ok (w := (w.alloc (.cells #[.int .u32 0, .int .i64 0, .int .i64 0, .int .i64 0] 24 (0, 0)))) ⟨blk_alloc h.1 _, h.2⟩ hz hd hp hq)
  have HH := Aside0.mk (fun W => Sl.held p0 p1 p2 p3 (p4 == 0) q0 q1 q2 q3 (q4 == 0) W)
  rw [hn] at HH
  clear h hz hd hp hq hn
  generalize Sl.next p0 (p4 == 0) q0 (q4 == 0) = nx at HH
  generalize (p4 == 0) = wp at HC HH hw
  generalize (q4 == 0) = wq at HC HH hw
  subst hw
  go_enter Try.func47, Try.ntmps47
  go_wp2_with (first
    | (go_at_call 65; (refine HC.out.mono ?_)
       rintro e w1 ⟨rfl, hb⟩
       have HB := Aside0.mk (below_alloc (below_step (below_alloc (Below.refl w.heap.size w) (.cells #[.int .u32 0, .int .i64 0, .int .i64 0, .int .i64 0] 24 (0, 0))) hb) (.cells #[.int .u32 p0, .int .i64 p1, .int .i64 p2, .int .i64 p3, .bool wp, .int .u32 q0, .int .i64 q1, .int .i64 q2, .int .i64 q3, .bool false] 106 (0, 0)))
       have HK := Aside0.mk (blk_alloc (blk_below (blk_new w (.cells #[.int .u32 0, .int .i64 0, .int .i64 0, .int .i64 0] 24 (0, 0))) hb) (.cells #[.int .u32 p0, .int .i64 p1, .int .i64 p2, .int .i64 p3, .bool wp, .int .u32 q0, .int .i64 q1, .int .i64 q2, .int .i64 q3, .bool false] 106 (0, 0)))
       have HL := Aside0.mk (blk_new w1 (.cells #[.int .u32 p0, .int .i64 p1, .int .i64 p2, .int .i64 p3, .bool wp, .int .u32 q0, .int .i64 q1, .int .i64 q2, .int .i64 q3, .bool false] 106 (0, 0)))
       clear hb HC)
    | (go_at_call 66; (refine (HH.out _).mono ?_)
       rintro e w2 ⟨rfl, hb⟩
       have HB2 := Aside0.mk (below_step HB.out hb)
       have HK2 := Aside0.mk (blk_below HK.out hb)
       have HL2 := Aside0.mk (blk_below HL.out hb)
       have k0 := blk_cell HK2.out 0
       have f0 := blk_frozen HK2.out 0
       have k1 := blk_cell HK2.out 1
       have f1 := blk_frozen HK2.out 1
       have k2 := blk_cell HK2.out 2
       have f2 := blk_frozen HK2.out 2
       have k3 := blk_cell HK2.out 3
       have f3 := blk_frozen HK2.out 3
       have e0 := blk_cell HL2.out 0
       have h0 := blk_frozen HL2.out 0
       have e1 := blk_cell HL2.out 1
       have h1 := blk_frozen HL2.out 1
       have e2 := blk_cell HL2.out 2
       have h2 := blk_frozen HL2.out 2
       have e3 := blk_cell HL2.out 3
       have h3 := blk_frozen HL2.out 3
       have e4 := blk_cell HL2.out 4
       have h4 := blk_frozen HL2.out 4
       have e5 := blk_cell HL2.out 5
       have h5 := blk_frozen HL2.out 5
       have e6 := blk_cell HL2.out 6
       have h6 := blk_frozen HL2.out 6
       have e7 := blk_cell HL2.out 7
       have h7 := blk_frozen HL2.out 7
       have e8 := blk_cell HL2.out 8
       have h8 := blk_frozen HL2.out 8
       have e9 := blk_cell HL2.out 9
       have h9 := blk_frozen HL2.out 9
       clear hb HB HK HL HH))
  obtain ⟨hx, hy⟩ := Sq.set4 (y0 := .int .u32 0) (y1 := .int .i64 0) (y2 := .int .i64 0) (y3 := .int .i64 0) (Nat.le_refl w.heap.size) HK2.out HB2.out
  generalize ((((w2.setCell ⟨w.heap.size, 0, none⟩ (.int .u32 0)).setCell ⟨w.heap.size, 1, none⟩ (.int .i64 0)).setCell ⟨w.heap.size, 2, none⟩ (.int .i64 0)).setCell ⟨w.heap.size, 3, none⟩ (.int .i64 0)) = w9 at hx hy ⊢
  refine bodyPost_ret (results_ctt rfl _ _ w.heap.size 24 #[.int .u32 0, .int .i64 0, .int .i64 0, .int .i64 0] (0, 0) _ rfl hx Try.underlying24 rfl (by kernel_rfl)) rfl ?_
  exact ⟨rfl, hy⟩
end Go.Proofs.Ytjldkgcabombhaa

/- The contract of slots.Save where there is no store, walked by hand. -/
namespace Go.Proofs.Ytjldkgcabombhaa
open Go.RowKit Go.Proofs.YtjldkgcabombhaaW.PrintWords Go.Proofs.YtjldkgcabombhaaW.PrintLast Go.Proofs.YtjldkgcabombhaaW.PrintMore
set_option linter.unusedVariables false
set_option linter.unusedSimpArgs false

theorem Sv.new (w : World) (r0 r1 r2 r3 : Int) : ((w.alloc (.cells #[.int .u32 r0, .int .i64 r1, .int .i64 r2, .int .i64 r3] 24 (0, 0))).alloc (.cells #[.int .u32 0, .int .i64 0, .int .i64 0, .int .i64 0] 24 (0, 0))).heap[w.heap.size + 1]? = some (.cells #[.int .u32 0, .int .i64 0, .int .i64 0, .int .i64 0] 24 (0, 0)) := by
  have := blk_new (w.alloc (.cells #[.int .u32 r0, .int .i64 r1, .int .i64 r2, .int .i64 r3] 24 (0, 0))) (.cells #[.int .u32 0, .int .i64 0, .int .i64 0, .int .i64 0] 24 (0, 0))
  rw [World.size_alloc] at this
  exact this
set_option maxHeartbeats 1000000 in
set_option maxRecDepth 100000 in
theorem Sv.nil (w : World) (r0 r1 r2 r3 : Int) : Calls Try.prog 45 #[.pointer none, .agg #[.int .u32 r0, .int .i64 r1, .int .i64 r2, .int .i64 r3]] w fun e w' => e = .returned (.tuple #[.agg #[.int .u32 0, .int .i64 0, .int .i64 0, .int .i64 0], .int .i64 1]) ∧ Below w.heap.size w w' := by
  have hu2 := Try.underlying24
  have HC := Aside0.mk (Sq.nil ((w.alloc (.cells #[.int .u32 r0, .int .i64 r1, .int .i64 r2, .int .i64 r3] 24 (0, 0))).alloc (.cells #[.int .u32 0, .int .i64 0, .int .i64 0, .int .i64 0] 24 (0, 0))))
  have HN := Aside0.mk (Sv.new w r0 r1 r2 r3)
  go_enter Try.func45, Try.ntmps45
  go_wp2_with (first
    | (go_at_call 47; (refine HC.out.mono ?_)
       rintro e w1 ⟨rfl, hb⟩
       have HB := Aside0.mk (below_alloc (below_step (below_alloc (below_alloc (Below.refl w.heap.size w) (.cells #[.int .u32 r0, .int .i64 r1, .int .i64 r2, .int .i64 r3] 24 (0, 0))) (.cells #[.int .u32 0, .int .i64 0, .int .i64 0, .int .i64 0] 24 (0, 0))) hb) (.cells #[.int .u32 0, .int .i64 0, .int .i64 0, .int .i64 0] 24 (0, 0)))
       have HK := Aside0.mk (blk_alloc (blk_below HN.out hb) (.cells #[.int .u32 0, .int .i64 0, .int .i64 0, .int .i64 0] 24 (0, 0)))
       have k0 := blk_cell HK.out 0
       have f0 := blk_frozen HK.out 0
       have k1 := blk_cell HK.out 1
       have f1 := blk_frozen HK.out 1
       have k2 := blk_cell HK.out 2
       have f2 := blk_frozen HK.out 2
       have k3 := blk_cell HK.out 3
       have f3 := blk_frozen HK.out 3
       clear hb))
  obtain ⟨hx, hy⟩ := Sq.set4 (y0 := .int .u32 0) (y1 := .int .i64 0) (y2 := .int .i64 0) (y3 := .int .i64 0) (Nat.le_succ w.heap.size) HK.out HB.out
  generalize (((((w1.alloc (.cells #[.int .u32 0, .int .i64 0, .int .i64 0, .int .i64 0] 24)).setCell ⟨w.heap.size + 1, 0, none⟩ (.int .u32 0)).setCell ⟨w.heap.size + 1, 1, none⟩ (.int .i64 0)).setCell ⟨w.heap.size + 1, 2, none⟩ (.int .i64 0)).setCell ⟨w.heap.size + 1, 3, none⟩ (.int .i64 0)) = w9 at hx hy ⊢
  refine bodyPost_ret (results_ct rfl _ _ (w.heap.size + 1) 24 #[.int .u32 0, .int .i64 0, .int .i64 0, .int .i64 0] (0, 0) _ rfl hx Try.underlying24 rfl (by kernel_rfl)) rfl ?_
  exact ⟨rfl, hy⟩
set_option maxHeartbeats 1000000 in
set_option maxRecDepth 100000 in
theorem Sv.other {s : Fs} {w : World} {g : Nat} (h : s.At w g) (hz : s.size ≠ 128) (r0 r1 r2 r3 : Int) : Calls Try.prog 45 #[.pointer (some ⟨g, 0, none⟩), .agg #[.int .u32 r0, .int .i64 r1, .int .i64 r2, .int .i64 r3]] w fun e w' => e = .returned (.tuple #[.agg #[.int .u32 0, .int .i64 0, .int .i64 0, .int .i64 0], .int .i64 2]) ∧ Below w.heap.size w w' := by
  have hu2 := Try.underlying24
  have HC := Aside0.mk (Sq.other (w := ((w.alloc (.cells #[.int .u32 r0, .int .i64 r1, .int .i64 r2, .int .i64 r3] 24 (0, 0))).alloc (.cells #[.int .u32 0, .int .i64 0, .int .i64 0, .int .i64 0] 24 (0, 0)))) ⟨blk_alloc (blk_alloc h.1 _) _, h.2⟩ hz)
  have HN := Aside0.mk (Sv.new w r0 r1 r2 r3)
  go_enter Try.func45, Try.ntmps45
  go_wp2_with (first
    | (go_at_call 47; (refine HC.out.mono ?_)
       rintro e w1 ⟨rfl, hb⟩
       have HB := Aside0.mk (below_alloc (below_step (below_alloc (below_alloc (Below.refl w.heap.size w) (.cells #[.int .u32 r0, .int .i64 r1, .int .i64 r2, .int .i64 r3] 24 (0, 0))) (.cells #[.int .u32 0, .int .i64 0, .int .i64 0, .int .i64 0] 24 (0, 0))) hb) (.cells #[.int .u32 0, .int .i64 0, .int .i64 0, .int .i64 0] 24 (0, 0)))
       have HK := Aside0.mk (blk_alloc (blk_below HN.out hb) (.cells #[.int .u32 0, .int .i64 0, .int .i64 0, .int .i64 0] 24 (0, 0)))
       have k0 := blk_cell HK.out 0
       have f0 := blk_frozen HK.out 0
       have k1 := blk_cell HK.out 1
       have f1 := blk_frozen HK.out 1
       have k2 := blk_cell HK.out 2
       have f2 := blk_frozen HK.out 2
       have k3 := blk_cell HK.out 3
       have f3 := blk_frozen HK.out 3
       clear hb))
  obtain ⟨hx, hy⟩ := Sq.set4 (y0 := .int .u32 0) (y1 := .int .i64 0) (y2 := .int .i64 0) (y3 := .int .i64 0) (Nat.le_succ w.heap.size) HK.out HB.out
  generalize (((((w1.alloc (.cells #[.int .u32 0, .int .i64 0, .int .i64 0, .int .i64 0] 24)).setCell ⟨w.heap.size + 1, 0, none⟩ (.int .u32 0)).setCell ⟨w.heap.size + 1, 1, none⟩ (.int .i64 0)).setCell ⟨w.heap.size + 1, 2, none⟩ (.int .i64 0)).setCell ⟨w.heap.size + 1, 3, none⟩ (.int .i64 0)) = w9 at hx hy ⊢
  refine bodyPost_ret (results_ct rfl _ _ (w.heap.size + 1) 24 #[.int .u32 0, .int .i64 0, .int .i64 0, .int .i64 0] (0, 0) _ rfl hx Try.underlying24 rfl (by kernel_rfl)) rfl ?_
  exact ⟨rfl, hy⟩
end Go.Proofs.Ytjldkgcabombhaa

/- The contract of slots.Save that is written, walked by hand. -/
namespace Go.Proofs.Ytjldkgcabombhaa
open Go.RowKit Go.Proofs.YtjldkgcabombhaaW.PrintWords Go.Proofs.YtjldkgcabombhaaW.PrintLast Go.Proofs.YtjldkgcabombhaaW.PrintMore
set_option linter.unusedVariables false
set_option linter.unusedSimpArgs false

theorem Fs.fr_new {g : Nat} {w W : World} (h : Fs.Fr g w W) (p : Addr) (hp : w.heap.size ≤ p.block) (v : Value) : Fs.Fr g w (W.setCell p v) := ⟨h.1.setCell (Nat.zero_le _) v, fun k hk hg => (Below.heap_setCell W p v k (by omega)).trans (h.2 k hk hg)⟩
def Sv.M (s : Fs) (w W : World) (g : Nat) (bx : Array Value) : Prop := s.At W g ∧ W.heap[w.heap.size]? = some (.cells bx 24 (0, 0)) ∧ W.heap[w.heap.size + 1]? = some (.cells #[.int .u32 0, .int .i64 0, .int .i64 0, .int .i64 0] 24 (0, 0)) ∧ Below w.heap.size w W
theorem Sv.m_below {s : Fs} {w W W1 : World} {g : Nat} {bx : Array Value} (h : Sv.M s w W g bx) (hb : Below W.heap.size W W1) : Sv.M s w W1 g bx := ⟨Fs.below h.1 hb, blk_below h.2.1 hb, blk_below h.2.2.1 hb, below_step h.2.2.2 hb⟩
theorem Sv.m_alloc {s : Fs} {w W : World} {g : Nat} {bx : Array Value} (h : Sv.M s w W g bx) (o : Obj) : Sv.M s w (W.alloc o) g bx := ⟨⟨blk_alloc h.1.1 _, h.1.2⟩, blk_alloc h.2.1 _, blk_alloc h.2.2.1 _, below_alloc h.2.2.2 _⟩
theorem Sv.m_start {s : Fs} {w : World} {g : Nat} (h : s.At w g) (r0 r1 r2 r3 : Int) : Sv.M s w ((w.alloc (.cells #[.int .u32 r0, .int .i64 r1, .int .i64 r2, .int .i64 r3] 24 (0, 0))).alloc (.cells #[.int .u32 0, .int .i64 0, .int .i64 0, .int .i64 0] 24 (0, 0))) g #[.int .u32 r0, .int .i64 r1, .int .i64 r2, .int .i64 r3] := ⟨⟨blk_alloc (blk_alloc h.1 _) _, h.2⟩, blk_alloc (blk_new w _) _, Sv.new w r0 r1 r2 r3, below_alloc (below_alloc (Below.refl _ _) _) _⟩
theorem Sv.m_set {s : Fs} {w W : World} {g : Nat} {x0 x1 x2 x3 y0 : Value} (hg : g ≠ w.heap.size) (h : Sv.M s w W g #[x0, x1, x2, x3]) : Sv.M s w (W.setCell ⟨w.heap.size, 0, none⟩ y0) g #[y0, x1, x2, x3] :=
  ⟨⟨blk_far h.1.1 (p := ⟨w.heap.size, 0, none⟩) hg y0, h.1.2⟩, blk_put (cs' := #[y0, x1, x2, x3]) h.2.1 0 y0 rfl, blk_far h.2.2.1 (p := ⟨w.heap.size, 0, none⟩) (by show w.heap.size + 1 ≠ w.heap.size; omega) y0, h.2.2.2.setCell (p := ⟨w.heap.size, 0, none⟩) (Nat.le_refl _) y0⟩

set_option maxHeartbeats 1000000 in
set_option maxRecDepth 100000 in
theorem Sv.ok {s : Fs} {w : World} {g : Nat} (r0 r1 r2 r3 o0 o1 o2 o3 o' at' : Int) (ob : Bool) (nx : Int) (h : s.At w g) (hk : s.Ok) (hs : s.set = false) (hm : s.may at' 64 = 0) (ha : wrap64 (nx * 64) = at') (ho : o0 ≠ 4294967295) (ho' : (o0 + 1) % 4294967296 = o')
    (hL : ∀ W, s.At W g → Calls Try.prog 47 #[.pointer (some ⟨g, 0, none⟩)] W fun e w' => e = .returned (.tuple #[.agg #[.int .u32 o0, .int .i64 o1, .int .i64 o2, .int .i64 o3], .bool ob, .int .i64 0]) ∧ Below W.heap.size W w')
    (hN : ∀ W, s.At W g → Calls Try.prog 48 #[.pointer (some ⟨g, 0, none⟩)] W fun e w' => e = .returned (.tuple #[.int .i64 nx, .int .i64 0]) ∧ Below W.heap.size W w') :
    Calls Try.prog 45 #[.pointer (some ⟨g, 0, none⟩), .agg #[.int .u32 r0, .int .i64 r1, .int .i64 r2, .int .i64 r3]] w fun e w' => e = .returned (.tuple #[.agg #[.int .u32 o', .int .i64 r1, .int .i64 r2, .int .i64 r3], .int .i64 0]) ∧ (s.wrote at'.toNat (Rc.enc o' r1 r2 r3)).At w' g ∧ Fs.Fr g w w' := by
  have hu2 := Try.underlying24
  have HL := Aside0.mk hL
  have HN := Aside0.mk hN
  have HK := Aside0.mk hk
  have HS := Aside0.mk hs
  have HG := Aside0.mk (show g ≠ w.heap.size ∧ g ≠ w.heap.size + 1 by have := blk_lt h.1; omega)
  have HM := Aside0.mk (Sv.m_start h r0 r1 r2 r3)
  have d1 : (o0 == 4294967295) = false := beq_eq_false_iff_ne.mpr ho
  obtain ⟨en, hen⟩ : ∃ en, Rc.enc o' r1 r2 r3 = en := ⟨_, rfl⟩
  have HE := Aside0.mk (fun W => record_Encode.calls o' r1 r2 r3 (Rc.enc o' r1 r2 r3) W rfl)
  have hlen : (Rc.enc o' r1 r2 r3).length = 64 := by
    have := Rc.rows_length o' r1 r2 r3
    unfold Rc.enc Rc.head
    rw [List.length_append, List.length_append, this.2.2.2, List.length_replicate, Rc.be_length]
  rw [hen] at HE hlen ⊢
  have HW := Aside0.mk (show s.may at' (en.length : Nat) = 0 by rw [hlen]; exact hm)
  clear h hk hs hm ho hL hN hen hlen
  go_enter Try.func45, Try.ntmps45
  go_upto_region 8 with (first
    | (go_at_call 47; (refine (HL.out _ HM.out.1).mono ?_)
       rintro e w1 ⟨rfl, hb⟩
       have HM1 := Aside0.mk (Sv.m_alloc (Sv.m_below HM.out hb) (.cells #[.int .u32 o0, .int .i64 o1, .int .i64 o2, .int .i64 o3] 24 (0, 0)))
       have HO := Aside0.mk (blk_new w1 (.cells #[.int .u32 o0, .int .i64 o1, .int .i64 o2, .int .i64 o3] 24 (0, 0)))
       clear hb HM HL)
    | (go_at_call 48; (refine (HN.out _ HM1.out.1).mono ?_)
       rintro e w2 ⟨rfl, hb⟩
       have HM2 := Aside0.mk (Sv.m_below HM1.out hb)
       have q0 := blk_cell (blk_below HO.out hb) 0
       have k0 := blk_cell HM2.out.2.1 0
       have k1 := blk_cell HM2.out.2.1 1
       have k2 := blk_cell HM2.out.2.1 2
       have k3 := blk_cell HM2.out.2.1 3
       have f0 := blk_frozen HM2.out.2.1 0
       clear hb HM1 HO HN))
  have HM3 := Aside0.mk (Sv.m_set (y0 := .int .u32 o') HG.out.1 HM2.out)
  generalize (w2.setCell ⟨w.heap.size, 0, none⟩ (.int .u32 o')) = w3 at HM3 ⊢
  clear k0 k1 k2 k3 f0 q0 HM2
  have k0 := blk_cell HM3.out.2.1 0
  have k1 := blk_cell HM3.out.2.1 1
  have k2 := blk_cell HM3.out.2.1 2
  have k3 := blk_cell HM3.out.2.1 3
  go_wp2_with (first
    | (go_at_call 13; (refine (HE.out _).mono ?_)
       rintro e w5 ⟨v, rfl, hr, hb⟩
       obtain ⟨A, c, rfl⟩ := Kd.R_slice hr
       have HR := Aside0.mk hr
       have HM5 := Aside0.mk (Sv.m_below HM3.out hb)
       clear hr hb HM3 HE)
    | (go_at_call 32; (refine (Fs.write_ok at' A en.length c en HM5.out.1 HK.out HW.out HS.out (Kd.R_reads' HR.out).2.2).mono ?_)
       rintro e w4 ⟨rfl, hA, hF⟩
       have HA := Aside0.mk hA
       have HF := Aside0.mk (Fs.fr_trans (Fs.fr_of_below g HM5.out.2.2.2) hF)
       have hB1 := (hF.2 _ (blk_lt HM5.out.2.1) (fun e => HG.out.1 e.symm)).trans HM5.out.2.1
       have hB2 := (hF.2 _ (blk_lt HM5.out.2.2.1) (fun e => HG.out.2 e.symm)).trans HM5.out.2.2.1
       have HB2 := Aside0.mk hB2
       have l0 := blk_cell hB1 0
       have m0 := blk_frozen hB1 0
       have l1 := blk_cell hB1 1
       have m1 := blk_frozen hB1 1
       have l2 := blk_cell hB1 2
       have m2 := blk_frozen hB1 2
       have l3 := blk_cell hB1 3
       have m3 := blk_frozen hB1 3
       have u0 := blk_cell hB2 0
       have v0 := blk_frozen hB2 0
       have u1 := blk_cell hB2 1
       have v1 := blk_frozen hB2 1
       have u2 := blk_cell hB2 2
       have v2 := blk_frozen hB2 2
       have u3 := blk_cell hB2 3
       have v3 := blk_frozen hB2 3
       clear hA hF hB1 hB2 HM5 HR))
  have hx := blk_far (blk_far (blk_far (blk_far HA.out.1 (p := ⟨w.heap.size + 1, 0, none⟩) HG.out.2 (.int .u32 o')) (p := ⟨w.heap.size + 1, 1, none⟩) HG.out.2 (.int .i64 r1)) (p := ⟨w.heap.size + 1, 2, none⟩) HG.out.2 (.int .i64 r2)) (p := ⟨w.heap.size + 1, 3, none⟩) HG.out.2 (.int .i64 r3)
  have hy := (Sq.set4 (y0 := .int .u32 o') (y1 := .int .i64 r1) (y2 := .int .i64 r2) (y3 := .int .i64 r3) (Nat.zero_le (w.heap.size + 1)) HB2.out HF.out.1).1
  have hz := Fs.fr_new (Fs.fr_new (Fs.fr_new (Fs.fr_new HF.out ⟨w.heap.size + 1, 0, none⟩ (Nat.le_succ _) (.int .u32 o')) ⟨w.heap.size + 1, 1, none⟩ (Nat.le_succ _) (.int .i64 r1)) ⟨w.heap.size + 1, 2, none⟩ (Nat.le_succ _) (.int .i64 r2)) ⟨w.heap.size + 1, 3, none⟩ (Nat.le_succ _) (.int .i64 r3)
  generalize ((((w4.setCell ⟨w.heap.size + 1, 0, none⟩ (.int .u32 o')).setCell ⟨w.heap.size + 1, 1, none⟩ (.int .i64 r1)).setCell ⟨w.heap.size + 1, 2, none⟩ (.int .i64 r2)).setCell ⟨w.heap.size + 1, 3, none⟩ (.int .i64 r3)) = w9 at hx hy hz ⊢
  refine bodyPost_ret (results_ct rfl _ _ (w.heap.size + 1) 24 #[.int .u32 o', .int .i64 r1, .int .i64 r2, .int .i64 r3] (0, 0) _ rfl hy Try.underlying24 rfl (by kernel_rfl)) rfl ?_
  exact ⟨rfl, ⟨hx, HA.out.2⟩, hz⟩
end Go.Proofs.Ytjldkgcabombhaa

/- The contract of slots.Save that is torn, walked by hand. -/
namespace Go.Proofs.Ytjldkgcabombhaa
open Go.RowKit Go.Proofs.YtjldkgcabombhaaW.PrintWords Go.Proofs.YtjldkgcabombhaaW.PrintLast Go.Proofs.YtjldkgcabombhaaW.PrintMore
set_option linter.unusedVariables false
set_option linter.unusedSimpArgs false

set_option maxHeartbeats 1000000 in
set_option maxRecDepth 100000 in
theorem Sv.torn {s : Fs} {w : World} {g : Nat} (r0 r1 r2 r3 o0 o1 o2 o3 o' at' : Int) (ob : Bool) (nx : Int) (h : s.At w g) (hk : s.Ok) (hs : s.set = true) (hpre : 0 ≤ s.pre) (hm : s.may at' 64 = 0) (ha : wrap64 (nx * 64) = at') (ho : o0 ≠ 4294967295) (ho' : (o0 + 1) % 4294967296 = o')
    (hL : ∀ W, s.At W g → Calls Try.prog 47 #[.pointer (some ⟨g, 0, none⟩)] W fun e w' => e = .returned (.tuple #[.agg #[.int .u32 o0, .int .i64 o1, .int .i64 o2, .int .i64 o3], .bool ob, .int .i64 0]) ∧ Below W.heap.size W w')
    (hN : ∀ W, s.At W g → Calls Try.prog 48 #[.pointer (some ⟨g, 0, none⟩)] W fun e w' => e = .returned (.tuple #[.int .i64 nx, .int .i64 0]) ∧ Below W.heap.size W w') :
    Calls Try.prog 45 #[.pointer (some ⟨g, 0, none⟩), .agg #[.int .u32 r0, .int .i64 r1, .int .i64 r2, .int .i64 r3]] w fun e w' => e = .returned (.tuple #[.agg #[.int .u32 0, .int .i64 0, .int .i64 0, .int .i64 0], .int .i64 10]) ∧ (s.torn at'.toNat ((Rc.enc o' r1 r2 r3).take (Fs.cut s 64).toNat)).At w' g ∧ Fs.Fr g w w' := by
  have hu2 := Try.underlying24
  have HL := Aside0.mk hL
  have HN := Aside0.mk hN
  have HK := Aside0.mk hk
  have HS := Aside0.mk hs
  have HG := Aside0.mk (show g ≠ w.heap.size ∧ g ≠ w.heap.size + 1 by have := blk_lt h.1; omega)
  have HM := Aside0.mk (Sv.m_start h r0 r1 r2 r3)
  have d1 : (o0 == 4294967295) = false := beq_eq_false_iff_ne.mpr ho
  obtain ⟨en, hen⟩ : ∃ en, Rc.enc o' r1 r2 r3 = en := ⟨_, rfl⟩
  have HE := Aside0.mk (fun W => record_Encode.calls o' r1 r2 r3 (Rc.enc o' r1 r2 r3) W rfl)
  have hlen : (Rc.enc o' r1 r2 r3).length = 64 := by
    have := Rc.rows_length o' r1 r2 r3
    unfold Rc.enc Rc.head
    rw [List.length_append, List.length_append, this.2.2.2, List.length_replicate, Rc.be_length]
  rw [hen] at HE hlen ⊢
  rw [← hlen]
  have HP := Aside0.mk hpre
  have HW := Aside0.mk (show s.may at' (en.length : Nat) = 0 by rw [hlen]; exact hm)
  obtain ⟨tn, htn⟩ : ∃ tn, en.take (Fs.cut s en.length).toNat = tn := ⟨_, rfl⟩
  have HT := Aside0.mk htn
  rw [htn]
  clear htn hpre h hk hs hm ho hL hN hen hlen
  go_enter Try.func45, Try.ntmps45
  go_upto_region 8 with (first
    | (go_at_call 47; (refine (HL.out _ HM.out.1).mono ?_)
       rintro e w1 ⟨rfl, hb⟩
       have HM1 := Aside0.mk (Sv.m_alloc (Sv.m_below HM.out hb) (.cells #[.int .u32 o0, .int .i64 o1, .int .i64 o2, .int .i64 o3] 24 (0, 0)))
       have HO := Aside0.mk (blk_new w1 (.cells #[.int .u32 o0, .int .i64 o1, .int .i64 o2, .int .i64 o3] 24 (0, 0)))
       clear hb HM HL)
    | (go_at_call 48; (refine (HN.out _ HM1.out.1).mono ?_)
       rintro e w2 ⟨rfl, hb⟩
       have HM2 := Aside0.mk (Sv.m_below HM1.out hb)
       have q0 := blk_cell (blk_below HO.out hb) 0
       have k0 := blk_cell HM2.out.2.1 0
       have k1 := blk_cell HM2.out.2.1 1
       have k2 := blk_cell HM2.out.2.1 2
       have k3 := blk_cell HM2.out.2.1 3
       have f0 := blk_frozen HM2.out.2.1 0
       clear hb HM1 HO HN))
  have HM3 := Aside0.mk (Sv.m_set (y0 := .int .u32 o') HG.out.1 HM2.out)
  generalize (w2.setCell ⟨w.heap.size, 0, none⟩ (.int .u32 o')) = w3 at HM3 ⊢
  clear k0 k1 k2 k3 f0 q0 HM2
  have k0 := blk_cell HM3.out.2.1 0
  have k1 := blk_cell HM3.out.2.1 1
  have k2 := blk_cell HM3.out.2.1 2
  have k3 := blk_cell HM3.out.2.1 3
  go_wp2_with (first
    | (go_at_call 13; (refine (HE.out _).mono ?_)
       rintro e w5 ⟨v, rfl, hr, hb⟩
       obtain ⟨A, c, rfl⟩ := Kd.R_slice hr
       have HR := Aside0.mk hr
       have HM5 := Aside0.mk (Sv.m_below HM3.out hb)
       clear hr hb HM3 HE)
    | (go_at_call 32; (refine (Fs.write_torn at' A c en HM5.out.1 HK.out HW.out HS.out HP.out (Kd.R_reads' HR.out).2.2 (Kd.R_reads' HR.out).2.1).mono ?_)
       rintro e w4 ⟨rfl, hA, hF⟩
       rw [HT.out] at hA
       have HA := Aside0.mk hA
       have HF := Aside0.mk (Fs.fr_trans (Fs.fr_of_below g HM5.out.2.2.2) hF)
       have hB1 := (hF.2 _ (blk_lt HM5.out.2.1) (fun e => HG.out.1 e.symm)).trans HM5.out.2.1
       have hB2 := (hF.2 _ (blk_lt HM5.out.2.2.1) (fun e => HG.out.2 e.symm)).trans HM5.out.2.2.1
       have HB2 := Aside0.mk hB2
       have l0 := blk_cell hB1 0
       have m0 := blk_frozen hB1 0
       have l1 := blk_cell hB1 1
       have m1 := blk_frozen hB1 1
       have l2 := blk_cell hB1 2
       have m2 := blk_frozen hB1 2
       have l3 := blk_cell hB1 3
       have m3 := blk_frozen hB1 3
       have u0 := blk_cell hB2 0
       have v0 := blk_frozen hB2 0
       have u1 := blk_cell hB2 1
       have v1 := blk_frozen hB2 1
       have u2 := blk_cell hB2 2
       have v2 := blk_frozen hB2 2
       have u3 := blk_cell hB2 3
       have v3 := blk_frozen hB2 3
       clear hA hF hB1 hB2 HM5 HR))
  have hx := blk_far (blk_far (blk_far (blk_far HA.out.1 (p := ⟨w.heap.size + 1, 0, none⟩) HG.out.2 (.int .u32 0)) (p := ⟨w.heap.size + 1, 1, none⟩) HG.out.2 (.int .i64 0)) (p := ⟨w.heap.size + 1, 2, none⟩) HG.out.2 (.int .i64 0)) (p := ⟨w.heap.size + 1, 3, none⟩) HG.out.2 (.int .i64 0)
  have hy := (Sq.set4 (y0 := .int .u32 0) (y1 := .int .i64 0) (y2 := .int .i64 0) (y3 := .int .i64 0) (Nat.zero_le (w.heap.size + 1)) HB2.out HF.out.1).1
  have hz := Fs.fr_new (Fs.fr_new (Fs.fr_new (Fs.fr_new HF.out ⟨w.heap.size + 1, 0, none⟩ (Nat.le_succ _) (.int .u32 0)) ⟨w.heap.size + 1, 1, none⟩ (Nat.le_succ _) (.int .i64 0)) ⟨w.heap.size + 1, 2, none⟩ (Nat.le_succ _) (.int .i64 0)) ⟨w.heap.size + 1, 3, none⟩ (Nat.le_succ _) (.int .i64 0)
  generalize ((((w4.setCell ⟨w.heap.size + 1, 0, none⟩ (.int .u32 0)).setCell ⟨w.heap.size + 1, 1, none⟩ (.int .i64 0)).setCell ⟨w.heap.size + 1, 2, none⟩ (.int .i64 0)).setCell ⟨w.heap.size + 1, 3, none⟩ (.int .i64 0)) = w9 at hx hy hz ⊢
  refine bodyPost_ret (results_ct rfl _ _ (w.heap.size + 1) 24 #[.int .u32 0, .int .i64 0, .int .i64 0, .int .i64 0] (0, 0) _ rfl hy Try.underlying24 rfl (by kernel_rfl)) rfl ?_
  exact ⟨rfl, ⟨hx, HA.out.2⟩, hz⟩
end Go.Proofs.Ytjldkgcabombhaa

/- Plain facts for law27's known: the slots of a file behind its writes. -/
namespace Go.Proofs.Ytjldkgcabombhaa.Rec
set_option linter.unusedVariables false
open Go.RowKit Go.Proofs.Ytjldkgcabombhaa Go.Proofs.Ytjldkgcabombhaa.QJ Go.Proofs.YtjldkgcabombhaaW.PrintWords Go.Proofs.YtjldkgcabombhaaW.PrintLast Go.Proofs.YtjldkgcabombhaaW.PrintMore

theorem zero_bytes (n : Nat) : Bytes (List.replicate n 0) := fun x hx => by
  obtain ⟨_, rfl⟩ := List.mem_replicate.mp hx
  omega
theorem zero_fold : fold 4294967295 (List.replicate 60 (0 : Int)) ≠ 4294967295 := by decide +kernel
theorem dec_six {l : List Int} (h : (Rd.dec l).2.2.2.2 = 6) : Rd.dec l = (0, 0, 0, 0, 6) := by
  unfold Rd.dec at h ⊢
  by_cases c1 : (l.length : Int) < 64
  · rw [if_pos c1] at h; cases h
  rw [if_neg c1] at h ⊢
  by_cases c2 : 64 < (l.length : Int)
  · rw [if_pos c2] at h; cases h
  rw [if_neg c2] at h ⊢
  by_cases c3 : Rd.num (Rd.part l 60 4) ≠ IntKind.u64.wrap (Cr.sum (l.take 60))
  · rw [if_pos c3]
  rw [if_neg c3] at h
  by_cases c4 : Rd.form l = false
  · rw [if_pos c4] at h; cases h
  · rw [if_neg c4] at h; cases h
theorem zero_dec : (Rd.dec (List.replicate 64 0)).2.2.2.2 = 6 := by
  have hs := sum_nat (zero_bytes 60)
  have hb := sum_bd (zero_bytes 60)
  have hz := zero_fold
  have hl : (List.replicate 64 (0 : Int)).length = 64 := List.length_replicate
  have ep : Rd.part (List.replicate 64 0) 60 4 = List.replicate 4 0 := by decide +kernel
  have et : (List.replicate 64 (0 : Int)).take 60 = List.replicate 60 0 := by decide +kernel
  have en : Rd.num (List.replicate 4 0) = 0 := by
    rw [num_eq _ (by decide) (zero_bytes 4)]
    decide +kernel
  have eu : IntKind.u64.wrap (Cr.sum (List.replicate 60 0)) = Cr.sum (List.replicate 60 0) := u64s _ (by omega)
  unfold Rd.dec
  rw [if_neg (by omega), if_neg (by omega), ep, et, en, eu, if_pos (by rw [hs.1]; omega)]
/-! ### halves -/
theorem half00 (s : Fs) (xs : List Int) (hx : xs.length = 64) : ((s.lay 0 xs).b.drop 0).take 64 = xs := by
  show ((s.b.take 0 ++ xs ++ s.b.drop (0 + xs.length)).drop 0).take 64 = xs
  rw [List.drop_zero, List.take_zero, List.nil_append, List.take_left' hx]
theorem half01 (s : Fs) (xs : List Int) (hx : xs.length ≤ 64) : ((s.lay 0 xs).b.drop 64).take 64 = (s.b.drop 64).take 64 := by
  show ((s.b.take 0 ++ xs ++ s.b.drop (0 + xs.length)).drop 64).take 64 = _
  rw [List.take_zero, List.nil_append, List.drop_append, List.drop_of_length_le (by omega), List.nil_append, List.drop_drop]
  congr 2
  omega
theorem half10 (s : Fs) (xs : List Int) (hb : 64 ≤ s.b.length) : ((s.lay 64 xs).b.drop 0).take 64 = (s.b.drop 0).take 64 := by
  show ((s.b.take 64 ++ xs ++ s.b.drop (64 + xs.length)).drop 0).take 64 = _
  rw [List.drop_zero, List.append_assoc, List.take_left' (by rw [List.length_take]; omega), List.drop_zero]
theorem half11 (s : Fs) (xs : List Int) (hb : 64 ≤ s.b.length) (hx : xs.length = 64) : ((s.lay 64 xs).b.drop 64).take 64 = xs := by
  show ((s.b.take 64 ++ xs ++ s.b.drop (64 + xs.length)).drop 64).take 64 = _
  rw [List.append_assoc, List.drop_left' (by rw [List.length_take]; omega), List.take_left' hx]
theorem half0t (s : Fs) (ys : List Int) (hy : ys.length ≤ 64) : ((s.lay 0 ys).b.drop 0).take 64 = ys ++ ((s.b.drop 0).take 64).drop ys.length := by
  show ((s.b.take 0 ++ ys ++ s.b.drop (0 + ys.length)).drop 0).take 64 = _
  rw [List.drop_zero, List.drop_zero, List.take_zero, List.nil_append, Nat.zero_add, List.take_append, List.take_of_length_le hy, List.drop_take]
/-- The torn first slot of law27's example. -/
theorem torn_slot : (Rc.enc 3 7 0 0).take 10 ++ (Rc.enc 1 5 0 0).drop 10 = (Rc.enc 1 5 0 0).set 7 3 := by
  have h3 : (Rc.enc 3 7 0 0).take 10 = [82, 77, 84, 82, 0, 0, 0, 3, 0, 0] := by
    have : (Rc.enc 3 7 0 0).take 10 = ((Rc.enc 3 7 0 0).take 60).take 10 := by
      rw [List.take_take]
      rfl
    rw [this, enc_take]
    decide +kernel
  have h1 : (Rc.enc 1 5 0 0).take 10 = [82, 77, 84, 82, 0, 0, 0, 1, 0, 0] := by
    have : (Rc.enc 1 5 0 0).take 10 = ((Rc.enc 1 5 0 0).take 60).take 10 := by
      rw [List.take_take]
      rfl
    rw [this, enc_take]
    decide +kernel
  have hs : (Rc.enc 1 5 0 0).set 7 3 = ((Rc.enc 1 5 0 0).take 10 ++ (Rc.enc 1 5 0 0).drop 10).set 7 3 := by rw [List.take_append_drop]
  rw [hs, h3, h1, List.set_append_left _ _ (by decide)]
  rfl
theorem torn_dec : (Rd.dec ((Rc.enc 3 7 0 0).take 10 ++ (Rc.enc 1 5 0 0).drop 10)).2.2.2.2 = 6 := by
  rw [torn_slot]
  have h1 : (Rc.enc 1 5 0 0).take 10 = [82, 77, 84, 82, 0, 0, 0, 1, 0, 0] := by
    have : (Rc.enc 1 5 0 0).take 10 = ((Rc.enc 1 5 0 0).take 60).take 10 := by
      rw [List.take_take]
      rfl
    rw [this, enc_take]
    decide +kernel
  refine dec_torn 1 5 0 0 7 (by decide) 3 (by decide) ?_
  rw [← rd_take _ 10 7 (by decide), h1]
  decide
end Go.Proofs.Ytjldkgcabombhaa.Rec

/- law27's known answers true, walked by hand. -/
namespace Go.Proofs.Ytjldkgcabombhaa
open Go.RowKit Go.Proofs.Ytjldkgcabombhaa.Rec Go.Proofs.YtjldkgcabombhaaW.PrintWords Go.Proofs.YtjldkgcabombhaaW.PrintLast Go.Proofs.YtjldkgcabombhaaW.PrintMore
set_option linter.unusedVariables false
set_option linter.unusedSimpArgs false

def Kn.s0 : Fs := Fs.new 128
def Kn.s1 : Fs := Kn.s0.wrote 0 (Rc.enc 1 5 0 0)
def Kn.s2 : Fs := Kn.s1.wrote 64 (Rc.enc 2 6 0 0)
def Kn.s3 : Fs := Kn.s2.crash 10
def Kn.s4 : Fs := Kn.s3.torn 0 ((Rc.enc 3 7 0 0).take 10)
def Kn.s5 : Fs := {Kn.s4 with down := false}
def Kn.z : Int × Int × Int × Int × Int := (0, 0, 0, 0, 6)
theorem Kn.zhalf (n : Nat) (h : n ≤ 4000) : (Kn.s0.b.drop n).take 64 = List.replicate 64 0 := by
  show ((List.replicate 4096 (0 : Int)).drop n).take 64 = _
  rw [List.drop_replicate, List.take_replicate, Nat.min_eq_left (by omega)]
theorem Kn.l0 : Kn.s0.b.length = 4096 := List.length_replicate
theorem Kn.wf (a0 a1 : Int) (h : 0 ≤ a0 ∧ a0 < 100) (k : 0 ≤ a1 ∧ a1 < 100) : Wf a0 a1 0 0 := ⟨by omega, by omega, by omega, by omega⟩
theorem Kn.p0 : Rd.dec ((Kn.s0.b.drop 0).take 64) = (0, 0, 0, 0, 6) := by
  rw [show (Kn.s0.b.drop 0).take 64 = List.replicate 64 0 from Kn.zhalf _ (by decide)]
  exact dec_six zero_dec
theorem Kn.q0 : Rd.dec ((Kn.s0.b.drop 64).take 64) = (0, 0, 0, 0, 6) := by
  rw [show (Kn.s0.b.drop 64).take 64 = List.replicate 64 0 from Kn.zhalf _ (by decide)]
  exact dec_six zero_dec
theorem Kn.p1 : Rd.dec ((Kn.s1.b.drop 0).take 64) = (1, 5, 0, 0, 0) := by
  rw [show (Kn.s1.b.drop 0).take 64 = Rc.enc 1 5 0 0 from half00 Kn.s0 _ (enc_length ..)]
  exact dec_enc (Kn.wf 1 5 (by decide) (by decide))
theorem Kn.q1 : Rd.dec ((Kn.s1.b.drop 64).take 64) = (0, 0, 0, 0, 6) := by
  rw [show (Kn.s1.b.drop 64).take 64 = (Kn.s0.b.drop 64).take 64 from half01 Kn.s0 _ (by rw [enc_length]; decide)]
  exact Kn.q0
theorem Kn.b1 : 64 ≤ Kn.s1.b.length := by
  show 64 ≤ (Kn.s0.b.take 0 ++ Rc.enc 1 5 0 0 ++ Kn.s0.b.drop _).length
  rw [List.length_append, List.length_append, enc_length]
  omega
theorem Kn.p2 : Rd.dec ((Kn.s2.b.drop 0).take 64) = (1, 5, 0, 0, 0) := by
  rw [show (Kn.s2.b.drop 0).take 64 = (Kn.s1.b.drop 0).take 64 from half10 Kn.s1 _ Kn.b1]
  exact Kn.p1
theorem Kn.q2 : Rd.dec ((Kn.s2.b.drop 64).take 64) = (2, 6, 0, 0, 0) := by
  rw [show (Kn.s2.b.drop 64).take 64 = Rc.enc 2 6 0 0 from half11 Kn.s1 _ Kn.b1 (enc_length ..)]
  exact dec_enc (Kn.wf 2 6 (by decide) (by decide))
theorem Kn.lt : ((Rc.enc 3 7 0 0).take 10).length = 10 := by rw [List.length_take, enc_length]; rfl
theorem Kn.p5 : Rd.dec ((Kn.s5.b.drop 0).take 64) = (0, 0, 0, 0, 6) := by
  have h0 : (Kn.s3.b.drop 0).take 64 = Rc.enc 1 5 0 0 := (half10 Kn.s1 _ Kn.b1).trans (half00 Kn.s0 _ (enc_length ..))
  have h1 : (Kn.s5.b.drop 0).take 64 = (Rc.enc 3 7 0 0).take 10 ++ ((Kn.s3.b.drop 0).take 64).drop ((Rc.enc 3 7 0 0).take 10).length := half0t Kn.s3 _ (by rw [Kn.lt]; decide)
  rw [h1, h0, Kn.lt]
  exact dec_six torn_dec
theorem Kn.q5 : Rd.dec ((Kn.s5.b.drop 64).take 64) = (2, 6, 0, 0, 0) := by
  rw [show (Kn.s5.b.drop 64).take 64 = (Kn.s3.b.drop 64).take 64 from half01 Kn.s3 _ (by rw [Kn.lt]; decide)]
  exact Kn.q2
theorem Kn.up {w : World} {g : Nat} (h : Kn.s4.At w g) : Kn.s5.At (w.setCell ⟨g, 4099, none⟩ (.bool false)) g := Fs.put_tail (s := Kn.s4) (s' := Kn.s5) h 3 (.bool false) rfl rfl

theorem Kn.save1 {w : World} {g : Nat} (h : Kn.s0.At w g) : Calls Try.prog 45 #[.pointer (some ⟨g, 0, none⟩), .agg #[.int .u32 0, .int .i64 5, .int .i64 0, .int .i64 0]] w fun e w' => e = .returned (.tuple #[.agg #[.int .u32 1, .int .i64 5, .int .i64 0, .int .i64 0], .int .i64 0]) ∧ Kn.s1.At w' g ∧ Fs.Fr g w w' :=
  Sv.ok (s := Kn.s0) 0 5 0 0 0 0 0 0 1 0 false 0 h ⟨by decide, by decide⟩ rfl (Sr.may128 (s := Kn.s0) rfl 0 (by decide)) (by decide +kernel) (by decide) (by decide)
    (fun W hW => Sq.ok1f hW rfl rfl Kn.p0 Kn.q0 rfl rfl) (fun W hW => Sn.ok hW rfl rfl Kn.p0 Kn.q0)
theorem Kn.save2 {w : World} {g : Nat} (h : Kn.s1.At w g) : Calls Try.prog 45 #[.pointer (some ⟨g, 0, none⟩), .agg #[.int .u32 0, .int .i64 6, .int .i64 0, .int .i64 0]] w fun e w' => e = .returned (.tuple #[.agg #[.int .u32 2, .int .i64 6, .int .i64 0, .int .i64 0], .int .i64 0]) ∧ Kn.s2.At w' g ∧ Fs.Fr g w w' :=
  Sv.ok (s := Kn.s1) 0 6 0 0 1 5 0 0 2 64 true 1 h ⟨by decide, by decide⟩ rfl (Sr.may128 (s := Kn.s1) rfl 1 (by decide)) (by decide +kernel) (by decide) (by decide)
    (fun W hW => Sq.ok0t hW rfl rfl Kn.p1 Kn.q1 rfl rfl) (fun W hW => Sn.ok hW rfl rfl Kn.p1 Kn.q1)
theorem Kn.save3 {w : World} {g : Nat} (h : Kn.s3.At w g) : Calls Try.prog 45 #[.pointer (some ⟨g, 0, none⟩), .agg #[.int .u32 0, .int .i64 7, .int .i64 0, .int .i64 0]] w fun e w' => e = .returned (.tuple #[.agg #[.int .u32 0, .int .i64 0, .int .i64 0, .int .i64 0], .int .i64 10]) ∧ Kn.s4.At w' g ∧ Fs.Fr g w w' :=
  Sv.torn (s := Kn.s3) 0 7 0 0 2 6 0 0 3 0 true 0 h ⟨by decide, by decide⟩ rfl (by decide) (Sr.may128 (s := Kn.s3) rfl 0 (by decide)) (by decide +kernel) (by decide) (by decide)
    (fun W hW => Sq.ok1t (s := Kn.s3) hW rfl rfl Kn.p2 Kn.q2 rfl rfl) (fun W hW => Sn.ok (s := Kn.s3) hW rfl rfl Kn.p2 Kn.q2)
theorem Kn.load {w : World} {g : Nat} (h : Kn.s5.At w g) : Calls Try.prog 47 #[.pointer (some ⟨g, 0, none⟩)] w fun e w' => e = .returned (.tuple #[.agg #[.int .u32 2, .int .i64 6, .int .i64 0, .int .i64 0], .bool true, .int .i64 0]) ∧ Below w.heap.size w w' :=
  Sq.ok1t h rfl rfl Kn.p5 Kn.q5 rfl rfl
end Go.Proofs.Ytjldkgcabombhaa

/- Plain facts for SlotsWhole: what a store holds behind its writes, and behind one that is torn. -/
namespace Go.Proofs.Ytjldkgcabombhaa.Wh
set_option linter.unusedVariables false
open Go.RowKit Go.Proofs.Ytjldkgcabombhaa Go.Proofs.Ytjldkgcabombhaa.Rec Go.Proofs.Ytjldkgcabombhaa.QJ Go.Proofs.YtjldkgcabombhaaW.PrintWords Go.Proofs.YtjldkgcabombhaaW.PrintLast Go.Proofs.YtjldkgcabombhaaW.PrintMore

abbrev D5 := Int × Int × Int × Int × Int
abbrev R4 := Int × Int × Int × Int
/-- Is it whole? -/
def ok (p : D5) : Bool := p.2.2.2.2 == 0
def rec (p : D5) : R4 := (p.1, p.2.1, p.2.2.1, p.2.2.2.1)
/-- What is held by two slots. -/
def val (p q : D5) : R4 × Bool := if Sl.now p.1 (ok p) q.1 (ok q) = 0 then (if ok p = true then (rec p, true) else ((0, 0, 0, 0), false)) else (if ok q = true then (rec q, true) else ((0, 0, 0, 0), false))
def nxt (p q : D5) : Int := Sl.next p.1 (ok p) q.1 (ok q)
/-- The k-th record is held, in the slot of its number, and the other slot has nothing, or the one ahead of it. -/
def Held (k f d fl : Int) (p q : D5) : Prop :=
  (k = 0 ∧ f = 0 ∧ d = 0 ∧ fl = 0 ∧ ok p = false ∧ ok q = false) ∨
  (0 < k ∧ k % 2 = 1 ∧ p = (k, f, d, fl, 0) ∧ (ok q = false ∨ q.1 = k - 1)) ∨
  (0 < k ∧ k % 2 = 0 ∧ q = (k, f, d, fl, 0) ∧ (ok p = false ∨ p.1 = k - 1))
theorem held_pos {k f d fl : Int} {p q : D5} (h : Held k f d fl p q) : 0 ≤ k := by
  rcases h with ⟨h, _⟩ | ⟨h, _⟩ | ⟨h, _⟩ <;> omega
theorem held_val {k f d fl : Int} {p q : D5} (h : Held k f d fl p q) : val p q = ((k, f, d, fl), decide (0 < k)) := by
  rcases h with ⟨rfl, rfl, rfl, rfl, hp, hq⟩ | ⟨h0, h1, rfl, hq⟩ | ⟨h0, h1, rfl, hp⟩
  · unfold val
    rw [hp, hq]
    simp [Sl.now, Sl.ahead]
  · have e : Sl.now k true q.1 (ok q) = 0 := by
      unfold Sl.now Sl.ahead
      rcases hq with hq | hq
      · simp [hq]
      · rw [hq]
        cases ok q <;> simp <;> omega
    unfold val
    have hk : ok (k, f, d, fl, 0) = true := rfl
    rw [hk, if_pos e, if_pos rfl, decide_eq_true h0]
    rfl
  · have e : Sl.now p.1 (ok p) k true = 1 := by
      unfold Sl.now Sl.ahead
      rcases hp with hp | hp
      · simp [hp]
      · rw [hp, decide_eq_false (show ¬ k ≤ k - 1 by omega)]
        cases ok p <;> simp
    unfold val
    have hk : ok (k, f, d, fl, 0) = true := rfl
    rw [hk, if_neg (by rw [e]; decide), if_pos rfl, decide_eq_true h0]
    rfl
theorem held_nxt {k f d fl : Int} {p q : D5} (h : Held k f d fl p q) : nxt p q = k % 2 := by
  rcases h with ⟨rfl, rfl, rfl, rfl, hp, hq⟩ | ⟨h0, h1, rfl, hq⟩ | ⟨h0, h1, rfl, hp⟩
  · unfold nxt Sl.next
    rw [hp]
    rfl
  · unfold nxt Sl.next
    have hk : ok (k, f, d, fl, 0) = true := rfl
    rw [hk, h1, if_neg (by decide)]
    rcases hq with hq | hq
    · rw [hq]; rfl
    · rw [hq, decide_eq_true (show k - 1 < (k, f, d, fl, (0 : Int)).1 by show k - 1 < k; omega), Bool.or_true]; rfl
  · unfold nxt Sl.next
    have hk : ok (k, f, d, fl, 0) = true := rfl
    rw [hk, h1]
    rcases hp with hp | hp
    · rw [hp]; rfl
    · rw [hp, decide_eq_false (show ¬ (k, f, d, fl, (0 : Int)).1 < k - 1 by show ¬ k < k - 1; omega)]
      cases ok p <;> rfl
/-- Behind a write into the next slot. -/
theorem held_step {k f d fl f' d' fl' : Int} {p q : D5} (h : Held k f d fl p q) : (k % 2 = 0 → Held (k + 1) f' d' fl' (k + 1, f', d', fl', 0) q) ∧ (k % 2 = 1 → Held (k + 1) f' d' fl' p (k + 1, f', d', fl', 0)) := by
  rcases h with ⟨rfl, rfl, rfl, rfl, hp, hq⟩ | ⟨h0, h1, rfl, hq⟩ | ⟨h0, h1, rfl, hp⟩
  · exact ⟨fun _ => .inr (.inl ⟨by decide, by decide, rfl, .inl hq⟩), fun h => absurd h (by decide)⟩
  · exact ⟨fun h => by omega, fun _ => .inr (.inr ⟨by omega, by omega, rfl, .inr (by show k = k + 1 - 1; omega)⟩)⟩
  · exact ⟨fun _ => .inr (.inl ⟨by omega, by omega, rfl, .inr (by show k = k + 1 - 1; omega)⟩), fun h => by omega⟩
/-- Behind a torn write that left the next slot broken. -/
theorem held_broken {k f d fl : Int} {p q t : D5} (h : Held k f d fl p q) (ht : ok t = false) : (k % 2 = 0 → Held k f d fl t q) ∧ (k % 2 = 1 → Held k f d fl p t) := by
  rcases h with ⟨rfl, rfl, rfl, rfl, hp, hq⟩ | ⟨h0, h1, rfl, hq⟩ | ⟨h0, h1, rfl, hp⟩
  · exact ⟨fun _ => .inl ⟨rfl, rfl, rfl, rfl, ht, hq⟩, fun h => absurd h (by decide)⟩
  · exact ⟨fun h => by omega, fun _ => .inr (.inl ⟨by omega, by omega, rfl, .inl ht⟩)⟩
  · exact ⟨fun _ => .inr (.inr ⟨by omega, by omega, rfl, .inl ht⟩), fun h => by omega⟩

/-! ### a file whose slots are decoded -/
def half (s : Fs) (j : Nat) : List Int := (s.b.drop j).take 64
structure St (s : Fs) (k f d fl : Int) : Prop where
  size : s.size = 128
  set : s.set = false
  down : s.down = false
  bytes : Bytes s.b
  len : s.b.length = 4096
  held : Held k f d fl (Rd.dec (half s 0)) (Rd.dec (half s 64))
theorem bytes_lay {s : Fs} {l : Nat} {xs : List Int} (h : Bytes s.b) (hx : Bytes xs) : Bytes (s.lay l xs).b := by
  intro x hm
  have hm : x ∈ s.b.take l ++ xs ++ s.b.drop (l + xs.length) := hm
  rw [List.mem_append, List.mem_append] at hm
  rcases hm with (hm | hm) | hm
  · exact h x (List.mem_of_mem_take hm)
  · exact hx x hm
  · exact h x (List.mem_of_mem_drop hm)
theorem len_lay {s : Fs} {l : Nat} {xs : List Int} (h : s.b.length = 4096) (hx : l + xs.length ≤ 4096) : (s.lay l xs).b.length = 4096 := by
  show (s.b.take l ++ xs ++ s.b.drop (l + xs.length)).length = 4096
  rw [List.length_append, List.length_append, List.length_take, List.length_drop]
  omega
/-- Where the next slot begins. -/
def pos (k : Int) : Int := 64 * (k % 2)
theorem pos_cases (k : Int) : (k % 2 = 0 ∧ (pos k).toNat = 0) ∨ (k % 2 = 1 ∧ (pos k).toNat = 64) := by
  unfold pos
  rcases (by omega : k % 2 = 0 ∨ k % 2 = 1) with h | h <;> rw [h]
  · exact .inl ⟨rfl, rfl⟩
  · exact .inr ⟨rfl, rfl⟩
theorem St.step {s : Fs} {k f d fl f' d' fl' : Int} (h : St s k f d fl) (hw : Wf (k + 1) f' d' fl') : St (s.wrote (pos k).toNat (Rc.enc (k + 1) f' d' fl')) (k + 1) f' d' fl' := by
  have he := enc_length (k + 1) f' d' fl'
  rcases pos_cases k with ⟨hk, hp⟩ | ⟨hk, hp⟩ <;> rw [hp]
  · refine ⟨h.size, h.set, h.down, bytes_lay h.bytes (enc_bytes _ _ _ _), len_lay h.len (by omega), ?_⟩
    have e0 : half (s.wrote 0 (Rc.enc (k + 1) f' d' fl')) 0 = Rc.enc (k + 1) f' d' fl' := half00 s _ he
    have e1 : half (s.wrote 0 (Rc.enc (k + 1) f' d' fl')) 64 = half s 64 := half01 s _ (by omega)
    rw [e0, e1, dec_enc hw]
    exact (held_step h.held).1 hk
  · refine ⟨h.size, h.set, h.down, bytes_lay h.bytes (enc_bytes _ _ _ _), len_lay h.len (by omega), ?_⟩
    have e0 : half (s.wrote 64 (Rc.enc (k + 1) f' d' fl')) 0 = half s 0 := half10 s _ (by have := h.len; omega)
    have e1 : half (s.wrote 64 (Rc.enc (k + 1) f' d' fl')) 64 = Rc.enc (k + 1) f' d' fl' := half11 s _ (by have := h.len; omega) he
    rw [e0, e1, dec_enc hw]
    exact (held_step h.held).2 hk
/-- Behind a torn write, brought up. -/
def tore (s : Fs) (k : Int) (p : Int) (en : List Int) : Fs := {(s.crash p).torn (pos k).toNat (en.take (Fs.cut (s.crash p) 64).toNat) with down := false}
theorem half1t (s : Fs) (ys : List Int) (hb : 64 ≤ s.b.length) (hy : ys.length ≤ 64) : ((s.lay 64 ys).b.drop 64).take 64 = ys ++ ((s.b.drop 64).take 64).drop ys.length := by
  show ((s.b.take 64 ++ ys ++ s.b.drop (64 + ys.length)).drop 64).take 64 = _
  rw [List.append_assoc, List.drop_left' (by rw [List.length_take]; omega), List.take_append, List.take_of_length_le hy, List.drop_take, List.drop_drop]
/-- The next slot behind it. -/
def tslot (s : Fs) (k p : Int) (en : List Int) : List Int := en.take (Fs.cut (s.crash p) 64).toNat ++ (half s (pos k).toNat).drop (en.take (Fs.cut (s.crash p) 64).toNat).length
theorem tore_slot {s : Fs} {k p : Int} {en : List Int} (hb : s.b.length = 4096) (he : en.length = 64) : half (tore s k p en) (pos k).toNat = tslot s k p en := by
  have hy : (en.take (Fs.cut (s.crash p) 64).toNat).length ≤ 64 := by rw [List.length_take]; omega
  unfold tslot
  rcases pos_cases k with ⟨hk, hp⟩ | ⟨hk, hp⟩ <;> (unfold tore; rw [hp])
  · exact half0t (s.crash p) _ hy
  · exact half1t (s.crash p) _ (by show 64 ≤ s.b.length; omega) hy
theorem tore_other {s : Fs} {k p : Int} {en : List Int} (hb : s.b.length = 4096) (he : en.length = 64) : (k % 2 = 0 → half (tore s k p en) 64 = half s 64) ∧ (k % 2 = 1 → half (tore s k p en) 0 = half s 0) := by
  have hy : (en.take (Fs.cut (s.crash p) 64).toNat).length ≤ 64 := by rw [List.length_take]; omega
  rcases pos_cases k with ⟨hk, hp⟩ | ⟨hk, hp⟩ <;> (unfold tore; rw [hp])
  · exact ⟨fun _ => half01 (s.crash p) _ hy, fun h => by omega⟩
  · exact ⟨fun h => by omega, fun _ => half10 (s.crash p) _ (by show 64 ≤ s.b.length; omega)⟩
theorem tore_st {s : Fs} {k f d fl p : Int} {en : List Int} (h : St s k f d fl) (hen : Bytes en) (he : en.length = 64) : (tore s k p en).size = 128 ∧ (tore s k p en).set = false ∧ (tore s k p en).down = false ∧ Bytes (tore s k p en).b ∧ (tore s k p en).b.length = 4096 := by
  have hy : (en.take (Fs.cut (s.crash p) 64).toNat).length ≤ 64 := by rw [List.length_take]; omega
  have hq : (pos k).toNat ≤ 64 := by rcases pos_cases k with ⟨_, hp⟩ | ⟨_, hp⟩ <;> omega
  exact ⟨h.size, rfl, rfl, bytes_lay (s := s.crash p) h.bytes (bytes_take hen _), len_lay (s := s.crash p) h.len (by omega)⟩
/-- T5: what is held behind a torn write: what was held, or the new record. -/
theorem tore_held {s : Fs} {k f d fl f' d' fl' p : Int} (h : St s k f d fl) (hw : Wf (k + 1) f' d' fl') (hp : 0 ≤ p) (ht : ok (Rd.dec (tslot s k p (Rc.enc (k + 1) f' d' fl'))) = false ∨ tslot s k p (Rc.enc (k + 1) f' d' fl') = Rc.enc (k + 1) f' d' fl' ∨ p = 0) :
    St (tore s k p (Rc.enc (k + 1) f' d' fl')) k f d fl ∨ St (tore s k p (Rc.enc (k + 1) f' d' fl')) (k + 1) f' d' fl' := by
  have he := enc_length (k + 1) f' d' fl'
  have hs := tore_slot (s := s) (k := k) (p := p) (en := Rc.enc (k + 1) f' d' fl') h.len he
  have ho := tore_other (s := s) (k := k) (p := p) (en := Rc.enc (k + 1) f' d' fl') h.len he
  obtain ⟨h1, h2, h3, h4, h5⟩ := tore_st (p := p) h (enc_bytes (k + 1) f' d' fl') he
  rcases ht with ht | ht | rfl
  · refine .inl ⟨h1, h2, h3, h4, h5, ?_⟩
    rw [← hs] at ht
    rcases pos_cases k with ⟨hk, hq⟩ | ⟨hk, hq⟩
    · rw [hq] at ht
      rw [ho.1 hk]
      exact (held_broken h.held ht).1 hk
    · rw [hq] at ht
      rw [ho.2 hk]
      exact (held_broken h.held ht).2 hk
  · refine .inr ⟨h1, h2, h3, h4, h5, ?_⟩
    rw [ht] at hs
    rcases pos_cases k with ⟨hk, hq⟩ | ⟨hk, hq⟩
    · rw [hq] at hs
      rw [hs, ho.1 hk, dec_enc hw]
      exact (held_step h.held).1 hk
    · rw [hq] at hs
      rw [hs, ho.2 hk, dec_enc hw]
      exact (held_step h.held).2 hk
  · refine .inl ⟨h1, h2, h3, h4, h5, ?_⟩
    have e : (tore s k 0 (Rc.enc (k + 1) f' d' fl')).b = s.b := by
      have hc : (Fs.cut (s.crash 0) 64).toNat = 0 := by
        unfold Fs.cut
        rw [if_neg (by show ¬ ((64 : Nat) : Int) < 0; omega)]
        rfl
      show ((s.crash 0).lay (pos k).toNat ((Rc.enc (k + 1) f' d' fl').take (Fs.cut (s.crash 0) 64).toNat)).b = s.b
      rw [hc, List.take_zero]
      show s.b.take _ ++ [] ++ s.b.drop (_ + 0) = s.b
      rw [List.append_nil, Nat.add_zero, List.take_append_drop]
    unfold half
    rw [e]
    exact h.held
theorem wf64 {n : Int} (h : (Lit.int .i64 n).wf = true) : -9223372036854775808 ≤ n ∧ n ≤ 9223372036854775807 := by
  have := bounds_i64 h
  omega
theorem St.start : St (Fs.new 128) 0 0 0 0 := by
  refine ⟨rfl, rfl, rfl, zero_bytes _, List.length_replicate, .inl ⟨rfl, rfl, rfl, rfl, ?_, ?_⟩⟩
  · have := Kn.p0
    show ok (Rd.dec ((Kn.s0.b.drop 0).take 64)) = false
    rw [this]
    rfl
  · have := Kn.q0
    show ok (Rd.dec ((Kn.s0.b.drop 64).take 64)) = false
    rw [this]
    rfl
end Go.Proofs.Ytjldkgcabombhaa.Wh

/- The contracts of block's Down, Written and Copy, walked by hand. -/
namespace Go.Proofs.Ytjldkgcabombhaa
open Go.RowKit Go.Proofs.YtjldkgcabombhaaW.PrintWords Go.Proofs.YtjldkgcabombhaaW.PrintLast Go.Proofs.YtjldkgcabombhaaW.PrintMore
set_option linter.unusedVariables false
set_option linter.unusedSimpArgs false

set_option maxHeartbeats 400000 in
set_option maxRecDepth 100000 in
theorem Fs.down_calls {s : Fs} {w : World} {g : Nat} (h : s.At w g) : Calls Try.prog 41 #[.pointer (some ⟨g, 0, none⟩)] w fun e w' => e = .returned (.bool s.down) ∧ w' = w := by
  have hu := Try.underlying101
  have c3 := Fs.c_down h
  clear h
  go_enter Try.func41, Try.ntmps41
  go_wp2
  go_ret
  exact ⟨rfl, rfl⟩
set_option maxHeartbeats 400000 in
set_option maxRecDepth 100000 in
theorem Fs.written_calls {s : Fs} {w : World} {g : Nat} (h : s.At w g) : Calls Try.prog 42 #[.pointer (some ⟨g, 0, none⟩)] w fun e w' => e = .returned (.int .i64 s.wr) ∧ w' = w := by
  have hu := Try.underlying101
  have c4 := Fs.c_wr h
  clear h
  go_enter Try.func42, Try.ntmps42
  go_wp2
  go_ret
  exact ⟨rfl, rfl⟩
theorem Fs.size_cells {s : Fs} (h : s.b.length = 4096) : s.cells.size = 4101 := by
  unfold Fs.cells
  rw [List.size_toArray, List.length_append]
  have : (nums .u8 s.b).length = 4096 := by simp [nums, h]
  rw [this]
  rfl
theorem Fs.one_cell (s : Fs) : s.cells.all (·.oneCell') = true := by
  rw [Array.all_eq_true_iff_forall_mem]
  intro x hx
  unfold Fs.cells at hx
  rw [List.mem_toArray, List.mem_append] at hx
  rcases hx with hx | hx
  · obtain ⟨y, _, rfl⟩ := List.mem_map.mp hx
    rfl
  · unfold Fs.tail at hx
    simp at hx
    rcases hx with rfl | rfl | rfl | rfl | rfl <;> rfl
theorem Fs.info : (Try.prog.info? 101).map (·.size) = some 4101 := by kernel_rfl
set_option maxHeartbeats 400000 in
set_option maxRecDepth 100000 in
theorem Fs.copy_calls {s : Fs} {w : World} {g : Nat} (h : s.At w g) : Calls Try.prog 39 #[.pointer (some ⟨g, 0, none⟩)] w fun e w' => ∃ c : Nat, e = .returned (.pointer (some ⟨c, 0, none⟩)) ∧ c = w.heap.size ∧ s.At w' c ∧ Below w.heap.size w w' := by
  have hu := Try.underlying101
  have HA := Aside0.mk h
  have HZ := Aside0.mk (show (Try.prog.info? 101).map (·.size) = some s.cells.size from by rw [Fs.size_cells h.2]; exact Fs.info)
  obtain ⟨cs, hcs⟩ : ∃ cs, s.cells = cs := ⟨_, rfl⟩
  have HC := Aside0.mk hcs
  have hz : cs.size = 4101 := by rw [← hcs]; exact Fs.size_cells h.2
  have hg := h.1
  rw [hcs] at HZ hg
  have h1 : cs.all (·.oneCell') = true := by rw [← hcs]; exact Fs.one_cell s
  have hst := run_storeCells_new (P := Try.prog) w 101 Try.zeroCells101 cs (by rw [hz]; exact Fs.info) (by rw [hz]; kernel_rfl) h1
  have HG := Aside0.mk hg
  clear h hcs hg h1
  go_enter Try.func39, Try.ntmps39
  go_wp2_with (first
    | (refine wpList_load_row rfl 101 _ rfl g rfl 101 cs (0, 0) _ HG.out Try.underlying101 rfl HZ.out ?_))
  go_ret
  exact ⟨w.heap.size, rfl, rfl, ⟨by rw [HC.out]; exact blk_new w _, HA.out.2⟩, below_alloc (Below.refl _ _) _⟩
end Go.Proofs.Ytjldkgcabombhaa
