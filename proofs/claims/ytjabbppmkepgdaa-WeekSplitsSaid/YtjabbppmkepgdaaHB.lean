/- Contracts of the document's made and Of (big numbers), walked by hand: what is made is a cut of what came in, or new. -/
import Derived.Test.YtjabbppmkepgdaaProg
import Derived.Below
import Derived.Deep.Draws
import Derived.OwnWalk
import Derived.Tactics
import Derived.WalkKit
import Derived.WalkSpells
import Derived.WalkLawsBesides
import Derived.KernelRfl
import Derived.RowKit3
import Derived.Deep.LoopGhost
import Derived.Deep.QuietTactic
import Derived.BigQuiet
import Derived.WideLaws
import Derived.Deep.DeepCutAuto
import Derived.Deep.CutBlock
import Derived.Deep.RegionHeld3
import Derived.Lib.Hide
import Derived.IntWalk
import Derived.Outline
import Derived.Test.YtjabbppmkepgdaaWWords
import Derived.Test.YtjabbppmkepgdaaWLast
import Derived.Test.YtjabbppmkepgdaaWMore
import Derived.Test.YtjabbppmkepgdaaQBx2
import Derived.Laws.BitsLemmas
namespace Go.Proofs.Ytjabbppmkepgdaa
open Go.RowKit Go.Proofs.YtjabbppmkepgdaaW.PrintWords Go.Proofs.YtjabbppmkepgdaaW.PrintLast Go.Proofs.YtjabbppmkepgdaaW.PrintMore
set_option linter.unusedVariables false
set_option linter.unusedSimpArgs false

/-- How many words there are without noughts at the top. -/
def Bg.top (l : List Int) : Nat → Nat
  | 0 => 0
  | n + 1 => if rd l (n : Int) = 0 then Bg.top l n else n + 1
theorem Bg.top_le (l : List Int) : ∀ n, Bg.top l n ≤ n
  | 0 => Nat.le_refl _
  | n + 1 => by
    have := Bg.top_le l n
    unfold Bg.top
    split <;> omega
theorem Bg.top_zero {l : List Int} {t : Int} (h0 : 0 < t) (h : rd l (t - 1) = 0) : Bg.top l t.toNat = Bg.top l (t - 1).toNat := by
  obtain ⟨n, rfl⟩ : ∃ n : Nat, t = (n : Int) + 1 := ⟨(t - 1).toNat, by omega⟩
  rw [show ((n : Int) + 1).toNat = n + 1 by omega, show ((n : Int) + 1 - 1) = (n : Int) by omega] at *
  rw [Bg.top, if_pos h, Int.toNat_natCast]
theorem Bg.top_not {l : List Int} {t : Int} (h0 : 0 < t) (h : rd l (t - 1) ≠ 0) : Bg.top l t.toNat = t.toNat := by
  obtain ⟨n, rfl⟩ : ∃ n : Nat, t = (n : Int) + 1 := ⟨(t - 1).toNat, by omega⟩
  rw [show ((n : Int) + 1).toNat = n + 1 by omega, show ((n : Int) + 1 - 1) = (n : Int) by omega] at *
  rw [Bg.top, if_neg h]
def remontoireref01_made.f (s : Bool) (l : List Int) : Option (Bool × List Int) := some (if Bg.top l l.length = 0 then (false, []) else (s, l.take (Bg.top l l.length)))
theorem Bg.info95 : (Try.prog.info? 95).map (fun i => (i.zero, i.size, i.bytes)) = some (some (.int .u64 0), 1, 8) := by kernel_rfl

set_option maxHeartbeats 8000000 in
set_option maxRecDepth 100000 in
theorem remontoireref01_made.calls (s : Bool) (P : Nat → Prop) (A : Option Addr) (c : Nat) (l : List Int) (r1 : Bool) (r2 : List Int) (w : World) (hs : Kd.V (Kd.int .u64) 95 w w.heap.size (fun k_ => P k_) (.slice A l.length c) l) (h : remontoireref01_made.f s l = some (r1, r2)) :
    Calls Try.prog 67 #[.bool s, .slice A l.length c] w fun e w' => ∃ v1_ : Value, e = .returned (.agg #[.bool r1, v1_]) ∧ Kd.V (Kd.int .u64) 95 w' w.heap.size (fun k_ => (P k_ ∨ w.heap.size ≤ k_)) v1_ r2 ∧ Below w.heap.size w w' := by
  have hu68 := Try.underlying68
  have HE := Aside0.mk (Option.some.inj h)
  have HV := Aside0.mk hs
  have hlm : (l.length : Int) ≤ 9223372036854775807 := by
    have := Kd.F_max (Kd.V_F hs)
    omega
  clear hs h
  go_enter Try.func67, Try.ntmps67
  go_wp2
  have B1 := Aside0.mk (below_alloc (Below.refl w.heap.size w) (.cells #[.bool false, .slice none 0 0] 68 (0, 0)))
  have K1 := Aside0.mk (blk_new w (.cells #[.bool false, .slice none 0 0] 68 (0, 0)))
  go_loopw [5] (fun v5 wr => ∃ (t : Int), v5 = .int .i64 t ∧ Aside0 (0 ≤ t ∧ t ≤ l.length) ∧ Aside0 (Bg.top l t.toNat = Bg.top l l.length) ∧
      Aside0 (wr.heap[w.heap.size]? = some (.cells #[.bool false, .slice none 0 0] 68 (0, 0))) ∧ Aside0 (Below w.heap.size w wr)) (fun v5 _ => (intOf v5).toNat)
  case atStart => exact ⟨(l.length : Int), rfl, ⟨by omega, by omega⟩, ⟨by rw [Int.toNat_natCast]⟩, K1, B1⟩
  case round =>
    clear K1 B1
    obtain ⟨t, rfl, HT, HP, HK, HB⟩ := hrel
    obtain ⟨t0, t1⟩ := HT.out
    have tm : t ≤ 9223372036854775807 := by omega
    have HC := Aside0.mk (Kd.V_reads' (Kd.V_below HV.out HB.out)).2.2
    by_cases h1 : 0 < t
    · have d1 : decide (0 < t) = true := decide_eq_true h1
      have p101 : 0 ≤ t - 1 := by omega
      have q101 : t - 1 < (l.length : Int) := by omega
      obtain ⟨ad, e, hx⟩ := Kd.at_int HC.out (t - 1) p101 q101
      cases e
      have hx2 : wr.cell? (ad.add (t.toNat - 1)) = some (.int .u64 (rd l (t - 1))) := by rw [show t.toNat - 1 = (t - 1).toNat by omega]; exact hx
      by_cases h2 : rd l (t - 1) = 0
      · have d2 : (rd l (t - 1) == 0) = true := beq_iff_eq.mpr h2
        have HP2 := Aside0.mk ((Bg.top_zero h1 h2).symm.trans HP.out)
        have HR2 := Aside0.mk (show 0 ≤ t - 1 ∧ t - 1 ≤ l.length by omega)
        have HM := Aside0.mk h1
        have p1 : 1 ≤ t := by omega
        clear h1 h2 p101 HT HP t1
        go_wp2
        go_roundw
        case rel => exact ⟨t - 1, by go_num, HR2, HP2, HK, HB⟩
        case measure => have := HM.out; simp [intOf]; omega
      · have d2 : (rd l (t - 1) == 0) = false := beq_eq_false_iff_ne.mpr h2
        have d3 : (t == 0) = false := beq_eq_false_iff_ne.mpr (by omega)
        have hq := (Bg.top_not h1 h2).symm.trans HP.out
        obtain ⟨i0, hi, hz0, hz1, hz2⟩ := info_parts Bg.info95
        have HL := Aside0.mk (Kd.V_at HV.out).2.1
        have hsl := (print_take_int (P := Try.prog) (k := .u64) 66 95 Try.underlying66 hi hz1 (some ad) c l t t0 t1 HL.out).1
        have HLt := Aside0.mk (show (l.take t.toNat).length ≤ c by have := HL.out; rw [List.length_take]; omega)
        have HM := Aside0.mk (show t.toNat ≤ l.length by omega)
        have HX := HE.out
        rw [if_neg (show ¬ Bg.top l l.length = 0 by omega), ← hq] at HX
        obtain ⟨rfl, rfl⟩ := Prod.mk.inj HX
        have hk0 := blk_cell HK.out 0
        have hk1 := blk_cell HK.out 1
        have j0 := blk_frozen HK.out 0
        have j1 := blk_frozen HK.out 1
        have p1 : 1 ≤ t := by omega
        have HLen := Aside0.mk (show (l.take t.toNat).length = t.toNat by rw [List.length_take]; omega)
        clear h1 h2 p101 HX hq HE hz0 hz1 hz2
        go_wp2
        refine bodyPost_ret (results_cell_row rfl _ _ w.heap.size 68 #[.bool s, .slice (some ad) t.toNat c] (0, 0) _ rfl (blk_set (blk_set HK.out 0 _) 1 _) Try.underlying68 rfl (by kernel_rfl)) rfl ?_
        exact ⟨_, rfl, by rw [show (Value.slice (some ad) t.toNat c) = .slice (some ad) (l.take t.toNat).length c by rw [HLen.out]]; exact Kd.V_mk HLt.out (Kd.F_mono (Kd.F_far (Kd.F_far (Kd.F_imp (Kd.F_old (Kd.V_F HV.out) HB.out) (fun W' hC => Kd.C_take hC HM.out)) (fun k hk => Nat.ne_of_lt hk.2) _) (fun k hk => Nat.ne_of_lt hk.2) _) (fun k hk => .inl hk.1)),
          (HB.out.setCell (p := ⟨w.heap.size, 0, none⟩) (Nat.le_refl _) _).setCell (p := ⟨w.heap.size, 1, none⟩) (Nat.le_refl _) _⟩
    · obtain rfl : t = 0 := by omega
      have d1 : decide ((0 : Int) < 0) = false := by decide
      have hq := HP.out
      have HX := HE.out
      rw [if_pos (show Bg.top l l.length = 0 from hq.symm)] at HX
      obtain ⟨rfl, rfl⟩ := Prod.mk.inj HX
      have hk0 := blk_cell HK.out 0
      have hk1 := blk_cell HK.out 1
      have j0 := blk_frozen HK.out 0
      have j1 := blk_frozen HK.out 1
      clear h1 HX hq HE
      go_wp2
      refine bodyPost_ret (results_cell_row rfl _ _ w.heap.size 68 #[.bool false, .slice none 0 0] (0, 0) _ rfl (blk_set (blk_set HK.out 0 _) 1 _) Try.underlying68 rfl (by kernel_rfl)) rfl ?_
      exact ⟨_, rfl, Kd.V_nil _ _ _ _ _, (HB.out.setCell (p := ⟨w.heap.size, 0, none⟩) (Nat.le_refl _) _).setCell (p := ⟨w.heap.size, 1, none⟩) (Nat.le_refl _) _⟩

/-! ### Of -/
theorem Bg.not64 (x : Int) (h0 : 0 ≤ x) (h1 : x ≤ 18446744073709551615) : bits .xor .u64 IntKind.u64.max x = 18446744073709551615 - x := by
  obtain ⟨a, rfl⟩ := Int.eq_ofNat_of_zero_le h0
  have e : bits .xor .u64 IntKind.u64.max (a : Int) = IntKind.u64.wrap ((BitVec.ofInt 64 18446744073709551615 ^^^ BitVec.ofInt 64 (a : Int)).toNat : Int) := rfl
  have e1 : BitVec.ofInt 64 18446744073709551615 = BitVec.allOnes 64 := by decide
  rw [e, e1, BitVec.ofInt_natCast, BitVec.allOnes_xor, BitVec.toNat_not, BitVec.toNat_ofNat, Nat.mod_eq_of_lt (by omega)]
  simp [IntKind.wrap, IntKind.bits, IntKind.signed]
  omega
theorem Bg.two {W : World} {a b : Int} {g t q e : Nat} (h : W.heap[g]? = some (.cells #[.int .u64 a, .int .u64 b] t (0, 0))) : Kd.V (Kd.int .u64) e W q (fun k => k = g) (.slice (some ⟨g, 0, none⟩) 2 2) [a, b] := by
  refine Kd.V_mk (xs := [a, b]) (Nat.le_refl 2) (fun W' hW => ⟨rfl, (show (2 : Nat) ≤ 9223372036854775807 by omega), fun _ => ⟨⟨g, 0, none⟩, rfl, fun j p hj => ?_⟩⟩)
  have h' := (hW g rfl (blk_lt h)).trans h
  have c0 := blk_cell h' 0
  have c1 := blk_cell h' 1
  match j, hj with
  | 0, hj =>
    obtain rfl : a = p := by simpa using hj
    refine ⟨[.int .u64 a], rfl, rfl, fun i u hu => ?_⟩
    match i, hu with
    | 0, hu =>
      obtain rfl : Value.int .u64 a = u := by simpa using hu
      exact c0
    | i + 1, hu => simp at hu
  | 1, hj =>
    obtain rfl : b = p := by simpa using hj
    refine ⟨[.int .u64 b], rfl, rfl, fun i u hu => ?_⟩
    match i, hu with
    | 0, hu =>
      obtain rfl : Value.int .u64 b = u := by simpa using hu
      exact c1
    | i + 1, hu => simp at hu
  | j + 2, hj => simp at hj
def Bg.lo (n : Int) : Int := (if n < 0 then -n else n) % 4294967296
def Bg.hi (n : Int) : Int := (if n < 0 then -n else n) / 4294967296
def remontoireref01_Of.f (n : Int) : Option (Bool × List Int) := if -9223372036854775808 ≤ n ∧ n ≤ 9223372036854775807 then remontoireref01_made.f (decide (n < 0)) [Bg.lo n, Bg.hi n] else none

set_option maxHeartbeats 8000000 in
set_option maxRecDepth 100000 in
theorem remontoireref01_Of.calls (n : Int) (r1 : Bool) (r2 : List Int) (w : World) (h : remontoireref01_Of.f n = some (r1, r2)) :
    Calls Try.prog 52 #[.int .i64 n] w fun e w' => ∃ v1_ : Value, e = .returned (.agg #[.bool r1, v1_]) ∧ Kd.V (Kd.int .u64) 95 w' w.heap.size (fun k_ => (w.heap.size ≤ k_)) v1_ r2 ∧ Below w.heap.size w w' := by
  have hu68 := Try.underlying68
  unfold remontoireref01_Of.f at h
  by_cases hb : -9223372036854775808 ≤ n ∧ n ≤ 9223372036854775807
  · rw [if_pos hb] at h
    obtain ⟨b0, b1⟩ := hb
    have hsg : IntKind.u64.signed = false := rfl
    by_cases hn : n < 0
    · have d1 : decide (n < 0) = true := decide_eq_true hn
      rw [d1] at h
      have HE := Aside0.mk h
      have hw : IntKind.u64.wrap n = n + 18446744073709551616 := by simp [IntKind.wrap, IntKind.bits, IntKind.signed]; omega
      have e1 : IntKind.u64.wrap (bits .xor .u64 IntKind.u64.max (IntKind.u64.wrap n) + 1) = -n := by
        rw [hw, Bg.not64 _ (by omega) (by omega)]
        simp [IntKind.wrap, IntKind.bits, IntKind.signed]; omega
      have e2 : bits .and .u64 (-n) 4294967295 = Bg.lo n := by unfold Bg.lo; rw [if_pos hn]; exact bits_mask .u64 64 (by decide) (fun m h0 h1 => by simp [IntKind.wrap, IntKind.bits, IntKind.signed]; omega) 32 (by decide) (-n) (by omega) (by omega)
      have e3 : -n / 4294967296 = Bg.hi n := by unfold Bg.hi; rw [if_pos hn]
      have HN := Aside0.mk (show ((w.alloc (.cells #[.bool false, .slice none 0 0] 68 (0, 0))).alloc (.cells #[.int .u64 (Bg.lo n), .int .u64 (Bg.hi n)] 95 (0, 0))).heap[w.heap.size + 1]? = some (.cells #[.int .u64 (Bg.lo n), .int .u64 (Bg.hi n)] 95 (0, 0)) by simpa using blk_new (w.alloc (.cells #[.bool false, .slice none 0 0] 68 (0, 0))) (.cells #[.int .u64 (Bg.lo n), .int .u64 (Bg.hi n)] 95 (0, 0)))
      clear h hw hn
      go_enter Try.func52, Try.ntmps52
      go_wp2_with (go_at_call 67; (refine (remontoireref01_made.calls true (fun k => k = w.heap.size + 1) (some ⟨w.heap.size + 1, 0, none⟩) 2 [Bg.lo n, Bg.hi n] r1 r2 _ ?hv HE.out).mono ?_)
                   (case hv => exact Bg.two (t := 95) HN.out)
                   rintro e w1 ⟨v1, rfl, hv, hb⟩
                   have HV := Aside0.mk (Kd.V_mono (ok' := fun k => w.heap.size + 1 ≤ k) hv (fun k hk => by rcases hk with rfl | hk; exact Nat.le_refl _; simp at hk; omega))
                   have HB := Aside0.mk (below_then (below_alloc (below_alloc (Below.refl w.heap.size w) _) _) (below_alloc (below_alloc (Below.refl w.heap.size w) _) _).size hb)
                   have HK := Aside0.mk (blk_below (blk_alloc (blk_new w _) _) hb)
                   have hk0 := blk_cell HK.out 0
                   have hk1 := blk_cell HK.out 1
                   have j0 := blk_frozen HK.out 0
                   have j1 := blk_frozen HK.out 1
                   clear hv hb
                   obtain ⟨A1, c1, rfl⟩ := Kd.V_slice HV.out)
      refine bodyPost_ret (results_cell_row rfl _ _ w.heap.size 68 #[.bool r1, .slice A1 r2.length c1] (0, 0) _ rfl (blk_set (blk_set HK.out 0 _) 1 _) Try.underlying68 rfl (by kernel_rfl)) rfl ?_
      exact ⟨_, rfl, Kd.V_mono (Kd.V_far (p := ⟨w.heap.size, 1, none⟩) (Kd.V_far (p := ⟨w.heap.size, 0, none⟩) HV.out (fun k hk => Nat.ne_of_gt hk) _) (fun k hk => Nat.ne_of_gt hk) _) (fun k hk => Nat.le_of_succ_le hk), (HB.out.setCell (p := ⟨w.heap.size, 0, none⟩) (Nat.le_refl _) _).setCell (p := ⟨w.heap.size, 1, none⟩) (Nat.le_refl _) _⟩
    · have d1 : decide (n < 0) = false := decide_eq_false hn
      rw [d1] at h
      have HE := Aside0.mk h
      have hw : IntKind.u64.wrap n = n := by simp [IntKind.wrap, IntKind.bits, IntKind.signed]; omega
      have e2 : bits .and .u64 n 4294967295 = Bg.lo n := by unfold Bg.lo; rw [if_neg hn]; exact bits_mask .u64 64 (by decide) (fun m h0 h1 => by simp [IntKind.wrap, IntKind.bits, IntKind.signed]; omega) 32 (by decide) n (by omega) (by omega)
      have e3 : n / 4294967296 = Bg.hi n := by unfold Bg.hi; rw [if_neg hn]
      have HN := Aside0.mk (show ((w.alloc (.cells #[.bool false, .slice none 0 0] 68 (0, 0))).alloc (.cells #[.int .u64 (Bg.lo n), .int .u64 (Bg.hi n)] 95 (0, 0))).heap[w.heap.size + 1]? = some (.cells #[.int .u64 (Bg.lo n), .int .u64 (Bg.hi n)] 95 (0, 0)) by simpa using blk_new (w.alloc (.cells #[.bool false, .slice none 0 0] 68 (0, 0))) (.cells #[.int .u64 (Bg.lo n), .int .u64 (Bg.hi n)] 95 (0, 0)))
      have p0 : 0 ≤ n := by omega
      clear h hn
      go_enter Try.func52, Try.ntmps52
      go_wp2_with (go_at_call 67; (refine (remontoireref01_made.calls false (fun k => k = w.heap.size + 1) (some ⟨w.heap.size + 1, 0, none⟩) 2 [Bg.lo n, Bg.hi n] r1 r2 _ ?hv2 HE.out).mono ?_)
                   (case hv2 => exact Bg.two (t := 95) HN.out)
                   rintro e w1 ⟨v1, rfl, hv, hb⟩
                   have HV := Aside0.mk (Kd.V_mono (ok' := fun k => w.heap.size + 1 ≤ k) hv (fun k hk => by rcases hk with rfl | hk; exact Nat.le_refl _; simp at hk; omega))
                   have HB := Aside0.mk (below_then (below_alloc (below_alloc (Below.refl w.heap.size w) _) _) (below_alloc (below_alloc (Below.refl w.heap.size w) _) _).size hb)
                   have HK := Aside0.mk (blk_below (blk_alloc (blk_new w _) _) hb)
                   have hk0 := blk_cell HK.out 0
                   have hk1 := blk_cell HK.out 1
                   have j0 := blk_frozen HK.out 0
                   have j1 := blk_frozen HK.out 1
                   clear hv hb
                   obtain ⟨A1, c1, rfl⟩ := Kd.V_slice HV.out)
      refine bodyPost_ret (results_cell_row rfl _ _ w.heap.size 68 #[.bool r1, .slice A1 r2.length c1] (0, 0) _ rfl (blk_set (blk_set HK.out 0 _) 1 _) Try.underlying68 rfl (by kernel_rfl)) rfl ?_
      exact ⟨_, rfl, Kd.V_mono (Kd.V_far (p := ⟨w.heap.size, 1, none⟩) (Kd.V_far (p := ⟨w.heap.size, 0, none⟩) HV.out (fun k hk => Nat.ne_of_gt hk) _) (fun k hk => Nat.ne_of_gt hk) _) (fun k hk => Nat.le_of_succ_le hk), (HB.out.setCell (p := ⟨w.heap.size, 0, none⟩) (Nat.le_refl _) _).setCell (p := ⟨w.heap.size, 1, none⟩) (Nat.le_refl _) _⟩
  · rw [if_neg hb] at h
    exact absurd h (by simp)
end Go.Proofs.Ytjabbppmkepgdaa
