/- The iterators of repair.meant and repair.years, walked by hand: the seconds that each hands on, one behind the other. -/
import Derived.Test.YtjabbppmkepgdaaProg
import Derived.Below
import Derived.Deep.Draws
import Derived.OwnWalk
import Derived.Tactics
import Derived.WalkKit
import Derived.WalkSpells
import Derived.WalkLawsBesides
import Derived.KernelRfl
import Derived.RowKit3
import Derived.Deep.LoopGhost
import Derived.Deep.QuietTactic
import Derived.BigQuiet
import Derived.WideLaws
import Derived.Deep.DeepCutAuto
import Derived.Deep.CutBlock
import Derived.Deep.RegionHeld3
import Derived.Lib.Hide
import Derived.IntWalk
import Derived.Outline
import Derived.Test.YtjabbppmkepgdaaWWords
import Derived.Test.YtjabbppmkepgdaaWLast
import Derived.Test.YtjabbppmkepgdaaWMore
import Derived.Test.YtjabbppmkepgdaaRf
import Derived.Test.YtjabbppmkepgdaaPureCivilOf
namespace Go.Proofs.Ytjabbppmkepgdaa
open Go.RowKit Go.Shelf Go.Proofs.YtjabbppmkepgdaaW.PrintWords Go.Proofs.YtjabbppmkepgdaaW.PrintLast Go.Proofs.YtjabbppmkepgdaaW.PrintMore Go.Proofs.Ytjabbppmkepgdaa.QC Go.Proofs.Ytjabbppmkepgdaa.Pure
set_option linter.unusedVariables false
set_option linter.unusedSimpArgs false

/-! ### meant -/
def Rp.first (floor sec : Int) : Int :=
  wrap64 ((wrap64 ((wrap64 (floor + 2524953600)) - 100)) + (wrap64 ((Int.tmod (wrap64 (sec - (wrap64 ((wrap64 (floor + 2524953600)) - 100)))) 619315200) + 619315200)).tmod 619315200)
def Rp.at3 (floor sec k : Int) : Int := wrap64 (Rp.first floor sec + wrap64 (k * 619315200))
def Rp.three (floor sec : Int) : List Int := [Rp.at3 floor sec 0, Rp.at3 floor sec 1, Rp.at3 floor sec 2]
theorem Rp.three_take (floor sec k : Int) (h0 : 0 ≤ k) (h3 : k < 3) : (Rp.three floor sec).take (k + 1).toNat = (Rp.three floor sec).take k.toNat ++ [Rp.at3 floor sec k] := by
  obtain rfl | rfl | rfl : k = 0 ∨ k = 1 ∨ k = 2 := by omega
  all_goals rfl
theorem Rp.three_all (floor sec k : Int) (h3 : 3 ≤ k) : (Rp.three floor sec).take k.toNat = Rp.three floor sec := List.take_of_length_le (by show 3 ≤ k.toNat; omega)

set_option maxHeartbeats 8000000 in
set_option maxRecDepth 100000 in
theorem Rp.meant_word (n : Nat) (bf bm : Nat) (floor sec : Int) (w : World) (hf : w.cell? ⟨bf, 0, none⟩ = some (.int .i64 floor)) (hm : w.cell? ⟨bm, 2, none⟩ = some (.int .i64 sec)) :
    Rf.Word n Try.prog 78 #[.pointer (some ⟨bf, 0, none⟩), .pointer (some ⟨bm, 0, none⟩)] (Rp.three floor sec) w := by
  intro l J Jx W hl hb hJ hJx hY h0
  have hu61 := Try.underlying61
  have cf := (hb.cell (p := ⟨bf, 0, none⟩) (World.block_lt_of_cell? w _ hf)).trans hf
  have cm := (hb.cell (p := ⟨bm, 2, none⟩) (World.block_lt_of_cell? w _ hm)).trans hm
  have HJ := Aside0.mk h0
  have HY := Aside0.mk hY
  have HT := Aside0.mk (Rp.three_take floor sec)
  have HA := Aside0.mk (Rp.three_all floor sec)
  clear h0 hY hJ hJx hf hm
  refine callsIn_of_wp Try.func78 rfl trivial ?_
  simp only [Try.ntmps78, List.size_toArray, List.length_cons, List.length_nil, Nat.reduceAdd, Nat.reduceSub, Array.replicate_succ, Array.replicate_zero, List.push_toArray, List.append_toArray, List.nil_append, List.cons_append]
  gi_wp2
  gi_loopw [19] (fun p wr => ∃ k : Int, p = .int .i64 k ∧ Aside0 (0 ≤ k) ∧ Aside0 (k ≤ 3) ∧ Aside0 (J ((Rp.three floor sec).take k.toNat) wr)) (fun p _ => (3 - intOf p).toNat)
  case atStart => exact ⟨0, rfl, ⟨Int.le_refl _⟩, ⟨by decide⟩, HJ⟩
  case round =>
    obtain ⟨k, rfl, HK0, HK3, HJk⟩ := hrel
    by_cases hk : k < 3
    · have e := HT.out k HK0.out hk
      obtain ⟨fn, tmps, assign, bodyc, hy, hR⟩ := HY.out _ (Rp.at3 floor sec k) wr HJk.out (by rw [← e]; exact List.take_prefix _ _)
      rw [← e] at hR
      have HLT := Aside0.mk hk
      have d0 : decide (k < 3) = true := decide_eq_true hk
      have w1_ : wrap64 (k + 1) = k + 1 := cw64 _ (by have := HK0.out; omega)
      simp only [Rp.at3, Rp.first] at hy
      clear hk e
      gi_wp2
      refine ⟨(fun h => by simp [Fence.wide] at h), hR.mono ?_⟩
      rintro e2 W2 (⟨rfl, hJ2, hk2⟩ | ⟨rfl, hJx2⟩)
      · have HJ2 := Aside0.mk hJ2
        clear hJ2 hk2
        gi_wp2
        go_roundw
        case rel => exact ⟨k + 1, by first | rfl | (rw [w1_]) | (simp [w1_]; done), ⟨by have := HK0.out; omega⟩, ⟨by have := HLT.out; omega⟩, HJ2⟩
        case measure => have := HLT.out; have := HK0.out; simp [intOf, w1_]; omega
      · have HJx2 := Aside0.mk hJx2
        clear hJx2
        gi_wp2
        refine bodyPost_ret (results_none rfl _ _ _) rfl ?_
        exact ⟨⟨_, rfl⟩, .inr HJx2.out⟩
    · have d0 : decide (k < 3) = false := decide_eq_false hk
      have e := HA.out k (by omega)
      rw [e] at HJk
      clear hk e
      gi_wp2
      go_end0
      exact ⟨⟨_, rfl⟩, .inl HJk.out⟩

/-! ### years -/
/-- What years hands on: over y, y + 100, .. below 2200 (at most n of them) the seconds of those that are moments. -/
noncomputable def Rp.yl (m d h mi s : Int) : Nat → Int → List Int
  | 0, _ => []
  | n + 1, y => if y < 2200 then (if (csecR y m d h mi s).2 = 0 then (csecR y m d h mi s).1 :: Rp.yl m d h mi s n (y + 100) else Rp.yl m d h mi s n (y + 100)) else []
noncomputable def Rp.years (a : Int × Int × Int × Int × Int × Int × Int) : List Int :=
  if a.2.2.2.2.2.2 = 0 then Rp.yl a.2.1 a.2.2.1 a.2.2.2.1 a.2.2.2.2.1 a.2.2.2.2.2.1 4 (1900 + a.1.tmod 100) else []
theorem Rp.yl_end (m d h mi s : Int) (n : Nat) (y : Int) (hy : ¬ y < 2200) : Rp.yl m d h mi s n y = [] := by
  cases n with
  | zero => rfl
  | succ n => unfold Rp.yl; rw [if_neg hy]
theorem Rp.yl_yes (m d h mi s : Int) (n : Nat) (y : Int) (hy : y < 2200) (s2 : Int) (hc : csecR y m d h mi s = (s2, 0)) : Rp.yl m d h mi s (n + 1) y = s2 :: Rp.yl m d h mi s n (y + 100) := by
  rw [Rp.yl, if_pos hy, hc, if_pos rfl]
theorem Rp.yl_no (m d h mi s : Int) (n : Nat) (y : Int) (hy : y < 2200) (s2 er : Int) (hc : csecR y m d h mi s = (s2, er)) (he : er ≠ 0) : Rp.yl m d h mi s (n + 1) y = Rp.yl m d h mi s n (y + 100) := by
  rw [Rp.yl, if_pos hy, hc, if_neg he]
theorem Rp.cells6 {w : World} {b : Nat} {v0 v1 v2 v3 v4 v5 : Value} {t : TypeId} (h : w.heap[b]? = some (.cells #[v0, v1, v2, v3, v4, v5] t (0, 0))) :
    w.cell? ⟨b, 0, none⟩ = some v0 ∧ w.cell? ⟨b, 1, none⟩ = some v1 ∧ w.cell? ⟨b, 2, none⟩ = some v2 ∧ w.cell? ⟨b, 3, none⟩ = some v3 ∧ w.cell? ⟨b, 4, none⟩ = some v4 ∧ w.cell? ⟨b, 5, none⟩ = some v5 :=
  ⟨(blk_cell h 0).trans rfl, (blk_cell h 1).trans rfl, (blk_cell h 2).trans rfl, (blk_cell h 3).trans rfl, (blk_cell h 4).trans rfl, (blk_cell h 5).trans rfl⟩

set_option maxHeartbeats 8000000 in
set_option maxRecDepth 100000 in
theorem Rp.years_word (n : Nat) (bs k : Nat) (sec : Int) (a0 a1 a2 a3 a4 a5 a6 : Int) (w : World) (hs : w.cell? ⟨bs, 0, none⟩ = some (.int .i64 sec)) (hof : civil_Of.f k sec = some (a0, a1, a2, a3, a4, a5, a6)) (hy0 : 0 ≤ a0) :
    Rf.Word n Try.prog 79 #[.pointer (some ⟨bs, 0, none⟩)] (Rp.years (a0, a1, a2, a3, a4, a5, a6)) w := by
  intro l J Jx W hl hb hJ hJx hY h0
  have hu40 := Try.underlying40
  have cs := (hb.cell (p := ⟨bs, 0, none⟩) (World.block_lt_of_cell? w _ hs)).trans hs
  have HJ0 := Aside0.mk h0
  have HJS := Aside0.mk hJ
  have HY := Aside0.mk hY
  have HOF := Aside0.mk hof
  have HLL := Aside0.mk hl
  have HYY := Aside0.mk hy0
  clear h0 hY hJ hJx hs hof hl hy0
  by_cases he : a6 = 0
  · subst he
    obtain ⟨xs, hxs⟩ : ∃ xs, Rp.years (a0, a1, a2, a3, a4, a5, 0) = xs := ⟨_, rfl⟩
    rw [hxs] at HY ⊢
    have HXS := Aside0.mk (show xs = Rp.yl a1 a2 a3 a4 a5 4 (1900 + a0.tmod 100) from hxs.symm.trans (if_pos rfl))
    clear hxs
    have htm : 0 ≤ a0.tmod 100 ∧ a0.tmod 100 < 100 := by rw [Int.tmod_eq_emod_of_nonneg HYY.out]; omega
    have w0_ : wrap64 (1900 + a0.tmod 100) = 1900 + a0.tmod 100 := cw64 _ (by omega)
    have HTM := Aside0.mk htm
    have W0 := Aside0.mk w0_
    clear htm w0_
    refine callsIn_of_wp Try.func79 rfl trivial ?_
    simp only [Try.ntmps79, List.size_toArray, List.length_cons, List.length_nil, Nat.reduceAdd, Nat.reduceSub, Array.replicate_succ, Array.replicate_zero, List.push_toArray, List.append_toArray, List.nil_append, List.cons_append]
    gi_wp2_with (refine ⟨trivial, (fun h => by simp [Fence.wide] at h), ?_⟩; gi_at_call 31; (with_reducible refine (callsIn_wide.2 (civil_Of.calls k sec a0 a1 a2 a3 a4 a5 0 _ HOF.out)).mono ?_); rintro e w1 ⟨rfl, hb1⟩
                 have HB1 := Aside0.mk hb1
                 have HS1 := Aside0.mk hb1.size
                 have HK1 := Aside0.mk (blk_new w1 (.cells #[.int .i64 a0, .int .i64 a1, .int .i64 a2, .int .i64 a3, .int .i64 a4, .int .i64 a5] 40 (0, 0)))
                 obtain ⟨c0, c1, c2, c3, c4, c5⟩ := Rp.cells6 HK1.out
                 clear hb1)
    clear c0 c1 c2 c3 c4 c5
    gi_loopw [5] (fun p wr => ∃ (y yy : Int) (m : Nat) (pre : List Int), p = .int .i64 y ∧ Aside0 (1900 ≤ y ∧ y ≤ 2400) ∧ Aside0 (xs = pre ++ Rp.yl a1 a2 a3 a4 a5 m y) ∧ Aside0 (2200 ≤ y + 100 * (m : Int)) ∧ Aside0 (J pre wr) ∧
      Aside0 (wr.heap[w1.heap.size]? = some (.cells #[.int .i64 yy, .int .i64 a1, .int .i64 a2, .int .i64 a3, .int .i64 a4, .int .i64 a5] 40 (0, 0)))) (fun p _ => (2400 - intOf p).toNat)
    case atStart =>
      exact ⟨1900 + a0.tmod 100, a0, 4, [], by rw [W0.out], ⟨by have := HTM.out; omega⟩, HXS, ⟨by have := HTM.out; omega⟩, ⟨HJS.out _ _ _ HJ0.out (below_alloc HB1.out _)⟩, HK1⟩
    case round =>
      obtain ⟨y, yy, m, pre, rfl, HYB, HX, HM, HJ1, HK⟩ := hrel
      by_cases hy : y < 2200
      · have d0 : decide (y < 2200) = true := decide_eq_true hy
        obtain ⟨m1, rfl⟩ : ∃ m1, m = m1 + 1 := ⟨m - 1, by have := HM.out; omega⟩
        have HYL := Aside0.mk hy
        have w1_ : wrap64 (y + 100) = y + 100 := cw64 _ (by have := HYB.out; omega)
        have cy := blk_cell HK.out 0
        have fy := blk_frozen HK.out 0
        have HKs := Aside0.mk (blk_put HK.out 0 (.int .i64 y) rfl)
        have HJ1s := Aside0.mk (HJS.out _ _ (wr.setCell ⟨w1.heap.size, 0, none⟩ (.int .i64 y)) HJ1.out ((Below.refl _ _).setCell (p := ⟨w1.heap.size, 0, none⟩) HS1.out _))
        obtain ⟨c0, c1, c2, c3, c4, c5⟩ := Rp.cells6 HKs.out
        obtain ⟨s2, er, hse⟩ : ∃ s2 er, csecR y a1 a2 a3 a4 a5 = (s2, er) := ⟨_, _, rfl⟩
        obtain ⟨k2, hk2⟩ := Ev.rounds (csec_tells y a1 a2 a3 a4 a5)
        rw [hse] at hk2
        have HC := Aside0.mk hk2
        have HSE := Aside0.mk hse
        clear hk2 hse
        have hsz : W.heap.size ≤ (wr.setCell ⟨w1.heap.size, 0, none⟩ (.int .i64 y)).heap.size := by have := blk_lt HKs.out; have := HS1.out; omega
        have HSZ := Aside0.mk hsz
        clear hsz
        by_cases her : er = 0
        · subst her
          have HE := Aside0.mk (Rp.yl_yes a1 a2 a3 a4 a5 m1 y hy s2 HSE.out)
          clear hy
          gi_wp2_with (refine ⟨trivial, (fun h => by simp [Fence.wide] at h), ?_⟩; gi_at_call 29; (with_reducible refine (callsIn_wide.2 (civil_Second.calls k2 y a1 a2 a3 a4 a5 s2 0 _ HC.out)).mono ?_); rintro e w3 ⟨rfl, hb3⟩
                       have HJ3 := Aside0.mk (HJS.out _ _ w3 HJ1s.out (hb3.mono HSZ.out))
                       have HK3 := Aside0.mk (blk_below HKs.out hb3)
                       clear hb3 c0 c1 c2 c3 c4 c5
                       obtain ⟨fn, tmps, assign, bodyc, hyy, hR⟩ := HY.out pre s2 w3 HJ3.out ⟨Rp.yl a1 a2 a3 a4 a5 m1 (y + 100), by rw [HX.out, HE.out]; simp⟩)
          refine ⟨(fun h => by simp [Fence.wide] at h), hR.mono ?_⟩
          rintro e2 W2 (⟨rfl, hJ2, hk2⟩ | ⟨rfl, hJx2⟩)
          · have HJ2 := Aside0.mk hJ2
            have HK2 := Aside0.mk ((hk2.2 w1.heap.size (by have := HLL.out; have := HS1.out; omega) (blk_lt HK3.out)).trans HK3.out)
            clear hJ2 hk2
            gi_wp2
            go_roundw
            case rel => exact ⟨y + 100, y, m1, pre ++ [s2], by first | rfl | (rw [w1_]) | (simp [w1_]; done), ⟨by have := HYB.out; have := HYL.out; omega⟩, ⟨by rw [HX.out, HE.out]; simp⟩, ⟨by have := HM.out; omega⟩, HJ2, HK2⟩
            case measure => have := HYL.out; have := HYB.out; simp [intOf, w1_]; omega
          · have HJx2 := Aside0.mk hJx2
            clear hJx2
            gi_wp2
            refine bodyPost_ret (results_none rfl _ _ _) rfl ?_
            exact ⟨⟨_, rfl⟩, .inr HJx2.out⟩
        · have HE := Aside0.mk (Rp.yl_no a1 a2 a3 a4 a5 m1 y hy s2 er HSE.out her)
          have d1 : (er == 0) = false := beq_eq_false_iff_ne.mpr her
          clear hy her
          gi_wp2_with (refine ⟨trivial, (fun h => by simp [Fence.wide] at h), ?_⟩; gi_at_call 29; (with_reducible refine (callsIn_wide.2 (civil_Second.calls k2 y a1 a2 a3 a4 a5 s2 er _ HC.out)).mono ?_); rintro e w3 ⟨rfl, hb3⟩
                       have HJ3 := Aside0.mk (HJS.out _ _ w3 HJ1s.out (hb3.mono HSZ.out))
                       have HK3 := Aside0.mk (blk_below HKs.out hb3)
                       clear hb3 c0 c1 c2 c3 c4 c5)
          refine ⟨(fun _ h => by cases h), ?_⟩
          gi_wp2
          go_roundw
          case rel => exact ⟨y + 100, y, m1, pre, by first | rfl | (rw [w1_]) | (simp [w1_]; done), ⟨by have := HYB.out; have := HYL.out; omega⟩, ⟨by rw [HX.out, HE.out]⟩, ⟨by have := HM.out; omega⟩, HJ3, HK3⟩
          case measure => have := HYL.out; have := HYB.out; simp [intOf, w1_]; omega
      · have d0 : decide (y < 2200) = false := decide_eq_false hy
        have hx := HX.out
        rw [Rp.yl_end a1 a2 a3 a4 a5 m y hy, List.append_nil] at hx
        rw [← hx] at HJ1
        clear hy hx
        gi_wp2
        go_end0
        exact ⟨⟨_, rfl⟩, .inl HJ1.out⟩
  · have HXS := Aside0.mk (show Rp.years (a0, a1, a2, a3, a4, a5, a6) = [] from if_neg he)
    rw [HXS.out]
    have d1 : (a6 != 0) = true := bne_iff_ne.mpr he
    clear he
    refine callsIn_of_wp Try.func79 rfl trivial ?_
    simp only [Try.ntmps79, List.size_toArray, List.length_cons, List.length_nil, Nat.reduceAdd, Nat.reduceSub, Array.replicate_succ, Array.replicate_zero, List.push_toArray, List.append_toArray, List.nil_append, List.cons_append]
    gi_wp2_with (refine ⟨trivial, (fun h => by simp [Fence.wide] at h), ?_⟩; gi_at_call 31; (with_reducible refine (callsIn_wide.2 (civil_Of.calls k sec a0 a1 a2 a3 a4 a5 a6 _ HOF.out)).mono ?_); rintro e w1 ⟨rfl, hb1⟩
                 have HB1 := Aside0.mk hb1
                 clear hb1)
    refine bodyPost_ret (results_none rfl _ _ _) rfl ?_
    exact ⟨⟨_, rfl⟩, .inl (HJS.out _ _ _ HJ0.out (below_alloc HB1.out _))⟩
end Go.Proofs.Ytjabbppmkepgdaa
