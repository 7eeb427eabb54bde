/- Contracts of leap.find over each of its closures, walked by hand over the printed contract of leap.Table: it comes to the last line of the table of which the closure holds. -/
import Derived.Test.YtjabbppmkepgdaaProg
import Derived.Below
import Derived.Deep.Draws
import Derived.OwnWalk
import Derived.Tactics
import Derived.WalkKit
import Derived.WalkSpells
import Derived.WalkLawsBesides
import Derived.KernelRfl
import Derived.RowKit3
import Derived.Deep.LoopGhost
import Derived.Deep.QuietTactic
import Derived.BigQuiet
import Derived.WideLaws
import Derived.Deep.DeepCutAuto
import Derived.Deep.CutBlock
import Derived.Deep.RegionHeld3
import Derived.Lib.Hide
import Derived.IntWalk
import Derived.Outline
import Derived.Test.YtjabbppmkepgdaaWWords
import Derived.Test.YtjabbppmkepgdaaWLast
import Derived.Test.YtjabbppmkepgdaaWMore
import Derived.Test.YtjabbppmkepgdaaQLx1
namespace Go.Proofs.Ytjabbppmkepgdaa
open Go.RowKit Go.Proofs.YtjabbppmkepgdaaW.PrintWords Go.Proofs.YtjabbppmkepgdaaW.PrintLast Go.Proofs.YtjabbppmkepgdaaW.PrintMore Go.Proofs.Ytjabbppmkepgdaa.QL
set_option linter.unusedVariables false
set_option linter.unusedSimpArgs false

/-- The last line of which it holds. -/
def Lp.find (p : S52 → Bool) (T : List S52) : S52 := T.foldl (fun o x => if p x = true then x else o) z52
theorem Lp.find_snoc (p : S52 → Bool) (T : List S52) (x : S52) : Lp.find p (T ++ [x]) = if p x = true then x else Lp.find p T := by
  unfold Lp.find; rw [List.foldl_append]; rfl
theorem Lp.take_snoc (T : List S52) (i : Nat) (h : i < T.length) : T.take (i + 1) = T.take i ++ [rd_T52 T (i : Int)] := by
  rw [List.take_succ_eq_append_getElem h]
  unfold rd_T52
  simp [List.getD, h]

set_option maxHeartbeats 8000000 in
set_option maxRecDepth 100000 in
theorem Lp.clo64 (x y z v : Int) (b : Nat) (w : World) (hc : w.cell? ⟨b, 0, none⟩ = some (.int .i64 v)) :
    Calls Try.prog 64 #[.agg #[.int .i64 x, .int .i64 y, .int .i64 z], .pointer (some ⟨b, 0, none⟩)] w fun e w' => e = .returned (.bool (decide (y ≤ v))) ∧ Below w.heap.size w w' := by
  have hl : b < w.heap.size := World.block_lt_of_cell? w _ hc
  have hu52 := Try.underlying52
  go_enter Try.func64, Try.ntmps64
  go_wp2
  go_ret
  exact ⟨by first | rfl | (simp; done) | (simp [*]; done), by repeat (first | exact Below.refl _ _ | apply pw_below_drewN | apply below_alloc)⟩

set_option maxHeartbeats 8000000 in
set_option maxRecDepth 100000 in
theorem Lp.find64 (v : Int) (b k : Nat) (T : List S52) (w : World) (hT : leap_Table.f k = some T) (hTl : T.length ≤ 1000) (hc : w.cell? ⟨b, 0, none⟩ = some (.int .i64 v)) :
    Calls Try.prog 62 #[.func (.func 64) #[] #[.pointer (some ⟨b, 0, none⟩)]] w fun e w' =>
      e = .returned (.agg #[.int .i64 (Lp.find (fun x => decide (x.f1 ≤ v)) T).f0, .int .i64 (Lp.find (fun x => decide (x.f1 ≤ v)) T).f1, .int .i64 (Lp.find (fun x => decide (x.f1 ≤ v)) T).f2]) ∧ Below w.heap.size w w' := by
  have hu52 := Try.underlying52
  have hl : b < w.heap.size := World.block_lt_of_cell? w _ hc
  have HT := Aside0.mk hT
  have HC := Aside0.mk hc
  have HL := Aside0.mk hl
  have HTL := Aside0.mk hTl
  clear hT hc hl hTl
  go_enter Try.func62, Try.ntmps62
  go_wp2_with (go_at_call 34; (with_reducible refine (leap_Table.calls k T _ HT.out).mono ?_); rintro e w1 ⟨v0, rfl, ho, hb⟩
               have HB1 := Aside0.mk (below_then (below_alloc (Below.refl w.heap.size w) _) (below_alloc (Below.refl w.heap.size w) _).size hb)
               have HK1 := Aside0.mk (blk_below (blk_new w _) hb)
               have HO := Aside0.mk (Kd.R_mono (Kd.R_bound ho) (ok' := fun k => k ≠ w.heap.size) (fun k hk => by have := hk.2.1; simp at this; omega))
               clear ho hb
               obtain ⟨A, c, e⟩ := Kd.R_slice HO.out
               subst e)
  go_loopw [7] (fun v7 wr => ∃ (i : Nat), v7 = .int .i64 i ∧ Aside0 (i ≤ T.length) ∧
      Aside0 (wr.heap[w.heap.size]? = some (.cells #[.int .i64 (Lp.find (fun x => decide (x.f1 ≤ v)) (T.take i)).f0, .int .i64 (Lp.find (fun x => decide (x.f1 ≤ v)) (T.take i)).f1, .int .i64 (Lp.find (fun x => decide (x.f1 ≤ v)) (T.take i)).f2] 52 (0, 0))) ∧
      Aside0 (∃ q, Kd.R k52 52 wr q (fun k => k ≠ w.heap.size) (.slice A T.length c) T) ∧ Aside0 (Below w.heap.size w wr)) (fun v7 _ => T.length - (intOf v7).toNat)
  case atStart => exact ⟨0, rfl, ⟨Nat.zero_le _⟩, HK1, ⟨_, HO.out⟩, HB1⟩
  case round =>
    clear HO HK1 HB1
    obtain ⟨i, rfl, HI, HK, HO, HB⟩ := hrel
    obtain ⟨q, hO⟩ := HO.out
    clear HO
    have HO := Aside0.mk hO
    clear hO
    by_cases hlt : i < T.length
    · have p0 : 0 ≤ ((i : Nat) : Int) := Int.natCast_nonneg _
      have q0 : ((i : Nat) : Int) < (T.length : Int) := by omega
      obtain ⟨ad, e, hx0, hx1, hx2⟩ := at_T52 (Kd.R_reads' HO.out).2.2 (i : Int) p0 q0
      cases e
      simp only [Int.toNat_natCast] at hx0 hx1 hx2
      have HTS := Aside0.mk (Lp.take_snoc T i hlt)
      have HLT := Aside0.mk hlt
      have hi1 : ((i : Nat) : Int) < 1000 := by have := HTL.out; omega
      have m0 : w.heap.size < wr.heap.size := blk_lt HK.out
      clear hlt
      by_cases hp : (rd_T52 T (i : Int)).f1 ≤ v
      · have HF := Aside0.mk (show Lp.find (fun x => decide (x.f1 ≤ v)) (T.take (i + 1)) = rd_T52 T (i : Int) by rw [HTS.out, Lp.find_snoc, if_pos (decide_eq_true hp)])
        have hd : decide ((rd_T52 T (i : Int)).f1 ≤ v) = true := decide_eq_true hp
        clear hp
        go_wp2_with (go_at_call 64; (with_reducible refine (Lp.clo64 _ _ _ v b _ ?hc).mono ?_)
                     (case hc => exact (World.cell?_alloc_lt _ _ _ (Nat.lt_trans HL.out m0)).trans ((HB.out.cell (p := ⟨b, 0, none⟩) HL.out).trans HC.out))
                     rintro e w2 ⟨rfl, hb⟩
                     have K2 := Aside0.mk (blk_below (blk_alloc HK.out _) hb)
                     have N2 := Aside0.mk (blk_below (blk_new wr _) hb)
                     have O2 := Aside0.mk (Kd.R_below (Kd.R_alloc HO.out _) hb)
                     have B2 := Aside0.mk (below_then (below_alloc HB.out _) (below_alloc HB.out _).size hb)
                     have d0 := blk_cell N2.out 0
                     have d1 := blk_cell N2.out 1
                     have d2 := blk_cell N2.out 2
                     have g0 := blk_cell K2.out 0
                     have g1 := blk_cell K2.out 1
                     have g2 := blk_cell K2.out 2
                     have j0 := blk_frozen K2.out 0
                     have j1 := blk_frozen K2.out 1
                     have j2 := blk_frozen K2.out 2
                     clear hb)
        go_roundw
        case rel => exact ⟨i + 1, by go_num, ⟨HLT.out⟩, ⟨by rw [HF.out]; exact blk_set (blk_set (blk_set K2.out 0 _) 1 _) 2 _⟩, ⟨_, Kd.R_far (Kd.R_far (Kd.R_far O2.out (fun k hk => hk) _) (fun k hk => hk) _) (fun k hk => hk) _⟩,
          ⟨((B2.out.setCell (p := ⟨w.heap.size, 0, none⟩) (Nat.le_refl _) _).setCell (p := ⟨w.heap.size, 1, none⟩) (Nat.le_refl _) _).setCell (p := ⟨w.heap.size, 2, none⟩) (Nat.le_refl _) _⟩⟩
        case measure => have := HLT.out; simp [intOf]; omega
      · have HF := Aside0.mk (show Lp.find (fun x => decide (x.f1 ≤ v)) (T.take (i + 1)) = Lp.find (fun x => decide (x.f1 ≤ v)) (T.take i) by rw [HTS.out, Lp.find_snoc, if_neg (by simpa using hp)])
        have hd : decide ((rd_T52 T (i : Int)).f1 ≤ v) = false := decide_eq_false hp
        clear hp
        go_wp2_with (go_at_call 64; (with_reducible refine (Lp.clo64 _ _ _ v b _ ?hc2).mono ?_)
                     (case hc2 => exact (World.cell?_alloc_lt _ _ _ (Nat.lt_trans HL.out m0)).trans ((HB.out.cell (p := ⟨b, 0, none⟩) HL.out).trans HC.out))
                     rintro e w2 ⟨rfl, hb⟩
                     have K2 := Aside0.mk (blk_below (blk_alloc HK.out _) hb)
                     have O2 := Aside0.mk (Kd.R_below (Kd.R_alloc HO.out _) hb)
                     have B2 := Aside0.mk (below_then (below_alloc HB.out _) (below_alloc HB.out _).size hb)
                     clear hb)
        go_roundw
        case rel => exact ⟨i + 1, by go_num, ⟨HLT.out⟩, ⟨by rw [HF.out]; exact K2.out⟩, ⟨_, O2.out⟩, B2⟩
        case measure => have := HLT.out; simp [intOf]; omega
    · have HE := Aside0.mk (show i = T.length by have := HI.out; omega)
      have q0 : ¬ ((i : Nat) : Int) < (T.length : Int) := by omega
      have HTK := Aside0.mk (show T.take i = T from List.take_of_length_le (by omega))
      rw [HTK.out] at HK
      have hk0 := blk_cell HK.out 0
      have hk1 := blk_cell HK.out 1
      have hk2 := blk_cell HK.out 2
      have j0 := blk_frozen HK.out 0
      have j1 := blk_frozen HK.out 1
      have j2 := blk_frozen HK.out 2
      clear hlt
      go_wp2
      refine bodyPost_ret (results_cell_row rfl _ _ w.heap.size 52 #[.int .i64 (Lp.find (fun x => decide (x.f1 ≤ v)) T).f0, .int .i64 (Lp.find (fun x => decide (x.f1 ≤ v)) T).f1, .int .i64 (Lp.find (fun x => decide (x.f1 ≤ v)) T).f2] (0, 0) _ rfl (blk_set (blk_set (blk_set HK.out 0 _) 1 _) 2 _) Try.underlying52 rfl (by kernel_rfl)) rfl ?_
      exact ⟨rfl, ((HB.out.setCell (p := ⟨w.heap.size, 0, none⟩) (Nat.le_refl _) _).setCell (p := ⟨w.heap.size, 1, none⟩) (Nat.le_refl _) _).setCell (p := ⟨w.heap.size, 2, none⟩) (Nat.le_refl _) _⟩

set_option maxHeartbeats 8000000 in
set_option maxRecDepth 100000 in
theorem Lp.clo63 (x y z v : Int) (b : Nat) (w : World) (hc : w.cell? ⟨b, 0, none⟩ = some (.int .i64 v)) :
    Calls Try.prog 63 #[.agg #[.int .i64 x, .int .i64 y, .int .i64 z], .pointer (some ⟨b, 0, none⟩)] w fun e w' => e = .returned (.bool (decide (x ≤ v))) ∧ Below w.heap.size w w' := by
  have hl : b < w.heap.size := World.block_lt_of_cell? w _ hc
  have hu52 := Try.underlying52
  go_enter Try.func63, Try.ntmps63
  go_wp2
  go_ret
  exact ⟨by first | rfl | (simp; done) | (simp [*]; done), by repeat (first | exact Below.refl _ _ | apply pw_below_drewN | apply below_alloc)⟩

set_option maxHeartbeats 8000000 in
set_option maxRecDepth 100000 in
theorem Lp.find63 (v : Int) (b k : Nat) (T : List S52) (w : World) (hT : leap_Table.f k = some T) (hTl : T.length ≤ 1000) (hc : w.cell? ⟨b, 0, none⟩ = some (.int .i64 v)) :
    Calls Try.prog 62 #[.func (.func 63) #[] #[.pointer (some ⟨b, 0, none⟩)]] w fun e w' =>
      e = .returned (.agg #[.int .i64 (Lp.find (fun x => decide (x.f0 ≤ v)) T).f0, .int .i64 (Lp.find (fun x => decide (x.f0 ≤ v)) T).f1, .int .i64 (Lp.find (fun x => decide (x.f0 ≤ v)) T).f2]) ∧ Below w.heap.size w w' := by
  have hu52 := Try.underlying52
  have hl : b < w.heap.size := World.block_lt_of_cell? w _ hc
  have HT := Aside0.mk hT
  have HC := Aside0.mk hc
  have HL := Aside0.mk hl
  have HTL := Aside0.mk hTl
  clear hT hc hl hTl
  go_enter Try.func62, Try.ntmps62
  go_wp2_with (go_at_call 34; (with_reducible refine (leap_Table.calls k T _ HT.out).mono ?_); rintro e w1 ⟨v0, rfl, ho, hb⟩
               have HB1 := Aside0.mk (below_then (below_alloc (Below.refl w.heap.size w) _) (below_alloc (Below.refl w.heap.size w) _).size hb)
               have HK1 := Aside0.mk (blk_below (blk_new w _) hb)
               have HO := Aside0.mk (Kd.R_mono (Kd.R_bound ho) (ok' := fun k => k ≠ w.heap.size) (fun k hk => by have := hk.2.1; simp at this; omega))
               clear ho hb
               obtain ⟨A, c, e⟩ := Kd.R_slice HO.out
               subst e)
  go_loopw [7] (fun v7 wr => ∃ (i : Nat), v7 = .int .i64 i ∧ Aside0 (i ≤ T.length) ∧
      Aside0 (wr.heap[w.heap.size]? = some (.cells #[.int .i64 (Lp.find (fun x => decide (x.f0 ≤ v)) (T.take i)).f0, .int .i64 (Lp.find (fun x => decide (x.f0 ≤ v)) (T.take i)).f1, .int .i64 (Lp.find (fun x => decide (x.f0 ≤ v)) (T.take i)).f2] 52 (0, 0))) ∧
      Aside0 (∃ q, Kd.R k52 52 wr q (fun k => k ≠ w.heap.size) (.slice A T.length c) T) ∧ Aside0 (Below w.heap.size w wr)) (fun v7 _ => T.length - (intOf v7).toNat)
  case atStart => exact ⟨0, rfl, ⟨Nat.zero_le _⟩, HK1, ⟨_, HO.out⟩, HB1⟩
  case round =>
    clear HO HK1 HB1
    obtain ⟨i, rfl, HI, HK, HO, HB⟩ := hrel
    obtain ⟨q, hO⟩ := HO.out
    clear HO
    have HO := Aside0.mk hO
    clear hO
    by_cases hlt : i < T.length
    · have p0 : 0 ≤ ((i : Nat) : Int) := Int.natCast_nonneg _
      have q0 : ((i : Nat) : Int) < (T.length : Int) := by omega
      obtain ⟨ad, e, hx0, hx1, hx2⟩ := at_T52 (Kd.R_reads' HO.out).2.2 (i : Int) p0 q0
      cases e
      simp only [Int.toNat_natCast] at hx0 hx1 hx2
      have HTS := Aside0.mk (Lp.take_snoc T i hlt)
      have HLT := Aside0.mk hlt
      have hi1 : ((i : Nat) : Int) < 1000 := by have := HTL.out; omega
      have m0 : w.heap.size < wr.heap.size := blk_lt HK.out
      clear hlt
      by_cases hp : (rd_T52 T (i : Int)).f0 ≤ v
      · have HF := Aside0.mk (show Lp.find (fun x => decide (x.f0 ≤ v)) (T.take (i + 1)) = rd_T52 T (i : Int) by rw [HTS.out, Lp.find_snoc, if_pos (decide_eq_true hp)])
        have hd : decide ((rd_T52 T (i : Int)).f0 ≤ v) = true := decide_eq_true hp
        clear hp
        go_wp2_with (go_at_call 63; (with_reducible refine (Lp.clo63 _ _ _ v b _ ?hc).mono ?_)
                     (case hc => exact (World.cell?_alloc_lt _ _ _ (Nat.lt_trans HL.out m0)).trans ((HB.out.cell (p := ⟨b, 0, none⟩) HL.out).trans HC.out))
                     rintro e w2 ⟨rfl, hb⟩
                     have K2 := Aside0.mk (blk_below (blk_alloc HK.out _) hb)
                     have N2 := Aside0.mk (blk_below (blk_new wr _) hb)
                     have O2 := Aside0.mk (Kd.R_below (Kd.R_alloc HO.out _) hb)
                     have B2 := Aside0.mk (below_then (below_alloc HB.out _) (below_alloc HB.out _).size hb)
                     have d0 := blk_cell N2.out 0
                     have d1 := blk_cell N2.out 1
                     have d2 := blk_cell N2.out 2
                     have g0 := blk_cell K2.out 0
                     have g1 := blk_cell K2.out 1
                     have g2 := blk_cell K2.out 2
                     have j0 := blk_frozen K2.out 0
                     have j1 := blk_frozen K2.out 1
                     have j2 := blk_frozen K2.out 2
                     clear hb)
        go_roundw
        case rel => exact ⟨i + 1, by go_num, ⟨HLT.out⟩, ⟨by rw [HF.out]; exact blk_set (blk_set (blk_set K2.out 0 _) 1 _) 2 _⟩, ⟨_, Kd.R_far (Kd.R_far (Kd.R_far O2.out (fun k hk => hk) _) (fun k hk => hk) _) (fun k hk => hk) _⟩,
          ⟨((B2.out.setCell (p := ⟨w.heap.size, 0, none⟩) (Nat.le_refl _) _).setCell (p := ⟨w.heap.size, 1, none⟩) (Nat.le_refl _) _).setCell (p := ⟨w.heap.size, 2, none⟩) (Nat.le_refl _) _⟩⟩
        case measure => have := HLT.out; simp [intOf]; omega
      · have HF := Aside0.mk (show Lp.find (fun x => decide (x.f0 ≤ v)) (T.take (i + 1)) = Lp.find (fun x => decide (x.f0 ≤ v)) (T.take i) by rw [HTS.out, Lp.find_snoc, if_neg (by simpa using hp)])
        have hd : decide ((rd_T52 T (i : Int)).f0 ≤ v) = false := decide_eq_false hp
        clear hp
        go_wp2_with (go_at_call 63; (with_reducible refine (Lp.clo63 _ _ _ v b _ ?hc2).mono ?_)
                     (case hc2 => exact (World.cell?_alloc_lt _ _ _ (Nat.lt_trans HL.out m0)).trans ((HB.out.cell (p := ⟨b, 0, none⟩) HL.out).trans HC.out))
                     rintro e w2 ⟨rfl, hb⟩
                     have K2 := Aside0.mk (blk_below (blk_alloc HK.out _) hb)
                     have O2 := Aside0.mk (Kd.R_below (Kd.R_alloc HO.out _) hb)
                     have B2 := Aside0.mk (below_then (below_alloc HB.out _) (below_alloc HB.out _).size hb)
                     clear hb)
        go_roundw
        case rel => exact ⟨i + 1, by go_num, ⟨HLT.out⟩, ⟨by rw [HF.out]; exact K2.out⟩, ⟨_, O2.out⟩, B2⟩
        case measure => have := HLT.out; simp [intOf]; omega
    · have HE := Aside0.mk (show i = T.length by have := HI.out; omega)
      have q0 : ¬ ((i : Nat) : Int) < (T.length : Int) := by omega
      have HTK := Aside0.mk (show T.take i = T from List.take_of_length_le (by omega))
      rw [HTK.out] at HK
      have hk0 := blk_cell HK.out 0
      have hk1 := blk_cell HK.out 1
      have hk2 := blk_cell HK.out 2
      have j0 := blk_frozen HK.out 0
      have j1 := blk_frozen HK.out 1
      have j2 := blk_frozen HK.out 2
      clear hlt
      go_wp2
      refine bodyPost_ret (results_cell_row rfl _ _ w.heap.size 52 #[.int .i64 (Lp.find (fun x => decide (x.f0 ≤ v)) T).f0, .int .i64 (Lp.find (fun x => decide (x.f0 ≤ v)) T).f1, .int .i64 (Lp.find (fun x => decide (x.f0 ≤ v)) T).f2] (0, 0) _ rfl (blk_set (blk_set (blk_set HK.out 0 _) 1 _) 2 _) Try.underlying52 rfl (by kernel_rfl)) rfl ?_
      exact ⟨rfl, ((HB.out.setCell (p := ⟨w.heap.size, 0, none⟩) (Nat.le_refl _) _).setCell (p := ⟨w.heap.size, 1, none⟩) (Nat.le_refl _) _).setCell (p := ⟨w.heap.size, 2, none⟩) (Nat.le_refl _) _⟩
end Go.Proofs.Ytjabbppmkepgdaa
