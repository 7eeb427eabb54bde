/- remontoirelaw03.CivilNext walked by hand over the printed contracts of civil.Of, civil.Second, civil.Length: it answers true at every second. -/
import Derived.Test.YtjabbppmkepgdaaProg
import Derived.Below
import Derived.Deep.Draws
import Derived.OwnWalk
import Derived.Tactics
import Derived.WalkKit
import Derived.WalkSpells
import Derived.WalkLawsBesides
import Derived.KernelRfl
import Derived.RowKit3
import Derived.Deep.LoopGhost
import Derived.Deep.QuietTactic
import Derived.BigQuiet
import Derived.WideLaws
import Derived.Deep.DeepCutAuto
import Derived.Deep.CutBlock
import Derived.Deep.RegionHeld3
import Derived.Lib.Hide
import Derived.IntWalk
import Derived.Outline
import Derived.Test.YtjabbppmkepgdaaWWords
import Derived.Test.YtjabbppmkepgdaaWLast
import Derived.Test.YtjabbppmkepgdaaWMore
import Derived.BigRegion
import Derived.StillTailTactics
import Derived.Test.YtjabbppmkepgdaaPureCivilNext
namespace Go.Proofs.Ytjabbppmkepgdaa
open Go.RowKit Go.Proofs.YtjabbppmkepgdaaW.PrintWords Go.Proofs.YtjabbppmkepgdaaW.PrintLast Go.Proofs.YtjabbppmkepgdaaW.PrintMore Go.Proofs.Ytjabbppmkepgdaa.QC Go.Proofs.Ytjabbppmkepgdaa.Pure
set_option linter.unusedVariables false
set_option linter.unusedSimpArgs false

theorem cells6 {w : World} {b : Nat} {v0 v1 v2 v3 v4 v5 : Value} {t : TypeId} (h : w.heap[b]? = some (.cells #[v0, v1, v2, v3, v4, v5] t (0, 0))) :
    w.cell? ⟨b, 0, none⟩ = some v0 ∧ w.cell? ⟨b, 1, none⟩ = some v1 ∧ w.cell? ⟨b, 2, none⟩ = some v2 ∧ w.cell? ⟨b, 3, none⟩ = some v3 ∧ w.cell? ⟨b, 4, none⟩ = some v4 ∧ w.cell? ⟨b, 5, none⟩ = some v5 :=
  ⟨(blk_cell h 0).trans rfl, (blk_cell h 1).trans rfl, (blk_cell h 2).trans rfl, (blk_cell h 3).trans rfl, (blk_cell h 4).trans rfl, (blk_cell h 5).trans rfl⟩
def arr6 (X : Nat → Int) : Array Value := #[.int .i64 (X 0), .int .i64 (X 1), .int .i64 (X 2), .int .i64 (X 3), .int .i64 (X 4), .int .i64 (X 5)]
theorem arr_cell {w : World} {b : Nat} {X : Nat → Int} {t : TypeId} (h : w.heap[b]? = some (.cells (arr6 X) t (0, 0))) (i : Nat) (hi : i ≤ 5) : w.cell? ⟨b, i, none⟩ = some (.int .i64 (X i)) := by
  rcases le5 i hi with rfl | rfl | rfl | rfl | rfl | rfl
  · exact (blk_cell h 0).trans rfl
  · exact (blk_cell h 1).trans rfl
  · exact (blk_cell h 2).trans rfl
  · exact (blk_cell h 3).trans rfl
  · exact (blk_cell h 4).trans rfl
  · exact (blk_cell h 5).trans rfl
theorem arr_drew {w : World} {b : Nat} {o : Obj} (h : w.heap[b]? = some o) : w.drew.heap[b]? = some o := h

set_option maxHeartbeats 8000000 in
set_option maxRecDepth 100000 in
theorem Cn.over (sec : Int) (w : World) (k k1 : Nat) (b0 b1 b2 b3 b4 b5 b6 : Int) (HA : Aside0 (civil_Of.f k sec = some (0, 0, 0, 0, 0, 0, 9))) (HBo : Aside0 (civil_Of.f k1 (wrap64 (sec + 1)) = some (b0, b1, b2, b3, b4, b5, b6))) :
    Calls Try.prog 8 #[.int .i64 sec] w fun e w' => e = .returned (.bool true) ∧ Below w.heap.size w w' := by
  have hu40 := Try.underlying40
  have hu48 := Try.underlying48
  go_enter Try.func8, Try.ntmps8
  go_wp2_with (first
    | (go_at_call 31; (with_reducible refine (civil_Of.calls k sec 0 0 0 0 0 0 9 _ HA.out).mono ?_); rintro e w1 ⟨rfl, hb⟩
       have HB1 := Aside0.mk hb
       clear hb)
    | (go_at_call 31; (with_reducible refine (civil_Of.calls k1 (wrap64 (sec + 1)) b0 b1 b2 b3 b4 b5 b6 _ HBo.out).mono ?_); rintro e w2 ⟨rfl, hb⟩
       have HB2 := Aside0.mk (below_then (below_alloc HB1.out _) (below_alloc HB1.out _).size hb)
       have H1 := Aside0.mk (blk_below (blk_new w1 _) hb)
       have m1 : w1.heap.size < w2.heap.size := blk_lt H1.out
       obtain ⟨c0, c1, c2, c3, c4, c5⟩ := cells6 (blk_alloc H1.out (.cells #[.int .i64 b0, .int .i64 b1, .int .i64 b2, .int .i64 b3, .int .i64 b4, .int .i64 b5] 40 (0, 0)))
       clear hb))
  go_ret
  exact ⟨by first | rfl | (simp; done), below_alloc HB2.out _⟩

set_option maxHeartbeats 8000000 in
set_option maxRecDepth 100000 in
theorem Cn.last (sec : Int) (w : World) (k k1 : Nat) (a0 a1 a2 a3 a4 a5 : Int) (HA : Aside0 (civil_Of.f k sec = some (a0, a1, a2, a3, a4, a5, 0))) (HBo : Aside0 (civil_Of.f k1 (wrap64 (sec + 1)) = some (0, 0, 0, 0, 0, 0, 9))) :
    Calls Try.prog 8 #[.int .i64 sec] w fun e w' => e = .returned (.bool true) ∧ Below w.heap.size w w' := by
  have hu40 := Try.underlying40
  have hu48 := Try.underlying48
  go_enter Try.func8, Try.ntmps8
  go_wp2_with (first
    | (go_at_call 31; (with_reducible refine (civil_Of.calls k sec a0 a1 a2 a3 a4 a5 0 _ HA.out).mono ?_); rintro e w1 ⟨rfl, hb⟩
       have HB1 := Aside0.mk hb
       clear hb)
    | (go_at_call 31; (with_reducible refine (civil_Of.calls k1 (wrap64 (sec + 1)) 0 0 0 0 0 0 9 _ HBo.out).mono ?_); rintro e w2 ⟨rfl, hb⟩
       have HB2 := Aside0.mk (below_then (below_alloc HB1.out _) (below_alloc HB1.out _).size hb)
       obtain ⟨d0, d1, d2, d3, d4, d5⟩ := cells6 (blk_new w2 (.cells #[.int .i64 0, .int .i64 0, .int .i64 0, .int .i64 0, .int .i64 0, .int .i64 0] 40 (0, 0)))
       clear hb))
  go_ret
  exact ⟨by first | rfl | (simp; done), below_alloc HB2.out _⟩

set_option maxHeartbeats 8000000 in
set_option maxRecDepth 100000 in
theorem Cn.both (sec : Int) (w : World) (kA kB kS kK : Nat) (J : Int) (X Y : Nat → Int) (HA : Aside0 (civil_Of.f kA sec = some (X 0, X 1, X 2, X 3, X 4, X 5, 0))) (HBo : Aside0 (civil_Of.f kB (wrap64 (sec + 1)) = some (Y 0, Y 1, Y 2, Y 3, Y 4, Y 5, 0))) (HS : Aside0 (civil_Second.f kS (X 0) (X 1) (X 2) (X 3) (X 4) (X 5) = some (sec, 0))) (HKn : Aside0 (remontoirelaw03_known.f kK = some true)) (HJ0 : Aside0 (0 ≤ J)) (HJ : Aside0 (J ≤ 5)) (HH : Aside0 (∀ i, J < i → i ≤ 5 → X i.toNat = hi6 X i.toNat ∧ Y i.toNat = lo6 i.toNat)) (HN : Aside0 (J ≠ 0 → X J.toNat ≠ hi6 X J.toNat)) (HE : Aside0 (∀ i, 0 ≤ i → i < J → X i.toNat = Y i.toNat)) (HY : Aside0 (Y J.toNat = X J.toNat + 1)) (HXB : Aside0 (∀ i, i ≤ 5 → 0 ≤ X i ∧ X i ≤ 100000)) :
    Calls Try.prog 8 #[.int .i64 sec] w fun e w' => e = .returned (.bool true) ∧ Below w.heap.size w w' := by
  have hu40 := Try.underlying40
  have hu48 := Try.underlying48
  go_enter Try.func8, Try.ntmps8
  go_wp2_with (first
    | (go_at_call 31; (with_reducible refine (civil_Of.calls kA sec (X 0) (X 1) (X 2) (X 3) (X 4) (X 5) 0 _ HA.out).mono ?_); rintro e w1 ⟨rfl, hb⟩
       have HB1 := Aside0.mk hb
       clear hb)
    | (go_at_call 31; (with_reducible refine (civil_Of.calls kB (wrap64 (sec + 1)) (Y 0) (Y 1) (Y 2) (Y 3) (Y 4) (Y 5) 0 _ HBo.out).mono ?_); rintro e w2 ⟨rfl, hb⟩
       have HB2 := Aside0.mk (below_alloc (below_then (below_alloc HB1.out _) (below_alloc HB1.out _).size hb) (.cells #[.int .i64 (Y 0), .int .i64 (Y 1), .int .i64 (Y 2), .int .i64 (Y 3), .int .i64 (Y 4), .int .i64 (Y 5)] 40 (0, 0)))
       have HK1 := Aside0.mk (blk_alloc (blk_below (blk_new w1 (.cells #[.int .i64 (X 0), .int .i64 (X 1), .int .i64 (X 2), .int .i64 (X 3), .int .i64 (X 4), .int .i64 (X 5)] 40 (0, 0))) hb) (.cells #[.int .i64 (Y 0), .int .i64 (Y 1), .int .i64 (Y 2), .int .i64 (Y 3), .int .i64 (Y 4), .int .i64 (Y 5)] 40 (0, 0)))
       have HK2 := Aside0.mk (blk_new w2 (.cells #[.int .i64 (Y 0), .int .i64 (Y 1), .int .i64 (Y 2), .int .i64 (Y 3), .int .i64 (Y 4), .int .i64 (Y 5)] 40 (0, 0)))
       obtain ⟨c0, c1, c2, c3, c4, c5⟩ := cells6 HK1.out
       clear hb)
    | (go_at_call 29; (with_reducible refine (civil_Second.calls kS (X 0) (X 1) (X 2) (X 3) (X 4) (X 5) sec 0 _ HS.out).mono ?_); rintro e w3 ⟨rfl, hb⟩
       have HB3 := Aside0.mk (below_then HB2.out HB2.out.size hb)
       have HK13 := Aside0.mk (blk_below HK1.out hb)
       have HK23 := Aside0.mk (blk_below HK2.out hb)
       clear hb c0 c1 c2 c3 c4 c5 HB1 HB2 HK1 HK2
       obtain ⟨c0, c1, c2, c3, c4, c5⟩ := cells6 HK13.out
       obtain ⟨d0, d1, d2, d3, d4, d5⟩ := cells6 HK23.out))
  go_cut [9, 10] (fun s9 s10 wx => ∃ bx bY : Nat, s9 = .pointer (some ⟨bx, 0, none⟩) ∧ s10 = .pointer (some ⟨bY, 0, none⟩) ∧ Aside0 (wx.heap[w1.heap.size]? = some (.cells #[.int .i64 (X 0), .int .i64 (X 1), .int .i64 (X 2), .int .i64 (X 3), .int .i64 (X 4), .int .i64 (X 5)] 40 (0, 0))) ∧ Aside0 (wx.heap[bx]? = some (.cells (arr6 X) 48 (0, 0))) ∧ Aside0 (wx.heap[bY]? = some (.cells (arr6 Y) 48 (0, 0))) ∧ Aside0 (Below w.heap.size w wx))
  case first =>
    go_region_held3 (fun w' => w'.cell? ⟨w1.heap.size, 0, none⟩ = some (.int .i64 (X 0)) ∧ w'.cell? ⟨w1.heap.size, 1, none⟩ = some (.int .i64 (X 1)) ∧ w'.cell? ⟨w1.heap.size, 2, none⟩ = some (.int .i64 (X 2)) ∧ w'.cell? ⟨w1.heap.size, 3, none⟩ = some (.int .i64 (X 3)) ∧ w'.cell? ⟨w1.heap.size, 4, none⟩ = some (.int .i64 (X 4)) ∧ w'.cell? ⟨w1.heap.size, 5, none⟩ = some (.int .i64 (X 5)) ∧ w'.cell? ⟨w2.heap.size, 0, none⟩ = some (.int .i64 (Y 0)) ∧ w'.cell? ⟨w2.heap.size, 1, none⟩ = some (.int .i64 (Y 1)) ∧ w'.cell? ⟨w2.heap.size, 2, none⟩ = some (.int .i64 (Y 2)) ∧ w'.cell? ⟨w2.heap.size, 3, none⟩ = some (.int .i64 (Y 3)) ∧ w'.cell? ⟨w2.heap.size, 4, none⟩ = some (.int .i64 (Y 4)) ∧ w'.cell? ⟨w2.heap.size, 5, none⟩ = some (.int .i64 (Y 5))) (go_keep) (fail)
    all_goals (go_wp2_with fail; go_meet)
    all_goals first
      | exact ⟨w3.heap.size, w3.heap.size + 1, rfl, rfl, ⟨blk_alloc (blk_alloc HK13.out _) _⟩, ⟨blk_alloc (blk_new w3 _) _⟩, ⟨by have := blk_new (w3.alloc (.cells (arr6 X) 48 (0, 0))) (.cells (arr6 Y) 48 (0, 0)); rw [World.size_alloc] at this; exact this⟩, ⟨below_drew1 (below_alloc (below_alloc HB3.out _) _)⟩⟩
      | exact ⟨w3.heap.size + 1, w3.heap.size, rfl, rfl, ⟨blk_alloc (blk_alloc HK13.out _) _⟩, ⟨by have := blk_new (w3.alloc (.cells (arr6 Y) 48 (0, 0))) (.cells (arr6 X) 48 (0, 0)); rw [World.size_alloc] at this; exact this⟩, ⟨blk_alloc (blk_new w3 _) _⟩, ⟨below_drew1 (below_alloc (below_alloc HB3.out _) _)⟩⟩
  case rest =>
    clear c0 c1 c2 c3 c4 c5 d0 d1 d2 d3 d4 d5 HK13 HK23 HB3
    obtain ⟨bx, bY, rfl, rfl, HK1, HX, HYb, HB⟩ := hcut
    rename World => wq
    obtain ⟨c0, c1, c2, c3, c4, c5⟩ := cells6 HK1.out
    have HL := Aside0.mk (Pure.length_some (X 0) (X 1))
    go_upto_block 0 with (go_at_call 26; (with_reducible refine (civil_Length.same (X 0) (X 1) _ _ HL.out).mono ?_); rintro e w4 ⟨rfl, rfl⟩)
    go_cut [13] (fun s13 wr => s13 = .int .i64 J ∧ Aside0 (wr.heap[bx]? = some (.cells (arr6 X) 48 (0, 0))) ∧ Aside0 (wr.heap[bY]? = some (.cells (arr6 Y) 48 (0, 0))) ∧ Aside0 (wr.heap[wq.heap.size]? = some (.cells (arr6 lo6) 48 (0, 0))) ∧ Aside0 (wr.heap[wq.heap.size + 1]? = some (.cells (arr6 (hi6 X)) 48 (0, 0))) ∧ Aside0 (Below w.heap.size w wr))
    case first =>
      go_wp2_with fail
      go_loopw [13] (fun v13 wr => ∃ (i : Int), v13 = .int .i64 i ∧ Aside0 (J ≤ i) ∧ Aside0 (i ≤ 5) ∧ Aside0 (wr.heap[bx]? = some (.cells (arr6 X) 48 (0, 0))) ∧ Aside0 (wr.heap[bY]? = some (.cells (arr6 Y) 48 (0, 0))) ∧ Aside0 (wr.heap[wq.heap.size]? = some (.cells (arr6 lo6) 48 (0, 0))) ∧ Aside0 (wr.heap[wq.heap.size + 1]? = some (.cells (arr6 (hi6 X)) 48 (0, 0))) ∧ Aside0 (Below w.heap.size w wr)) (fun v13 _ => (intOf v13).toNat)
      case atStart =>
        exact ⟨5, rfl, HJ, ⟨Int.le_refl _⟩, ⟨blk_alloc (blk_alloc HX.out _) _⟩, ⟨blk_alloc (blk_alloc HYb.out _) _⟩, ⟨blk_alloc (blk_new wq (.cells (arr6 lo6) 48 (0, 0))) _⟩, ⟨by have := blk_new (wq.alloc (.cells (arr6 lo6) 48 (0, 0))) (.cells (arr6 (hi6 X)) 48 (0, 0)); rw [World.size_alloc] at this; exact this⟩, ⟨below_alloc (below_alloc HB.out _) _⟩⟩
      case round =>
        obtain ⟨i, rfl, HJi, HI5, HX, HYb, HLb, HHb, HB⟩ := hrel
        have p0 : 0 ≤ i := by have := HJ0.out; have := HJi.out; omega
        have q0 : i < 6 := by have := HI5.out; omega
        have cX := arr_cell HX.out i.toNat (by omega)
        have cY := arr_cell HYb.out i.toNat (by omega)
        have cL := arr_cell HLb.out i.toNat (by omega)
        have cH := arr_cell HHb.out i.toNat (by omega)
        by_cases hij : i = J
        · subst hij
          by_cases h0 : i = 0
          · have d0 : decide (0 < i) = false := decide_eq_false (by omega)
            clear h0
            try go_wp2
            go_quiet (fail)
            try go_wp2
            go_meet
            exact ⟨rfl, HX, HYb, HLb, HHb, ⟨by repeat (first | (with_reducible exact HB.out) | apply pw_below_drewN | apply below_drew1)⟩⟩
          · have d0 : decide (0 < i) = true := decide_eq_true (by omega)
            have d1 : (X i.toNat == hi6 X i.toNat) = false := beq_eq_false_iff_ne.mpr (HN.out h0)
            clear h0
            try go_wp2
            go_quiet (fail)
            try go_wp2
            go_meet
            exact ⟨rfl, HX, HYb, HLb, HHb, ⟨by repeat (first | (with_reducible exact HB.out) | apply pw_below_drewN | apply below_drew1)⟩⟩
        · have hlt : J < i := by have := HJi.out; omega
          have d0 : decide (0 < i) = true := decide_eq_true (by have := HJ0.out; omega)
          obtain ⟨e1, e2⟩ := HH.out i hlt HI5.out
          have d1 : (X i.toNat == hi6 X i.toNat) = true := beq_iff_eq.mpr e1
          have d2 : (Y i.toNat != lo6 i.toNat) = false := bne_eq_false_iff_eq.mpr e2
          have HLT := Aside0.mk hlt
          have w1_ : wrap64 (i - 1) = i - 1 := cw64 _ (by omega)
          have HP := Aside0.mk p0
          clear hij hlt e1 e2
          try go_wp2
          go_quiet (fail)
          try go_wp2
          go_quiet (fail)
          try go_wp2
          go_roundw
          case rel => exact ⟨i - 1, by first | rfl | (rw [w1_]) | (simp [w1_]; done), ⟨by have := HLT.out; omega⟩, ⟨by have := HI5.out; omega⟩, HX, HYb, HLb, HHb, ⟨by repeat (first | (with_reducible exact HB.out) | apply pw_below_drewN | apply below_drew1)⟩⟩
          case measure => have := HLT.out; have := HP.out; have := HJ0.out; simp [intOf, w1_]; omega
    case rest =>
      obtain ⟨rfl, HX, HYb, HLb, HHb, HB⟩ := hcut
      go_wp2
      go_loopw [114] (fun v114 wr => ∃ (i : Int), v114 = .int .i64 i ∧ Aside0 (0 ≤ i) ∧ Aside0 (i ≤ J) ∧ Aside0 (wr.heap[bx]? = some (.cells (arr6 X) 48 (0, 0))) ∧ Aside0 (wr.heap[bY]? = some (.cells (arr6 Y) 48 (0, 0))) ∧ Aside0 (wr.heap[wq.heap.size]? = some (.cells (arr6 lo6) 48 (0, 0))) ∧ Aside0 (wr.heap[wq.heap.size + 1]? = some (.cells (arr6 (hi6 X)) 48 (0, 0))) ∧ Aside0 (Below w.heap.size w wr)) (fun v114 _ => (J - intOf v114).toNat)
      case atStart => exact ⟨0, rfl, ⟨Int.le_refl _⟩, HJ0, HX, HYb, HLb, HHb, HB⟩
      case round =>
        obtain ⟨i, rfl, HI0, HIJ, HX, HYb, HLb, HHb, HB⟩ := hrel
        have p0 : 0 ≤ i := HI0.out
        have q0 : i < 6 := by have := HIJ.out; have := HJ.out; omega
        have cX := arr_cell HX.out i.toNat (by omega)
        have cY := arr_cell HYb.out i.toNat (by omega)
        by_cases hij : i < J
        · have d0 : decide (i < J) = true := decide_eq_true hij
          have d1 : (X i.toNat != Y i.toNat) = false := bne_eq_false_iff_eq.mpr (HE.out i p0 hij)
          have HLT := Aside0.mk hij
          have HP := Aside0.mk p0
          have w1_ : wrap64 (i + 1) = i + 1 := cw64 _ (by omega)
          clear hij
          try go_wp2
          go_quiet (fail)
          try go_wp2
          go_roundw
          case rel => exact ⟨i + 1, by first | rfl | (rw [w1_]) | (simp [w1_]; done), ⟨by have := HP.out; omega⟩, ⟨by have := HLT.out; omega⟩, HX, HYb, HLb, HHb, ⟨by repeat (first | (with_reducible exact HB.out) | apply pw_below_drewN | apply below_drew1)⟩⟩
          case measure => have := HLT.out; have := HP.out; simp [intOf, w1_]; omega
        · have d0 : decide (i < J) = false := decide_eq_false hij
          obtain rfl : i = J := by have := HIJ.out; omega
          have hb := HXB.out i.toNat (by omega)
          have w1_ : wrap64 (X i.toNat + 1) = X i.toNat + 1 := cw64 _ (by omega)
          have d1 : (Y i.toNat == wrap64 (X i.toNat + 1)) = true := by rw [w1_]; exact beq_iff_eq.mpr HY.out
          have d2 : (Y i.toNat == X i.toNat + 1) = true := beq_iff_eq.mpr HY.out
          have E9 := Aside0.mk (show Y i.toNat = wrap64 (X i.toNat + 1) by rw [w1_]; exact HY.out)
          clear hij hb
          try go_wp2
          go_still_tail 9, (by kernel_rfl)
          change wpList _ _ _ _ _ wr.drew
          have HB' := Aside0.mk (below_drew1 HB.out)
          generalize wr.drew = w5 at HB' ⊢
          go_wp2_with (go_at_call 28; (with_reducible refine (remontoirelaw03_known.calls kK true _ HKn.out).mono ?_); rintro e w6 ⟨rfl, hb⟩; have HB6 := Aside0.mk (below_then HB'.out HB'.out.size hb); clear hb)
          go_ret
          exact ⟨by first | rfl | (simp; done), HB6.out⟩
          all_goals exact absurd E9.out ‹¬Y i.toNat = wrap64 (X i.toNat + 1)›

theorem civilNext_calls (sec : Int) (hw : -9223372036854775808 ≤ sec ∧ sec ≤ 9223372036854775807) (w : World) :
    Calls Try.prog 8 #[.int .i64 sec] w fun e w' => e = .returned (.bool true) ∧ Below w.heap.size w w' := by
  by_cases h1 : sec < 0 ∨ 9467107200 ≤ sec
  · obtain ⟨a, b, ha, _⟩ := of_both (wrap64 (sec + 1)) (by unfold wrap64; omega)
    obtain ⟨k1, e1⟩ := Ev.rounds ha
    obtain ⟨k2, e2⟩ := Ev.rounds (of_no sec h1)
    exact Cn.over sec w (k2) k1 a.1 a.2.1 a.2.2.1 a.2.2.2.1 a.2.2.2.2.1 a.2.2.2.2.2.1 a.2.2.2.2.2.2 ⟨e2⟩ ⟨e1⟩
  have hw1 : wrap64 (sec + 1) = sec + 1 := cw64 _ (by omega)
  by_cases h2 : sec + 1 = 9467107200
  · have e22 : Cv.ahead 2200 = 109573 := by decide
    obtain ⟨Y, M, D, hd, hn⟩ := date_of (sec / 86400) (by omega) (by omega)
    obtain ⟨k1, e1⟩ := Ev.rounds (of_yes Y M D hd sec (by omega) hn.symm)
    obtain ⟨k2, e2⟩ := Ev.rounds (of_no (wrap64 (sec + 1)) (by omega))
    exact Cn.last sec w k1 k2 _ _ _ _ _ _ ⟨e1⟩ ⟨e2⟩
  obtain ⟨X, Y, j, hA, hB, hS, hj, hH, hN, hE, hY, hX⟩ := civilNext sec (by omega) (by omega)
  obtain ⟨kA, eA⟩ := Ev.rounds hA
  obtain ⟨kB, eB⟩ := Ev.rounds hB
  obtain ⟨kS, eS⟩ := Ev.rounds hS
  obtain ⟨kK, eK⟩ := Ev.rounds civil_known
  exact Cn.both sec w kA kB kS kK (j : Int) X Y ⟨eA⟩ ⟨by rw [hw1]; exact eB⟩ ⟨eS⟩ ⟨eK⟩ ⟨by omega⟩ ⟨by omega⟩ ⟨fun i a b => hH i.toNat (by omega) (by omega)⟩ ⟨fun h => hN (by simpa using h)⟩ ⟨fun i a b => hE i.toNat (by omega)⟩ ⟨hY⟩ ⟨hX⟩
end Go.Proofs.Ytjabbppmkepgdaa
