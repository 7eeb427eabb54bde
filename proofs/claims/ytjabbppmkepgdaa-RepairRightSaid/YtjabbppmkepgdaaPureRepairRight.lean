/- The plain law of RepairRight. -/
import Derived.Test.YtjabbppmkepgdaaQRepairRightx1
import Derived.Test.YtjabbppmkepgdaaPureRepair
namespace Go.Proofs.Ytjabbppmkepgdaa.Pure
set_option linter.unusedVariables false
open Go.RowKit Go.Proofs.Ytjabbppmkepgdaa Go.Proofs.Ytjabbppmkepgdaa.QL Go.Proofs.Ytjabbppmkepgdaa.QC Go.Proofs.Ytjabbppmkepgdaa.QRepairRight Go.Proofs.YtjabbppmkepgdaaW.PrintWords Go.Proofs.YtjabbppmkepgdaaW.PrintLast

theorem rrk : QRepairRight.remontoirelaw18_known.f = some true := by
  unfold QRepairRight.remontoirelaw18_known.f repair_GPS.f
  rw [known18.1, known18.2.1, known18.2.2.1, known18.2.2.2]
  rfl

/-- What UTC tells of a second comes back. -/
theorem gps_back {g : Int} {i : Nat} (hs : Seg g i) (h0 : 0 ≤ g) (h6 : g ≤ 6000000000) : Lp.gps (g - (i : Int) + 2524953600) (lp g) = (g, 0) := by
  have hi := hs.1
  have e1 := l_rel i hi
  have n1 := hs.2.1
  have n3 := hs.2.2
  have u0 := l_ulo i hi
  by_cases hl : lp g = true
  · obtain ⟨hi18, e⟩ := (lp_seg hs).mp hl
    have e2 := l_rel (i + 1) (by omega)
    have u1 := l_ulo (i + 1) (by omega)
    have hu : lU (i + 1) = g - (i : Int) + 2524953600 := by omega
    have hsu : SegU (g - (i : Int) + 2524953600) (i + 1) := by
      refine ⟨by omega, by omega, fun h => ?_⟩
      have := l_step (i + 1) h
      have := l_rel (i + 1 + 1) (by omega)
      omega
    have h := Option.some.inj (gps_at hsu true (by omega))
    rw [hl]
    refine Eq.trans h ?_
    rw [if_neg (by omega), if_neg (by omega), if_pos rfl, e]
  · have hsu : SegU (g - (i : Int) + 2524953600) i := by
      have hne : ¬ (i < 18 ∧ g = lG (i + 1) - 1) := fun h => hl ((lp_seg hs).mpr h)
      refine ⟨hi, by omega, fun h => ?_⟩
      have := l_rel (i + 1) (by omega)
      have := n3 h
      omega
    have h := Option.some.inj (gps_at hsu false (by omega))
    rw [Bool.eq_false_iff.mpr hl]
    refine Eq.trans h ?_
    rw [if_neg (by omega), if_neg (by simp), if_neg (by simp), show g - (i : Int) + 2524953600 - 2524953600 + (i : Int) = g by omega]

theorem ahead_far (y : Int) (h : 1900 ≤ y) (j : Nat) : Cv.ahead y + 36500 * (j : Int) ≤ Cv.ahead (y + 100 * (j : Int)) := by unfold Cv.ahead; omega
theorem dnum_far {y m d : Int} {i j : Nat} (hy : 1900 ≤ y) (hm : 1 ≤ m ∧ m ≤ 12) (hij : i < j) : dnum (y + 100 * (i : Int)) m d + 36000 ≤ dnum (y + 100 * (j : Int)) m d := by
  have h1 := ahead_far (y + 100 * (i : Int)) (by omega) (j - i)
  rw [show y + 100 * (i : Int) + 100 * ((j - i : Nat) : Int) = y + 100 * (j : Int) by omega] at h1
  have h2 := cum_bd (y + 100 * (i : Int)) (m - 1).toNat
  have h3 := cum_bd (y + 100 * (j : Int)) (m - 1).toNat
  unfold dnum
  omega
/-- Of the years' seconds one alone comes. -/
theorem years_one {b : Bool} {floor : Int} {Y m d h mi s : Int} (hY : 1900 ≤ Y) {x y : Int} {i j : Nat} (e1 : csecR (Y + 100 * (i : Int)) m d h mi s = (x, 0)) (e2 : csecR (Y + 100 * (j : Int)) m d h mi s = (y, 0))
    (hx : gh b floor x = true) (hy : gh b floor y = true) : x = y := by
  obtain ⟨v1, q1, _, _⟩ := csec_bd e1
  obtain ⟨v2, q2, _, _⟩ := csec_bd e2
  have hm := len_date v1.1.1 v1.1.2
  obtain ⟨p, _, _, _, a4, a5, a6, a7⟩ := gh_at hx
  obtain ⟨q, _, _, _, b4, b5, b6, b7⟩ := gh_at hy
  rcases Nat.lt_trichotomy i j with c | c | c
  · have := dnum_far (y := Y) (m := m) (d := d) hY ⟨hm.2.2.1, hm.2.2.2⟩ c
    omega
  · subst c
    omega
  · have := dnum_far (y := Y) (m := m) (d := d) hY ⟨hm.2.2.1, hm.2.2.2⟩ c
    omega

theorem years_self {x : Int} (h0 : 0 ≤ x) (h1 : x < 9467107200) : ∃ Y m d h mi s : Int, Rp.of x = (Y, m, d, h, mi, s, 0) ∧ 1900 ≤ Y ∧ Y ≤ 2199 ∧ csecR Y m d h mi s = (x, 0) := by
  have e22 : Cv.ahead 2200 = 109573 := by decide
  obtain ⟨Y, M, D, hd, hn⟩ := date_of (x / 86400) (by omega) (by omega)
  have hv := len_date hd.1 hd.2
  refine ⟨Y, M, D, _, _, _, ev_one (Rp.of_ev x).1 (of_yes Y M D hd x h0 hn.symm), hv.1, hv.2.1, ?_⟩
  unfold csecR
  rw [if_pos ⟨hd, by omega, by omega, by omega⟩, hn]
  exact Prod.ext (by show x / 86400 * 86400 + x % 86400 / 3600 * 3600 + x % 86400 / 60 % 60 * 60 + x % 60 = x; omega) rfl

theorem rr_three {b : Bool} {floor sec X g : Int} (cyc : Int) (hcy : cyc = 0 ∨ cyc = 1024) (hf : 0 ≤ floor ∧ floor ≤ 6000000000) (hs : -1099511627776 ≤ sec ∧ sec ≤ 1099511627776) (hX : gh b floor X = true) (hg : gv b X = g) (hc : (X - sec) % 619315200 = 0) :
    Rp.gps true sec b cyc floor = (g, 0) := by
  rw [gps_means b cyc sec floor hf hs (by omega)]
  unfold Rp.means
  rw [if_neg (by omega), pick_dpick b floor hf _ (three_bd hf hs), dpick_only (gh b floor) (gv b) _ X (three_hit hf hs hX hc) hX ?_, hg]
  · rfl
  · intro y hy h
    have := (three_mem hf hs).mp hy
    rw [gh_one h hX (by omega)]
theorem rr_years {b : Bool} {floor X g : Int} (hf : 0 ≤ floor ∧ floor ≤ 6000000000) (hX : gh b floor X = true) (hg : gv b X = g) : Rp.gps true X b 100 floor = (g, 0) := by
  obtain ⟨i, a1, a2, a3, a4, a5, a6, a7⟩ := gh_at hX
  have hb := bi_bd b
  rw [gps_means b 100 X floor hf (by omega) (by omega)]
  unfold Rp.means
  rw [if_pos rfl, pick_dpick b floor hf _ (fun x hx => by have := years_bd X x hx; omega)]
  obtain ⟨Y, m, d, h, mi, s, e, y1, y2, ec⟩ := years_self (x := X) (by omega) (by omega)
  rw [e]
  unfold Rp.years
  dsimp only
  rw [if_pos rfl, Int.tmod_eq_emod_of_nonneg (by omega)]
  have hj : Y = 1900 + Y % 100 + 100 * (((Y - 1900) / 100).toNat : Int) := by omega
  rw [dpick_only (gh b floor) (gv b) _ X (yl_has m d h mi s 4 (1900 + Y % 100) X ((Y - 1900) / 100).toNat (by omega) (by omega) (by rw [← hj]; exact ec)) hX ?_, hg]
  · rfl
  · intro y hy hh
    obtain ⟨j, _, e2⟩ := yl_mem _ _ _ _ _ _ _ _ hy
    rw [hj] at ec
    rw [years_one (by omega) e2 ec hh hX]

theorem RepairRight : remontoirelaw18_RepairRight.Pure := by
  intro floor off cyc w0 w1 w2
  have b0 := bounds_i64 w0
  have b1 := bounds_i64 w1
  have b2 := bounds_i64 w2
  refine Ev.rounds ?_
  unfold remontoirelaw18_RepairRight.f
  have bad : ∀ g, Ev (fun k => remontoirelaw18_RepairRight.j0 k floor cyc g true) true := by
    intro g
    refine Ev.step (f := fun _ => some true) (fun k => ?_) (Ev.now _)
    rw [remontoirelaw18_RepairRight.j0, if_pos rfl, rrk]
    rfl
  by_cases c1 : floor < 0
  · exact ev_pos c1 (bad _)
  refine ev_neg c1 ?_
  by_cases c2 : off < 0
  · exact ev_pos c2 (bad _)
  refine ev_neg c2 ?_
  by_cases c3 : off ≥ 619315200
  · exact ev_pos c3 (bad _)
  refine ev_neg c3 ?_
  by_cases c4 : floor > 6000000000
  · exact ev_pos c4 (bad _)
  refine ev_neg c4 ?_
  rw [cw64 (floor + off) (by omega)]
  obtain ⟨g, hg⟩ : ∃ g, g = floor + off := ⟨_, rfl⟩
  rw [← hg]
  by_cases c5 : g > 6000000000
  · exact ev_pos c5 (bad _)
  refine ev_neg c5 ?_
  by_cases c6 : cyc < -5
  · exact ev_pos c6 (bad _)
  refine ev_neg c6 ?_
  by_cases c7 : cyc > 5
  · rw [decide_eq_true c7]; exact bad _
  rw [decide_eq_false c7]
  obtain ⟨i, hi⟩ := seg_of g (by omega)
  have hr := l_rel i hi.1
  have hi18 := hi.1
  have hi1 := hi.2.1
  have hu := rutc_seg hi (by omega)
  have hb := bi_bd (lp g)
  obtain ⟨X, hX⟩ : ∃ X, X = g - (i : Int) + 2524953600 - bi (lp g) := ⟨_, rfl⟩
  have hback := gps_back hi (by omega) (by omega)
  rw [show g - (i : Int) + 2524953600 = X + bi (lp g) by omega] at hback
  have hgv : gv (lp g) X = g := by unfold gv; rw [hback]
  have hgh : gh (lp g) floor X = true := gh_iff.mpr ⟨by rw [hback], by omega, by omega⟩
  have hf : 0 ≤ floor ∧ floor ≤ 6000000000 := by omega
  have e1 : Rp.gps false (g + cyc * 1024 * 604800) false 1024 floor = (g, 0) := by
    unfold Rp.gps
    rw [if_neg (by omega), if_neg (by omega), if_neg (by simp), if_neg (by omega), if_pos rfl]
    have : Wk.near (g + cyc * 1024 * 604800) 1024 floor = (g, 0) := by
      have hm : (g + cyc * 1024 * 604800 - floor) % (1024 * 604800) = off := by omega
      unfold Wk.near
      rw [if_neg (by omega), if_neg (by omega), hm, if_pos (by omega), hg]
    rw [this, if_pos rfl]
  have e2 : Rp.gps true (X + cyc * 1024 * 604800) (lp g) 0 floor = (g, 0) := rr_three 0 (.inl rfl) hf (by omega) hgh hgv (by omega)
  have e3 : Rp.gps true X (lp g) 100 floor = (g, 0) := rr_years hf hgh hgv
  refine Ev.step (f := fun k => (remontoireref04_UTC.f k g).bind fun bt110 => (if bt110.2 = true then (remontoirelaw18_RepairRight.j1 k floor cyc g (wrap64 (bt110.1 - 1)) bt110.2) else (remontoirelaw18_RepairRight.j1 k floor cyc g bt110.1 bt110.2))) (fun k => ?_) (Ev.bind hu ?_)
  · rw [remontoirelaw18_RepairRight.j0, if_neg (by decide)]
  have main : Ev (fun k => remontoirelaw18_RepairRight.j1 k floor cyc g X (lp g)) true := by
    refine Ev.step (f := fun k => remontoirelaw18_RepairRight.j2 k floor g X (lp g) (cyc * 1024 * 604800) false) (fun k => ?_) ?_
    · rw [remontoirelaw18_RepairRight.j1, cw64 (cyc * 1024) (by omega), cw64 (cyc * 1024 * 604800) (by omega), cw64 (g + cyc * 1024 * 604800) (by omega)]
      unfold repair_GPS.f
      rw [e1, Option.bind_some]
      dsimp only
      rw [if_pos rfl, bne_self_eq_false]
    · refine Ev.step (f := fun k => remontoirelaw18_RepairRight.j3 k floor g X (lp g) false) (fun k => ?_) ?_
      · rw [remontoirelaw18_RepairRight.j2, if_neg (by decide), cw64 (X + cyc * 1024 * 604800) (by omega)]
        unfold repair_GPS.f
        rw [e2, Option.bind_some]
        dsimp only
        rw [if_pos rfl, bne_self_eq_false]
      · refine Ev.step (f := fun _ => some true) (fun k => ?_) (Ev.now _)
        rw [remontoirelaw18_RepairRight.j3, if_neg (by decide)]
        unfold repair_GPS.f
        rw [e3, Option.bind_some]
        dsimp only
        rw [if_pos rfl, if_pos rfl, rrk]
        rfl
  by_cases hl : lp g = true
  · refine ev_pos hl ?_
    dsimp only
    rw [cw64 (g - (i : Int) + 2524953600 - 1) (by omega)]
    rw [show g - (i : Int) + 2524953600 - 1 = X by rw [hX, hl]; rfl]
    exact main
  · refine ev_neg hl ?_
    dsimp only
    rw [show g - (i : Int) + 2524953600 = X by rw [hX, Bool.eq_false_iff.mpr hl]; show _ = g - (i : Int) + 2524953600 - 0; omega]
    exact main
end Go.Proofs.Ytjabbppmkepgdaa.Pure
