/- Plain laws of the calendar: what the Lean functions that were printed out of the packages civil and remontoireref03 tell, over numbers alone. -/
import Derived.Test.YtjabbppmkepgdaaQCx3
import Derived.OpenShut
namespace Go.Proofs.Ytjabbppmkepgdaa.Pure
open Go.RowKit Go.Proofs.Ytjabbppmkepgdaa Go.Proofs.Ytjabbppmkepgdaa.QC Go.Proofs.YtjabbppmkepgdaaW.PrintWords Go.Proofs.YtjabbppmkepgdaaW.PrintLast

theorem cw64 (n : Int) (h : -9223372036854775808 ≤ n ∧ n ≤ 9223372036854775807) : wrap64 n = n := by unfold wrap64; omega

/-! ### words -/
/-- How many days the months ahead of month m have. -/
def cum (y : Int) : Nat → Int
  | 0 => 0
  | n + 1 => cum y n + Cv.len y ((n : Int) + 1)

theorem len_bd (y m : Int) : 0 ≤ Cv.len y m ∧ Cv.len y m ≤ 31 := by
  unfold Cv.len; repeat' split
  all_goals omega
theorem len_lo {y m : Int} (h : 1900 ≤ y ∧ y ≤ 2199) (hm : 1 ≤ m ∧ m ≤ 12) : 28 ≤ Cv.len y m := by
  unfold Cv.len; rw [if_neg (by omega)]; repeat' split
  all_goals omega
theorem len_date {y m d : Int} (h1 : 1 ≤ d) (h2 : d ≤ Cv.len y m) : 1900 ≤ y ∧ y ≤ 2199 ∧ 1 ≤ m ∧ m ≤ 12 := by
  by_cases h : y < 1900 ∨ 2199 < y ∨ m < 1 ∨ 12 < m
  · rw [show Cv.len y m = 0 from if_pos h] at h2; omega
  · omega
theorem cum_bd (y : Int) (n : Nat) : 0 ≤ cum y n ∧ cum y n ≤ 31 * n := by
  induction n with
  | zero => simp [cum]
  | succ n ih => have := len_bd y ((n : Int) + 1); simp only [cum]; omega
theorem ahead_bd {y : Int} (h : 1900 ≤ y ∧ y ≤ 2200) : 0 ≤ Cv.ahead y ∧ Cv.ahead y ≤ 109573 := by unfold Cv.ahead; omega

/-- The days of a year. -/
def ylen (y : Int) : Int := if Cv.leap y = true then 366 else 365
theorem leap_iff (y : Int) : Cv.leap y = true ↔ (1900 ≤ y ∧ y ≤ 2199 ∧ y % 4 = 0 ∧ (y % 100 ≠ 0 ∨ y % 400 = 0)) := by unfold Cv.leap; simp
theorem ahead_succ {y : Int} (h : 1900 ≤ y ∧ y ≤ 2199) : Cv.ahead (y + 1) = Cv.ahead y + ylen y := by
  unfold ylen Cv.ahead
  by_cases hl : Cv.leap y = true
  · rw [if_pos hl]; have := (leap_iff y).1 hl; omega
  · rw [if_neg hl]; have := mt (leap_iff y).2 hl; omega
theorem cum12 {y : Int} (h : 1900 ≤ y ∧ y ≤ 2199) : cum y 12 = ylen y := by
  unfold ylen
  by_cases hl : Cv.leap y = true
  · rw [if_pos hl]; simp only [cum, Cv.len]; simp [hl]; omega
  · rw [if_neg hl]; simp only [cum, Cv.len]; simp [hl]; omega

theorem ahead_some {y : Int} (h : 1900 ≤ y ∧ y ≤ 2200) : civil_ahead.f y = some (Cv.ahead y) := if_pos h
theorem length_some (y m : Int) : civil_Length.f y m = some (Cv.len y m) := rfl

/-! ### civil.Day -/
/-- What civil.Day tells. -/
def dayR (y m d : Int) : Int × Int := if d < 1 ∨ Cv.len y m < d then (0, 2) else (Cv.ahead y + cum y (m - 1).toNat + d - 1, 0)

theorem cum_succ (y i : Int) (h : 1 ≤ i) : cum y (i + 1 - 1).toNat = cum y (i - 1).toNat + Cv.len y i := by
  obtain ⟨q, rfl⟩ : ∃ q : Nat, i = (q : Int) + 1 := ⟨(i - 1).toNat, by omega⟩
  rw [show ((q : Int) + 1 + 1 - 1).toNat = q + 1 by omega, show ((q : Int) + 1 - 1).toNat = q by omega]; rfl

theorem day_loop (y m : Int) (hm : 1 ≤ m ∧ m ≤ 12) (j : Nat) : ∀ (n i : Int), 1 ≤ i → i ≤ m → m - i = j → 0 ≤ n → n + 31 * j ≤ 1000000 →
    Ev (fun k => civil_Day.l0 k y m n i) (n + cum y (m - 1).toNat - cum y (i - 1).toNat, 0) := by
  induction j with
  | zero =>
    intro n i h1 h2 h3 h4 h5
    obtain rfl : i = m := by omega
    refine Ev.step (f := fun _ => some (n, 0)) (fun k => by rw [civil_Day.l0, if_neg (by omega)]) ?_
    rw [show n + cum y (i - 1).toNat - cum y (i - 1).toNat = n by omega]
    exact Ev.now _
  | succ j ih =>
    intro n i h1 h2 h3 h4 h5
    have hb := len_bd y i
    refine Ev.step (f := fun k => civil_Day.l0 k y m (n + Cv.len y i) (i + 1)) (fun k => ?_) ?_
    · rw [civil_Day.l0, if_pos (by omega), length_some, Option.bind_some, cw64 _ (by omega), cw64 _ (by omega)]
    · have := ih (n + Cv.len y i) (i + 1) (by omega) (by omega) (by omega) (by omega) (by omega)
      rw [cum_succ y i h1] at this
      rw [show n + cum y (m - 1).toNat - cum y (i - 1).toNat = n + Cv.len y i + cum y (m - 1).toNat - (cum y (i - 1).toNat + Cv.len y i) by omega]
      exact this

theorem day_tells (y m d : Int) : Ev (fun k => civil_Day.f k y m d) (dayR y m d) := by
  unfold dayR
  by_cases h : d < 1 ∨ Cv.len y m < d
  · rw [if_pos h]
    by_cases h1 : d < 1
    · refine Ev.congr (f := fun k => civil_Day.j0 k y m d true) (fun k => by unfold civil_Day.f; rw [if_pos h1]) ?_
      exact Ev.step (f := fun _ => some (0, 2)) (fun k => by rw [civil_Day.j0, if_pos rfl]) (Ev.now _)
    · refine Ev.congr (f := fun k => civil_Day.j0 k y m d true) (fun k => by unfold civil_Day.f; rw [if_neg h1, length_some, Option.bind_some, decide_eq_true (by omega)]) ?_
      exact Ev.step (f := fun _ => some (0, 2)) (fun k => by rw [civil_Day.j0, if_pos rfl]) (Ev.now _)
  · rw [if_neg h]
    have hv := len_date (y := y) (m := m) (d := d) (by omega) (by omega)
    have hl := len_bd y m
    have ha := ahead_bd (y := y) (by omega)
    refine Ev.congr (f := fun k => civil_Day.j0 k y m d false) (fun k => by unfold civil_Day.f; rw [if_neg (by omega), length_some, Option.bind_some, decide_eq_false (by omega)]) ?_
    refine Ev.step (f := fun k => civil_Day.l0 k y m (Cv.ahead y + d - 1) 1) (fun k => ?_) ?_
    · rw [civil_Day.j0, if_neg (by decide), ahead_some (by omega), Option.bind_some, cw64 (Cv.ahead y + d) (by omega), cw64 _ (by omega)]
    · have := day_loop y m (by omega) (m - 1).toNat (Cv.ahead y + d - 1) 1 (by omega) (by omega) (by omega) (by omega) (by omega)
      rw [show Cv.ahead y + cum y (m - 1).toNat + d - 1 = Cv.ahead y + d - 1 + cum y (m - 1).toNat - cum y (1 - 1 : Int).toNat by simp [cum]; omega]
      exact this

/-! ### the document's Leap, Length, Day -/
theorem rleap_tells (y : Int) : Ev (fun k => remontoireref03_Leap.f k y) (Cv.leap y) := by
  by_cases h1 : y < 1900
  · refine Ev.congr (f := fun k => remontoireref03_Leap.j0 k y true) (fun k => by unfold remontoireref03_Leap.f; rw [if_pos h1]) ?_
    rw [Cv.leap_no (.inl h1)]
    exact Ev.step (f := fun _ => some false) (fun k => by rw [remontoireref03_Leap.j0, if_pos rfl]) (Ev.now _)
  by_cases h2 : y > 2199
  · refine Ev.congr (f := fun k => remontoireref03_Leap.j0 k y true) (fun k => by unfold remontoireref03_Leap.f; rw [if_neg h1, decide_eq_true h2]) ?_
    rw [Cv.leap_no (.inr h2)]
    exact Ev.step (f := fun _ => some false) (fun k => by rw [remontoireref03_Leap.j0, if_pos rfl]) (Ev.now _)
  refine Ev.congr (f := fun k => remontoireref03_Leap.j0 k y false) (fun k => by unfold remontoireref03_Leap.f; rw [if_neg h1, decide_eq_false h2]) ?_
  refine Ev.step (f := fun _ => some (Cv.leap y)) (fun k => ?_) (Ev.now _)
  rw [remontoireref03_Leap.j0, if_neg (by decide), Int.tmod_eq_emod_of_nonneg (by omega), Int.tmod_eq_emod_of_nonneg (by omega), Int.tmod_eq_emod_of_nonneg (by omega)]
  by_cases h3 : y % 400 = 0
  · rw [if_pos h3, (leap_iff y).2 (by omega)]
  rw [if_neg h3]
  by_cases h4 : y % 4 = 0
  · rw [if_pos h4]
    by_cases h5 : y % 100 = 0
    · rw [show Cv.leap y = false from decide_eq_false (by omega), h5]; rfl
    · rw [(leap_iff y).2 (by omega), bne_iff_ne.mpr h5]
  · rw [if_neg h4, show Cv.leap y = false from decide_eq_false (by omega)]

theorem rlength_tells (y m : Int) : Ev (fun k => remontoireref03_Length.f k y m) (Cv.len y m) := by
  by_cases h1 : y < 1900 ∨ y > 2199
  · refine Ev.congr (f := fun k => remontoireref03_Length.j0 k y m true) (fun k => ?_) ?_
    · unfold remontoireref03_Length.f
      by_cases h : y < 1900
      · rw [if_pos h]
      · rw [if_neg h, decide_eq_true (by omega)]
    · rw [show Cv.len y m = 0 from if_pos (by omega)]
      exact Ev.step (f := fun _ => some 0) (fun k => by rw [remontoireref03_Length.j0, if_pos rfl]) (Ev.now _)
  refine Ev.congr (f := fun k => remontoireref03_Length.j0 k y m false) (fun k => by unfold remontoireref03_Length.f; rw [if_neg (by omega), decide_eq_false (by omega)]) ?_
  refine Ev.step (f := fun k => remontoireref03_Length.j1 k y m (decide (m = 1 ∨ m = 3 ∨ m = 5 ∨ m = 7 ∨ m = 8 ∨ m = 10 ∨ m = 12))) (fun k => ?_) ?_
  · rw [remontoireref03_Length.j0, if_neg (by decide)]
    repeat' split
    all_goals congr 1
    all_goals (rw [Bool.eq_iff_iff]; simp; try omega)
  by_cases h31 : m = 1 ∨ m = 3 ∨ m = 5 ∨ m = 7 ∨ m = 8 ∨ m = 10 ∨ m = 12
  · rw [decide_eq_true h31, show Cv.len y m = 31 by unfold Cv.len; rw [if_neg (by omega), if_neg (by omega), if_neg (by omega)]]
    exact Ev.step (f := fun _ => some 31) (fun k => by rw [remontoireref03_Length.j1, if_pos rfl]) (Ev.now _)
  rw [decide_eq_false h31]
  refine Ev.step (f := fun k => remontoireref03_Length.j2 k y m (decide (m = 4 ∨ m = 6 ∨ m = 9 ∨ m = 11))) (fun k => ?_) ?_
  · rw [remontoireref03_Length.j1, if_neg (by decide)]
    repeat' split
    all_goals congr 1
    all_goals (rw [Bool.eq_iff_iff]; simp; try omega)
  by_cases h30 : m = 4 ∨ m = 6 ∨ m = 9 ∨ m = 11
  · rw [decide_eq_true h30, show Cv.len y m = 30 by unfold Cv.len; rw [if_neg (by omega), if_neg (by omega), if_pos h30]]
    exact Ev.step (f := fun _ => some 30) (fun k => by rw [remontoireref03_Length.j2, if_pos rfl]) (Ev.now _)
  rw [decide_eq_false h30]
  by_cases h2 : m = 2
  · refine Ev.step (f := fun k => ((remontoireref03_Leap.f k y).bind fun t104 => (if t104 = true then (some 29) else (some 28)))) (fun k => by rw [remontoireref03_Length.j2, if_neg (by decide), if_pos h2]) ?_
    refine Ev.bind (rleap_tells y) ?_
    subst h2
    rw [show Cv.len y 2 = (if Cv.leap y = true then 29 else 28) by unfold Cv.len; rw [if_neg (by omega), if_pos rfl]]
    refine Ev.congr (f := fun _ => some (if Cv.leap y = true then 29 else 28)) (fun k => by split <;> rfl) (Ev.now _)
  · rw [show Cv.len y m = 0 from if_pos (by omega)]
    exact Ev.step (f := fun _ => some 0) (fun k => by rw [remontoireref03_Length.j2, if_neg (by decide), if_neg h2]) (Ev.now _)

/-- What the document's Day tells. -/
def rdayR (y m d : Int) : Int × Bool := if d < 1 ∨ Cv.len y m < d then (0, false) else (Cv.ahead y + cum y (m - 1).toNat + d - 1, true)

theorem rday_l2 (y m d : Int) (hm : 1 ≤ m ∧ m ≤ 12) (hd : 1 ≤ d ∧ d ≤ 31) (j : Nat) : ∀ (n i : Int), 1 ≤ i → i ≤ m → m - i = j → 0 ≤ n → n + 31 * j ≤ 1000000 →
    Ev (fun k => remontoireref03_Day.l2 k y m d n i) (n + cum y (m - 1).toNat - cum y (i - 1).toNat + d - 1, true) := by
  induction j with
  | zero =>
    intro n i h1 h2 h3 h4 h5
    obtain rfl : i = m := by omega
    refine Ev.step (f := fun _ => some (n + d - 1, true)) (fun k => by rw [remontoireref03_Day.l2, if_neg (by omega), cw64 (n + d) (by omega), cw64 _ (by omega)]) ?_
    rw [show n + cum y (i - 1).toNat - cum y (i - 1).toNat + d - 1 = n + d - 1 by omega]
    exact Ev.now _
  | succ j ih =>
    intro n i h1 h2 h3 h4 h5
    have hb := len_bd y i
    refine Ev.step (f := fun k => (remontoireref03_Length.f k y i).bind fun t => remontoireref03_Day.l2 k y m d (wrap64 (n + t)) (wrap64 (i + 1))) (fun k => by rw [remontoireref03_Day.l2, if_pos (by omega)]) ?_
    refine Ev.bind (rlength_tells y i) ?_
    rw [cw64 _ (by omega), cw64 _ (by omega)]
    have := ih (n + Cv.len y i) (i + 1) (by omega) (by omega) (by omega) (by omega) (by omega)
    rw [cum_succ y i h1] at this
    rw [show n + cum y (m - 1).toNat - cum y (i - 1).toNat + d - 1 = n + Cv.len y i + cum y (m - 1).toNat - (cum y (i - 1).toNat + Cv.len y i) + d - 1 by omega]
    exact this

theorem rday_l1 (y m d yy : Int) (r : Int × Bool) (hy : 1900 ≤ yy ∧ yy ≤ 2199) (n0 : Int) (hn0 : 0 ≤ n0 ∧ n0 ≤ 1000000)
    (h : Ev (fun k => remontoireref03_Day.l0 k y m d (n0 + ylen yy) (yy + 1)) r) (j : Nat) : ∀ (n i : Int), 1 ≤ i → 13 - i = j → n = n0 + cum yy (i - 1).toNat →
    Ev (fun k => remontoireref03_Day.l1 k y m d n yy i) r := by
  induction j with
  | zero =>
    intro n i h1 h2 h3
    obtain rfl : i = 13 := by omega
    refine Ev.step (f := fun k => remontoireref03_Day.l0 k y m d (n0 + ylen yy) (yy + 1)) (fun k => ?_) h
    rw [remontoireref03_Day.l1, if_neg (by omega), cw64 _ (by omega), h3, ← cum12 hy]
    rfl
  | succ j ih =>
    intro n i h1 h2 h3
    have hb := len_bd yy i
    have hc := cum_bd yy (i - 1).toNat
    refine Ev.step (f := fun k => (remontoireref03_Length.f k yy i).bind fun t => remontoireref03_Day.l1 k y m d (wrap64 (n + t)) yy (wrap64 (i + 1))) (fun k => by rw [remontoireref03_Day.l1, if_pos (by omega)]) ?_
    refine Ev.bind (rlength_tells yy i) ?_
    rw [cw64 _ (by omega), cw64 _ (by omega)]
    exact ih (n + Cv.len yy i) (i + 1) (by omega) (by omega) (by rw [cum_succ yy i h1, h3]; omega)

theorem rday_l0 (y m d : Int) (hy : 1900 ≤ y ∧ y ≤ 2199) (hm : 1 ≤ m ∧ m ≤ 12) (hd : 1 ≤ d ∧ d ≤ 31) (j : Nat) : ∀ (yy : Int), 1900 ≤ yy → yy ≤ y → y - yy = j →
    Ev (fun k => remontoireref03_Day.l0 k y m d (Cv.ahead yy) yy) (Cv.ahead y + cum y (m - 1).toNat + d - 1, true) := by
  induction j with
  | zero =>
    intro yy h1 h2 h3
    obtain rfl : yy = y := by omega
    have ha := ahead_bd (y := yy) (by omega)
    refine Ev.step (f := fun k => remontoireref03_Day.l2 k yy m d (Cv.ahead yy) 1) (fun k => by rw [remontoireref03_Day.l0, if_neg (by omega)]) ?_
    have := rday_l2 yy m d hm hd (m - 1).toNat (Cv.ahead yy) 1 (by omega) (by omega) (by omega) (by omega) (by omega)
    rw [show Cv.ahead yy + cum yy (m - 1).toNat + d - 1 = Cv.ahead yy + cum yy (m - 1).toNat - cum yy (1 - 1 : Int).toNat + d - 1 by simp [cum]]
    exact this
  | succ j ih =>
    intro yy h1 h2 h3
    have ha := ahead_bd (y := yy) (by omega)
    refine Ev.step (f := fun k => remontoireref03_Day.l1 k y m d (Cv.ahead yy) yy 1) (fun k => by rw [remontoireref03_Day.l0, if_pos (by omega)]) ?_
    refine rday_l1 y m d yy _ (by omega) (Cv.ahead yy) (by omega) ?_ 12 _ 1 (by omega) (by omega) (by simp [cum])
    rw [← ahead_succ (by omega)]
    exact ih (yy + 1) (by omega) (by omega) (by omega)

theorem rday_tells (y m d : Int) : Ev (fun k => remontoireref03_Day.f k y m d) (rdayR y m d) := by
  unfold rdayR
  by_cases h : d < 1 ∨ Cv.len y m < d
  · rw [if_pos h]
    by_cases h1 : d < 1
    · refine Ev.congr (f := fun k => remontoireref03_Day.j0 k y m d true) (fun k => by unfold remontoireref03_Day.f; rw [if_pos h1]) ?_
      exact Ev.step (f := fun _ => some (0, false)) (fun k => by rw [remontoireref03_Day.j0, if_pos rfl]) (Ev.now _)
    · refine Ev.congr (f := fun k => (remontoireref03_Length.f k y m).bind fun t => remontoireref03_Day.j0 k y m d (decide (d > t))) (fun k => by unfold remontoireref03_Day.f; rw [if_neg h1]) ?_
      refine Ev.bind (rlength_tells y m) ?_
      rw [decide_eq_true (by omega)]
      exact Ev.step (f := fun _ => some (0, false)) (fun k => by rw [remontoireref03_Day.j0, if_pos rfl]) (Ev.now _)
  · rw [if_neg h]
    have hv := len_date (y := y) (m := m) (d := d) (by omega) (by omega)
    have hl := len_bd y m
    refine Ev.congr (f := fun k => (remontoireref03_Length.f k y m).bind fun t => remontoireref03_Day.j0 k y m d (decide (d > t))) (fun k => by unfold remontoireref03_Day.f; rw [if_neg (by omega)]) ?_
    refine Ev.bind (rlength_tells y m) ?_
    rw [decide_eq_false (by omega)]
    refine Ev.step (f := fun k => remontoireref03_Day.l0 k y m d 0 1900) (fun k => by rw [remontoireref03_Day.j0, if_neg (by decide)]) ?_
    exact rday_l0 y m d (by omega) (by omega) (by omega) (y - 1900).toNat 1900 (by omega) (by omega) (by omega)
end Go.Proofs.Ytjabbppmkepgdaa.Pure
