/- The plain law of CivilDates: over all int64 numbers the Lean function that was printed out of the Go law comes to true. -/
import Derived.Test.YtjabbppmkepgdaaPureCivil
namespace Go.Proofs.Ytjabbppmkepgdaa.Pure
open Go.RowKit Go.Proofs.Ytjabbppmkepgdaa Go.Proofs.Ytjabbppmkepgdaa.QC Go.Proofs.YtjabbppmkepgdaaW.PrintWords Go.Proofs.YtjabbppmkepgdaaW.PrintLast

theorem second_tells (y m d h mi s : Int) (hh : 0 ≤ h ∧ h ≤ 23) (hmi : 0 ≤ mi ∧ mi ≤ 59) (hs : 0 ≤ s ∧ s ≤ 59) (hd : 1 ≤ d ∧ d ≤ Cv.len y m) :
    Ev (fun k => civil_Second.f k y m d h mi s) ((Cv.ahead y + cum y (m - 1).toNat + d - 1) * 86400 + h * 3600 + mi * 60 + s, 0) := by
  have hv := len_date (y := y) (m := m) (d := d) (by omega) (by omega)
  have hl := len_bd y m
  have ha := ahead_bd (y := y) (by omega)
  have hc := cum_bd y (m - 1).toNat
  refine Ev.bind (day_tells y m d) ?_
  unfold dayR
  rw [if_neg (show ¬ (d < 1 ∨ Cv.len y m < d) by omega)]
  refine Ev.congr (f := fun _ => some ((Cv.ahead y + cum y (m - 1).toNat + d - 1) * 86400 + h * 3600 + mi * 60 + s, 0)) (fun k => ?_) (Ev.now _)
  rw [if_pos rfl, if_neg (by omega), if_neg (by omega), if_neg (by omega), if_neg (by omega), if_neg (by omega), if_neg (by omega)]
  dsimp only
  rw [cw64 (h * 3600) (by omega), cw64 (mi * 60) (by omega), cw64 (h * 3600 + mi * 60) (by omega), cw64 (h * 3600 + mi * 60 + s) (by omega), cw64 ((Cv.ahead y + cum y (m - 1).toNat + d - 1) * 86400) (by omega), cw64 _ (by omega)]
  congr 2
  omega

theorem civil_known : Ev (fun k => remontoirelaw03_known.f k) true := by
  refine Ev.bind (day_tells 1980 1 6) ?_
  refine Ev.bind (second_tells 2000 2 29 12 0 1 (by decide) (by decide) (by decide) (by decide)) ?_
  refine Ev.bind (day_tells 1900 2 29) ?_
  refine Ev.congr (f := fun _ => some true) (fun k => ?_) (Ev.now _)
  have e1 : dayR 1980 1 6 = (29224, 0) := by decide
  have e2 : dayR 1900 2 29 = (0, 2) := by decide
  have e3 : (Cv.ahead 2000 + cum 2000 (2 - 1 : Int).toNat + 29 - 1) * 86400 + 12 * 3600 + 0 * 60 + 1 = 3160814401 := by decide
  have e4 : Cv.len 2100 2 = 28 := by decide
  rw [e1, e2, e3]
  simp [length_some, e4]

theorem CivilDates : remontoirelaw03_CivilDates.Pure := by
  intro y m d _ _ _
  refine Ev.rounds ?_
  refine Ev.bind (day_tells y m d) ?_
  refine Ev.bind (rday_tells y m d) ?_
  refine Ev.congr (f := fun k => ((remontoireref03_Leap.f k y).bind fun t123 => (if (Cv.leap y == t123) = true then ((remontoireref03_Length.f k y m).bind fun t125 => (if Cv.len y m = t125 then ((remontoirelaw03_known.f k).bind fun t126 => (some t126)) else (some false))) else (some false)))) (fun k => ?_) ?_
  · unfold dayR rdayR
    by_cases h : d < 1 ∨ Cv.len y m < d
    · simp [h, civil_Leap.f, length_some]
    · simp [h, civil_Leap.f, length_some]
  refine Ev.bind (rleap_tells y) ?_
  simp only [beq_self_eq_true, if_true]
  refine Ev.bind (rlength_tells y m) ?_
  simp only [if_true]
  refine Ev.bind civil_known ?_
  exact Ev.now _
end Go.Proofs.Ytjabbppmkepgdaa.Pure
