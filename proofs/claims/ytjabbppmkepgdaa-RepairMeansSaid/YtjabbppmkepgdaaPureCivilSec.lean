/- A plain law of civil.Second: of a moment that is one it tells the second. -/
import Derived.Test.YtjabbppmkepgdaaPureCivil
namespace Go.Proofs.Ytjabbppmkepgdaa.Pure
open Go.RowKit Go.Proofs.Ytjabbppmkepgdaa Go.Proofs.Ytjabbppmkepgdaa.QC Go.Proofs.YtjabbppmkepgdaaW.PrintWords Go.Proofs.YtjabbppmkepgdaaW.PrintLast

theorem second_tells (y m d h mi s : Int) (hh : 0 ≤ h ∧ h ≤ 23) (hmi : 0 ≤ mi ∧ mi ≤ 59) (hs : 0 ≤ s ∧ s ≤ 59) (hd : 1 ≤ d ∧ d ≤ Cv.len y m) :
    Ev (fun k => civil_Second.f k y m d h mi s) ((Cv.ahead y + cum y (m - 1).toNat + d - 1) * 86400 + h * 3600 + mi * 60 + s, 0) := by
  have hv := len_date (y := y) (m := m) (d := d) (by omega) (by omega)
  have hl := len_bd y m
  have ha := ahead_bd (y := y) (by omega)
  have hc := cum_bd y (m - 1).toNat
  refine Ev.bind (day_tells y m d) ?_
  unfold dayR
  rw [if_neg (show ¬ (d < 1 ∨ Cv.len y m < d) by omega)]
  refine Ev.congr (f := fun _ => some ((Cv.ahead y + cum y (m - 1).toNat + d - 1) * 86400 + h * 3600 + mi * 60 + s, 0)) (fun k => ?_) (Ev.now _)
  rw [if_pos rfl, if_neg (by omega), if_neg (by omega), if_neg (by omega), if_neg (by omega), if_neg (by omega), if_neg (by omega)]
  dsimp only
  rw [cw64 (h * 3600) (by omega), cw64 (mi * 60) (by omega), cw64 (h * 3600 + mi * 60) (by omega), cw64 (h * 3600 + mi * 60 + s) (by omega), cw64 ((Cv.ahead y + cum y (m - 1).toNat + d - 1) * 86400) (by omega), cw64 _ (by omega)]
  congr 2
  omega
end Go.Proofs.Ytjabbppmkepgdaa.Pure
