/- Plain laws of the calendar, second part: what the Lean functions that were printed out of civil.Second, civil.Of and the document's Second, Of tell, over numbers alone. -/
import Derived.Test.YtjabbppmkepgdaaPureCivilSec
import Derived.Test.YtjabbppmkepgdaaQCx4
namespace Go.Proofs.Ytjabbppmkepgdaa.Pure
set_option linter.unusedVariables false
open Go.RowKit Go.Proofs.Ytjabbppmkepgdaa Go.Proofs.Ytjabbppmkepgdaa.QC Go.Proofs.YtjabbppmkepgdaaW.PrintWords Go.Proofs.YtjabbppmkepgdaaW.PrintLast

theorem ev_neg {α : Type} {c : Prop} [Decidable c] (hc : ¬ c) {g f : Nat → Option α} {r : α} (h : Ev f r) : Ev (fun n => if c then g n else f n) r := Ev.congr (fun k => if_neg hc) h
theorem ev_pos {α : Type} {c : Prop} [Decidable c] (hc : c) {g f : Nat → Option α} {r : α} (h : Ev g r) : Ev (fun n => if c then g n else f n) r := Ev.congr (fun k => if_pos hc) h

/-! ### Second -/
def validM (y m d h mi s : Int) : Prop := (1 ≤ d ∧ d ≤ Cv.len y m) ∧ (0 ≤ h ∧ h ≤ 23) ∧ (0 ≤ mi ∧ mi ≤ 59) ∧ (0 ≤ s ∧ s ≤ 59)
instance (y m d h mi s : Int) : Decidable (validM y m d h mi s) := by unfold validM; exact inferInstance
/-- The number of a date. -/
def dnum (y m d : Int) : Int := Cv.ahead y + cum y (m - 1).toNat + d - 1
def csecR (y m d h mi s : Int) : Int × Int := if validM y m d h mi s then (dnum y m d * 86400 + h * 3600 + mi * 60 + s, 0) else (0, 2)
def rsecR (y m d h mi s : Int) : Int × Bool := if validM y m d h mi s then (dnum y m d * 86400 + h * 3600 + mi * 60 + s, true) else (0, false)

theorem dnum_bd {y m d : Int} (h : 1 ≤ d ∧ d ≤ Cv.len y m) : 0 ≤ dnum y m d ∧ dnum y m d ≤ 110000 := by
  have hv := len_date h.1 h.2
  have hl := len_bd y m
  have ha := ahead_bd (y := y) (by omega)
  have hc := cum_bd y (m - 1).toNat
  unfold dnum
  omega

theorem csec_tells (y m d h mi s : Int) : Ev (fun k => civil_Second.f k y m d h mi s) (csecR y m d h mi s) := by
  unfold csecR
  by_cases hv : validM y m d h mi s
  · rw [if_pos hv]
    obtain ⟨a, b, c, e⟩ := hv
    exact second_tells y m d h mi s b c e a
  · rw [if_neg hv]
    refine Ev.bind (day_tells y m d) ?_
    refine Ev.congr (f := fun _ => some (0, 2)) (fun k => ?_) (Ev.now _)
    unfold dayR
    by_cases hd : d < 1 ∨ Cv.len y m < d
    · rw [if_pos hd]; rfl
    · rw [if_neg hd]
      dsimp only
      rw [if_pos rfl]
      by_cases h1 : h < 0
      · rw [if_pos h1]
      rw [if_neg h1]
      by_cases h2 : h > 23
      · rw [if_pos h2]
      rw [if_neg h2]
      by_cases h3 : mi < 0
      · rw [if_pos h3]
      rw [if_neg h3]
      by_cases h4 : mi > 59
      · rw [if_pos h4]
      rw [if_neg h4]
      by_cases h5 : s < 0
      · rw [if_pos h5]
      rw [if_neg h5]
      by_cases h6 : s > 59
      · rw [if_pos h6]
      exact absurd ⟨⟨by omega, by omega⟩, ⟨by omega, by omega⟩, ⟨by omega, by omega⟩, by omega, by omega⟩ hv

theorem rsec_tells (y m d h mi s : Int) : Ev (fun k => remontoireref03_Second.f k y m d h mi s) (rsecR y m d h mi s) := by
  unfold rsecR
  refine Ev.bind (rday_tells y m d) ?_
  refine Ev.congr (f := fun _ => some (if validM y m d h mi s then (dnum y m d * 86400 + h * 3600 + mi * 60 + s, true) else (0, false))) (fun k => ?_) (Ev.now _)
  unfold rdayR
  by_cases hd : d < 1 ∨ Cv.len y m < d
  · rw [if_pos hd, if_neg (show ¬ validM y m d h mi s from fun hv => by have := hv.1; omega)]; rfl
  · rw [if_neg hd]
    have hb := dnum_bd (y := y) (m := m) (d := d) (by omega)
    have e : Cv.ahead y + cum y (m - 1).toNat + d - 1 = dnum y m d := rfl
    rw [e]
    dsimp only
    rw [if_pos rfl]
    by_cases h1 : h < 0
    · rw [if_pos h1, if_neg (fun hv => by have := hv.2.1; omega)]
    rw [if_neg h1]
    by_cases h2 : h ≥ 24
    · rw [if_pos h2, if_neg (fun hv => by have := hv.2.1; omega)]
    rw [if_neg h2]
    by_cases h3 : mi < 0
    · rw [if_pos h3, if_neg (fun hv => by have := hv.2.2.1; omega)]
    rw [if_neg h3]
    by_cases h4 : mi ≥ 60
    · rw [if_pos h4, if_neg (fun hv => by have := hv.2.2.1; omega)]
    rw [if_neg h4]
    by_cases h5 : s < 0
    · rw [if_pos h5, if_neg (fun hv => by have := hv.2.2.2; omega)]
    rw [if_neg h5]
    by_cases h6 : s ≥ 60
    · rw [if_pos h6, if_neg (fun hv => by have := hv.2.2.2; omega)]
    rw [if_neg h6, if_pos ⟨⟨by omega, by omega⟩, ⟨by omega, by omega⟩, ⟨by omega, by omega⟩, by omega, by omega⟩]
    rw [cw64 (dnum y m d * 24) (by omega), cw64 (dnum y m d * 24 + h) (by omega), cw64 ((dnum y m d * 24 + h) * 60) (by omega), cw64 ((dnum y m d * 24 + h) * 60 + mi) (by omega), cw64 (((dnum y m d * 24 + h) * 60 + mi) * 60) (by omega), cw64 _ (by omega)]
    congr 2
    omega

/-! ### Of -/
theorem ahead_mono {a b : Int} (h : 1900 ≤ a ∧ a ≤ b) : Cv.ahead a ≤ Cv.ahead b := by unfold Cv.ahead; omega
theorem ahead_lo {y : Int} (h : 1900 ≤ y) : 365 * (y - 1900) ≤ Cv.ahead y := by unfold Cv.ahead; omega
theorem cum_mono (y : Int) (n j : Nat) : cum y n ≤ cum y (n + j) := by
  induction j with
  | zero => exact Int.le_refl _
  | succ j ih => have := len_bd y (((n + j : Nat) : Int) + 1); exact Int.le_trans ih (by show cum y (n + j) ≤ cum y (n + j) + Cv.len y (((n + j : Nat) : Int) + 1); omega)

theorem year_of (n : Nat) : ∀ day : Int, 0 ≤ day → day < Cv.ahead (1900 + n) → n ≤ 300 → ∃ Y, 1900 ≤ Y ∧ Y ≤ 2199 ∧ Cv.ahead Y ≤ day ∧ day < Cv.ahead (Y + 1) := by
  induction n with
  | zero => intro day h0 h1 _; exfalso; have : Cv.ahead (1900 + (0 : Nat)) = 0 := by decide
            omega
  | succ n ih =>
    intro day h0 h1 h2
    by_cases h : day < Cv.ahead (1900 + n)
    · exact ih day h0 h (by omega)
    · exact ⟨1900 + n, by omega, by omega, by omega, by rw [show (1900 + (n : Int) + 1) = 1900 + ((n + 1 : Nat) : Int) by push_cast; omega]; exact h1⟩
theorem month_of (y : Int) (n : Nat) : ∀ r : Int, 0 ≤ r → r < cum y n → n ≤ 12 → ∃ M : Int, 1 ≤ M ∧ M ≤ 12 ∧ cum y (M - 1).toNat ≤ r ∧ r - cum y (M - 1).toNat < Cv.len y M := by
  induction n with
  | zero => intro r h0 h1 _; exfalso; simp [cum] at h1; omega
  | succ n ih =>
    intro r h0 h1 h2
    by_cases h : r < cum y n
    · exact ih r h0 h (by omega)
    · refine ⟨n + 1, by omega, by omega, ?_, ?_⟩
      · rw [show ((n : Int) + 1 - 1).toNat = n by omega]; omega
      · rw [show ((n : Int) + 1 - 1).toNat = n by omega]; simp only [cum] at h1; omega

/-- Each number below the end is a date's. -/
theorem date_of (day : Int) (h0 : 0 ≤ day) (h1 : day < Cv.ahead 2200) : ∃ Y M D : Int, (1 ≤ D ∧ D ≤ Cv.len Y M) ∧ dnum Y M D = day := by
  obtain ⟨Y, a, b, c, e⟩ := year_of 300 day h0 (by exact h1) (by omega)
  have h12 := cum12 (y := Y) ⟨a, b⟩
  have hs := ahead_succ (y := Y) ⟨a, b⟩
  obtain ⟨M, f, g, i, j⟩ := month_of Y 12 (day - Cv.ahead Y) (by omega) (by omega) (by omega)
  exact ⟨Y, M, day - Cv.ahead Y - cum Y (M - 1).toNat + 1, by omega, by unfold dnum; omega⟩

theorem of_l1 (Y M D a b h mi s : Int) (hd : 1 ≤ D ∧ D ≤ Cv.len Y M) (j : Nat) : ∀ i : Int, 1 ≤ i → i ≤ M → M - i = j →
    Ev (fun k => civil_Of.l1 k (cum Y (M - 1).toNat + D - 1 - cum Y (i - 1).toNat) Y i b h mi s) (Y, M, D, h, mi, s, 0) := by
  have hv := len_date hd.1 hd.2
  have hl := len_bd Y M
  have hc := cum_bd Y (M - 1).toNat
  induction j with
  | zero =>
    intro i h1 h2 h3
    obtain rfl : i = M := by omega
    refine Ev.step (f := fun _ => some (Y, i, D, h, mi, s, 0)) (fun k => ?_) (Ev.now _)
    rw [civil_Of.l1, length_some, Option.bind_some, if_neg (by omega), show cum Y (i - 1).toNat + D - 1 - cum Y (i - 1).toNat + 1 = D by omega, cw64 _ (by omega)]
  | succ j ih =>
    intro i h1 h2 h3
    have hb := len_bd Y i
    have hm : cum Y (i - 1).toNat + Cv.len Y i ≤ cum Y (M - 1).toNat := by
      rw [← cum_succ Y i h1]
      have := cum_mono Y (i + 1 - 1).toNat (M - 1 - i).toNat
      rw [show (i + 1 - 1).toNat + (M - 1 - i).toNat = (M - 1).toNat by omega] at this
      exact this
    have hci := cum_bd Y (i - 1).toNat
    refine Ev.step (f := fun k => civil_Of.l1 k (cum Y (M - 1).toNat + D - 1 - cum Y (i + 1 - 1).toNat) Y (i + 1) b h mi s) (fun k => ?_) (ih (i + 1) (by omega) (by omega) (by omega))
    rw [civil_Of.l1, length_some, Option.bind_some, if_pos (by omega), Option.bind_some, cw64 (cum Y (M - 1).toNat + D - 1 - cum Y (i - 1).toNat - Cv.len Y i) (by omega), cw64 (i + 1) (by omega), cum_succ Y i h1]
    congr 1
    omega

theorem of_l0 (Y M D h mi s : Int) (hd : 1 ≤ D ∧ D ≤ Cv.len Y M) (j : Nat) : ∀ y : Int, Y ≤ y → y ≤ 2199 → y - Y = j →
    Ev (fun k => civil_Of.l0 k (dnum Y M D) y 1 0 h mi s) (Y, M, D, h, mi, s, 0) := by
  have hv := len_date hd.1 hd.2
  have hb := dnum_bd hd
  have hc := cum_bd Y (M - 1).toNat
  have hl := len_bd Y M
  induction j with
  | zero =>
    intro y h1 h2 h3
    obtain rfl : y = Y := by omega
    have ha := ahead_bd (y := y) (by omega)
    have hle : ¬ Cv.ahead y > dnum y M D := by unfold dnum; omega
    refine Ev.step (f := fun k => civil_Of.l1 k (cum y (M - 1).toNat + D - 1 - cum y (1 - 1 : Int).toNat) y 1 0 h mi s) (fun k => ?_) (of_l1 y M D 0 0 h mi s hd (M - 1).toNat 1 (by omega) (by omega) (by omega))
    rw [civil_Of.l0, ahead_some (by omega), Option.bind_some, if_neg hle, Option.bind_some, cw64 _ (by omega)]
    congr 1
    simp [cum, dnum]
    omega
  | succ j ih =>
    intro y h1 h2 h3
    have hgt : Cv.ahead y > dnum Y M D := by
      have h12 := cum12 (y := Y) (by omega)
      have hs := ahead_succ (y := Y) (by omega)
      have hm := ahead_mono (a := Y + 1) (b := y) (by omega)
      have hcm : cum Y (M - 1).toNat + Cv.len Y M ≤ cum Y 12 := by
        rw [← cum_succ Y M (by omega)]
        have := cum_mono Y (M + 1 - 1).toNat (12 - M).toNat
        rw [show (M + 1 - 1).toNat + (12 - M).toNat = 12 by omega] at this
        exact this
      unfold dnum
      omega
    refine Ev.step (f := fun k => civil_Of.l0 k (dnum Y M D) (y - 1) 1 0 h mi s) (fun k => ?_) (ih (y - 1) (by omega) (by omega) (by omega))
    rw [civil_Of.l0, ahead_some (by omega), Option.bind_some, if_pos hgt, cw64 _ (by omega)]

theorem of_yes (Y M D : Int) (hd : 1 ≤ D ∧ D ≤ Cv.len Y M) (sec : Int) (h0 : 0 ≤ sec) (h1 : sec / 86400 = dnum Y M D) :
    Ev (fun k => civil_Of.f k sec) (Y, M, D, sec % 86400 / 3600, sec % 86400 / 60 % 60, sec % 60, 0) := by
  have hv := len_date hd.1 hd.2
  have hb := dnum_bd hd
  have hcm : dnum Y M D < 109573 := by
    have h12 := cum12 (y := Y) (by omega)
    have hs := ahead_succ (y := Y) (by omega)
    have hm := ahead_mono (a := Y + 1) (b := 2200) (by omega)
    have hcm : cum Y (M - 1).toNat + Cv.len Y M ≤ cum Y 12 := by
      rw [← cum_succ Y M (by omega)]
      have := cum_mono Y (M + 1 - 1).toNat (12 - M).toNat
      rw [show (M + 1 - 1).toNat + (12 - M).toNat = 12 by omega] at this
      exact this
    have e : Cv.ahead 2200 = 109573 := by decide
    unfold dnum
    omega
  have hlo := ahead_lo (y := Y) (by omega)
  have hge : Cv.ahead Y ≤ dnum Y M D := by have := cum_bd Y (M - 1).toNat; unfold dnum; omega
  have e22 : Cv.ahead 2200 = 109573 := by decide
  refine Ev.congr (f := fun k => civil_Of.j0 k sec false) (fun k => ?_) ?_
  · unfold civil_Of.f
    rw [if_neg (by omega), ahead_some (by omega), Option.bind_some, e22, cw64 _ (by omega), decide_eq_false (by omega)]
  · have hmn : mn (1900 + dnum Y M D / 365) 2199 = if 1900 + dnum Y M D / 365 ≤ 2199 then 1900 + dnum Y M D / 365 else 2199 := by unfold mn; split <;> omega
    have hY : Y ≤ mn (1900 + dnum Y M D / 365) 2199 ∧ mn (1900 + dnum Y M D / 365) 2199 ≤ 2199 := by rw [hmn]; split <;> omega
    refine Ev.step (f := fun k => civil_Of.l0 k (dnum Y M D) (mn (1900 + dnum Y M D / 365) 2199) 1 0 (sec % 86400 / 3600) (sec % 86400 / 60 % 60) (sec % 60)) (fun k => ?_)
      (of_l0 Y M D _ _ _ hd (mn (1900 + dnum Y M D / 365) 2199 - Y).toNat _ hY.1 hY.2 (by omega))
    rw [civil_Of.j0, if_neg (by decide), Int.tdiv_eq_ediv_of_nonneg h0, cw64 (sec / 86400) (by omega), h1, Int.tdiv_eq_ediv_of_nonneg (by omega), cw64 (dnum Y M D / 365) (by omega), cw64 (1900 + dnum Y M D / 365) (by omega),
      Int.tmod_eq_emod_of_nonneg h0, Int.tdiv_eq_ediv_of_nonneg (by omega), cw64 (sec % 86400 / 3600) (by omega), Int.tdiv_eq_ediv_of_nonneg (by omega), cw64 (sec % 86400 / 60) (by omega), Int.tmod_eq_emod_of_nonneg (by omega), Int.tmod_eq_emod_of_nonneg h0]

theorem of_no (sec : Int) (h : sec < 0 ∨ 9467107200 ≤ sec) : Ev (fun k => civil_Of.f k sec) (0, 0, 0, 0, 0, 0, 9) := by
  have e22 : Cv.ahead 2200 = 109573 := by decide
  refine Ev.congr (f := fun k => civil_Of.j0 k sec true) (fun k => ?_) (Ev.step (f := fun _ => some (0, 0, 0, 0, 0, 0, 9)) (fun k => by rw [civil_Of.j0, if_pos rfl]) (Ev.now _))
  unfold civil_Of.f
  by_cases h1 : sec < 0
  · rw [if_pos h1]
  · rw [if_neg h1, ahead_some (by omega), Option.bind_some, e22, cw64 _ (by omega), decide_eq_true (by omega)]

/-! ### the document's Of -/
/-- Of a year that is over: the next one. -/
theorem rof_skip (day y a b c h mi s : Int) (r : Int × Int × Int × Int × Int × Int × Bool) (hy : 1900 ≤ y ∧ y ≤ 2199) (hday : ylen y ≤ day ∧ day ≤ 1000000)
    (hn : Ev (fun k => remontoireref03_Of.l0 k (day - ylen y) (y + 1) a b c h mi s) r) (j : Nat) : ∀ i : Int, 1 ≤ i → 13 - i = j →
    Ev (fun k => remontoireref03_Of.l1 k (day - cum y (i - 1).toNat) y i a b c h mi s) r := by
  induction j with
  | zero =>
    intro i h1 h2
    obtain rfl : i = 13 := by omega
    refine Ev.step (f := fun k => remontoireref03_Of.l0 k (day - ylen y) (y + 1) a b c h mi s) (fun k => ?_) hn
    rw [remontoireref03_Of.l1, if_neg (by omega), cw64 _ (by omega), ← cum12 hy]
    rfl
  | succ j ih =>
    intro i h1 h2
    have hb := len_bd y i
    have hci := cum_bd y (i - 1).toNat
    have hm : cum y (i - 1).toNat + Cv.len y i ≤ ylen y := by
      rw [← cum_succ y i h1, ← cum12 hy]
      have := cum_mono y (i + 1 - 1).toNat (12 - i).toNat
      rw [show (i + 1 - 1).toNat + (12 - i).toNat = 12 by omega] at this
      exact this
    refine Ev.step (f := fun k => (remontoireref03_Length.f k y i).bind fun t140 => (if (day - cum y (i - 1).toNat) < t140 then (some (y, i, wrap64 ((day - cum y (i - 1).toNat) + 1), h, mi, s, true)) else ((remontoireref03_Length.f k y i).bind fun t141 => (remontoireref03_Of.l1 k (wrap64 ((day - cum y (i - 1).toNat) - t141)) y (wrap64 (i + 1)) a b c h mi s)))) (fun k => by rw [remontoireref03_Of.l1, if_pos (by omega)]) ?_
    refine Ev.bind (rlength_tells y i) ?_
    refine ev_neg (by omega) ?_
    refine Ev.bind (rlength_tells y i) ?_
    have := ih (i + 1) (by omega) (by omega)
    rw [cum_succ y i h1] at this
    rw [cw64 _ (by omega), cw64 _ (by omega), show day - cum y (i - 1).toNat - Cv.len y i = day - (cum y (i - 1).toNat + Cv.len y i) by omega]
    exact this

theorem rof_l1 (Y M D a b c h mi s : Int) (hd : 1 ≤ D ∧ D ≤ Cv.len Y M) (j : Nat) : ∀ i : Int, 1 ≤ i → i ≤ M → M - i = j →
    Ev (fun k => remontoireref03_Of.l1 k (cum Y (M - 1).toNat + D - 1 - cum Y (i - 1).toNat) Y i a b c h mi s) (Y, M, D, h, mi, s, true) := by
  have hv := len_date hd.1 hd.2
  have hl := len_bd Y M
  have hc := cum_bd Y (M - 1).toNat
  induction j with
  | zero =>
    intro i h1 h2 h3
    obtain rfl : i = M := by omega
    refine Ev.step (f := fun k => (remontoireref03_Length.f k Y i).bind fun t140 => (if (cum Y (i - 1).toNat + D - 1 - cum Y (i - 1).toNat) < t140 then (some (Y, i, wrap64 ((cum Y (i - 1).toNat + D - 1 - cum Y (i - 1).toNat) + 1), h, mi, s, true)) else ((remontoireref03_Length.f k Y i).bind fun t141 => (remontoireref03_Of.l1 k (wrap64 ((cum Y (i - 1).toNat + D - 1 - cum Y (i - 1).toNat) - t141)) Y (wrap64 (i + 1)) a b c h mi s)))) (fun k => by rw [remontoireref03_Of.l1, if_pos (by omega)]) ?_
    refine Ev.bind (rlength_tells Y i) ?_
    refine ev_pos (by omega) ?_
    rw [show cum Y (i - 1).toNat + D - 1 - cum Y (i - 1).toNat + 1 = D by omega, cw64 _ (by omega)]
    exact Ev.now _
  | succ j ih =>
    intro i h1 h2 h3
    have hb := len_bd Y i
    have hm : cum Y (i - 1).toNat + Cv.len Y i ≤ cum Y (M - 1).toNat := by
      rw [← cum_succ Y i h1]
      have := cum_mono Y (i + 1 - 1).toNat (M - 1 - i).toNat
      rw [show (i + 1 - 1).toNat + (M - 1 - i).toNat = (M - 1).toNat by omega] at this
      exact this
    have hci := cum_bd Y (i - 1).toNat
    refine Ev.step (f := fun k => (remontoireref03_Length.f k Y i).bind fun t140 => (if (cum Y (M - 1).toNat + D - 1 - cum Y (i - 1).toNat) < t140 then (some (Y, i, wrap64 ((cum Y (M - 1).toNat + D - 1 - cum Y (i - 1).toNat) + 1), h, mi, s, true)) else ((remontoireref03_Length.f k Y i).bind fun t141 => (remontoireref03_Of.l1 k (wrap64 ((cum Y (M - 1).toNat + D - 1 - cum Y (i - 1).toNat) - t141)) Y (wrap64 (i + 1)) a b c h mi s)))) (fun k => by rw [remontoireref03_Of.l1, if_pos (by omega)]) ?_
    refine Ev.bind (rlength_tells Y i) ?_
    refine ev_neg (by omega) ?_
    refine Ev.bind (rlength_tells Y i) ?_
    have := ih (i + 1) (by omega) (by omega) (by omega)
    rw [cum_succ Y i h1] at this
    rw [cw64 _ (by omega), cw64 _ (by omega), show cum Y (M - 1).toNat + D - 1 - cum Y (i - 1).toNat - Cv.len Y i = cum Y (M - 1).toNat + D - 1 - (cum Y (i - 1).toNat + Cv.len Y i) by omega]
    exact this

theorem rof_l0 (Y M D a b c h mi s : Int) (hd : 1 ≤ D ∧ D ≤ Cv.len Y M) (j : Nat) : ∀ y : Int, 1900 ≤ y → y ≤ Y → Y - y = j →
    Ev (fun k => remontoireref03_Of.l0 k (dnum Y M D - Cv.ahead y) y a b c h mi s) (Y, M, D, h, mi, s, true) := by
  have hv := len_date hd.1 hd.2
  have hb := dnum_bd hd
  induction j with
  | zero =>
    intro y h1 h2 h3
    obtain rfl : y = Y := by omega
    refine Ev.step (f := fun k => remontoireref03_Of.l1 k (cum y (M - 1).toNat + D - 1 - cum y (1 - 1 : Int).toNat) y 1 a b c h mi s) (fun k => ?_) (rof_l1 y M D a b c h mi s hd (M - 1).toNat 1 (by omega) (by omega) (by omega))
    rw [remontoireref03_Of.l0, if_pos (by omega)]
    congr 1
    simp [cum, dnum]
    omega
  | succ j ih =>
    intro y h1 h2 h3
    have ha := ahead_bd (y := y) (by omega)
    have hs := ahead_succ (y := y) (by omega)
    have hm := ahead_mono (a := y + 1) (b := Y) (by omega)
    have hge : Cv.ahead Y ≤ dnum Y M D := by have := cum_bd Y (M - 1).toNat; unfold dnum; omega
    refine Ev.step (f := fun k => remontoireref03_Of.l1 k (dnum Y M D - Cv.ahead y - cum y (1 - 1 : Int).toNat) y 1 a b c h mi s) (fun k => ?_) ?_
    · rw [remontoireref03_Of.l0, if_pos (by omega)]
      congr 1
      simp [cum]
    · refine rof_skip (dnum Y M D - Cv.ahead y) y a b c h mi s _ (by omega) (by omega) ?_ 12 1 (by omega) (by omega)
      have := ih (y + 1) (by omega) (by omega) (by omega)
      rw [hs] at this
      rw [show dnum Y M D - Cv.ahead y - ylen y = dnum Y M D - (Cv.ahead y + ylen y) by omega]
      exact this

theorem rof_end (day a b c h mi s : Int) (hd : 109573 ≤ day ∧ day ≤ 1000000) (j : Nat) : ∀ y : Int, 1900 ≤ y → y ≤ 2200 → 2200 - y = j →
    Ev (fun k => remontoireref03_Of.l0 k (day - Cv.ahead y) y a b c h mi s) (0, 0, 0, 0, 0, 0, false) := by
  have e22 : Cv.ahead 2200 = 109573 := by decide
  induction j with
  | zero =>
    intro y h1 h2 h3
    obtain rfl : y = 2200 := by omega
    exact Ev.step (f := fun _ => some (0, 0, 0, 0, 0, 0, false)) (fun k => by rw [remontoireref03_Of.l0, if_neg (by omega)]) (Ev.now _)
  | succ j ih =>
    intro y h1 h2 h3
    have ha := ahead_bd (y := y) (by omega)
    have hs := ahead_succ (y := y) (by omega)
    have hm := ahead_mono (a := y + 1) (b := 2200) (by omega)
    refine Ev.step (f := fun k => remontoireref03_Of.l1 k (day - Cv.ahead y - cum y (1 - 1 : Int).toNat) y 1 a b c h mi s) (fun k => ?_) ?_
    · rw [remontoireref03_Of.l0, if_pos (by omega)]
      congr 1
      simp [cum]
    · refine rof_skip (day - Cv.ahead y) y a b c h mi s _ (by omega) (by omega) ?_ 12 1 (by omega) (by omega)
      have := ih (y + 1) (by omega) (by omega) (by omega)
      rw [hs] at this
      rw [show day - Cv.ahead y - ylen y = day - (Cv.ahead y + ylen y) by omega]
      exact this

theorem rof_no (sec : Int) (h : sec < 0 ∨ 9467107200 ≤ sec) : Ev (fun k => remontoireref03_Of.f k sec) (0, 0, 0, 0, 0, 0, false) := by
  by_cases h1 : sec < 0 ∨ 20000000000 ≤ sec
  · refine Ev.congr (f := fun k => remontoireref03_Of.j0 k sec true) (fun k => ?_) (Ev.step (f := fun _ => some (0, 0, 0, 0, 0, 0, false)) (fun k => by rw [remontoireref03_Of.j0, if_pos rfl]) (Ev.now _))
    unfold remontoireref03_Of.f
    by_cases h2 : sec < 0
    · rw [if_pos h2]
    · rw [if_neg h2, decide_eq_true (by omega)]
  · refine Ev.congr (f := fun k => remontoireref03_Of.j0 k sec false) (fun k => by unfold remontoireref03_Of.f; rw [if_neg (by omega), decide_eq_false (by omega)]) ?_
    refine Ev.step (f := fun k => remontoireref03_Of.l0 k (sec / 86400 - Cv.ahead 1900) 1900 0 0 0 (Int.tmod (wrap64 (Int.tdiv sec 3600)) 24) (Int.tmod (wrap64 (Int.tdiv sec 60)) 60) (Int.tmod sec 60)) (fun k => ?_) (rof_end (sec / 86400) 0 0 0 _ _ _ (by omega) 300 1900 (by omega) (by omega) (by omega))
    rw [remontoireref03_Of.j0, if_neg (by decide), Int.tdiv_eq_ediv_of_nonneg (a := sec) (b := 86400) (by omega), cw64 (sec / 86400) (by omega), show Cv.ahead 1900 = 0 by decide, show sec / 86400 - 0 = sec / 86400 by omega]

theorem rof_yes (Y M D : Int) (hd : 1 ≤ D ∧ D ≤ Cv.len Y M) (sec : Int) (h0 : 0 ≤ sec) (h1 : sec / 86400 = dnum Y M D) :
    Ev (fun k => remontoireref03_Of.f k sec) (Y, M, D, sec / 3600 % 24, sec / 60 % 60, sec % 60, true) := by
  have hv := len_date hd.1 hd.2
  have hb := dnum_bd hd
  refine Ev.congr (f := fun k => remontoireref03_Of.j0 k sec false) (fun k => by unfold remontoireref03_Of.f; rw [if_neg (by omega), decide_eq_false (by omega)]) ?_
  refine Ev.step (f := fun k => remontoireref03_Of.l0 k (dnum Y M D - Cv.ahead 1900) 1900 0 0 0 (sec / 3600 % 24) (sec / 60 % 60) (sec % 60)) (fun k => ?_) (rof_l0 Y M D 0 0 0 _ _ _ hd (Y - 1900).toNat 1900 (by omega) (by omega) (by omega))
  rw [remontoireref03_Of.j0, if_neg (by decide), Int.tdiv_eq_ediv_of_nonneg h0, Int.tdiv_eq_ediv_of_nonneg h0, Int.tdiv_eq_ediv_of_nonneg h0, cw64 (sec / 86400) (by omega), cw64 (sec / 3600) (by omega), cw64 (sec / 60) (by omega),
    Int.tmod_eq_emod_of_nonneg h0, Int.tmod_eq_emod_of_nonneg (by omega), Int.tmod_eq_emod_of_nonneg (by omega), show Cv.ahead 1900 = 0 by decide, h1, show dnum Y M D - 0 = dnum Y M D by omega]

theorem of_both (sec : Int) (w : -9223372036854775808 ≤ sec ∧ sec ≤ 9223372036854775807) : ∃ a b, Ev (fun k => civil_Of.f k sec) a ∧ Ev (fun k => remontoireref03_Of.f k sec) b ∧
    ((∃ Y M D h mi s : Int, a = (Y, M, D, h, mi, s, 0) ∧ b = (Y, M, D, h, mi, s, true)) ∨ (a = (0, 0, 0, 0, 0, 0, 9) ∧ b = (0, 0, 0, 0, 0, 0, false))) := by
  by_cases h : sec < 0 ∨ 9467107200 ≤ sec
  · exact ⟨_, _, of_no sec h, rof_no sec h, .inr ⟨rfl, rfl⟩⟩
  · have e22 : Cv.ahead 2200 = 109573 := by decide
    obtain ⟨Y, M, D, hd, hn⟩ := date_of (sec / 86400) (by omega) (by omega)
    have h2 := rof_yes Y M D hd sec (by omega) hn.symm
    rw [show sec / 3600 % 24 = sec % 86400 / 3600 by omega, show sec / 60 % 60 = sec % 86400 / 60 % 60 by omega] at h2
    exact ⟨_, _, of_yes Y M D hd sec (by omega) hn.symm, h2, .inl ⟨_, _, _, _, _, _, rfl, rfl⟩⟩
end Go.Proofs.Ytjabbppmkepgdaa.Pure
