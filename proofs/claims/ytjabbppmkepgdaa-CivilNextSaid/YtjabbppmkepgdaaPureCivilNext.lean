/- The plain law of CivilNext, over numbers alone: of two seconds one behind the other the moments' parts agree down to a place where the latter rises by one, and below it the former stand at their last, the latter at their first. -/
import Derived.Test.YtjabbppmkepgdaaPureCivilOf
namespace Go.Proofs.Ytjabbppmkepgdaa.Pure
set_option linter.unusedVariables false
open Go.RowKit Go.Proofs.Ytjabbppmkepgdaa Go.Proofs.Ytjabbppmkepgdaa.QC Go.Proofs.YtjabbppmkepgdaaW.PrintWords Go.Proofs.YtjabbppmkepgdaaW.PrintLast

def m6 (a b c d e f : Int) : Nat → Int
  | 0 => a | 1 => b | 2 => c | 3 => d | 4 => e | _ => f
def lo6 : Nat → Int := m6 1900 1 1 0 0 0
def hi6 (X : Nat → Int) : Nat → Int := m6 2199 12 (Cv.len (X 0) (X 1)) 23 59 59
def CN (sec : Int) (X Y : Nat → Int) (j : Nat) : Prop :=
  Ev (fun k => civil_Of.f k sec) (X 0, X 1, X 2, X 3, X 4, X 5, 0) ∧ Ev (fun k => civil_Of.f k (sec + 1)) (Y 0, Y 1, Y 2, Y 3, Y 4, Y 5, 0) ∧ Ev (fun k => civil_Second.f k (X 0) (X 1) (X 2) (X 3) (X 4) (X 5)) (sec, 0) ∧
  j ≤ 5 ∧ (∀ i, j < i → i ≤ 5 → X i = hi6 X i ∧ Y i = lo6 i) ∧ (j ≠ 0 → X j ≠ hi6 X j) ∧ (∀ i, i < j → X i = Y i) ∧ Y j = X j + 1 ∧ (∀ i, i ≤ 5 → 0 ≤ X i ∧ X i ≤ 100000)

theorem le5 (i : Nat) (h : i ≤ 5) : i = 0 ∨ i = 1 ∨ i = 2 ∨ i = 3 ∨ i = 4 ∨ i = 5 := by omega
theorem civilNext (sec : Int) (h0 : 0 ≤ sec) (h1 : sec + 1 < 9467107200) : ∃ X Y j, CN sec X Y j := by
  have e22 : Cv.ahead 2200 = 109573 := by decide
  obtain ⟨y, m, d, hd, hn⟩ := date_of (sec / 86400) (by omega) (by omega)
  have hv := len_date hd.1 hd.2
  have hl := len_bd y m
  have hb := dnum_bd hd
  have ha := of_yes y m d hd sec h0 hn.symm
  have hs := second_tells y m d (sec % 86400 / 3600) (sec % 86400 / 60 % 60) (sec % 60) (by omega) (by omega) (by omega) hd
  have hse : (Cv.ahead y + cum y (m - 1).toNat + d - 1) * 86400 + sec % 86400 / 3600 * 3600 + sec % 86400 / 60 % 60 * 60 + sec % 60 = sec := by
    unfold dnum at hn
    omega
  rw [hse] at hs
  have hX : ∀ i, i ≤ 5 → 0 ≤ m6 y m d (sec % 86400 / 3600) (sec % 86400 / 60 % 60) (sec % 60) i ∧ m6 y m d (sec % 86400 / 3600) (sec % 86400 / 60 % 60) (sec % 60) i ≤ 100000 := by
    intro i hi
    rcases le5 i hi with rfl | rfl | rfl | rfl | rfl | rfl <;> simp only [m6] <;> omega
  by_cases c : (sec + 1) / 86400 = sec / 86400
  · have hb2 := of_yes y m d hd (sec + 1) (by omega) (c.trans hn.symm)
    refine ⟨m6 y m d (sec % 86400 / 3600) (sec % 86400 / 60 % 60) (sec % 60), m6 y m d ((sec + 1) % 86400 / 3600) ((sec + 1) % 86400 / 60 % 60) ((sec + 1) % 60), ?_⟩
    by_cases c5 : sec % 60 = 59
    · by_cases c4 : sec % 86400 / 60 % 60 = 59
      · refine ⟨3, ha, hb2, hs, by omega, ?_, ?_, ?_, ?_, hX⟩
        · intro i g1 g2
          obtain rfl | rfl : i = 4 ∨ i = 5 := by omega
          all_goals simp only [m6, hi6, lo6]; omega
        · intro _; simp only [m6, hi6]; omega
        · intro i g1
          obtain rfl | rfl | rfl : i = 0 ∨ i = 1 ∨ i = 2 := by omega
          all_goals rfl
        · simp only [m6]; omega
      · refine ⟨4, ha, hb2, hs, by omega, ?_, ?_, ?_, ?_, hX⟩
        · intro i g1 g2
          obtain rfl : i = 5 := by omega
          simp only [m6, hi6, lo6]; omega
        · intro _; simp only [m6, hi6]; omega
        · intro i g1
          obtain rfl | rfl | rfl | rfl : i = 0 ∨ i = 1 ∨ i = 2 ∨ i = 3 := by omega
          all_goals simp only [m6] <;> omega
        · simp only [m6]; omega
    · refine ⟨5, ha, hb2, hs, by omega, ?_, ?_, ?_, ?_, hX⟩
      · intro i g1 g2; omega
      · intro _; simp only [m6, hi6]; omega
      · intro i g1
        obtain rfl | rfl | rfl | rfl | rfl : i = 0 ∨ i = 1 ∨ i = 2 ∨ i = 3 ∨ i = 4 := by omega
        all_goals simp only [m6] <;> omega
      · simp only [m6]; omega
  · have c' : (sec + 1) / 86400 = sec / 86400 + 1 := by omega
    have r0 : sec % 86400 = 86399 := by omega
    have q1 : (sec + 1) % 86400 / 3600 = 0 := by omega
    have q2 : (sec + 1) % 86400 / 60 % 60 = 0 := by omega
    have q3 : (sec + 1) % 60 = 0 := by omega
    have p1 : sec % 86400 / 3600 = 23 := by omega
    have p2 : sec % 86400 / 60 % 60 = 59 := by omega
    have p3 : sec % 60 = 59 := by omega
    rw [p1, p2, p3] at ha hs hX
    have fin : ∀ Y M D : Int, (1 ≤ D ∧ D ≤ Cv.len Y M) → dnum Y M D = dnum y m d + 1 → Ev (fun k => civil_Of.f k (sec + 1)) (Y, M, D, 0, 0, 0, 0) := by
      intro Y M D g1 g2
      have := of_yes Y M D g1 (sec + 1) (by omega) (by omega)
      rw [q1, q2, q3] at this
      exact this
    by_cases c2 : d = Cv.len y m
    · by_cases c1 : m = 12
      · subst c1
        have hs1 := ahead_succ (y := y) (by omega)
        have h12 := cum12 (y := y) (by omega)
        have hc12 := cum_succ y 12 (by omega)
        rw [show ((12 : Int) + 1 - 1).toNat = 12 by decide] at hc12
        have hy : y ≤ 2198 := by
          by_cases hy : y ≤ 2198
          · exact hy
          · obtain rfl : y = 2199 := by omega
            rw [show (2199 : Int) + 1 = 2200 by decide] at hs1
            unfold dnum at hn
            omega
        have g1 : 1 ≤ (1 : Int) ∧ 1 ≤ Cv.len (y + 1) 1 := ⟨by omega, by have := len_lo (y := y + 1) (m := 1) (by omega) (by omega); omega⟩
        have g2 : dnum (y + 1) 1 1 = dnum y 12 d + 1 := by
          unfold dnum
          rw [show ((1 : Int) - 1).toNat = 0 by decide, show cum (y + 1) 0 = 0 from rfl]
          omega
        refine ⟨m6 y 12 d 23 59 59, m6 (y + 1) 1 1 0 0 0, 0, ha, fin (y + 1) 1 1 g1 g2, hs, by omega, ?_, ?_, ?_, ?_, hX⟩
        · intro i g1 g2
          obtain rfl | rfl | rfl | rfl | rfl : i = 1 ∨ i = 2 ∨ i = 3 ∨ i = 4 ∨ i = 5 := by omega
          · exact ⟨rfl, rfl⟩
          · exact ⟨c2, rfl⟩
          · exact ⟨rfl, rfl⟩
          · exact ⟨rfl, rfl⟩
          · exact ⟨rfl, rfl⟩
        · intro h; exact absurd rfl h
        · intro i g1; omega
        · rfl
      · have hc := cum_succ y m (by omega)
        have g1 : 1 ≤ (1 : Int) ∧ 1 ≤ Cv.len y (m + 1) := ⟨by omega, by have := len_lo (y := y) (m := m + 1) (by omega) (by omega); omega⟩
        have g2 : dnum y (m + 1) 1 = dnum y m d + 1 := by unfold dnum; omega
        refine ⟨m6 y m d 23 59 59, m6 y (m + 1) 1 0 0 0, 1, ha, fin y (m + 1) 1 g1 g2, hs, by omega, ?_, ?_, ?_, ?_, hX⟩
        · intro i g1 g2
          obtain rfl | rfl | rfl | rfl : i = 2 ∨ i = 3 ∨ i = 4 ∨ i = 5 := by omega
          · exact ⟨c2, rfl⟩
          · exact ⟨rfl, rfl⟩
          · exact ⟨rfl, rfl⟩
          · exact ⟨rfl, rfl⟩
        · intro _; simp only [m6, hi6]; omega
        · intro i g1
          obtain rfl : i = 0 := by omega
          rfl
        · rfl
    · have g1 : 1 ≤ d + 1 ∧ d + 1 ≤ Cv.len y m := by omega
      have g2 : dnum y m (d + 1) = dnum y m d + 1 := by unfold dnum; omega
      refine ⟨m6 y m d 23 59 59, m6 y m (d + 1) 0 0 0, 2, ha, fin y m (d + 1) g1 g2, hs, by omega, ?_, ?_, ?_, ?_, hX⟩
      · intro i g1 g2
        obtain rfl | rfl | rfl : i = 3 ∨ i = 4 ∨ i = 5 := by omega
        · exact ⟨rfl, rfl⟩
        · exact ⟨rfl, rfl⟩
        · exact ⟨rfl, rfl⟩
      · intro _; simp only [m6, hi6]; omega
      · intro i g1
        obtain rfl | rfl : i = 0 ∨ i = 1 := by omega
        all_goals rfl
      · rfl
end Go.Proofs.Ytjabbppmkepgdaa.Pure
