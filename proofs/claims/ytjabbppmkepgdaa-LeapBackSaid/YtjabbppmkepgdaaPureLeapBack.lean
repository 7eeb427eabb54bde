/- The plain law of LeapBack. -/
import Derived.Test.YtjabbppmkepgdaaQLeapBackx1
import Derived.Test.YtjabbppmkepgdaaPureLeap
namespace Go.Proofs.Ytjabbppmkepgdaa.Pure
set_option linter.unusedVariables false
open Go.RowKit Go.Proofs.Ytjabbppmkepgdaa Go.Proofs.Ytjabbppmkepgdaa.QL Go.Proofs.Ytjabbppmkepgdaa.QLeapBack Go.Proofs.YtjabbppmkepgdaaW.PrintWords Go.Proofs.YtjabbppmkepgdaaW.PrintLast

theorem lbk : QLeapBack.remontoirelaw04_known.f = some true := by
  unfold QLeapBack.remontoirelaw04_known.f
  rw [knownL.1, knownL.2.1, knownL.2.2.1, knownL.2.2.2]
  rfl
theorem LeapBack : remontoirelaw04_LeapBack.Pure := by
  intro g w0
  have hw : -9223372036854775808 ≤ g ∧ g ≤ 9223372036854775807 := bounds_i64 w0
  unfold remontoirelaw04_LeapBack.f
  have bad : (g < 0 ∨ 6000000000 ≤ g) → ∀ k x3 x4 x6, remontoirelaw04_LeapBack.j0 (k + 1) g x3 x4 x6 true = some true := by
    intro h k x3 x4 x6
    rw [remontoirelaw04_LeapBack.j0, if_pos rfl]
    by_cases h0 : g < 0
    · rw [if_pos h0]
    · rw [if_neg h0, decide_eq_true (show g ≥ 6000000000 by omega)]
  by_cases h1 : g < 0 ∨ 6000000000 < g
  · refine ⟨1, ?_⟩
    rw [utc_no g h1]
    obtain ⟨r, hr⟩ : ∃ r, leap_UTC.f (wrap64 (g + 1)) = some r := ⟨_, rfl⟩
    rw [hr]
    exact bad (by omega) 0 0 false r.1
  obtain ⟨i, hs⟩ := seg_of g (by omega)
  rw [utc_yes hs (by omega), cw64 (g + 1) (by omega)]
  by_cases h2 : 6000000000 ≤ g
  · refine ⟨1, ?_⟩
    rw [utc_no (g + 1) (by omega)]
    exact bad (by omega) 0 (g - (i : Int) + 2524953600) (lp g) 0
  obtain ⟨j, hs'⟩ := seg_of (g + 1) (by omega)
  rw [utc_yes hs' (by omega)]
  have hi := hs.1
  have hj := hs'.1
  have e1 := l_rel i hi
  have n1 := hs.2.1
  have n2 := hs'.2.1
  have n3 := hs.2.2
  have u0 := l_ulo i hi
  refine ⟨3, ?_⟩
  show remontoirelaw04_LeapBack.j0 3 g (g - (i : Int) + 2524953600) (lp g) (g + 1 - (j : Int) + 2524953600) false = some true
  rw [remontoirelaw04_LeapBack.j0, if_neg (by decide)]
  by_cases hl : lp g = true
  · obtain ⟨hi18, e⟩ := (lp_seg hs).mp hl
    have hji : j = i + 1 := by
      have a1 := l_step i hi18
      have hj2 := hs'.2.2
      by_cases c1 : j ≤ i
      · have := l_le (i := j + 1) (j := i + 1) (by omega) (by omega)
        have := hj2 (by omega)
        omega
      · by_cases c2 : j = i + 1
        · exact c2
        · have := l_le (i := i + 1) (j := j) (by omega) hj
          omega
    subst hji
    have e2 := l_rel (i + 1) hj
    have u1 := l_ulo (i + 1) hj
    have hu : lU (i + 1) = g - (i : Int) + 2524953600 := by omega
    have hsu : SegU (g - (i : Int) + 2524953600) (i + 1) := by
      refine ⟨hj, by omega, fun h => ?_⟩
      have := l_step (i + 1) h
      have := l_rel (i + 1 + 1) (by omega)
      omega
    rw [hl, gps_at hsu true (by omega), if_neg (by omega), if_neg (by omega), if_pos rfl]
    rw [Option.bind_some, if_pos (show ((lG (i + 1) - 1, (0 : Int)) : Int × Int).2 = 0 from rfl), show (((lG (i + 1) - 1, (0 : Int)) : Int × Int).1 != g) = false from bne_eq_false_iff_eq.mpr e.symm, remontoirelaw04_LeapBack.j1, if_neg (by decide), if_pos rfl, if_pos (by omega), lbk]
    rfl
  · have hne : ¬ (i < 18 ∧ g = lG (i + 1) - 1) := fun h => hl ((lp_seg hs).mpr h)
    have hji : j = i := by
      have hj2 := hs'.2.2
      by_cases c1 : j < i
      · have := l_le (i := j + 1) (j := i) (by omega) (by omega)
        have := hj2 (by omega)
        omega
      · by_cases c2 : i < j
        · have := l_le (i := i + 1) (j := j) (by omega) hj
          have := n3 (by omega)
          omega
        · omega
    subst hji
    rw [Bool.eq_false_iff.mpr hl]
    have hsu : SegU (g - (j : Int) + 2524953600) j := by
      refine ⟨hj, by omega, fun h => ?_⟩
      have := l_rel (j + 1) (by omega)
      have := n3 h
      omega
    rw [gps_at hsu false (by omega), if_neg (by omega), if_neg (by simp), if_neg (by simp)]
    rw [Option.bind_some, if_pos (show ((g - (j : Int) + 2524953600 - 2524953600 + (j : Int), (0 : Int)) : Int × Int).2 = 0 from rfl), show (((g - (j : Int) + 2524953600 - 2524953600 + (j : Int), (0 : Int)) : Int × Int).1 != g) = false from bne_eq_false_iff_eq.mpr (by show g - (j : Int) + 2524953600 - 2524953600 + (j : Int) = g; omega), remontoirelaw04_LeapBack.j1, if_neg (by decide), if_neg (by decide), cw64 _ (by omega), if_pos (by omega), lbk]
    rfl
end Go.Proofs.Ytjabbppmkepgdaa.Pure
