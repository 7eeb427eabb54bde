/- The plain law of WeekBack: over all int64 numbers the Lean function that was printed out of the Go law comes to true. -/
import Derived.Test.YtjabbppmkepgdaaQWx1
import Derived.OpenShut
import Derived.IntWalk
namespace Go.Proofs.Ytjabbppmkepgdaa.Pure
open Go.RowKit Go.Proofs.Ytjabbppmkepgdaa Go.Proofs.Ytjabbppmkepgdaa.QW Go.Proofs.YtjabbppmkepgdaaW.PrintWords Go.Proofs.YtjabbppmkepgdaaW.PrintLast

theorem i64_lit {n : Int} (h : (Lit.int .i64 n).wf = true) : -9223372036854775808 ≤ n ∧ n ≤ 9223372036854775807 := bounds_i64 h
theorem w64 (n : Int) (h : -9223372036854775808 ≤ n ∧ n ≤ 9223372036854775807) : wrap64 n = n := by unfold wrap64; omega

theorem may_yes {g : Int} (h : 0 ≤ g ∧ g ≤ 6000000000) : week_may.f g = some true := congrArg some (decide_eq_true h)
theorem may_no {g : Int} (h : ¬ (0 ≤ g ∧ g ≤ 6000000000)) : week_may.f g = some false := congrArg some (decide_eq_false h)

theorem split_yes {g : Int} (h : 0 ≤ g ∧ g ≤ 6000000000) : week_Split.f g = some (g / 604800, g % 604800, 0) := by
  unfold week_Split.f
  rw [may_yes h, Option.bind_some, if_pos rfl]
  rw [Int.tdiv_eq_ediv_of_nonneg h.1, Int.tmod_eq_emod_of_nonneg h.1, w64 _ (by omega)]
theorem split_no {g : Int} (h : ¬ (0 ≤ g ∧ g ≤ 6000000000)) : week_Split.f g = some (0, 0, 9) := by
  unfold week_Split.f
  rw [may_no h, Option.bind_some, if_neg (by decide)]

/-- What week.Join tells. -/
def joinR (n t : Int) : Int × Int :=
  if n < 0 ∨ t < 0 ∨ 604799 < t then (0, 2) else if 6000000000 < n * 604800 + t then (0, 9) else (n * 604800 + t, 0)

theorem join_tells (k : Nat) (n t : Int) : week_Join.f (k + 1) n t = some (joinR n t) := by
  unfold week_Join.f
  by_cases h1 : n < 0
  · rw [if_pos h1]
    exact congrArg some (if_pos (.inl h1)).symm
  rw [if_neg h1]
  by_cases h2 : t < 0
  · rw [if_pos h2]
    exact congrArg some (if_pos (.inr (.inl h2))).symm
  rw [if_neg h2]
  by_cases h3 : t ≥ 604800
  · rw [decide_eq_true h3]
    exact congrArg some (if_pos (.inr (.inr (by omega)))).symm
  rw [decide_eq_false h3]
  unfold joinR
  rw [if_neg (show ¬ (n < 0 ∨ t < 0 ∨ 604799 < t) by omega)]
  show (if n > 9920 then (some (0, 9)) else ((week_may.f (wrap64 ((wrap64 (n * 604800)) + t))).bind fun t102 => (if t102 = true then (some (wrap64 ((wrap64 (n * 604800)) + t), 0)) else (some (0, 9))))) = _
  by_cases h4 : n > 9920
  · rw [if_pos h4, if_pos (by omega)]
  rw [if_neg h4, w64 (n * 604800) (by omega), w64 (n * 604800 + t) (by omega)]
  by_cases h5 : n * 604800 + t ≤ 6000000000
  · rw [may_yes (by omega), Option.bind_some, if_pos rfl, if_neg (by omega)]
  · rw [may_no (by omega), Option.bind_some, if_neg (by decide), if_pos (by omega)]

theorem week_known (k : Nat) : remontoirelaw05_known.f (k + 1) = some true := by
  unfold remontoirelaw05_known.f
  rw [split_yes (by omega), show week_Near.f 5 1024 10 = some (619315205, 0) by decide, join_tells]
  decide

theorem near_yes {g n f : Int} (h : ¬ (n < 1 ∨ 1024 < n ∨ f < 0 ∨ 6000000000 < f)) (h2 : ¬ (g < -1152921504606846976 ∨ 1152921504606846976 < g))
    (h3 : f + (g - f) % (n * 604800) ≤ 6000000000) : week_Near.f g n f = some (f + (g - f) % (n * 604800), 0) := by
  unfold week_Near.f Wk.near
  rw [if_neg h, if_neg h2, if_pos h3]

theorem wb_j0 (k : Nat) (x0 x1 x2 : Int) (h : ¬ x1 < 0 → ¬ x1 > x0 → ¬ x1 ≥ 619315200 → ¬ x2 < (-1000) → remontoirelaw05_WeekBack.j1 k x0 x1 x2 (decide (x2 > 1000)) = some true)
    (ht : remontoirelaw05_WeekBack.j1 k x0 x1 x2 true = some true) : remontoirelaw05_WeekBack.j0 (k + 1) x0 x1 x2 false = some true := by
  rw [remontoirelaw05_WeekBack.j0, if_neg (by decide)]
  by_cases c1 : x1 < 0
  · rw [if_pos c1, ht]
  rw [if_neg c1]
  by_cases c2 : x1 > x0
  · rw [if_pos c2, ht]
  rw [if_neg c2]
  by_cases c3 : x1 ≥ 619315200
  · rw [if_pos c3, ht]
  rw [if_neg c3]
  by_cases c4 : x2 < -1000
  · rw [if_pos c4, ht]
  rw [if_neg c4]
  exact h c1 c2 c3 c4

theorem wb_j1t (k : Nat) (x0 x1 x2 : Int) : remontoirelaw05_WeekBack.j1 (k + 2) x0 x1 x2 true = some true := by
  rw [remontoirelaw05_WeekBack.j1, if_pos rfl, week_known, Option.bind_some]

theorem WeekBack : remontoirelaw05_WeekBack.Pure := by
  intro a b c ha hb hc
  have ba := i64_lit ha
  have bb := i64_lit hb
  have bc := i64_lit hc
  refine ⟨4, ?_⟩
  unfold remontoirelaw05_WeekBack.f
  by_cases h : 0 ≤ a ∧ a ≤ 6000000000
  · rw [split_yes h, Option.bind_some]
    dsimp only
    rw [if_pos rfl, join_tells, Option.bind_some]
    have hj : joinR (a / 604800) (a % 604800) = (a, 0) := by
      unfold joinR
      rw [if_neg (by omega), if_neg (by omega), show a / 604800 * 604800 + a % 604800 = a by omega]
    rw [hj]
    dsimp only
    rw [if_pos rfl, if_pos rfl, if_neg (by omega), decide_eq_false (by omega)]
    refine wb_j0 _ _ _ _ (fun c1 c2 c3 c4 => ?_) (wb_j1t _ _ _ _)
    by_cases c5 : c > 1000
    · rw [decide_eq_true c5, wb_j1t]
    rw [decide_eq_false c5, remontoirelaw05_WeekBack.j1, if_neg (by decide)]
    rw [w64 (c * 1024) (by omega), w64 (c * 1024 * 604800) (by omega), w64 (a + c * 1024 * 604800) (by omega), w64 (a - b) (by omega)]
    have hm : (a + c * 1024 * 604800 - (a - b)) % (1024 * 604800) = b := by omega
    rw [near_yes (by omega) (by omega) (by rw [hm]; omega), hm, Option.bind_some]
    dsimp only
    rw [if_pos rfl, if_pos (by omega), week_known, Option.bind_some]
  · rw [split_no h, Option.bind_some]
    dsimp only
    rw [if_neg (by decide), week_known, Option.bind_some]
end Go.Proofs.Ytjabbppmkepgdaa.Pure
