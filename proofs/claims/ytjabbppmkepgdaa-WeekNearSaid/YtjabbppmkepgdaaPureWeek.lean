/- Plain laws of layer 5: the document's weeks, seconds of weeks and seconds near a floor are those of the program. -/
import Derived.Test.YtjabbppmkepgdaaPureBigOps
namespace Go.Proofs.Ytjabbppmkepgdaa.Big
set_option linter.unusedVariables false
open Go.RowKit Go.Proofs.Ytjabbppmkepgdaa Go.Proofs.Ytjabbppmkepgdaa.QB Go.Proofs.Ytjabbppmkepgdaa.QS Go.Proofs.YtjabbppmkepgdaaW.PrintWords Go.Proofs.YtjabbppmkepgdaaW.PrintLast Go.Proofs.YtjabbppmkepgdaaW.PrintMore

theorem may_yes {g : Int} (h : 0 ≤ g ∧ g ≤ 6000000000) : week_may.f g = some true := congrArg some (decide_eq_true h)
theorem may_no {g : Int} (h : ¬ (0 ≤ g ∧ g ≤ 6000000000)) : week_may.f g = some false := congrArg some (decide_eq_false h)
theorem split_yes {g : Int} (h : 0 ≤ g ∧ g ≤ 6000000000) : week_Split.f g = some (g / 604800, g % 604800, 0) := by
  unfold week_Split.f
  rw [may_yes h, Option.bind_some, if_pos rfl]
  rw [Int.tdiv_eq_ediv_of_nonneg h.1, Int.tmod_eq_emod_of_nonneg h.1, b64 _ (by omega)]
theorem split_no {g : Int} (h : ¬ (0 ≤ g ∧ g ≤ 6000000000)) : week_Split.f g = some (0, 0, 9) := by
  unfold week_Split.f
  rw [may_no h, Option.bind_some, if_neg (by decide)]
def joinR (n t : Int) : Int × Int :=
  if n < 0 ∨ t < 0 ∨ 604799 < t then (0, 2) else if 6000000000 < n * 604800 + t then (0, 9) else (n * 604800 + t, 0)
theorem join_tells (k : Nat) (n t : Int) : week_Join.f (k + 1) n t = some (joinR n t) := by
  unfold week_Join.f
  by_cases h1 : n < 0
  · rw [if_pos h1]
    exact congrArg some (if_pos (.inl h1)).symm
  rw [if_neg h1]
  by_cases h2 : t < 0
  · rw [if_pos h2]
    exact congrArg some (if_pos (.inr (.inl h2))).symm
  rw [if_neg h2]
  by_cases h3 : t ≥ 604800
  · rw [decide_eq_true h3]
    exact congrArg some (if_pos (.inr (.inr (by omega)))).symm
  rw [decide_eq_false h3]
  unfold joinR
  rw [if_neg (show ¬ (n < 0 ∨ t < 0 ∨ 604799 < t) by omega)]
  show (if n > 9920 then (some (0, 9)) else ((week_may.f (wrap64 ((wrap64 (n * 604800)) + t))).bind fun t102 => (if t102 = true then (some (wrap64 ((wrap64 (n * 604800)) + t), 0)) else (some (0, 9))))) = _
  by_cases h4 : n > 9920
  · rw [if_pos h4, if_pos (by omega)]
  rw [if_neg h4, b64 (n * 604800) (by omega), b64 (n * 604800 + t) (by omega)]
  by_cases h5 : n * 604800 + t ≤ 6000000000
  · rw [may_yes (by omega), Option.bind_some, if_pos rfl, if_neg (by omega)]
  · rw [may_no (by omega), Option.bind_some, if_neg (by decide), if_pos (by omega)]
theorem joinev (n t : Int) : Ev (fun k => week_Join.f k n t) (joinR n t) := Ev.step (f := fun _ => some (joinR n t)) (fun k => join_tells k n t) (Ev.now _)
theorem week_known : Ev (fun k => remontoirelaw05_known.f k) true := by
  unfold remontoirelaw05_known.f
  rw [split_yes (by omega), show week_Near.f 5 1024 10 = some (619315205, 0) by decide]
  refine Ev.bind (Ev.now _) (Ev.bind (Ev.now _) (Ev.bind (joinev 0 604800) ?_))
  exact e_pos rfl (e_pos rfl (e_pos (by decide) (e_pos (by decide) (e_pos (by decide) (Ev.now _)))))
theorem in05 (g : Int) : remontoireref05_In.f g = some (decide (0 ≤ g ∧ g ≤ 6000000000)) := by
  unfold remontoireref05_In.f
  by_cases h : g ≥ 0
  · rw [if_pos h]
    by_cases h2 : g ≤ 6000000000
    · rw [decide_eq_true h2, decide_eq_true (show 0 ≤ g ∧ g ≤ 6000000000 by omega)]
    · rw [decide_eq_false h2, decide_eq_false (show ¬ (0 ≤ g ∧ g ≤ 6000000000) by omega)]
  · rw [if_neg h, decide_eq_false (show ¬ (0 ≤ g ∧ g ≤ 6000000000) by omega)]

/-! ### the document's answers -/
theorem rsplit_tells {g : Int} (h : 0 ≤ g ∧ g ≤ 6000000000) : Ev (fun k => remontoireref05_Split.f k g) (g / 604800, g % 604800) := by
  obtain ⟨s1, x, e1, g1, l1, _⟩ := of_good (n := g) (by omega)
  obtain ⟨s2, y, e2, g2, l2, z2⟩ := of_good (n := 604800) (by omega)
  obtain rfl := z2 (by omega)
  obtain ⟨q1, q, r1, r, e3, g3, g4, _⟩ := down_good g1 g2 (by omega) (by omega) (by omega)
  unfold remontoireref05_Split.f
  rw [e1, e2]
  exact Ev.bind (Ev.now _) (Ev.bind (Ev.now _) (Ev.bind e3 (Ev.bind (held_tells g3 (by omega)) (Ev.bind (held_tells g4 (by omega)) (Ev.now _)))))
theorem rjoin_tells (n t : Int) (hn : n ≤ 9223372036854775807) : Ev (fun k => remontoireref05_Join.f k n t) (joinR n t) := by
  have bad : (n < 0 ∨ t < 0 ∨ 604799 < t) → Ev (fun k => remontoireref05_Join.j0 k n t true) (joinR n t) := by
    intro h
    refine Ev.step (f := fun _ => some (0, 2)) (fun k => by rw [remontoireref05_Join.j0, if_pos rfl]) ?_
    unfold joinR
    rw [if_pos h]
    exact Ev.now _
  unfold remontoireref05_Join.f
  by_cases h1 : n < 0
  · exact e_pos h1 (bad (.inl h1))
  refine e_neg h1 ?_
  by_cases h2 : t < 0
  · exact e_pos h2 (bad (.inr (.inl h2)))
  refine e_neg h2 ?_
  by_cases h3 : t > 604799
  · rw [decide_eq_true h3]; exact bad (.inr (.inr h3))
  rw [decide_eq_false h3]
  obtain ⟨s1, x, e1, g1, l1, z1⟩ := of_good (n := n) (by omega)
  obtain rfl := z1 (by omega)
  obtain ⟨s2, y, e2, g2, l2, z2⟩ := of_good (n := 604800) (by omega)
  obtain rfl := z2 (by omega)
  obtain ⟨s3, z, e3, g3, l3, z3⟩ := of_good (n := t) (by omega)
  obtain rfl := z3 (by omega)
  obtain ⟨s4, v, e4, g4, l4, z4⟩ := of_good (n := 6000000000) (by omega)
  obtain rfl := z4 (by omega)
  obtain ⟨s5, p, e5, g5, l5, z5⟩ := mul_good g1 g2 l1 l2
  obtain rfl := z5
  obtain ⟨s6, a, e6, g6, l6, z6⟩ := add_good g5 g3 200 (by omega) (by omega) (by omega)
  obtain rfl := z6 rfl rfl
  have hc := cmp_tells g6 g4
  refine Ev.step (f := fun k => (remontoireref01_Mul.f k false x false y).bind fun bt148 => ((remontoireref01_Add.f k bt148.1 bt148.2 false z).bind fun bt156 => ((remontoireref01_Cmp.f k bt156.1 bt156.2 false v).bind fun t165 => (if t165 > 0 then (some (0, 9)) else ((remontoireref01_Held.f k bt156.1 bt156.2).bind fun t166 => (some (t166, 0))))))) (fun k => ?_) (Ev.bind e5 (Ev.bind e6 (Ev.bind hc ?_)))
  · rw [remontoireref05_Join.j0, if_neg (by decide), e1, e2, e3, e4]
    rfl
  unfold joinR
  rw [if_neg (by omega)]
  unfold cmpv
  by_cases h6 : 6000000000 < 604800 * n + t
  · rw [if_pos h6, if_pos (by omega)]
    exact e_pos (by omega) (Ev.now _)
  · rw [if_neg h6, if_neg (show ¬ 6000000000 < n * 604800 + t by omega)]
    refine e_neg (by split <;> omega) ?_
    have hh := held_tells g6 (by omega)
    rw [show n * 604800 + t = 604800 * n + t by omega]
    exact Ev.bind hh (Ev.now _)
theorem rnear_tells (g n f : Int) : Ev (fun k => remontoireref05_Near.f k g n f) (Wk.near g n f) := by
  have bad : (n < 1 ∨ 1024 < n ∨ f < 0 ∨ 6000000000 < f) → Ev (fun k => remontoireref05_Near.j0 k g n f true) (Wk.near g n f) := by
    intro h
    refine Ev.step (f := fun _ => some (0, 2)) (fun k => by rw [remontoireref05_Near.j0, if_pos rfl]) ?_
    unfold Wk.near
    rw [if_pos h]
    exact Ev.now _
  unfold remontoireref05_Near.f
  by_cases h1 : n < 1
  · exact e_pos h1 (bad (.inl h1))
  refine e_neg h1 ?_
  by_cases h2 : n > 1024
  · exact e_pos h2 (bad (.inr (.inl h2)))
  refine e_neg h2 ?_
  rw [in05]
  refine Ev.bind (Ev.now _) ?_
  by_cases h3 : 0 ≤ f ∧ f ≤ 6000000000
  · rw [decide_eq_true h3]
    have over : (g < -1152921504606846976 ∨ 1152921504606846976 < g) → Ev (fun k => remontoireref05_Near.j1 k g n f true) (Wk.near g n f) := by
      intro h
      refine Ev.step (f := fun _ => some (0, 9)) (fun k => by rw [remontoireref05_Near.j1, if_pos rfl]) ?_
      unfold Wk.near
      rw [if_neg (by omega), if_pos h]
      exact Ev.now _
    refine Ev.step (f := fun k => if g < (-1152921504606846976) then (remontoireref05_Near.j1 k g n f true) else (remontoireref05_Near.j1 k g n f (decide (g > 1152921504606846976)))) (fun k => by rw [remontoireref05_Near.j0, if_neg (by decide)]) ?_
    by_cases h4 : g < -1152921504606846976
    · exact e_pos h4 (over (.inl h4))
    refine e_neg h4 ?_
    by_cases h5 : g > 1152921504606846976
    · rw [decide_eq_true h5]; exact over (.inr h5)
    rw [decide_eq_false h5]
    obtain ⟨s1, x, e1, g1, l1, _⟩ := of_good (n := g) (by omega)
    obtain ⟨s2, y, e2, g2, l2, _⟩ := of_good (n := f) (by omega)
    obtain ⟨s3, z, e3, g3, l3, z3⟩ := of_good (n := n * 604800) (by omega)
    obtain rfl := z3 (by omega)
    obtain ⟨s4, d, e4, g4, l4⟩ := sub_good g1 g2 2 (by omega) l1 l2
    obtain ⟨q1, q, r1, r, e5, g5, g6, _⟩ := down_good g4 g3 (by omega) (by omega) (by omega)
    have m0 := Int.emod_nonneg (g - f) (show n * 604800 ≠ 0 by omega)
    have m1 := Int.emod_lt_of_pos (g - f) (show 0 < n * 604800 by omega)
    have hh := held_tells g6 (by omega)
    refine Ev.step (f := fun k => (remontoireref01_Sub.f k s1 x s2 y).bind fun bt276 => ((remontoireref01_Down.f k bt276.1 bt276.2 false z).bind fun bt284 => ((remontoireref01_Held.f k bt284.2.2.1 bt284.2.2.2).bind fun t294 => ((remontoireref05_In.f (wrap64 (f + t294))).bind fun t295 => (if t295 = true then (some (wrap64 (f + t294), 0)) else (some (0, 9))))))) (fun k => ?_) (Ev.bind e4 (Ev.bind e5 (Ev.bind hh ?_)))
    · rw [remontoireref05_Near.j1, if_neg (by decide), e1, e2, b64 (n * 604800) (by omega), e3]
      rfl
    rw [in05, b64 (f + (g - f) % (n * 604800)) (by omega)]
    refine Ev.bind (Ev.now _) ?_
    have en : Wk.near g n f = if f + (g - f) % (n * 604800) ≤ 6000000000 then (f + (g - f) % (n * 604800), 0) else (0, 9) := by
      unfold Wk.near
      rw [if_neg (by omega), if_neg (by omega)]
    rw [en]
    by_cases h6 : f + (g - f) % (n * 604800) ≤ 6000000000
    · rw [show (if f + (g - f) % (n * 604800) ≤ 6000000000 then (f + (g - f) % (n * 604800), (0 : Int)) else (0, 9)) = (f + (g - f) % (n * 604800), 0) from if_pos h6]
      exact e_pos (decide_eq_true (by omega)) (Ev.now _)
    · rw [show (if f + (g - f) % (n * 604800) ≤ 6000000000 then (f + (g - f) % (n * 604800), (0 : Int)) else (0, 9)) = (0, 9) from if_neg h6]
      exact e_neg (by simp; omega) (Ev.now _)
  · rw [decide_eq_false h3]
    exact bad (by omega)
end Go.Proofs.Ytjabbppmkepgdaa.Big
