/- The plain law of ModeSteps: over all numbers the Lean function that was printed out of the Go law comes to true; and from it the walk of the Go law. -/
import Derived.Test.YtjldkgcabombhaaPureMode
import Derived.Test.YtjldkgcabombhaaQSx2
namespace Go.Proofs.Ytjldkgcabombhaa.Pure
set_option linter.unusedVariables false
open Go.RowKit Go.Proofs.Ytjldkgcabombhaa Go.Proofs.Ytjldkgcabombhaa.QM Go.Proofs.Ytjldkgcabombhaa.QS Go.Proofs.YtjldkgcabombhaaW.PrintWords Go.Proofs.YtjldkgcabombhaaW.PrintLast

theorem known_f : remontoirelaw24_known.f = some true := rfl

/-- What mode.Sampled and mode.Passed tell, in all cases. -/
theorem steps_all (st cnt last need lim c b lead : Int) (anew : Bool) (wc : -9223372036854775808 ≤ c ∧ c ≤ 9223372036854775807) :
    ∃ x y : Int × Int × Int × Int, mode_Sampled.f 5 st cnt last need lim c lead anew = some x ∧ mode_Passed.f 5 st cnt last need lim c b = some y ∧
      ((Md.may st cnt last need lim = true ∧ (lead < 0 ∨ lead > 1000) ∧ x = (0, 0, 0, 2)) ∨
       (Md.may st cnt last need lim = false ∧ x = (0, 0, 0, 2) ∧ y = (0, 0, 0, 2)) ∨
       (Md.may st cnt last need lim = true ∧ ¬ (lead < 0 ∨ lead > 1000) ∧ c < last ∧ x = (0, 0, 0, 10) ∧ y = (0, 0, 0, 10)) ∨
       (Md.may st cnt last need lim = true ∧ ¬ (lead < 0 ∨ lead > 1000) ∧ ¬ c < last ∧ x = four (sampR st cnt last need c lead anew) ∧ y = four (passR st cnt last lim c b))) := by
  by_cases hm : Md.may st cnt last need lim = true
  · obtain ⟨y, hy⟩ : ∃ y, mode_Passed.f 5 st cnt last need lim c b = some y := by
      by_cases h : c < last
      · exact ⟨_, passed_late 3 _ _ _ _ _ _ _ hm h⟩
      · exact ⟨_, passed_yes 3 _ _ _ _ _ _ _ hm (by omega) wc.2⟩
    by_cases hl : lead < 0 ∨ lead > 1000
    · exact ⟨_, y, sampled_no 3 _ _ _ _ _ _ _ _ (by omega), hy, .inl ⟨hm, hl, rfl⟩⟩
    by_cases h : c < last
    · exact ⟨_, _, sampled_late 3 _ _ _ _ _ _ _ _ hm (by omega) h, passed_late 3 _ _ _ _ _ _ _ hm h, .inr (.inr (.inl ⟨hm, hl, h, rfl, rfl⟩))⟩
    · exact ⟨_, _, sampled_yes 3 _ _ _ _ _ _ _ _ hm (by omega) (by omega) wc.2, passed_yes 3 _ _ _ _ _ _ _ hm (by omega) wc.2, .inr (.inr (.inr ⟨hm, hl, h, rfl, rfl⟩))⟩
  · exact ⟨_, _, sampled_no 3 _ _ _ _ _ _ _ _ (fun h => hm h.1), passed_no 3 _ _ _ _ _ _ _ hm, .inr (.inl ⟨by simpa using hm, rfl, rfl⟩)⟩

theorem ModeSteps (st cnt last need lim c b lead : Int) (anew : Bool) (wc : -9223372036854775808 ≤ c ∧ c ≤ 9223372036854775807) :
    remontoirelaw24_ModeSteps.f 5 st cnt last need lim c b lead anew = some true := by
  obtain ⟨x, y, hx, hy, hxy⟩ := steps_all st cnt last need lim c b lead anew wc
  have hj0 : remontoirelaw24_ModeSteps.j0 5 c b lead anew x.2.2.2 y.2.2.2 false st cnt last need lim x.1 x.2.1 x.2.2.1 y.1 y.2.1 y.2.2.1 = some true := by
    rw [remontoirelaw24_ModeSteps.j0, if_neg (by decide), rmay 2, Option.bind_some]
    rcases hxy with ⟨hm, hl, rfl⟩ | ⟨hm, rfl, rfl⟩ | ⟨hm, hl, hc, rfl, rfl⟩ | ⟨hm, hl, hc, rfl, rfl⟩
    · rw [hm, if_pos rfl]
      have j1 : remontoirelaw24_ModeSteps.j1 4 c b lead anew 2 y.2.2.2 true st cnt last need lim 0 0 0 y.1 y.2.1 y.2.2.1 0 0 0 = some true := by
        rw [remontoirelaw24_ModeSteps.j1, if_pos rfl, if_pos (by decide), if_pos rfl, known_f, Option.bind_some]
      by_cases h1 : lead < 0
      · rw [if_pos h1]; exact j1
      · rw [if_neg h1, decide_eq_true (by omega)]; exact j1
    · rw [hm, if_neg (by decide), remontoirelaw24_ModeSteps.j1, if_neg (by decide), rmay 1, hm, Option.bind_some, if_neg (by decide), if_pos (by decide), if_pos (by decide), if_pos rfl, if_pos rfl, known_f, Option.bind_some]
    · rw [hm, if_pos rfl, if_neg (by omega), decide_eq_false (by omega), remontoirelaw24_ModeSteps.j1, if_neg (by decide), rmay 1, hm, Option.bind_some, if_pos rfl, if_pos hc, if_pos (by decide), if_pos (by decide), if_pos rfl, if_pos rfl, known_f, Option.bind_some]
    · rw [hm, if_pos rfl, if_neg (by omega), decide_eq_false (by omega), remontoirelaw24_ModeSteps.j1, if_neg (by decide), rmay 1, hm, Option.bind_some, if_pos rfl, if_neg hc, rsampled 0 _ _ _ _ _ _ _ _ hm (by omega) (by omega) wc.2, Option.bind_some,
        if_pos (by simp), rpassed 1 _ _ _ _ _ _ _ hm (by omega) wc.2, Option.bind_some, if_pos (by simp), if_pos rfl, if_pos rfl, known_f, Option.bind_some]
  unfold remontoirelaw24_ModeSteps.f
  rw [hx, Option.bind_some, hy, Option.bind_some, may_f, Option.bind_some, rmay 3, Option.bind_some, if_neg (by simp), serves_f, Option.bind_some]
  by_cases s2 : st = 2
  · rw [if_pos s2, if_neg (by simp [s2]), show mode_Boot.f = some (0, 0, 0) from rfl, Option.bind_some]
    exact hj0
  · rw [if_neg s2, if_neg (by simp [s2]), show mode_Boot.f = some (0, 0, 0) from rfl, Option.bind_some]
    exact hj0

theorem modeSteps_walk (st cnt last need lim c b lead : Int) (anew : Bool) (W : World) (w0 : (Lit.int .u8 st).wf = true) (w1 : (Lit.int .i64 cnt).wf = true) (w2 : (Lit.int .i64 last).wf = true) (w3 : (Lit.int .i64 need).wf = true) (w4 : (Lit.int .i64 lim).wf = true)
    (w5 : (Lit.int .i64 c).wf = true) (w6 : (Lit.int .i64 b).wf = true) (w7 : (Lit.int .i64 lead).wf = true) :
    Calls Try.prog 6 #[.agg #[.int .u8 st, .int .i64 cnt, .int .i64 last], .agg #[.int .i64 need, .int .i64 lim], .int .i64 c, .int .i64 b, .int .i64 lead, .bool anew] W fun e W' => e = .returned (.bool true) ∧ Below W.heap.size W W' :=
  remontoirelaw24_ModeSteps.callsT 5 st cnt last need lim c b lead anew W (ModeSteps st cnt last need lim c b lead anew (bounds_i64 w5))
end Go.Proofs.Ytjldkgcabombhaa.Pure
