/- The plain law of WeekSplits. -/
import Derived.Test.YtjabbppmkepgdaaPureWeek
import Derived.OpenShut
import Derived.IntWalk
namespace Go.Proofs.Ytjabbppmkepgdaa.Pure
set_option linter.unusedVariables false
open Go.RowKit Go.Proofs.Ytjabbppmkepgdaa Go.Proofs.Ytjabbppmkepgdaa.Big Go.Proofs.Ytjabbppmkepgdaa.QB Go.Proofs.Ytjabbppmkepgdaa.QS Go.Proofs.YtjabbppmkepgdaaW.PrintWords Go.Proofs.YtjabbppmkepgdaaW.PrintLast Go.Proofs.YtjabbppmkepgdaaW.PrintMore

theorem WeekSplits : remontoirelaw05_WeekSplits.Pure := by
  intro g n t w0 w1 w2
  have b0 := bounds_i64 w0
  have b1 := bounds_i64 w1
  refine Ev.rounds ?_
  unfold remontoirelaw05_WeekSplits.f
  have main : ∀ a b e : Int, week_Split.f g = some (a, b, e) → Ev (fun k => remontoirelaw05_WeekSplits.j0 k g a b e false) true →
      Ev (fun k => (week_Split.f g).bind fun bt255 => ((week_Join.f k n t).bind fun bt258 => ((remontoireref05_Join.f k n t).bind fun bt260 => (if bt258.1 = bt260.1 then (remontoirelaw05_WeekSplits.j0 k g bt255.1 bt255.2.1 bt255.2.2 (bt258.2 != bt260.2)) else (remontoirelaw05_WeekSplits.j0 k g bt255.1 bt255.2.1 bt255.2.2 true))))) true := by
    intro a b e h1 h2
    rw [h1]
    refine Ev.bind (Ev.now _) (Ev.bind (joinev n t) (Ev.bind (rjoin_tells n t b1.2) (e_pos rfl ?_)))
    rw [bne_self_eq_false]
    exact h2
  by_cases h : 0 ≤ g ∧ g ≤ 6000000000
  · refine main _ _ _ (split_yes h) ?_
    refine Ev.step (f := fun k => (remontoireref05_Split.f k g).bind fun bt263 => (if (0 : Int) = 0 then (if g / 604800 = bt263.1 then (if g % 604800 = bt263.2 then ((remontoirelaw05_known.f k).bind fun t265 => (some t265)) else (some false)) else (some false)) else (some false))) (fun k => ?_) (Ev.bind (rsplit_tells h) ?_)
    · rw [remontoirelaw05_WeekSplits.j0, if_neg (by decide), in05, decide_eq_true h]
      rfl
    · exact e_pos rfl (e_pos rfl (e_pos rfl (Ev.bind week_known (Ev.now _))))
  · refine main _ _ _ (split_no h) ?_
    refine Ev.step (f := fun k => (remontoirelaw05_known.f k).bind fun t266 => (some t266)) (fun k => ?_) (Ev.bind week_known (Ev.now _))
    rw [remontoirelaw05_WeekSplits.j0, if_neg (by decide), in05, decide_eq_false h]
    rfl
end Go.Proofs.Ytjabbppmkepgdaa.Pure
