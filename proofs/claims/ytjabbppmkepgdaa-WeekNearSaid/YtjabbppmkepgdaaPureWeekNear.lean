/- The plain law of WeekNear. -/
import Derived.Test.YtjabbppmkepgdaaPureWeek
import Derived.OpenShut
import Derived.IntWalk
namespace Go.Proofs.Ytjabbppmkepgdaa.Pure
set_option linter.unusedVariables false
open Go.RowKit Go.Proofs.Ytjabbppmkepgdaa Go.Proofs.Ytjabbppmkepgdaa.Big Go.Proofs.Ytjabbppmkepgdaa.QB Go.Proofs.Ytjabbppmkepgdaa.QS Go.Proofs.YtjabbppmkepgdaaW.PrintWords Go.Proofs.YtjabbppmkepgdaaW.PrintLast Go.Proofs.YtjabbppmkepgdaaW.PrintMore

theorem WeekNear : remontoirelaw05_WeekNear.Pure := by
  intro g n f w0 w1 w2
  refine Ev.rounds ?_
  unfold remontoirelaw05_WeekNear.f
  rw [show week_Near.f g n f = some (Wk.near g n f) from rfl]
  exact Ev.bind (Ev.now _) (Ev.bind (rnear_tells g n f) (e_pos rfl (e_pos rfl (Ev.bind week_known (Ev.now _)))))
end Go.Proofs.Ytjabbppmkepgdaa.Pure
