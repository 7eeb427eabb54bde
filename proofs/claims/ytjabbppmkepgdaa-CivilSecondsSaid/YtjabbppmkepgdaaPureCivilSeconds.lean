/- The plain law of CivilSeconds: over all numbers the Lean function that was printed out of the Go law comes to true; and from it the walk of the Go law (of any moment and any second of their kinds). -/
import Derived.Test.YtjabbppmkepgdaaPureCivilOf
import Derived.Test.YtjabbppmkepgdaaQCx5
namespace Go.Proofs.Ytjabbppmkepgdaa.Pure
set_option linter.unusedVariables false
open Go.RowKit Go.Proofs.Ytjabbppmkepgdaa Go.Proofs.Ytjabbppmkepgdaa.QC Go.Proofs.YtjabbppmkepgdaaW.PrintWords Go.Proofs.YtjabbppmkepgdaaW.PrintLast

theorem CivilSeconds (y m d h mi s sec : Int) (w4 : -9223372036854775808 ≤ sec ∧ sec ≤ 9223372036854775807) :
    Ev (fun k => remontoirelaw03_CivilSeconds.f k y m d h mi s sec) true := by
  refine Ev.bind (csec_tells y m d h mi s) ?_
  refine Ev.bind (rsec_tells y m d h mi s) ?_
  obtain ⟨a, b, e1, e2, hab⟩ := of_both sec w4
  refine Ev.bind e1 ?_
  refine Ev.bind e2 ?_
  refine Ev.congr (f := fun k => (remontoirelaw03_known.f k).bind fun t => some t) (fun k => ?_) (Ev.bind civil_known (Ev.now _))
  rcases hab with ⟨Y, M, D, hh, mm, ss, rfl, rfl⟩ | ⟨rfl, rfl⟩
  · unfold csecR rsecR
    by_cases hv : validM y m d h mi s
    · simp [hv]
    · simp [hv]
  · unfold csecR rsecR
    by_cases hv : validM y m d h mi s
    · simp [hv]
    · simp [hv]

theorem civilSeconds_walk (y m d h mi s sec : Int) (W : World) (w0 : (Lit.int .i64 y).wf = true) (w1 : (Lit.int .i64 m).wf = true) (w2 : (Lit.int .i64 d).wf = true) (w3 : (Lit.int .i64 h).wf = true)
    (w4 : (Lit.int .i64 mi).wf = true) (w5 : (Lit.int .i64 s).wf = true) (w6 : (Lit.int .i64 sec).wf = true) :
    Calls Try.prog 7 #[.agg #[.int .i64 y, .int .i64 m, .int .i64 d, .int .i64 h, .int .i64 mi, .int .i64 s], .int .i64 sec] W fun e W' => e = .returned (.bool true) ∧ Below W.heap.size W W' := by
  obtain ⟨k, hk⟩ := Ev.rounds (CivilSeconds y m d h mi s sec (bounds_i64 w6))
  exact remontoirelaw03_CivilSeconds.calls k y m d h mi s sec true W hk
end Go.Proofs.Ytjabbppmkepgdaa.Pure
