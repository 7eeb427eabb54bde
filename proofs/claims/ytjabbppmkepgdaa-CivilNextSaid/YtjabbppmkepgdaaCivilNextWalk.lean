/- CivilNext's walk, as its row asks for it. -/
import Derived.Test.YtjabbppmkepgdaaH6
namespace Go.Proofs.Ytjabbppmkepgdaa
open Go.RowKit Go.Proofs.Ytjabbppmkepgdaa.QC Go.Proofs.Ytjabbppmkepgdaa.Pure Go.Proofs.YtjabbppmkepgdaaW.PrintWords Go.Proofs.YtjabbppmkepgdaaW.PrintLast
theorem civilNext_walk (sec : Int) (W : World) (w0 : (Lit.int .i64 sec).wf = true) :
    Calls Try.prog 8 #[.int .i64 sec] W fun e W' => e = .returned (.bool true) ∧ Below W.heap.size W W' :=
  civilNext_calls sec (bounds_i64 w0) W
end Go.Proofs.Ytjabbppmkepgdaa
