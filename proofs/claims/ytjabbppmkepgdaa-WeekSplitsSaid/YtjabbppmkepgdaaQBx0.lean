/- Written by a program of this session: Go functions as Lean functions, and proofs that each Go function comes to what its Lean function tells, where that tells something (a row: the Go law of its name answers true at every input). -/
import Derived.Test.YtjabbppmkepgdaaProg
import Derived.Below
import Derived.Deep.Draws
import Derived.Deep.AppendLies
import Derived.Maps.AppendAt
import Derived.OwnWalk
import Derived.Laws.BytesArg
import Derived.Laws.MakeOwn
import Derived.Laws.OwnMore
import Derived.Deep.OwnRows
import Derived.Tactics
import Derived.Lib.ConvBytes
import Derived.Laws.Slices
import Derived.WalkKit
import Derived.KernelRfl
import Derived.RowKit3
import Derived.Deep.LoopGhost
import Derived.Deep.QuietTactic
import Derived.BigQuiet
import Derived.WideLaws
import Derived.Deep.DeepCutAuto
import Derived.Deep.CutBlock
import Derived.Deep.RegionHeld3
import Derived.Laws.Rows
import Derived.Lib.AppendStr
import Derived.ArgAppend
import Derived.Laws.IdiomCopy
import Derived.OrdersHeld
import Derived.Laws.BitsLemmas
import Derived.RowKit
import Derived.Test.YtjabbppmkepgdaaH1
import Derived.Test.YtjabbppmkepgdaaWWords
import Derived.Test.YtjabbppmkepgdaaWLast
import Derived.Test.YtjabbppmkepgdaaWTab
import Derived.Test.YtjabbppmkepgdaaWFour
import Derived.Test.YtjabbppmkepgdaaWQPut
import Derived.Test.YtjabbppmkepgdaaWApart
import Derived.Test.YtjabbppmkepgdaaWArr
import Derived.Test.YtjabbppmkepgdaaWZeros
import Derived.Test.YtjabbppmkepgdaaWFoot
import Derived.Test.YtjabbppmkepgdaaWKept
import Derived.Test.YtjabbppmkepgdaaWShare
import Derived.Test.YtjabbppmkepgdaaWN
import Derived.Test.YtjabbppmkepgdaaWFootNe
import Derived.Test.YtjabbppmkepgdaaWAt
import Derived.Test.YtjabbppmkepgdaaWEqStruct
import Derived.Test.YtjabbppmkepgdaaWRepsOne
import Derived.Test.YtjabbppmkepgdaaWInv
import Derived.Test.YtjabbppmkepgdaaWInvWords
import Derived.Test.YtjabbppmkepgdaaWGuard
import Derived.Test.YtjabbppmkepgdaaWNEv
import Derived.Test.YtjabbppmkepgdaaWMore
namespace Go.Proofs.Ytjabbppmkepgdaa.QB
open Go.RowKit Go.Proofs.YtjabbppmkepgdaaW.PrintWords Go.Proofs.YtjabbppmkepgdaaW.PrintLast Go.Proofs.YtjabbppmkepgdaaW.PrintMore
attribute [local go_sem] max2_int min2_int max_two min_two max_three min_three max_four min_four   -- for this text's walks alone
set_option linter.unusedVariables false
set_option linter.unusedSimpArgs false



def errW : Option Int → Value
  | none => .nilIface
  | some c => .iface 0 (.int .i64 c)
theorem errW_none : errW none = .nilIface := rfl
theorem errW_some (c : Int) : errW (some c) = .iface 0 (.int .i64 c) := rfl

theorem info95 : (Try.prog.info? 95).map (fun i => (i.zero, i.size, i.bytes)) = some (some (.int .u64 0), 1, 8) := by kernel_rfl
-- the values' own types

end Go.Proofs.Ytjabbppmkepgdaa.QB
