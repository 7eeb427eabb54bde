/- Written by a program of this session: Go functions as Lean functions, and proofs that each Go function comes to what its Lean function tells, where that tells something (a row: the Go law of its name answers true at every input). -/
import Derived.Test.YtjldkgcabombhaaProg
import Derived.Below
import Derived.Deep.Draws
import Derived.Deep.AppendLies
import Derived.Maps.AppendAt
import Derived.OwnWalk
import Derived.Laws.BytesArg
import Derived.Laws.MakeOwn
import Derived.Laws.OwnMore
import Derived.Deep.OwnRows
import Derived.Tactics
import Derived.Lib.ConvBytes
import Derived.Laws.Slices
import Derived.WalkKit
import Derived.KernelRfl
import Derived.RowKit3
import Derived.Deep.LoopGhost
import Derived.Deep.QuietTactic
import Derived.BigQuiet
import Derived.WideLaws
import Derived.Deep.DeepCutAuto
import Derived.Deep.CutBlock
import Derived.Deep.RegionHeld3
import Derived.Laws.Rows
import Derived.Lib.AppendStr
import Derived.ArgAppend
import Derived.Laws.IdiomCopy
import Derived.OrdersHeld
import Derived.Laws.BitsLemmas
import Derived.RowKit
import Derived.Test.YtjldkgcabombhaaHC
import Derived.Test.YtjldkgcabombhaaWWords
import Derived.Test.YtjldkgcabombhaaWLast
import Derived.Test.YtjldkgcabombhaaWTab
import Derived.Test.YtjldkgcabombhaaWFour
import Derived.Test.YtjldkgcabombhaaWQPut
import Derived.Test.YtjldkgcabombhaaWApart
import Derived.Test.YtjldkgcabombhaaWArr
import Derived.Test.YtjldkgcabombhaaWZeros
import Derived.Test.YtjldkgcabombhaaWFoot
import Derived.Test.YtjldkgcabombhaaWKept
import Derived.Test.YtjldkgcabombhaaWShare
import Derived.Test.YtjldkgcabombhaaWN
import Derived.Test.YtjldkgcabombhaaWFootNe
import Derived.Test.YtjldkgcabombhaaWAt
import Derived.Test.YtjldkgcabombhaaWEqStruct
import Derived.Test.YtjldkgcabombhaaWRepsOne
import Derived.Test.YtjldkgcabombhaaWInv
import Derived.Test.YtjldkgcabombhaaWInvWords
import Derived.Test.YtjldkgcabombhaaWGuard
import Derived.Test.YtjldkgcabombhaaWNEv
import Derived.Test.YtjldkgcabombhaaWMore
namespace Go.Proofs.Ytjldkgcabombhaa.QJ
open Go.RowKit Go.Proofs.YtjldkgcabombhaaW.PrintWords Go.Proofs.YtjldkgcabombhaaW.PrintLast Go.Proofs.YtjldkgcabombhaaW.PrintMore
attribute [local go_sem] max2_int min2_int max_two min_two max_three min_three max_four min_four   -- for this text's walks alone
set_option linter.unusedVariables false
set_option linter.unusedSimpArgs false



def errW : Option Int → Value
  | none => .nilIface
  | some c => .iface 0 (.int .i64 c)
theorem errW_none : errW none = .nilIface := rfl
theorem errW_some (c : Int) : errW (some c) = .iface 0 (.int .i64 c) := rfl

theorem info5 : (Try.prog.info? 5).map (fun i => (i.zero, i.size, i.bytes)) = some (some (.int .u8 0), 1, 1) := by kernel_rfl
-- the values' own types

end Go.Proofs.Ytjldkgcabombhaa.QJ
