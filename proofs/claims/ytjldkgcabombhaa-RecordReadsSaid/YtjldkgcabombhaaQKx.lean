/- Written by a program of this session: Go functions as Lean functions, and proofs that each Go function comes to what its Lean function tells, where that tells something (a row: the Go law of its name answers true at every input). -/
import Derived.Test.YtjldkgcabombhaaQKx0
import Derived.Test.YtjldkgcabombhaaQKx1
import Derived.Test.YtjldkgcabombhaaQKx2
namespace Go.Proofs.Ytjldkgcabombhaa.QK
open Go.Proofs.Ytjldkgcabombhaa.QJ
open Go.RowKit Go.Proofs.YtjldkgcabombhaaW.PrintWords Go.Proofs.YtjldkgcabombhaaW.PrintLast Go.Proofs.YtjldkgcabombhaaW.PrintMore
attribute [local go_sem] max2_int min2_int max_two min_two max_three min_three max_four min_four   -- for this text's walks alone
set_option linter.unusedVariables false
set_option linter.unusedSimpArgs false

end Go.Proofs.Ytjldkgcabombhaa.QK
