/- Written by a program of this session: Go functions as Lean functions, and proofs that each Go function comes to what its Lean function tells, where that tells something (a row: the Go law of its name answers true at every input). -/
import Derived.Test.YtjldkgcabombhaaQMx0
import Derived.Test.YtjldkgcabombhaaQMx1
import Derived.Test.YtjldkgcabombhaaQMx2
import Derived.Test.YtjldkgcabombhaaQMx3
import Derived.Test.YtjldkgcabombhaaQMx4
import Derived.Test.YtjldkgcabombhaaQMx5
import Derived.Test.YtjldkgcabombhaaQMx6
namespace Go.Proofs.Ytjldkgcabombhaa.QM
open Go.RowKit Go.Proofs.YtjldkgcabombhaaW.PrintWords Go.Proofs.YtjldkgcabombhaaW.PrintLast Go.Proofs.YtjldkgcabombhaaW.PrintMore
attribute [local go_sem] max2_int min2_int max_two min_two max_three min_three max_four min_four   -- for this text's walks alone
set_option linter.unusedVariables false
set_option linter.unusedSimpArgs false

end Go.Proofs.Ytjldkgcabombhaa.QM
