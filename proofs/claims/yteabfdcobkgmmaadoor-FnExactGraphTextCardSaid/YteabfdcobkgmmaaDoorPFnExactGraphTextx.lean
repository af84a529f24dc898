-- WRITTEN BY xprint.py, a program of this session, which runs the kit's print over functions with given contracts
import Derived.Test.YteabfdcobkgmmaaDoorPFnExactGraphTextx0
import Derived.Test.YteabfdcobkgmmaaDoorPFnExactGraphTextx1
import Derived.Test.YteabfdcobkgmmaaDoorPFnExactGraphTextx2
import Derived.Test.YteabfdcobkgmmaaDoorPFnExactGraphTextx3
import Derived.Test.YteabfdcobkgmmaaDoorPFnExactGraphTextx4
import Derived.Test.YteabfdcobkgmmaaDoorPFnExactGraphTextx5
import Derived.Test.YteabfdcobkgmmaaDoorPFnExactGraphTextx6
namespace Go.Proofs.YteabfdcobkgmmaaDoor.PFnExactGraphText
open Go.RowKit Go.Proofs.YteabfdcobkgmmaaDoorW.PrintWords Go.Proofs.YteabfdcobkgmmaaDoorW.PrintLast Go.Proofs.YteabfdcobkgmmaaDoorW.PrintMore
attribute [local go_sem] max2_int min2_int max_two min_two max_three min_three max_four min_four   -- for this text's walks alone
set_option linter.unusedVariables false
set_option linter.unusedSimpArgs false

end Go.Proofs.YteabfdcobkgmmaaDoor.PFnExactGraphText
