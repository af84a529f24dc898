-- WRITTEN BY xprint.py, a program of this session, which runs the kit's print over functions with given contracts
import Derived.Test.YteabfdcobkgmmaaDoorPFnExactParseGraphx0
import Derived.Test.YteabfdcobkgmmaaDoorPFnExactParseGraphx1
import Derived.Test.YteabfdcobkgmmaaDoorPFnExactParseGraphx2
import Derived.Test.YteabfdcobkgmmaaDoorPFnExactParseGraphx3
import Derived.Test.YteabfdcobkgmmaaDoorPFnExactParseGraphx4
import Derived.Test.YteabfdcobkgmmaaDoorPFnExactParseGraphx5
import Derived.Test.YteabfdcobkgmmaaDoorPFnExactParseGraphx6
import Derived.Test.YteabfdcobkgmmaaDoorPFnExactParseGraphx7
import Derived.Test.YteabfdcobkgmmaaDoorPFnExactParseGraphx8
import Derived.Test.YteabfdcobkgmmaaDoorPFnExactParseGraphx9
import Derived.Test.YteabfdcobkgmmaaDoorPFnExactParseGraphx10
namespace Go.Proofs.YteabfdcobkgmmaaDoor.PFnExactParseGraph
open Go.RowKit Go.Proofs.YteabfdcobkgmmaaDoorW.PrintWords Go.Proofs.YteabfdcobkgmmaaDoorW.PrintLast Go.Proofs.YteabfdcobkgmmaaDoorW.PrintMore
attribute [local go_sem] max2_int min2_int max_two min_two max_three min_three max_four min_four   -- for this text's walks alone
set_option linter.unusedVariables false
set_option linter.unusedSimpArgs false

end Go.Proofs.YteabfdcobkgmmaaDoor.PFnExactParseGraph
