-- WRITTEN BY xprint.py, a program of this session, which runs the kit's print over functions with given contracts
import Derived.Test.YteabfdcobkgmmaaPFnExactRenameGraphx0
import Derived.Test.YteabfdcobkgmmaaPFnExactRenameGraphx1
import Derived.Test.YteabfdcobkgmmaaPFnExactRenameGraphx2
import Derived.Test.YteabfdcobkgmmaaPFnExactRenameGraphx3
import Derived.Test.YteabfdcobkgmmaaPFnExactRenameGraphx4
import Derived.Test.YteabfdcobkgmmaaPFnExactRenameGraphx5
import Derived.Test.YteabfdcobkgmmaaPFnExactRenameGraphx6
import Derived.Test.YteabfdcobkgmmaaPFnExactRenameGraphx7
namespace Go.Proofs.Yteabfdcobkgmmaa.PFnExactRenameGraph
open Go.RowKit Go.Proofs.YteabfdcobkgmmaaW.PrintWords Go.Proofs.YteabfdcobkgmmaaW.PrintLast Go.Proofs.YteabfdcobkgmmaaW.PrintMore
attribute [local go_sem] max2_int min2_int max_two min_two max_three min_three max_four min_four   -- for this text's walks alone
set_option linter.unusedVariables false
set_option linter.unusedSimpArgs false

end Go.Proofs.Yteabfdcobkgmmaa.PFnExactRenameGraph
