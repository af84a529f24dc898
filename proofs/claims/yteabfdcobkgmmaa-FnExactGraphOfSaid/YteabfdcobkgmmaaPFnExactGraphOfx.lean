-- WRITTEN BY xprint.py, a program of this session, which runs the kit's print over functions with given contracts
import Derived.Test.YteabfdcobkgmmaaPFnExactGraphOfx0
import Derived.Test.YteabfdcobkgmmaaPFnExactGraphOfx1
import Derived.Test.YteabfdcobkgmmaaPFnExactGraphOfx2
import Derived.Test.YteabfdcobkgmmaaPFnExactGraphOfx3
import Derived.Test.YteabfdcobkgmmaaPFnExactGraphOfx4
import Derived.Test.YteabfdcobkgmmaaPFnExactGraphOfx5
import Derived.Test.YteabfdcobkgmmaaPFnExactGraphOfx6
namespace Go.Proofs.Yteabfdcobkgmmaa.PFnExactGraphOf
open Go.RowKit Go.Proofs.YteabfdcobkgmmaaW.PrintWords Go.Proofs.YteabfdcobkgmmaaW.PrintLast Go.Proofs.YteabfdcobkgmmaaW.PrintMore
attribute [local go_sem] max2_int min2_int max_two min_two max_three min_three max_four min_four   -- for this text's walks alone
set_option linter.unusedVariables false
set_option linter.unusedSimpArgs false

end Go.Proofs.Yteabfdcobkgmmaa.PFnExactGraphOf
