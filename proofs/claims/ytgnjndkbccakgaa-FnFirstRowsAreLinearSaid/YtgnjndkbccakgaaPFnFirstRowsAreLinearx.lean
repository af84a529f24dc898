-- WRITTEN BY xprint.py, a program of this session, which runs the kit's print over functions with given contracts
import Derived.Test.YtgnjndkbccakgaaPFnFirstRowsAreLinearx0
import Derived.Test.YtgnjndkbccakgaaPFnFirstRowsAreLinearx1
import Derived.Test.YtgnjndkbccakgaaPFnFirstRowsAreLinearx2
import Derived.Test.YtgnjndkbccakgaaPFnFirstRowsAreLinearx3
import Derived.Test.YtgnjndkbccakgaaPFnFirstRowsAreLinearx4
import Derived.Test.YtgnjndkbccakgaaPFnFirstRowsAreLinearx5
namespace Go.Proofs.Ytgnjndkbccakgaa.PFnFirstRowsAreLinear
open Go.RowKit Go.Proofs.YtgnjndkbccakgaaW.PrintWords Go.Proofs.YtgnjndkbccakgaaW.PrintLast Go.Proofs.YtgnjndkbccakgaaW.PrintMore
attribute [local go_sem] max2_int min2_int max_two min_two max_three min_three max_four min_four   -- for this text's walks alone
set_option linter.unusedVariables false
set_option linter.unusedSimpArgs false

end Go.Proofs.Ytgnjndkbccakgaa.PFnFirstRowsAreLinear
