-- WRITTEN BY xprint.py, a program of this session, which runs the kit's print over functions with given contracts
import Derived.Test.YtgnjndkbccakgaaPFnChaseIsEliminationx0
import Derived.Test.YtgnjndkbccakgaaPFnChaseIsEliminationx1
import Derived.Test.YtgnjndkbccakgaaPFnChaseIsEliminationx2
import Derived.Test.YtgnjndkbccakgaaPFnChaseIsEliminationx3
import Derived.Test.YtgnjndkbccakgaaPFnChaseIsEliminationx4
import Derived.Test.YtgnjndkbccakgaaPFnChaseIsEliminationx5
import Derived.Test.YtgnjndkbccakgaaPFnChaseIsEliminationx6
import Derived.Test.YtgnjndkbccakgaaPFnChaseIsEliminationx7
namespace Go.Proofs.Ytgnjndkbccakgaa.PFnChaseIsElimination
open Go.RowKit Go.Proofs.YtgnjndkbccakgaaW.PrintWords Go.Proofs.YtgnjndkbccakgaaW.PrintLast Go.Proofs.YtgnjndkbccakgaaW.PrintMore
attribute [local go_sem] max2_int min2_int max_two min_two max_three min_three max_four min_four   -- for this text's walks alone
set_option linter.unusedVariables false
set_option linter.unusedSimpArgs false

end Go.Proofs.Ytgnjndkbccakgaa.PFnChaseIsElimination
