-- WRITTEN BY xprint.py, a program of this session, which runs the kit's print over functions with given contracts
import Derived.Test.YtgnjndkbccakgaaPFnRowsTellNullitiesx1
import Derived.Test.YtgnjndkbccakgaaPFnRowsTellNullitiesx2
import Derived.Test.YtgnjndkbccakgaaPFnRowsTellNullitiesx3
import Derived.Test.YtgnjndkbccakgaaPFnRowsTellNullitiesx4
import Derived.Test.YtgnjndkbccakgaaPFnRowsTellNullitiesx5
import Derived.Test.YtgnjndkbccakgaaPFnRowsTellNullitiesx6
namespace Go.Proofs.Ytgnjndkbccakgaa.PFnRowsTellNullities
open Go.RowKit Go.Proofs.YtgnjndkbccakgaaW.PrintWords Go.Proofs.YtgnjndkbccakgaaW.PrintLast Go.Proofs.YtgnjndkbccakgaaW.PrintMore
attribute [local go_sem] max2_int min2_int max_two min_two max_three min_three max_four min_four   -- for this text's walks alone
set_option linter.unusedVariables false
set_option linter.unusedSimpArgs false

end Go.Proofs.Ytgnjndkbccakgaa.PFnRowsTellNullities
