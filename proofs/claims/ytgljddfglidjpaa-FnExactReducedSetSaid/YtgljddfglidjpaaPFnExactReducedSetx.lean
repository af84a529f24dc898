-- WRITTEN BY xprint.py, a program of this session, which runs the kit's print over functions with given contracts
import Derived.Test.YtgljddfglidjpaaPFnExactReducedSetx0
import Derived.Test.YtgljddfglidjpaaPFnExactReducedSetx1
import Derived.Test.YtgljddfglidjpaaPFnExactReducedSetx2
import Derived.Test.YtgljddfglidjpaaPFnExactReducedSetx3
namespace Go.Proofs.Ytgljddfglidjpaa.PFnExactReducedSet
open Go.RowKit Go.Proofs.YtgljddfglidjpaaW.PrintWords Go.Proofs.YtgljddfglidjpaaW.PrintLast Go.Proofs.YtgljddfglidjpaaW.PrintMore
attribute [local go_sem] max2_int min2_int max_two min_two max_three min_three max_four min_four   -- for this text's walks alone
set_option linter.unusedVariables false
set_option linter.unusedSimpArgs false

end Go.Proofs.Ytgljddfglidjpaa.PFnExactReducedSet
