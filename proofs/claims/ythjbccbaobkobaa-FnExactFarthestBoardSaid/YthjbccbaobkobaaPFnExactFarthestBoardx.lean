-- WRITTEN BY xprint.py, a program of this session, which runs the kit's print over functions with given contracts
import Derived.Test.YthjbccbaobkobaaPFnExactFarthestBoardx0
import Derived.Test.YthjbccbaobkobaaPFnExactFarthestBoardx1
import Derived.Test.YthjbccbaobkobaaPFnExactFarthestBoardx2
import Derived.Test.YthjbccbaobkobaaPFnExactFarthestBoardx3
import Derived.Test.YthjbccbaobkobaaPFnExactFarthestBoardx4
import Derived.Test.YthjbccbaobkobaaPFnExactFarthestBoardx5
namespace Go.Proofs.Ythjbccbaobkobaa.PFnExactFarthestBoard
open Go.RowKit Go.Proofs.YthjbccbaobkobaaW.PrintWords Go.Proofs.YthjbccbaobkobaaW.PrintLast Go.Proofs.YthjbccbaobkobaaW.PrintMore
attribute [local go_sem] max2_int min2_int max_two min_two max_three min_three max_four min_four   -- for this text's walks alone
set_option linter.unusedVariables false
set_option linter.unusedSimpArgs false

end Go.Proofs.Ythjbccbaobkobaa.PFnExactFarthestBoard
