/- The program's constants have the values of the document: reckoned out. -/
import Derived.Test.YtadjapdaepkfhaaPFnExactConstantsx
namespace Go.Proofs.Ytadjapdaepkfhaa.Pure
open Go.RowKit Go.Proofs.Ytadjapdaepkfhaa.PFnExactConstants Go.Proofs.YtadjapdaepkfhaaW.PrintWords Go.Proofs.YtadjapdaepkfhaaW.PrintLast

theorem FnExactConstants : laws_FnExactConstants.Pure := rfl

end Go.Proofs.Ytadjapdaepkfhaa.Pure
