-- WRITTEN BY xprint.py, a program of this session, which runs the kit's print over functions with given contracts
import Derived.Test.YtfjkahkinkaheaaProg
import Derived.Below
import Derived.Deep.Draws
import Derived.Deep.AppendLies
import Derived.Maps.AppendAt
import Derived.OwnWalk
import Derived.Laws.BytesArg
import Derived.Laws.MakeOwn
import Derived.Laws.OwnMore
import Derived.Deep.OwnRows
import Derived.Tactics
import Derived.Lib.ConvBytes
import Derived.Laws.Slices
import Derived.WalkKit
import Derived.KernelRfl
import Derived.RowKit3
import Derived.Deep.LoopGhost
import Derived.Deep.QuietTactic
import Derived.BigQuiet
import Derived.WideLaws
import Derived.Deep.DeepCutAuto
import Derived.Deep.CutBlock
import Derived.Deep.RegionHeld3
import Derived.Laws.Rows
import Derived.Lib.AppendStr
import Derived.ArgAppend
import Derived.Laws.IdiomCopy
import Derived.OrdersHeld
import Derived.Laws.BitsLemmas
import Derived.RowKit
import Derived.Shelf.Abstract
import Derived.Test.YtfjkahkinkaheaaGra
import Derived.Test.YtfjkahkinkaheaaRow
import Derived.Test.YtfjkahkinkaheaaWWords
import Derived.Test.YtfjkahkinkaheaaWLast
import Derived.Test.YtfjkahkinkaheaaWTab
import Derived.Test.YtfjkahkinkaheaaWFour
import Derived.Test.YtfjkahkinkaheaaWQPut
import Derived.Test.YtfjkahkinkaheaaWApart
import Derived.Test.YtfjkahkinkaheaaWArr
import Derived.Test.YtfjkahkinkaheaaWZeros
import Derived.Test.YtfjkahkinkaheaaWFoot
import Derived.Test.YtfjkahkinkaheaaWKept
import Derived.Test.YtfjkahkinkaheaaWShare
import Derived.Test.YtfjkahkinkaheaaWN
import Derived.Test.YtfjkahkinkaheaaWFootNe
import Derived.Test.YtfjkahkinkaheaaWAt
import Derived.Test.YtfjkahkinkaheaaWEqStruct
import Derived.Test.YtfjkahkinkaheaaWRepsOne
import Derived.Test.YtfjkahkinkaheaaWInv
import Derived.Test.YtfjkahkinkaheaaWInvWords
import Derived.Test.YtfjkahkinkaheaaWGuard
import Derived.Test.YtfjkahkinkaheaaWNEv
import Derived.Test.YtfjkahkinkaheaaWMore
namespace Go.Proofs.Ytfjkahkinkaheaa.PBas3
open Go.RowKit Go.Proofs.YtfjkahkinkaheaaW.PrintWords Go.Proofs.YtfjkahkinkaheaaW.PrintLast Go.Proofs.YtfjkahkinkaheaaW.PrintMore
attribute [local go_sem] max2_int min2_int max_two min_two max_three min_three max_four min_four   -- for this text's walks alone
set_option linter.unusedVariables false
set_option linter.unusedSimpArgs false



def errW : Option Int → Value
  | none => .nilIface
  | some c => .iface 0 (.int .i64 c)
theorem errW_none : errW none = .nilIface := rfl
theorem errW_some (c : Int) : errW (some c) = .iface 0 (.int .i64 c) := rfl

-- the values' own types

end Go.Proofs.Ytfjkahkinkaheaa.PBas3
