/- Plain words on rows of presses, the second part: what buttons of the first row leave, and the table of last rows. -/
import Derived.Test.YtgnjndkbccakgaaRow
namespace Go.Proofs.Ytgnjndkbccakgaa.Row
open Go.Proofs.Ytgnjndkbccakgaa.Lin

/-- What each button of the first row leaves alone. -/
def fmap (rows c : Nat) (own : Bool) (n : Nat) : List Nat := (List.range n).map fun i => (cr c own 0 (2 ^ i) rows).2
/-- The least of some first rows, or -1. -/
def least : List Nat → Int
  | [] => -1
  | f :: _ => (f : Int)
/-- The table of last rows. -/
def table (rows c : Nat) (own : Bool) (n : Nat) : List Int := (List.range n).map fun last => least (firsts rows c own (last * 2 ^ (c * (rows - 1))))

end Go.Proofs.Ytgnjndkbccakgaa.Row
