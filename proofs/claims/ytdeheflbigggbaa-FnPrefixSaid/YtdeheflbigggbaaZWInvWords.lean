/- Out of the words that print.sh laid for this seat, what this claim names (cut out by a program of this session, wip/slim.py): lemmas of the walk; no conditions beyond those that each one states. -/
import Derived.Test.YtdeheflbigggbaaZWInv
import Derived.Test.YtdeheflbigggbaaZWFootNe
namespace Go.Proofs.YtdeheflbigggbaaW.PrintWords
open Go.RowKit
end Go.Proofs.YtdeheflbigggbaaW.PrintWords
namespace Go.Proofs.YtdeheflbigggbaaW.PrintLast
section
variable {ops : Array Oper} {a : Act} {o og : Oper} {g : Nat} {t : Tmp} {u : Bool}
end
end Go.Proofs.YtdeheflbigggbaaW.PrintLast
