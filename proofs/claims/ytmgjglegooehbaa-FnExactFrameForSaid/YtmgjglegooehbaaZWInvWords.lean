/- Out of the words that print.sh laid for this seat, what this claim names (cut out by a program of this session, wip/slim.py): lemmas of the walk; no conditions beyond those that each one states. -/
import Derived.Test.YtmgjglegooehbaaZWInv
import Derived.Test.YtmgjglegooehbaaZWFootNe
namespace Go.Proofs.YtmgjglegooehbaaW.PrintWords
open Go.RowKit
end Go.Proofs.YtmgjglegooehbaaW.PrintWords
namespace Go.Proofs.YtmgjglegooehbaaW.PrintLast
section
variable {ops : Array Oper} {a : Act} {o og : Oper} {g : Nat} {t : Tmp} {u : Bool}
end
end Go.Proofs.YtmgjglegooehbaaW.PrintLast
