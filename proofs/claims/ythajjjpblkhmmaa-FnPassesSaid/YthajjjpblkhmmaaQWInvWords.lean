/- Out of the words that print.sh laid for this seat, what this claim names (cut out by a program of this session, wip/slim.py): lemmas of the walk; no conditions beyond those that each one states. -/
import Derived.Test.YthajjjpblkhmmaaQWInv
import Derived.Test.YthajjjpblkhmmaaQWFootNe
namespace Go.Proofs.YthajjjpblkhmmaaW.PrintWords
open Go.RowKit
end Go.Proofs.YthajjjpblkhmmaaW.PrintWords
namespace Go.Proofs.YthajjjpblkhmmaaW.PrintLast
section
variable {ops : Array Oper} {a : Act} {o og : Oper} {g : Nat} {t : Tmp} {u : Bool}
end
end Go.Proofs.YthajjjpblkhmmaaW.PrintLast
