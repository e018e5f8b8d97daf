/- Out of the words that print.sh laid for this seat, what this claim names (cut out by a program of this session, wip/slim.py): lemmas of the walk; no conditions beyond those that each one states. -/
import Derived.Test.YthajjjpblkhmmaaQWWords
import Derived.Laws.StructEq
/-! ### 53. '==' of structs as_ one Bool -/
namespace Go.Proofs.YthajjjpblkhmmaaW.PrintWords
open Go.RowKit
section
variable {P : Program} {d : Nat} {xs ys : Array Value} {f : Field} {fs : List Field} {a b : Value} {r s : Bool} {w : World}
end
end Go.Proofs.YthajjjpblkhmmaaW.PrintWords
