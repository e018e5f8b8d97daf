/- Out of the words that print.sh laid for this seat, what this claim names (cut out by a program of this session, wip/slim.py): lemmas of the walk; no conditions beyond those that each one states. -/
import Derived.Test.YthajjjpblkhmmaaYWN
/-! ### 48. N's events: append, a whole row appended, zeros appended, literals, make, stores, cuts, an element taken out -/
namespace Go.Proofs.YthajjjpblkhmmaaW.PrintWords
open Go.RowKit
namespace Kd
section
variable {α : Type} {d : Kd α} {e base n cap g : Nat} {ok ok' okp : Nat → Prop} {w w1 W : World} {v v1 : Value} {xs ys : List α}
end
section
variable {P : Program} {ops : Array Oper} {rest : List Oper} {o : Oper} {a : Act} {Q : Exit → Act → World → Prop} {Kc : Act → World → Prop} {α : Type}
end
end Kd
end Go.Proofs.YthajjjpblkhmmaaW.PrintWords
