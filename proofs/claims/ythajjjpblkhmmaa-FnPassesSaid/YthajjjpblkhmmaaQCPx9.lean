/- Functions that a law of this seat reaches: written by a program of this session (wip/xprint.py), and by hand. -/
import Derived.Test.YthajjjpblkhmmaaQMac
import Derived.Test.YthajjjpblkhmmaaQCPx0
import Derived.Test.YthajjjpblkhmmaaQCPx1
import Derived.Test.YthajjjpblkhmmaaQCPx4
namespace Go.Proofs.Ythajjjpblkhmmaa.CP
open Go.RowKit Go.Proofs.Ythajjjpblkhmmaa.B Go.Proofs.YthajjjpblkhmmaaW.PrintWords Go.Proofs.YthajjjpblkhmmaaW.PrintLast Go.Proofs.YthajjjpblkhmmaaW.PrintMore
attribute [local go_sem] max2_int min2_int max_two min_two max_three min_three max_four min_four   -- for this text's walks alone
set_option linter.unusedVariables false
set_option linter.unusedSimpArgs false

/-! ### spec_PutRefine: function 29 -/
def spec_PutRefine.T12 : Bool × List (List Nat × List Nat) := (true, [([], []), ([], []), ([], []), ([], []), ([2, 3], [2, 3]), ([4], [4]), ([], []), ([], []), ([7], [7]), ([8], [8]), ([6, 9], [6, 9]), ([5, 10], [5, 10]), ([0, 1, 0, 1, 2, 3, 4, 5, 6, 7, 8, 9, 10, 11], [0, 1]), ([12, 11, 0, 1, 2, 3, 4, 5, 6, 7, 8, 9, 10, 11], [11, 12])])
def spec_PutRefine.B12 : List Nat := [0, 0, 0, 0, 12, 28, 0, 0, 128, 384, 960, 2044, 4095, 8191]
theorem spec_PutRefine.tab12 : rtab .any (opsOf Try.f29 12) = spec_PutRefine.T12 := by kernel_rfl
theorem spec_PutRefine.bits12 : waitsOk spec_PutRefine.T12.2 spec_PutRefine.B12 = true := by kernel_rfl
end Go.Proofs.Ythajjjpblkhmmaa.CP
