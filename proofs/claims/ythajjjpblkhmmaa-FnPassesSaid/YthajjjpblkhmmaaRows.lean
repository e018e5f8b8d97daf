/-
  No cell of these rows narrows 'for every input' (looked for: loops, veiled, ifaces, maps, wideKeys, modest, calm, conditions, laid).
  DERIVED. THE GIVEN ROWS OF THIS SEAT. 12 by the template 'for every input the law returns true; each argument reads behind the call as it read before'; 0 by the template 'total and deterministic' (their statements: YthajjjpblkhmmaaTotals.lean).
  GIVEN WITH THE SEED: the statements are not yours to turn. If you find one false, say at which input.
  Laid BY PROGRAM, IN A SANDBOX (cutbox-rows.mjs): the forced cells as the released guide's own fill.sh prints them over the translation 3bc37aa7c78e2387… (all of the seat's roots in one cut). By AI agents, Wed Nov 11 2026. No macro, syntax, notation, axiom, sorry.
-/
import Derived.Test.YthajjjpblkhmmaaChecked
import GoSem.Claim
import GoSem.ClaimJoined
import GoSem.ClaimMapViews
import Derived.JoinedTies
import Derived.KernelRfl
namespace Go.Proofs.Ythajjjpblkhmmaa
/- THE CELL 'sum', in the pinned program and in every row, IS THE sha256 OF THE DUMP (.gsa) THAT YthajjjpblkhmmaaProg.lean LOADS. Nothing in Lean hashes anything: it is a label: what it is worth is what the hold of that sum in a sandbox is worth. -/
noncomputable def Try.pinned : Pinned := { name := "ythajjjpblkhmmaa", sum := "3bc37aa7c78e238788660e36410a7fe904249b1c168aed9030ea046f1631cf7e", checked := Try.checked }
namespace Rows
def none {H : Type} : Left H := { results := [], args := [] }

/-- 'laws.FnExactFirstOf': WHATEVER THE INPUT: true; the input reads as it did. -/
def fnExactFirstOfSpec : ChangeSpec := { name := "fnExactFirstOf", fn := fun _ => fun
  | [d1, d2] => { results := [.lit (.bool true)], args := [d1, d2] }
  | _ => none }
def fnExactFirstOfRow : OpenClaim := { program := "ythajjjpblkhmmaa", sum := "3bc37aa7c78e238788660e36410a7fe904249b1c168aed9030ea046f1631cf7e", func := "loop.example/g00139/laws.FnExactFirstOf", spec := "fnExactFirstOf", apart := false }
def FnExactFirstOfSaid : Prop := fnExactFirstOfRow.holds Try.pinned (OpenSpec.ofChange fnExactFirstOfSpec)

/-- ITS FALSE NEIGHBOUR: 'it returns false'. Refute it at one input. -/
def fnExactFirstOfWrong : ChangeSpec := { name := "fnExactFirstOf", fn := fun _ => fun
  | [d1, d2] => { results := [.lit (.bool false)], args := [d1, d2] }
  | _ => none }
def FnExactFirstOfWrongFalsely : Prop := fnExactFirstOfRow.holds Try.pinned (OpenSpec.ofChange fnExactFirstOfWrong)

/-- 'laws.FnExactPutFirst': WHATEVER THE INPUT: true; the input reads as it did. -/
def fnExactPutFirstSpec : ChangeSpec := { name := "fnExactPutFirst", fn := fun _ => fun
  | [d1, d2, d3] => { results := [.lit (.bool true)], args := [d1, d2, d3] }
  | _ => none }
def fnExactPutFirstRow : OpenClaim := { program := "ythajjjpblkhmmaa", sum := "3bc37aa7c78e238788660e36410a7fe904249b1c168aed9030ea046f1631cf7e", func := "loop.example/g00139/laws.FnExactPutFirst", spec := "fnExactPutFirst", apart := false }
def FnExactPutFirstSaid : Prop := fnExactPutFirstRow.holds Try.pinned (OpenSpec.ofChange fnExactPutFirstSpec)

/-- ITS FALSE NEIGHBOUR: 'it returns false'. Refute it at one input. -/
def fnExactPutFirstWrong : ChangeSpec := { name := "fnExactPutFirst", fn := fun _ => fun
  | [d1, d2, d3] => { results := [.lit (.bool false)], args := [d1, d2, d3] }
  | _ => none }
def FnExactPutFirstWrongFalsely : Prop := fnExactPutFirstRow.holds Try.pinned (OpenSpec.ofChange fnExactPutFirstWrong)

/-- 'laws.FnExactRefineOf': WHATEVER THE INPUT: true; the input reads as it did. -/
def fnExactRefineOfSpec : ChangeSpec := { name := "fnExactRefineOf", fn := fun _ => fun
  | [d1, d2] => { results := [.lit (.bool true)], args := [d1, d2] }
  | _ => none }
def fnExactRefineOfRow : OpenClaim := { program := "ythajjjpblkhmmaa", sum := "3bc37aa7c78e238788660e36410a7fe904249b1c168aed9030ea046f1631cf7e", func := "loop.example/g00139/laws.FnExactRefineOf", spec := "fnExactRefineOf", apart := false }
def FnExactRefineOfSaid : Prop := fnExactRefineOfRow.holds Try.pinned (OpenSpec.ofChange fnExactRefineOfSpec)

/-- ITS FALSE NEIGHBOUR: 'it returns false'. Refute it at one input. -/
def fnExactRefineOfWrong : ChangeSpec := { name := "fnExactRefineOf", fn := fun _ => fun
  | [d1, d2] => { results := [.lit (.bool false)], args := [d1, d2] }
  | _ => none }
def FnExactRefineOfWrongFalsely : Prop := fnExactRefineOfRow.holds Try.pinned (OpenSpec.ofChange fnExactRefineOfWrong)

/-- 'laws.FnExactPutRefine': WHATEVER THE INPUT: true; the input reads as it did. -/
def fnExactPutRefineSpec : ChangeSpec := { name := "fnExactPutRefine", fn := fun _ => fun
  | [d1, d2, d3] => { results := [.lit (.bool true)], args := [d1, d2, d3] }
  | _ => none }
def fnExactPutRefineRow : OpenClaim := { program := "ythajjjpblkhmmaa", sum := "3bc37aa7c78e238788660e36410a7fe904249b1c168aed9030ea046f1631cf7e", func := "loop.example/g00139/laws.FnExactPutRefine", spec := "fnExactPutRefine", apart := false }
def FnExactPutRefineSaid : Prop := fnExactPutRefineRow.holds Try.pinned (OpenSpec.ofChange fnExactPutRefineSpec)

/-- ITS FALSE NEIGHBOUR: 'it returns false'. Refute it at one input. -/
def fnExactPutRefineWrong : ChangeSpec := { name := "fnExactPutRefine", fn := fun _ => fun
  | [d1, d2, d3] => { results := [.lit (.bool false)], args := [d1, d2, d3] }
  | _ => none }
def FnExactPutRefineWrongFalsely : Prop := fnExactPutRefineRow.holds Try.pinned (OpenSpec.ofChange fnExactPutRefineWrong)

/-- 'laws.FnPasses': WHATEVER THE INPUT: true; the input reads as it did. -/
def fnPassesSpec : ChangeSpec := { name := "fnPasses", fn := fun _ => fun
  | [d1, d2] => { results := [.lit (.bool true)], args := [d1, d2] }
  | _ => none }
def fnPassesRow : OpenClaim := { program := "ythajjjpblkhmmaa", sum := "3bc37aa7c78e238788660e36410a7fe904249b1c168aed9030ea046f1631cf7e", func := "loop.example/g00139/laws.FnPasses", spec := "fnPasses", apart := false }
def FnPassesSaid : Prop := fnPassesRow.holds Try.pinned (OpenSpec.ofChange fnPassesSpec)

/-- ITS FALSE NEIGHBOUR: 'it returns false'. Refute it at one input. -/
def fnPassesWrong : ChangeSpec := { name := "fnPasses", fn := fun _ => fun
  | [d1, d2] => { results := [.lit (.bool false)], args := [d1, d2] }
  | _ => none }
def FnPassesWrongFalsely : Prop := fnPassesRow.holds Try.pinned (OpenSpec.ofChange fnPassesWrong)

/-- 'laws.FnExactScanOk': WHATEVER THE INPUT: true; the input reads as it did. -/
def fnExactScanOkSpec : ChangeSpec := { name := "fnExactScanOk", fn := fun _ => fun
  | [d1, d2] => { results := [.lit (.bool true)], args := [d1, d2] }
  | _ => none }
def fnExactScanOkRow : OpenClaim := { program := "ythajjjpblkhmmaa", sum := "3bc37aa7c78e238788660e36410a7fe904249b1c168aed9030ea046f1631cf7e", func := "loop.example/g00139/laws.FnExactScanOk", spec := "fnExactScanOk", unfollowed := true, recurses := true, apart := false }
def FnExactScanOkSaid : Prop := fnExactScanOkRow.holds Try.pinned (OpenSpec.ofChange fnExactScanOkSpec)

/-- ITS FALSE NEIGHBOUR: 'it returns false'. Refute it at one input. -/
def fnExactScanOkWrong : ChangeSpec := { name := "fnExactScanOk", fn := fun _ => fun
  | [d1, d2] => { results := [.lit (.bool false)], args := [d1, d2] }
  | _ => none }
def FnExactScanOkWrongFalsely : Prop := fnExactScanOkRow.holds Try.pinned (OpenSpec.ofChange fnExactScanOkWrong)

/-- 'laws.FnExactEmptyCoefs': WHATEVER THE INPUT: true; the input reads as it did. -/
def fnExactEmptyCoefsSpec : ChangeSpec := { name := "fnExactEmptyCoefs", fn := fun _ => fun
  | [d] => { results := [.lit (.bool true)], args := [d] }
  | _ => none }
def fnExactEmptyCoefsRow : OpenClaim := { program := "ythajjjpblkhmmaa", sum := "3bc37aa7c78e238788660e36410a7fe904249b1c168aed9030ea046f1631cf7e", func := "loop.example/g00139/laws.FnExactEmptyCoefs", spec := "fnExactEmptyCoefs", unfollowed := true, recurses := true, apart := false }
def FnExactEmptyCoefsSaid : Prop := fnExactEmptyCoefsRow.holds Try.pinned (OpenSpec.ofChange fnExactEmptyCoefsSpec)

/-- ITS FALSE NEIGHBOUR: 'it returns false'. Refute it at one input. -/
def fnExactEmptyCoefsWrong : ChangeSpec := { name := "fnExactEmptyCoefs", fn := fun _ => fun
  | [d] => { results := [.lit (.bool false)], args := [d] }
  | _ => none }
def FnExactEmptyCoefsWrongFalsely : Prop := fnExactEmptyCoefsRow.holds Try.pinned (OpenSpec.ofChange fnExactEmptyCoefsWrong)

/-- 'laws.FnExactScriptFor': WHATEVER THE INPUT: true; the input reads as it did. -/
def fnExactScriptForSpec : ChangeSpec := { name := "fnExactScriptFor", fn := fun _ => fun
  | [d1, d2] => { results := [.lit (.bool true)], args := [d1, d2] }
  | _ => none }
def fnExactScriptForRow : OpenClaim := { program := "ythajjjpblkhmmaa", sum := "3bc37aa7c78e238788660e36410a7fe904249b1c168aed9030ea046f1631cf7e", func := "loop.example/g00139/laws.FnExactScriptFor", spec := "fnExactScriptFor", unfollowed := true, recurses := true, apart := false }
def FnExactScriptForSaid : Prop := fnExactScriptForRow.holds Try.pinned (OpenSpec.ofChange fnExactScriptForSpec)

/-- ITS FALSE NEIGHBOUR: 'it returns false'. Refute it at one input. -/
def fnExactScriptForWrong : ChangeSpec := { name := "fnExactScriptFor", fn := fun _ => fun
  | [d1, d2] => { results := [.lit (.bool false)], args := [d1, d2] }
  | _ => none }
def FnExactScriptForWrongFalsely : Prop := fnExactScriptForRow.holds Try.pinned (OpenSpec.ofChange fnExactScriptForWrong)

/-- 'laws.FnExactCoefsOk': WHATEVER THE INPUT: true; the input reads as it did. -/
def fnExactCoefsOkSpec : ChangeSpec := { name := "fnExactCoefsOk", fn := fun _ => fun
  | [d1, d2] => { results := [.lit (.bool true)], args := [d1, d2] }
  | _ => none }
def fnExactCoefsOkRow : OpenClaim := { program := "ythajjjpblkhmmaa", sum := "3bc37aa7c78e238788660e36410a7fe904249b1c168aed9030ea046f1631cf7e", func := "loop.example/g00139/laws.FnExactCoefsOk", spec := "fnExactCoefsOk", unfollowed := true, recurses := true, apart := false }
def FnExactCoefsOkSaid : Prop := fnExactCoefsOkRow.holds Try.pinned (OpenSpec.ofChange fnExactCoefsOkSpec)

/-- ITS FALSE NEIGHBOUR: 'it returns false'. Refute it at one input. -/
def fnExactCoefsOkWrong : ChangeSpec := { name := "fnExactCoefsOk", fn := fun _ => fun
  | [d1, d2] => { results := [.lit (.bool false)], args := [d1, d2] }
  | _ => none }
def FnExactCoefsOkWrongFalsely : Prop := fnExactCoefsOkRow.holds Try.pinned (OpenSpec.ofChange fnExactCoefsOkWrong)

/-- 'laws.FnExactScriptOk': WHATEVER THE INPUT: true; the input reads as it did. -/
def fnExactScriptOkSpec : ChangeSpec := { name := "fnExactScriptOk", fn := fun _ => fun
  | [d1, d2] => { results := [.lit (.bool true)], args := [d1, d2] }
  | _ => none }
def fnExactScriptOkRow : OpenClaim := { program := "ythajjjpblkhmmaa", sum := "3bc37aa7c78e238788660e36410a7fe904249b1c168aed9030ea046f1631cf7e", func := "loop.example/g00139/laws.FnExactScriptOk", spec := "fnExactScriptOk", unfollowed := true, recurses := true, apart := false }
def FnExactScriptOkSaid : Prop := fnExactScriptOkRow.holds Try.pinned (OpenSpec.ofChange fnExactScriptOkSpec)

/-- ITS FALSE NEIGHBOUR: 'it returns false'. Refute it at one input. -/
def fnExactScriptOkWrong : ChangeSpec := { name := "fnExactScriptOk", fn := fun _ => fun
  | [d1, d2] => { results := [.lit (.bool false)], args := [d1, d2] }
  | _ => none }
def FnExactScriptOkWrongFalsely : Prop := fnExactScriptOkRow.holds Try.pinned (OpenSpec.ofChange fnExactScriptOkWrong)

/-- 'laws.FnExactLeftOf': WHATEVER THE INPUT: true; the input reads as it did. -/
def fnExactLeftOfSpec : ChangeSpec := { name := "fnExactLeftOf", fn := fun _ => fun
  | [d1, d2] => { results := [.lit (.bool true)], args := [d1, d2] }
  | _ => none }
def fnExactLeftOfRow : OpenClaim := { program := "ythajjjpblkhmmaa", sum := "3bc37aa7c78e238788660e36410a7fe904249b1c168aed9030ea046f1631cf7e", func := "loop.example/g00139/laws.FnExactLeftOf", spec := "fnExactLeftOf", unfollowed := true, recurses := true, apart := false }
def FnExactLeftOfSaid : Prop := fnExactLeftOfRow.holds Try.pinned (OpenSpec.ofChange fnExactLeftOfSpec)

/-- ITS FALSE NEIGHBOUR: 'it returns false'. Refute it at one input. -/
def fnExactLeftOfWrong : ChangeSpec := { name := "fnExactLeftOf", fn := fun _ => fun
  | [d1, d2] => { results := [.lit (.bool false)], args := [d1, d2] }
  | _ => none }
def FnExactLeftOfWrongFalsely : Prop := fnExactLeftOfRow.holds Try.pinned (OpenSpec.ofChange fnExactLeftOfWrong)

/-- 'laws.FnExactBlockAt': WHATEVER THE INPUT: true; the input reads as it did. -/
def fnExactBlockAtSpec : ChangeSpec := { name := "fnExactBlockAt", fn := fun _ => fun
  | [d1, d2, d3] => { results := [.lit (.bool true)], args := [d1, d2, d3] }
  | _ => none }
def fnExactBlockAtRow : OpenClaim := { program := "ythajjjpblkhmmaa", sum := "3bc37aa7c78e238788660e36410a7fe904249b1c168aed9030ea046f1631cf7e", func := "loop.example/g00139/laws.FnExactBlockAt", spec := "fnExactBlockAt", unfollowed := true, recurses := true, apart := false }
def FnExactBlockAtSaid : Prop := fnExactBlockAtRow.holds Try.pinned (OpenSpec.ofChange fnExactBlockAtSpec)

/-- ITS FALSE NEIGHBOUR: 'it returns false'. Refute it at one input. -/
def fnExactBlockAtWrong : ChangeSpec := { name := "fnExactBlockAt", fn := fun _ => fun
  | [d1, d2, d3] => { results := [.lit (.bool false)], args := [d1, d2, d3] }
  | _ => none }
def FnExactBlockAtWrongFalsely : Prop := fnExactBlockAtRow.holds Try.pinned (OpenSpec.ofChange fnExactBlockAtWrong)

/- THE SECOND FORM. 'bulk': how many values and letters a reading holds, each counted each time it is reached (what is shared counts as often as it is met; a slice's spare places count too). A statement '..UptoSaid' is the law's where the arguments, and the package variables that the reading takes, are together of bulk at most 1048576: NARROWER than '..Said'. Prove '..Said' where nothing that the law and all that it calls make is longer than what came in: it says more and counts as full. Else prove '..UptoSaid'. A law counts once. -/
mutual
def uptoBulk {H : Type} : DataW H → Nat
  | .lit (.string bytes) => bytes.length + 1
  | .lit _ => 1
  | .nil => 1
  | .ptr d => uptoBulk d + 1
  | .slice elems spare => uptoBulkAll elems + uptoBulkAll spare + 1
  | .agg parts => uptoBulkAll parts + 1
  | .iface _ d => uptoBulk d + 1
  | .map entries => uptoBulkEntries entries + 1
  | .held _ => 1
def uptoBulkAll {H : Type} : List (DataW H) → Nat
  | [] => 0
  | d :: r => uptoBulk d + uptoBulkAll r
def uptoBulkEntries {H : Type} : List (Lit × DataW H) → Nat
  | [] => 0
  | x :: r => uptoBulkEntry x + uptoBulkEntries r
def uptoBulkEntry {H : Type} : Lit × DataW H → Nat
  | (.string bytes, d) => bytes.length + uptoBulk d + 1
  | (_, d) => uptoBulk d + 1
 end
def uptoSmall : (H : Type) → List (DataW H) → Bool := fun _ ds => decide (uptoBulkAll ds ≤ 1048576)
def OpenSpec.upto (s : _root_.Go.ChangeSpec) : _root_.Go.OpenSpec := { _root_.Go.OpenSpec.ofChange s with cond := some uptoSmall }

/-- 'laws.FnExactFirstOf', WHERE WHAT IT READS IS OF BULK AT MOST 1048576: true; the input reads as it did. -/
def fnExactFirstOfUptoRow : OpenClaim := { program := "ythajjjpblkhmmaa", sum := "3bc37aa7c78e238788660e36410a7fe904249b1c168aed9030ea046f1631cf7e", func := "loop.example/g00139/laws.FnExactFirstOf", spec := "fnExactFirstOf", apart := false, narrowed := true }
def FnExactFirstOfUptoSaid : Prop := fnExactFirstOfUptoRow.holds Try.pinned (OpenSpec.upto fnExactFirstOfSpec)

/-- 'laws.FnExactPutFirst', WHERE WHAT IT READS IS OF BULK AT MOST 1048576: true; the input reads as it did. -/
def fnExactPutFirstUptoRow : OpenClaim := { program := "ythajjjpblkhmmaa", sum := "3bc37aa7c78e238788660e36410a7fe904249b1c168aed9030ea046f1631cf7e", func := "loop.example/g00139/laws.FnExactPutFirst", spec := "fnExactPutFirst", apart := false, narrowed := true }
def FnExactPutFirstUptoSaid : Prop := fnExactPutFirstUptoRow.holds Try.pinned (OpenSpec.upto fnExactPutFirstSpec)

/-- 'laws.FnExactRefineOf', WHERE WHAT IT READS IS OF BULK AT MOST 1048576: true; the input reads as it did. -/
def fnExactRefineOfUptoRow : OpenClaim := { program := "ythajjjpblkhmmaa", sum := "3bc37aa7c78e238788660e36410a7fe904249b1c168aed9030ea046f1631cf7e", func := "loop.example/g00139/laws.FnExactRefineOf", spec := "fnExactRefineOf", apart := false, narrowed := true }
def FnExactRefineOfUptoSaid : Prop := fnExactRefineOfUptoRow.holds Try.pinned (OpenSpec.upto fnExactRefineOfSpec)

/-- 'laws.FnExactPutRefine', WHERE WHAT IT READS IS OF BULK AT MOST 1048576: true; the input reads as it did. -/
def fnExactPutRefineUptoRow : OpenClaim := { program := "ythajjjpblkhmmaa", sum := "3bc37aa7c78e238788660e36410a7fe904249b1c168aed9030ea046f1631cf7e", func := "loop.example/g00139/laws.FnExactPutRefine", spec := "fnExactPutRefine", apart := false, narrowed := true }
def FnExactPutRefineUptoSaid : Prop := fnExactPutRefineUptoRow.holds Try.pinned (OpenSpec.upto fnExactPutRefineSpec)

/-- 'laws.FnPasses', WHERE WHAT IT READS IS OF BULK AT MOST 1048576: true; the input reads as it did. -/
def fnPassesUptoRow : OpenClaim := { program := "ythajjjpblkhmmaa", sum := "3bc37aa7c78e238788660e36410a7fe904249b1c168aed9030ea046f1631cf7e", func := "loop.example/g00139/laws.FnPasses", spec := "fnPasses", apart := false, narrowed := true }
def FnPassesUptoSaid : Prop := fnPassesUptoRow.holds Try.pinned (OpenSpec.upto fnPassesSpec)

/-- 'laws.FnExactScanOk', WHERE WHAT IT READS IS OF BULK AT MOST 1048576: true; the input reads as it did. -/
def fnExactScanOkUptoRow : OpenClaim := { program := "ythajjjpblkhmmaa", sum := "3bc37aa7c78e238788660e36410a7fe904249b1c168aed9030ea046f1631cf7e", func := "loop.example/g00139/laws.FnExactScanOk", spec := "fnExactScanOk", unfollowed := true, recurses := true, apart := false, narrowed := true }
def FnExactScanOkUptoSaid : Prop := fnExactScanOkUptoRow.holds Try.pinned (OpenSpec.upto fnExactScanOkSpec)

/-- 'laws.FnExactEmptyCoefs', WHERE WHAT IT READS IS OF BULK AT MOST 1048576: true; the input reads as it did. -/
def fnExactEmptyCoefsUptoRow : OpenClaim := { program := "ythajjjpblkhmmaa", sum := "3bc37aa7c78e238788660e36410a7fe904249b1c168aed9030ea046f1631cf7e", func := "loop.example/g00139/laws.FnExactEmptyCoefs", spec := "fnExactEmptyCoefs", unfollowed := true, recurses := true, apart := false, narrowed := true }
def FnExactEmptyCoefsUptoSaid : Prop := fnExactEmptyCoefsUptoRow.holds Try.pinned (OpenSpec.upto fnExactEmptyCoefsSpec)

/-- 'laws.FnExactScriptFor', WHERE WHAT IT READS IS OF BULK AT MOST 1048576: true; the input reads as it did. -/
def fnExactScriptForUptoRow : OpenClaim := { program := "ythajjjpblkhmmaa", sum := "3bc37aa7c78e238788660e36410a7fe904249b1c168aed9030ea046f1631cf7e", func := "loop.example/g00139/laws.FnExactScriptFor", spec := "fnExactScriptFor", unfollowed := true, recurses := true, apart := false, narrowed := true }
def FnExactScriptForUptoSaid : Prop := fnExactScriptForUptoRow.holds Try.pinned (OpenSpec.upto fnExactScriptForSpec)

/-- 'laws.FnExactCoefsOk', WHERE WHAT IT READS IS OF BULK AT MOST 1048576: true; the input reads as it did. -/
def fnExactCoefsOkUptoRow : OpenClaim := { program := "ythajjjpblkhmmaa", sum := "3bc37aa7c78e238788660e36410a7fe904249b1c168aed9030ea046f1631cf7e", func := "loop.example/g00139/laws.FnExactCoefsOk", spec := "fnExactCoefsOk", unfollowed := true, recurses := true, apart := false, narrowed := true }
def FnExactCoefsOkUptoSaid : Prop := fnExactCoefsOkUptoRow.holds Try.pinned (OpenSpec.upto fnExactCoefsOkSpec)

/-- 'laws.FnExactScriptOk', WHERE WHAT IT READS IS OF BULK AT MOST 1048576: true; the input reads as it did. -/
def fnExactScriptOkUptoRow : OpenClaim := { program := "ythajjjpblkhmmaa", sum := "3bc37aa7c78e238788660e36410a7fe904249b1c168aed9030ea046f1631cf7e", func := "loop.example/g00139/laws.FnExactScriptOk", spec := "fnExactScriptOk", unfollowed := true, recurses := true, apart := false, narrowed := true }
def FnExactScriptOkUptoSaid : Prop := fnExactScriptOkUptoRow.holds Try.pinned (OpenSpec.upto fnExactScriptOkSpec)

/-- 'laws.FnExactLeftOf', WHERE WHAT IT READS IS OF BULK AT MOST 1048576: true; the input reads as it did. -/
def fnExactLeftOfUptoRow : OpenClaim := { program := "ythajjjpblkhmmaa", sum := "3bc37aa7c78e238788660e36410a7fe904249b1c168aed9030ea046f1631cf7e", func := "loop.example/g00139/laws.FnExactLeftOf", spec := "fnExactLeftOf", unfollowed := true, recurses := true, apart := false, narrowed := true }
def FnExactLeftOfUptoSaid : Prop := fnExactLeftOfUptoRow.holds Try.pinned (OpenSpec.upto fnExactLeftOfSpec)

/-- 'laws.FnExactBlockAt', WHERE WHAT IT READS IS OF BULK AT MOST 1048576: true; the input reads as it did. -/
def fnExactBlockAtUptoRow : OpenClaim := { program := "ythajjjpblkhmmaa", sum := "3bc37aa7c78e238788660e36410a7fe904249b1c168aed9030ea046f1631cf7e", func := "loop.example/g00139/laws.FnExactBlockAt", spec := "fnExactBlockAt", unfollowed := true, recurses := true, apart := false, narrowed := true }
def FnExactBlockAtUptoSaid : Prop := fnExactBlockAtUptoRow.holds Try.pinned (OpenSpec.upto fnExactBlockAtSpec)

end Rows
end Go.Proofs.Ythajjjpblkhmmaa
