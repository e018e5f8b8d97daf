/-
  No cell of these rows narrows 'for every input' (looked for: loops, veiled, ifaces, maps, wideKeys, modest, calm, conditions, laid).
  DERIVED. THE GIVEN ROWS OF THIS SEAT. 3 by the template 'for every input the law returns true; each argument reads behind the call as it read before'; 0 by the template 'total and deterministic' (their statements: YtmgjglegooehbaaTotals.lean).
  GIVEN WITH THE SEED: the statements are not yours to turn. If you find one false, say at which input.
  Laid BY PROGRAM, IN A SANDBOX (cutbox-rows.mjs): the forced cells as the released guide's own fill.sh prints them over the translation 844e076ba980b23f… (all of the seat's roots in one cut). By AI agents, Wed Nov 11 2026. No macro, syntax, notation, axiom, sorry.
-/
import Derived.Test.YtmgjglegooehbaaChecked
import GoSem.Claim
import GoSem.ClaimJoined
import GoSem.ClaimMapViews
import Derived.JoinedTies
import Derived.KernelRfl
namespace Go.Proofs.Ytmgjglegooehbaa
/- THE CELL 'sum', in the pinned program and in every row, IS THE sha256 OF THE DUMP (.gsa) THAT YtmgjglegooehbaaProg.lean LOADS. Nothing in Lean hashes anything: it is a label: what it is worth is what the hold of that sum in a sandbox is worth. -/
noncomputable def Try.pinned : Pinned := { name := "ytmgjglegooehbaa", sum := "844e076ba980b23f5c9a03ae475823a240289b2ee0e79a67db29032f8c8ac3f0", checked := Try.checked }
namespace Rows
def none {H : Type} : Left H := { results := [], args := [] }

/-- 'laws.FnExactFrameFor': WHATEVER THE INPUT: true; the input reads as it did. -/
def fnExactFrameForSpec : ChangeSpec := { name := "fnExactFrameFor", fn := fun _ => fun
  | [d1, d2] => { results := [.lit (.bool true)], args := [d1, d2] }
  | _ => none }
def fnExactFrameForRow : OpenClaim := { program := "ytmgjglegooehbaa", sum := "844e076ba980b23f5c9a03ae475823a240289b2ee0e79a67db29032f8c8ac3f0", func := "loop.example/g00139/laws.FnExactFrameFor", spec := "fnExactFrameFor", apart := false }
def FnExactFrameForSaid : Prop := fnExactFrameForRow.holds Try.pinned (OpenSpec.ofChange fnExactFrameForSpec)

/-- ITS FALSE NEIGHBOUR: 'it returns false'. Refute it at one input. -/
def fnExactFrameForWrong : ChangeSpec := { name := "fnExactFrameFor", fn := fun _ => fun
  | [d1, d2] => { results := [.lit (.bool false)], args := [d1, d2] }
  | _ => none }
def FnExactFrameForWrongFalsely : Prop := fnExactFrameForRow.holds Try.pinned (OpenSpec.ofChange fnExactFrameForWrong)

/-- 'laws.FnExactCutBlocks': WHATEVER THE INPUT: true; the input reads as it did. -/
def fnExactCutBlocksSpec : ChangeSpec := { name := "fnExactCutBlocks", fn := fun _ => fun
  | [d1, d2, d3] => { results := [.lit (.bool true)], args := [d1, d2, d3] }
  | _ => none }
def fnExactCutBlocksRow : OpenClaim := { program := "ytmgjglegooehbaa", sum := "844e076ba980b23f5c9a03ae475823a240289b2ee0e79a67db29032f8c8ac3f0", func := "loop.example/g00139/laws.FnExactCutBlocks", spec := "fnExactCutBlocks", unfollowed := true, recurses := true, apart := false }
def FnExactCutBlocksSaid : Prop := fnExactCutBlocksRow.holds Try.pinned (OpenSpec.ofChange fnExactCutBlocksSpec)

/-- ITS FALSE NEIGHBOUR: 'it returns false'. Refute it at one input. -/
def fnExactCutBlocksWrong : ChangeSpec := { name := "fnExactCutBlocks", fn := fun _ => fun
  | [d1, d2, d3] => { results := [.lit (.bool false)], args := [d1, d2, d3] }
  | _ => none }
def FnExactCutBlocksWrongFalsely : Prop := fnExactCutBlocksRow.holds Try.pinned (OpenSpec.ofChange fnExactCutBlocksWrong)

/-- 'laws.FnExactJoinBlocks': WHATEVER THE INPUT: true; the input reads as it did. -/
def fnExactJoinBlocksSpec : ChangeSpec := { name := "fnExactJoinBlocks", fn := fun _ => fun
  | [d1, d2, d3] => { results := [.lit (.bool true)], args := [d1, d2, d3] }
  | _ => none }
def fnExactJoinBlocksRow : OpenClaim := { program := "ytmgjglegooehbaa", sum := "844e076ba980b23f5c9a03ae475823a240289b2ee0e79a67db29032f8c8ac3f0", func := "loop.example/g00139/laws.FnExactJoinBlocks", spec := "fnExactJoinBlocks", unfollowed := true, recurses := true, apart := false }
def FnExactJoinBlocksSaid : Prop := fnExactJoinBlocksRow.holds Try.pinned (OpenSpec.ofChange fnExactJoinBlocksSpec)

/-- ITS FALSE NEIGHBOUR: 'it returns false'. Refute it at one input. -/
def fnExactJoinBlocksWrong : ChangeSpec := { name := "fnExactJoinBlocks", fn := fun _ => fun
  | [d1, d2, d3] => { results := [.lit (.bool false)], args := [d1, d2, d3] }
  | _ => none }
def FnExactJoinBlocksWrongFalsely : Prop := fnExactJoinBlocksRow.holds Try.pinned (OpenSpec.ofChange fnExactJoinBlocksWrong)

/- THE SECOND FORM. 'bulk': how many values and letters a reading holds, each counted each time it is reached (what is shared counts as often as it is met; a slice's spare places count too). A statement '..UptoSaid' is the law's where the arguments, and the package variables that the reading takes, are together of bulk at most 1048576: NARROWER than '..Said'. Prove '..Said' where nothing that the law and all that it calls make is longer than what came in: it says more and counts as full. Else prove '..UptoSaid'. A law counts once. -/
mutual
def uptoBulk {H : Type} : DataW H → Nat
  | .lit (.string bytes) => bytes.length + 1
  | .lit _ => 1
  | .nil => 1
  | .ptr d => uptoBulk d + 1
  | .slice elems spare => uptoBulkAll elems + uptoBulkAll spare + 1
  | .agg parts => uptoBulkAll parts + 1
  | .iface _ d => uptoBulk d + 1
  | .map entries => uptoBulkEntries entries + 1
  | .held _ => 1
def uptoBulkAll {H : Type} : List (DataW H) → Nat
  | [] => 0
  | d :: r => uptoBulk d + uptoBulkAll r
def uptoBulkEntries {H : Type} : List (Lit × DataW H) → Nat
  | [] => 0
  | x :: r => uptoBulkEntry x + uptoBulkEntries r
def uptoBulkEntry {H : Type} : Lit × DataW H → Nat
  | (.string bytes, d) => bytes.length + uptoBulk d + 1
  | (_, d) => uptoBulk d + 1
 end
def uptoSmall : (H : Type) → List (DataW H) → Bool := fun _ ds => decide (uptoBulkAll ds ≤ 1048576)
def OpenSpec.upto (s : _root_.Go.ChangeSpec) : _root_.Go.OpenSpec := { _root_.Go.OpenSpec.ofChange s with cond := some uptoSmall }

/-- 'laws.FnExactFrameFor', WHERE WHAT IT READS IS OF BULK AT MOST 1048576: true; the input reads as it did. -/
def fnExactFrameForUptoRow : OpenClaim := { program := "ytmgjglegooehbaa", sum := "844e076ba980b23f5c9a03ae475823a240289b2ee0e79a67db29032f8c8ac3f0", func := "loop.example/g00139/laws.FnExactFrameFor", spec := "fnExactFrameFor", apart := false, narrowed := true }
def FnExactFrameForUptoSaid : Prop := fnExactFrameForUptoRow.holds Try.pinned (OpenSpec.upto fnExactFrameForSpec)

/-- 'laws.FnExactCutBlocks', WHERE WHAT IT READS IS OF BULK AT MOST 1048576: true; the input reads as it did. -/
def fnExactCutBlocksUptoRow : OpenClaim := { program := "ytmgjglegooehbaa", sum := "844e076ba980b23f5c9a03ae475823a240289b2ee0e79a67db29032f8c8ac3f0", func := "loop.example/g00139/laws.FnExactCutBlocks", spec := "fnExactCutBlocks", unfollowed := true, recurses := true, apart := false, narrowed := true }
def FnExactCutBlocksUptoSaid : Prop := fnExactCutBlocksUptoRow.holds Try.pinned (OpenSpec.upto fnExactCutBlocksSpec)

/-- 'laws.FnExactJoinBlocks', WHERE WHAT IT READS IS OF BULK AT MOST 1048576: true; the input reads as it did. -/
def fnExactJoinBlocksUptoRow : OpenClaim := { program := "ytmgjglegooehbaa", sum := "844e076ba980b23f5c9a03ae475823a240289b2ee0e79a67db29032f8c8ac3f0", func := "loop.example/g00139/laws.FnExactJoinBlocks", spec := "fnExactJoinBlocks", unfollowed := true, recurses := true, apart := false, narrowed := true }
def FnExactJoinBlocksUptoSaid : Prop := fnExactJoinBlocksUptoRow.holds Try.pinned (OpenSpec.upto fnExactJoinBlocksSpec)

end Rows
end Go.Proofs.Ytmgjglegooehbaa
