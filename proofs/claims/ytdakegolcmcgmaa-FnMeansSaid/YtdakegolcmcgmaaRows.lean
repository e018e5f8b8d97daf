/-
  No cell of these rows narrows 'for every input' (looked for: loops, veiled, ifaces, maps, wideKeys, modest, calm, conditions, laid).
  DERIVED. THE GIVEN ROWS OF THIS SEAT. 9 by the template 'for every input the law returns true; each argument reads behind the call as it read before'; 0 by the template 'total and deterministic' (their statements: YtdakegolcmcgmaaTotals.lean).
  GIVEN WITH THE SEED: the statements are not yours to turn. If you find one false, say at which input.
  Laid BY PROGRAM, IN A SANDBOX (cutbox-rows.mjs): the forced cells as the released guide's own fill.sh prints them over the translation dc1cf5c65b20777b… (all of the seat's roots in one cut). By AI agents, Wed Nov 11 2026. No macro, syntax, notation, axiom, sorry.
-/
import Derived.Test.YtdakegolcmcgmaaChecked
import GoSem.Claim
import GoSem.ClaimJoined
import GoSem.ClaimMapViews
import Derived.JoinedTies
import Derived.KernelRfl
namespace Go.Proofs.Ytdakegolcmcgmaa
/- THE CELL 'sum', in the pinned program and in every row, IS THE sha256 OF THE DUMP (.gsa) THAT YtdakegolcmcgmaaProg.lean LOADS. Nothing in Lean hashes anything: it is a label: what it is worth is what the hold of that sum in a sandbox is worth. -/
noncomputable def Try.pinned : Pinned := { name := "ytdakegolcmcgmaa", sum := "dc1cf5c65b20777b1677553841c4e3f98e297990cf67844aac68578d9c139244", checked := Try.checked }
namespace Rows
def none {H : Type} : Left H := { results := [], args := [] }

/-- 'laws.FnExactOptionsOk': WHATEVER THE INPUT: true; the input reads as it did. -/
def fnExactOptionsOkSpec : ChangeSpec := { name := "fnExactOptionsOk", fn := fun _ => fun
  | [d] => { results := [.lit (.bool true)], args := [d] }
  | _ => none }
def fnExactOptionsOkRow : OpenClaim := { program := "ytdakegolcmcgmaa", sum := "dc1cf5c65b20777b1677553841c4e3f98e297990cf67844aac68578d9c139244", func := "loop.example/g00139/laws.FnExactOptionsOk", spec := "fnExactOptionsOk", apart := false }
def FnExactOptionsOkSaid : Prop := fnExactOptionsOkRow.holds Try.pinned (OpenSpec.ofChange fnExactOptionsOkSpec)

/-- ITS FALSE NEIGHBOUR: 'it returns false'. Refute it at one input. -/
def fnExactOptionsOkWrong : ChangeSpec := { name := "fnExactOptionsOk", fn := fun _ => fun
  | [d] => { results := [.lit (.bool false)], args := [d] }
  | _ => none }
def FnExactOptionsOkWrongFalsely : Prop := fnExactOptionsOkRow.holds Try.pinned (OpenSpec.ofChange fnExactOptionsOkWrong)

/-- 'laws.FnExactPlaneOk': WHATEVER THE INPUT: true; the input reads as it did. -/
def fnExactPlaneOkSpec : ChangeSpec := { name := "fnExactPlaneOk", fn := fun _ => fun
  | [d1, d2, d3] => { results := [.lit (.bool true)], args := [d1, d2, d3] }
  | _ => none }
def fnExactPlaneOkRow : OpenClaim := { program := "ytdakegolcmcgmaa", sum := "dc1cf5c65b20777b1677553841c4e3f98e297990cf67844aac68578d9c139244", func := "loop.example/g00139/laws.FnExactPlaneOk", spec := "fnExactPlaneOk", apart := false }
def FnExactPlaneOkSaid : Prop := fnExactPlaneOkRow.holds Try.pinned (OpenSpec.ofChange fnExactPlaneOkSpec)

/-- ITS FALSE NEIGHBOUR: 'it returns false'. Refute it at one input. -/
def fnExactPlaneOkWrong : ChangeSpec := { name := "fnExactPlaneOk", fn := fun _ => fun
  | [d1, d2, d3] => { results := [.lit (.bool false)], args := [d1, d2, d3] }
  | _ => none }
def FnExactPlaneOkWrongFalsely : Prop := fnExactPlaneOkRow.holds Try.pinned (OpenSpec.ofChange fnExactPlaneOkWrong)

/-- 'laws.FnExactCrop': WHATEVER THE INPUT: true; the input reads as it did. -/
def fnExactCropSpec : ChangeSpec := { name := "fnExactCrop", fn := fun _ => fun
  | [d1, d2, d3, d4, d5] => { results := [.lit (.bool true)], args := [d1, d2, d3, d4, d5] }
  | _ => none }
def fnExactCropRow : OpenClaim := { program := "ytdakegolcmcgmaa", sum := "dc1cf5c65b20777b1677553841c4e3f98e297990cf67844aac68578d9c139244", func := "loop.example/g00139/laws.FnExactCrop", spec := "fnExactCrop", unfollowed := true, recurses := true, apart := false }
def FnExactCropSaid : Prop := fnExactCropRow.holds Try.pinned (OpenSpec.ofChange fnExactCropSpec)

/-- ITS FALSE NEIGHBOUR: 'it returns false'. Refute it at one input. -/
def fnExactCropWrong : ChangeSpec := { name := "fnExactCrop", fn := fun _ => fun
  | [d1, d2, d3, d4, d5] => { results := [.lit (.bool false)], args := [d1, d2, d3, d4, d5] }
  | _ => none }
def FnExactCropWrongFalsely : Prop := fnExactCropRow.holds Try.pinned (OpenSpec.ofChange fnExactCropWrong)

/-- 'laws.FnExactGrow': WHATEVER THE INPUT: true; the input reads as it did. -/
def fnExactGrowSpec : ChangeSpec := { name := "fnExactGrow", fn := fun _ => fun
  | [d1, d2, d3, d4, d5] => { results := [.lit (.bool true)], args := [d1, d2, d3, d4, d5] }
  | _ => none }
def fnExactGrowRow : OpenClaim := { program := "ytdakegolcmcgmaa", sum := "dc1cf5c65b20777b1677553841c4e3f98e297990cf67844aac68578d9c139244", func := "loop.example/g00139/laws.FnExactGrow", spec := "fnExactGrow", unfollowed := true, recurses := true, apart := false }
def FnExactGrowSaid : Prop := fnExactGrowRow.holds Try.pinned (OpenSpec.ofChange fnExactGrowSpec)

/-- ITS FALSE NEIGHBOUR: 'it returns false'. Refute it at one input. -/
def fnExactGrowWrong : ChangeSpec := { name := "fnExactGrow", fn := fun _ => fun
  | [d1, d2, d3, d4, d5] => { results := [.lit (.bool false)], args := [d1, d2, d3, d4, d5] }
  | _ => none }
def FnExactGrowWrongFalsely : Prop := fnExactGrowRow.holds Try.pinned (OpenSpec.ofChange fnExactGrowWrong)

/-- 'laws.FnExactPad': WHATEVER THE INPUT: true; the input reads as it did. -/
def fnExactPadSpec : ChangeSpec := { name := "fnExactPad", fn := fun _ => fun
  | [d1, d2, d3, d4, d5] => { results := [.lit (.bool true)], args := [d1, d2, d3, d4, d5] }
  | _ => none }
def fnExactPadRow : OpenClaim := { program := "ytdakegolcmcgmaa", sum := "dc1cf5c65b20777b1677553841c4e3f98e297990cf67844aac68578d9c139244", func := "loop.example/g00139/laws.FnExactPad", spec := "fnExactPad", unfollowed := true, recurses := true, apart := false }
def FnExactPadSaid : Prop := fnExactPadRow.holds Try.pinned (OpenSpec.ofChange fnExactPadSpec)

/-- ITS FALSE NEIGHBOUR: 'it returns false'. Refute it at one input. -/
def fnExactPadWrong : ChangeSpec := { name := "fnExactPad", fn := fun _ => fun
  | [d1, d2, d3, d4, d5] => { results := [.lit (.bool false)], args := [d1, d2, d3, d4, d5] }
  | _ => none }
def FnExactPadWrongFalsely : Prop := fnExactPadRow.holds Try.pinned (OpenSpec.ofChange fnExactPadWrong)

/-- 'laws.FnExactShrink': WHATEVER THE INPUT: true; the input reads as it did. -/
def fnExactShrinkSpec : ChangeSpec := { name := "fnExactShrink", fn := fun _ => fun
  | [d1, d2, d3, d4, d5] => { results := [.lit (.bool true)], args := [d1, d2, d3, d4, d5] }
  | _ => none }
def fnExactShrinkRow : OpenClaim := { program := "ytdakegolcmcgmaa", sum := "dc1cf5c65b20777b1677553841c4e3f98e297990cf67844aac68578d9c139244", func := "loop.example/g00139/laws.FnExactShrink", spec := "fnExactShrink", unfollowed := true, recurses := true, apart := false }
def FnExactShrinkSaid : Prop := fnExactShrinkRow.holds Try.pinned (OpenSpec.ofChange fnExactShrinkSpec)

/-- ITS FALSE NEIGHBOUR: 'it returns false'. Refute it at one input. -/
def fnExactShrinkWrong : ChangeSpec := { name := "fnExactShrink", fn := fun _ => fun
  | [d1, d2, d3, d4, d5] => { results := [.lit (.bool false)], args := [d1, d2, d3, d4, d5] }
  | _ => none }
def FnExactShrinkWrongFalsely : Prop := fnExactShrinkRow.holds Try.pinned (OpenSpec.ofChange fnExactShrinkWrong)

/-- 'laws.FnExactCutBlocks': WHATEVER THE INPUT: true; the input reads as it did. -/
def fnExactCutBlocksSpec : ChangeSpec := { name := "fnExactCutBlocks", fn := fun _ => fun
  | [d1, d2, d3] => { results := [.lit (.bool true)], args := [d1, d2, d3] }
  | _ => none }
def fnExactCutBlocksRow : OpenClaim := { program := "ytdakegolcmcgmaa", sum := "dc1cf5c65b20777b1677553841c4e3f98e297990cf67844aac68578d9c139244", func := "loop.example/g00139/laws.FnExactCutBlocks", spec := "fnExactCutBlocks", unfollowed := true, recurses := true, apart := false }
def FnExactCutBlocksSaid : Prop := fnExactCutBlocksRow.holds Try.pinned (OpenSpec.ofChange fnExactCutBlocksSpec)

/-- ITS FALSE NEIGHBOUR: 'it returns false'. Refute it at one input. -/
def fnExactCutBlocksWrong : ChangeSpec := { name := "fnExactCutBlocks", fn := fun _ => fun
  | [d1, d2, d3] => { results := [.lit (.bool false)], args := [d1, d2, d3] }
  | _ => none }
def FnExactCutBlocksWrongFalsely : Prop := fnExactCutBlocksRow.holds Try.pinned (OpenSpec.ofChange fnExactCutBlocksWrong)

/-- 'laws.FnExactJoinBlocks': WHATEVER THE INPUT: true; the input reads as it did. -/
def fnExactJoinBlocksSpec : ChangeSpec := { name := "fnExactJoinBlocks", fn := fun _ => fun
  | [d1, d2, d3] => { results := [.lit (.bool true)], args := [d1, d2, d3] }
  | _ => none }
def fnExactJoinBlocksRow : OpenClaim := { program := "ytdakegolcmcgmaa", sum := "dc1cf5c65b20777b1677553841c4e3f98e297990cf67844aac68578d9c139244", func := "loop.example/g00139/laws.FnExactJoinBlocks", spec := "fnExactJoinBlocks", unfollowed := true, recurses := true, apart := false }
def FnExactJoinBlocksSaid : Prop := fnExactJoinBlocksRow.holds Try.pinned (OpenSpec.ofChange fnExactJoinBlocksSpec)

/-- ITS FALSE NEIGHBOUR: 'it returns false'. Refute it at one input. -/
def fnExactJoinBlocksWrong : ChangeSpec := { name := "fnExactJoinBlocks", fn := fun _ => fun
  | [d1, d2, d3] => { results := [.lit (.bool false)], args := [d1, d2, d3] }
  | _ => none }
def FnExactJoinBlocksWrongFalsely : Prop := fnExactJoinBlocksRow.holds Try.pinned (OpenSpec.ofChange fnExactJoinBlocksWrong)

/-- 'laws.FnMeans': WHATEVER THE INPUT: true; the input reads as it did. -/
def fnMeansSpec : ChangeSpec := { name := "fnMeans", fn := fun _ => fun
  | [d] => { results := [.lit (.bool true)], args := [d] }
  | _ => none }
def fnMeansRow : OpenClaim := { program := "ytdakegolcmcgmaa", sum := "dc1cf5c65b20777b1677553841c4e3f98e297990cf67844aac68578d9c139244", func := "loop.example/g00139/laws.FnMeans", spec := "fnMeans", unfollowed := true, recurses := true, apart := false }
def FnMeansSaid : Prop := fnMeansRow.holds Try.pinned (OpenSpec.ofChange fnMeansSpec)

/-- ITS FALSE NEIGHBOUR: 'it returns false'. Refute it at one input. -/
def fnMeansWrong : ChangeSpec := { name := "fnMeans", fn := fun _ => fun
  | [d] => { results := [.lit (.bool false)], args := [d] }
  | _ => none }
def FnMeansWrongFalsely : Prop := fnMeansRow.holds Try.pinned (OpenSpec.ofChange fnMeansWrong)

/- THE SECOND FORM. 'bulk': how many values and letters a reading holds, each counted each time it is reached (what is shared counts as often as it is met; a slice's spare places count too). A statement '..UptoSaid' is the law's where the arguments, and the package variables that the reading takes, are together of bulk at most 1048576: NARROWER than '..Said'. Prove '..Said' where nothing that the law and all that it calls make is longer than what came in: it says more and counts as full. Else prove '..UptoSaid'. A law counts once. -/
mutual
def uptoBulk {H : Type} : DataW H → Nat
  | .lit (.string bytes) => bytes.length + 1
  | .lit _ => 1
  | .nil => 1
  | .ptr d => uptoBulk d + 1
  | .slice elems spare => uptoBulkAll elems + uptoBulkAll spare + 1
  | .agg parts => uptoBulkAll parts + 1
  | .iface _ d => uptoBulk d + 1
  | .map entries => uptoBulkEntries entries + 1
  | .held _ => 1
def uptoBulkAll {H : Type} : List (DataW H) → Nat
  | [] => 0
  | d :: r => uptoBulk d + uptoBulkAll r
def uptoBulkEntries {H : Type} : List (Lit × DataW H) → Nat
  | [] => 0
  | x :: r => uptoBulkEntry x + uptoBulkEntries r
def uptoBulkEntry {H : Type} : Lit × DataW H → Nat
  | (.string bytes, d) => bytes.length + uptoBulk d + 1
  | (_, d) => uptoBulk d + 1
 end
def uptoSmall : (H : Type) → List (DataW H) → Bool := fun _ ds => decide (uptoBulkAll ds ≤ 1048576)
def OpenSpec.upto (s : _root_.Go.ChangeSpec) : _root_.Go.OpenSpec := { _root_.Go.OpenSpec.ofChange s with cond := some uptoSmall }

/-- 'laws.FnExactOptionsOk', WHERE WHAT IT READS IS OF BULK AT MOST 1048576: true; the input reads as it did. -/
def fnExactOptionsOkUptoRow : OpenClaim := { program := "ytdakegolcmcgmaa", sum := "dc1cf5c65b20777b1677553841c4e3f98e297990cf67844aac68578d9c139244", func := "loop.example/g00139/laws.FnExactOptionsOk", spec := "fnExactOptionsOk", apart := false, narrowed := true }
def FnExactOptionsOkUptoSaid : Prop := fnExactOptionsOkUptoRow.holds Try.pinned (OpenSpec.upto fnExactOptionsOkSpec)

/-- 'laws.FnExactPlaneOk', WHERE WHAT IT READS IS OF BULK AT MOST 1048576: true; the input reads as it did. -/
def fnExactPlaneOkUptoRow : OpenClaim := { program := "ytdakegolcmcgmaa", sum := "dc1cf5c65b20777b1677553841c4e3f98e297990cf67844aac68578d9c139244", func := "loop.example/g00139/laws.FnExactPlaneOk", spec := "fnExactPlaneOk", apart := false, narrowed := true }
def FnExactPlaneOkUptoSaid : Prop := fnExactPlaneOkUptoRow.holds Try.pinned (OpenSpec.upto fnExactPlaneOkSpec)

/-- 'laws.FnExactCrop', WHERE WHAT IT READS IS OF BULK AT MOST 1048576: true; the input reads as it did. -/
def fnExactCropUptoRow : OpenClaim := { program := "ytdakegolcmcgmaa", sum := "dc1cf5c65b20777b1677553841c4e3f98e297990cf67844aac68578d9c139244", func := "loop.example/g00139/laws.FnExactCrop", spec := "fnExactCrop", unfollowed := true, recurses := true, apart := false, narrowed := true }
def FnExactCropUptoSaid : Prop := fnExactCropUptoRow.holds Try.pinned (OpenSpec.upto fnExactCropSpec)

/-- 'laws.FnExactGrow', WHERE WHAT IT READS IS OF BULK AT MOST 1048576: true; the input reads as it did. -/
def fnExactGrowUptoRow : OpenClaim := { program := "ytdakegolcmcgmaa", sum := "dc1cf5c65b20777b1677553841c4e3f98e297990cf67844aac68578d9c139244", func := "loop.example/g00139/laws.FnExactGrow", spec := "fnExactGrow", unfollowed := true, recurses := true, apart := false, narrowed := true }
def FnExactGrowUptoSaid : Prop := fnExactGrowUptoRow.holds Try.pinned (OpenSpec.upto fnExactGrowSpec)

/-- 'laws.FnExactPad', WHERE WHAT IT READS IS OF BULK AT MOST 1048576: true; the input reads as it did. -/
def fnExactPadUptoRow : OpenClaim := { program := "ytdakegolcmcgmaa", sum := "dc1cf5c65b20777b1677553841c4e3f98e297990cf67844aac68578d9c139244", func := "loop.example/g00139/laws.FnExactPad", spec := "fnExactPad", unfollowed := true, recurses := true, apart := false, narrowed := true }
def FnExactPadUptoSaid : Prop := fnExactPadUptoRow.holds Try.pinned (OpenSpec.upto fnExactPadSpec)

/-- 'laws.FnExactShrink', WHERE WHAT IT READS IS OF BULK AT MOST 1048576: true; the input reads as it did. -/
def fnExactShrinkUptoRow : OpenClaim := { program := "ytdakegolcmcgmaa", sum := "dc1cf5c65b20777b1677553841c4e3f98e297990cf67844aac68578d9c139244", func := "loop.example/g00139/laws.FnExactShrink", spec := "fnExactShrink", unfollowed := true, recurses := true, apart := false, narrowed := true }
def FnExactShrinkUptoSaid : Prop := fnExactShrinkUptoRow.holds Try.pinned (OpenSpec.upto fnExactShrinkSpec)

/-- 'laws.FnExactCutBlocks', WHERE WHAT IT READS IS OF BULK AT MOST 1048576: true; the input reads as it did. -/
def fnExactCutBlocksUptoRow : OpenClaim := { program := "ytdakegolcmcgmaa", sum := "dc1cf5c65b20777b1677553841c4e3f98e297990cf67844aac68578d9c139244", func := "loop.example/g00139/laws.FnExactCutBlocks", spec := "fnExactCutBlocks", unfollowed := true, recurses := true, apart := false, narrowed := true }
def FnExactCutBlocksUptoSaid : Prop := fnExactCutBlocksUptoRow.holds Try.pinned (OpenSpec.upto fnExactCutBlocksSpec)

/-- 'laws.FnExactJoinBlocks', WHERE WHAT IT READS IS OF BULK AT MOST 1048576: true; the input reads as it did. -/
def fnExactJoinBlocksUptoRow : OpenClaim := { program := "ytdakegolcmcgmaa", sum := "dc1cf5c65b20777b1677553841c4e3f98e297990cf67844aac68578d9c139244", func := "loop.example/g00139/laws.FnExactJoinBlocks", spec := "fnExactJoinBlocks", unfollowed := true, recurses := true, apart := false, narrowed := true }
def FnExactJoinBlocksUptoSaid : Prop := fnExactJoinBlocksUptoRow.holds Try.pinned (OpenSpec.upto fnExactJoinBlocksSpec)

/-- 'laws.FnMeans', WHERE WHAT IT READS IS OF BULK AT MOST 1048576: true; the input reads as it did. -/
def fnMeansUptoRow : OpenClaim := { program := "ytdakegolcmcgmaa", sum := "dc1cf5c65b20777b1677553841c4e3f98e297990cf67844aac68578d9c139244", func := "loop.example/g00139/laws.FnMeans", spec := "fnMeans", unfollowed := true, recurses := true, apart := false, narrowed := true }
def FnMeansUptoSaid : Prop := fnMeansUptoRow.holds Try.pinned (OpenSpec.upto fnMeansSpec)

end Rows
end Go.Proofs.Ytdakegolcmcgmaa
