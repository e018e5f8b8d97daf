/-
  No cell of these rows narrows 'for every input' (looked for: loops, veiled, ifaces, maps, wideKeys, modest, calm, conditions, laid).
  DERIVED. THE GIVEN ROWS OF THIS SEAT. 12 by the template 'for every input the law returns true; each argument reads behind the call as it read before'; 0 by the template 'total and deterministic' (their statements: YtdeheflbigggbaaTotals.lean).
  GIVEN WITH THE SEED: the statements are not yours to turn. If you find one false, say at which input.
  Laid BY PROGRAM, IN A SANDBOX (cutbox-rows.mjs): the forced cells as the released guide's own fill.sh prints them over the translation 132ae566ed79da54… (all of the seat's roots in one cut). By AI agents, Wed Nov 11 2026. No macro, syntax, notation, axiom, sorry.
-/
import Derived.Test.YtdeheflbigggbaaChecked
import GoSem.Claim
import GoSem.ClaimJoined
import GoSem.ClaimMapViews
import Derived.JoinedTies
import Derived.KernelRfl
namespace Go.Proofs.Ytdeheflbigggbaa
/- THE CELL 'sum', in the pinned program and in every row, IS THE sha256 OF THE DUMP (.gsa) THAT YtdeheflbigggbaaProg.lean LOADS. Nothing in Lean hashes anything: it is a label: what it is worth is what the hold of that sum in a sandbox is worth. -/
noncomputable def Try.pinned : Pinned := { name := "ytdeheflbigggbaa", sum := "132ae566ed79da54a3e6551569dc1304aa97eace757e30b94e0e1c1c8d7cfbe4", checked := Try.checked }
namespace Rows
def none {H : Type} : Left H := { results := [], args := [] }

/-- 'laws.FnExactBinsOf': WHATEVER THE INPUT: true; the input reads as it did. -/
def fnExactBinsOfSpec : ChangeSpec := { name := "fnExactBinsOf", fn := fun _ => fun
  | [d1, d2] => { results := [.lit (.bool true)], args := [d1, d2] }
  | _ => none }
def fnExactBinsOfRow : OpenClaim := { program := "ytdeheflbigggbaa", sum := "132ae566ed79da54a3e6551569dc1304aa97eace757e30b94e0e1c1c8d7cfbe4", func := "loop.example/g00139/laws.FnExactBinsOf", spec := "fnExactBinsOf", apart := false }
def FnExactBinsOfSaid : Prop := fnExactBinsOfRow.holds Try.pinned (OpenSpec.ofChange fnExactBinsOfSpec)

/-- ITS FALSE NEIGHBOUR: 'it returns false'. Refute it at one input. -/
def fnExactBinsOfWrong : ChangeSpec := { name := "fnExactBinsOf", fn := fun _ => fun
  | [d1, d2] => { results := [.lit (.bool false)], args := [d1, d2] }
  | _ => none }
def FnExactBinsOfWrongFalsely : Prop := fnExactBinsOfRow.holds Try.pinned (OpenSpec.ofChange fnExactBinsOfWrong)

/-- 'laws.FnCheap': WHATEVER THE INPUT: true; the input reads as it did. -/
def fnCheapSpec : ChangeSpec := { name := "fnCheap", fn := fun _ => fun
  | [d] => { results := [.lit (.bool true)], args := [d] }
  | _ => none }
def fnCheapRow : OpenClaim := { program := "ytdeheflbigggbaa", sum := "132ae566ed79da54a3e6551569dc1304aa97eace757e30b94e0e1c1c8d7cfbe4", func := "loop.example/g00139/laws.FnCheap", spec := "fnCheap", apart := false }
def FnCheapSaid : Prop := fnCheapRow.holds Try.pinned (OpenSpec.ofChange fnCheapSpec)

/-- ITS FALSE NEIGHBOUR: 'it returns false'. Refute it at one input. -/
def fnCheapWrong : ChangeSpec := { name := "fnCheap", fn := fun _ => fun
  | [d] => { results := [.lit (.bool false)], args := [d] }
  | _ => none }
def FnCheapWrongFalsely : Prop := fnCheapRow.holds Try.pinned (OpenSpec.ofChange fnCheapWrong)

/-- 'laws.FnExactDecodeBins': WHATEVER THE INPUT: true; the input reads as it did. -/
def fnExactDecodeBinsSpec : ChangeSpec := { name := "fnExactDecodeBins", fn := fun _ => fun
  | [d1, d2] => { results := [.lit (.bool true)], args := [d1, d2] }
  | _ => none }
def fnExactDecodeBinsRow : OpenClaim := { program := "ytdeheflbigggbaa", sum := "132ae566ed79da54a3e6551569dc1304aa97eace757e30b94e0e1c1c8d7cfbe4", func := "loop.example/g00139/laws.FnExactDecodeBins", spec := "fnExactDecodeBins", apart := false }
def FnExactDecodeBinsSaid : Prop := fnExactDecodeBinsRow.holds Try.pinned (OpenSpec.ofChange fnExactDecodeBinsSpec)

/-- ITS FALSE NEIGHBOUR: 'it returns false'. Refute it at one input. -/
def fnExactDecodeBinsWrong : ChangeSpec := { name := "fnExactDecodeBins", fn := fun _ => fun
  | [d1, d2] => { results := [.lit (.bool false)], args := [d1, d2] }
  | _ => none }
def FnExactDecodeBinsWrongFalsely : Prop := fnExactDecodeBinsRow.holds Try.pinned (OpenSpec.ofChange fnExactDecodeBinsWrong)

/-- 'laws.FnExactListBins': WHATEVER THE INPUT: true; the input reads as it did. -/
def fnExactListBinsSpec : ChangeSpec := { name := "fnExactListBins", fn := fun _ => fun
  | [d1, d2] => { results := [.lit (.bool true)], args := [d1, d2] }
  | _ => none }
def fnExactListBinsRow : OpenClaim := { program := "ytdeheflbigggbaa", sum := "132ae566ed79da54a3e6551569dc1304aa97eace757e30b94e0e1c1c8d7cfbe4", func := "loop.example/g00139/laws.FnExactListBins", spec := "fnExactListBins", apart := false }
def FnExactListBinsSaid : Prop := fnExactListBinsRow.holds Try.pinned (OpenSpec.ofChange fnExactListBinsSpec)

/-- ITS FALSE NEIGHBOUR: 'it returns false'. Refute it at one input. -/
def fnExactListBinsWrong : ChangeSpec := { name := "fnExactListBins", fn := fun _ => fun
  | [d1, d2] => { results := [.lit (.bool false)], args := [d1, d2] }
  | _ => none }
def FnExactListBinsWrongFalsely : Prop := fnExactListBinsRow.holds Try.pinned (OpenSpec.ofChange fnExactListBinsWrong)

/-- 'laws.FnExactReadNums': WHATEVER THE INPUT: true; the input reads as it did. -/
def fnExactReadNumsSpec : ChangeSpec := { name := "fnExactReadNums", fn := fun _ => fun
  | [d1, d2, d3] => { results := [.lit (.bool true)], args := [d1, d2, d3] }
  | _ => none }
def fnExactReadNumsRow : OpenClaim := { program := "ytdeheflbigggbaa", sum := "132ae566ed79da54a3e6551569dc1304aa97eace757e30b94e0e1c1c8d7cfbe4", func := "loop.example/g00139/laws.FnExactReadNums", spec := "fnExactReadNums", apart := false }
def FnExactReadNumsSaid : Prop := fnExactReadNumsRow.holds Try.pinned (OpenSpec.ofChange fnExactReadNumsSpec)

/-- ITS FALSE NEIGHBOUR: 'it returns false'. Refute it at one input. -/
def fnExactReadNumsWrong : ChangeSpec := { name := "fnExactReadNums", fn := fun _ => fun
  | [d1, d2, d3] => { results := [.lit (.bool false)], args := [d1, d2, d3] }
  | _ => none }
def FnExactReadNumsWrongFalsely : Prop := fnExactReadNumsRow.holds Try.pinned (OpenSpec.ofChange fnExactReadNumsWrong)

/-- 'laws.FnExactEncodeBins': WHATEVER THE INPUT: true; the input reads as it did. -/
def fnExactEncodeBinsSpec : ChangeSpec := { name := "fnExactEncodeBins", fn := fun _ => fun
  | [d] => { results := [.lit (.bool true)], args := [d] }
  | _ => none }
def fnExactEncodeBinsRow : OpenClaim := { program := "ytdeheflbigggbaa", sum := "132ae566ed79da54a3e6551569dc1304aa97eace757e30b94e0e1c1c8d7cfbe4", func := "loop.example/g00139/laws.FnExactEncodeBins", spec := "fnExactEncodeBins", apart := false }
def FnExactEncodeBinsSaid : Prop := fnExactEncodeBinsRow.holds Try.pinned (OpenSpec.ofChange fnExactEncodeBinsSpec)

/-- ITS FALSE NEIGHBOUR: 'it returns false'. Refute it at one input. -/
def fnExactEncodeBinsWrong : ChangeSpec := { name := "fnExactEncodeBins", fn := fun _ => fun
  | [d] => { results := [.lit (.bool false)], args := [d] }
  | _ => none }
def FnExactEncodeBinsWrongFalsely : Prop := fnExactEncodeBinsRow.holds Try.pinned (OpenSpec.ofChange fnExactEncodeBinsWrong)

/-- 'laws.FnBinsBack': WHATEVER THE INPUT: true; the input reads as it did. -/
def fnBinsBackSpec : ChangeSpec := { name := "fnBinsBack", fn := fun _ => fun
  | [d] => { results := [.lit (.bool true)], args := [d] }
  | _ => none }
def fnBinsBackRow : OpenClaim := { program := "ytdeheflbigggbaa", sum := "132ae566ed79da54a3e6551569dc1304aa97eace757e30b94e0e1c1c8d7cfbe4", func := "loop.example/g00139/laws.FnBinsBack", spec := "fnBinsBack", apart := false }
def FnBinsBackSaid : Prop := fnBinsBackRow.holds Try.pinned (OpenSpec.ofChange fnBinsBackSpec)

/-- ITS FALSE NEIGHBOUR: 'it returns false'. Refute it at one input. -/
def fnBinsBackWrong : ChangeSpec := { name := "fnBinsBack", fn := fun _ => fun
  | [d] => { results := [.lit (.bool false)], args := [d] }
  | _ => none }
def FnBinsBackWrongFalsely : Prop := fnBinsBackRow.holds Try.pinned (OpenSpec.ofChange fnBinsBackWrong)

/-- 'laws.FnNumsCoded': WHATEVER THE INPUT: true; the input reads as it did. -/
def fnNumsCodedSpec : ChangeSpec := { name := "fnNumsCoded", fn := fun _ => fun
  | [d] => { results := [.lit (.bool true)], args := [d] }
  | _ => none }
def fnNumsCodedRow : OpenClaim := { program := "ytdeheflbigggbaa", sum := "132ae566ed79da54a3e6551569dc1304aa97eace757e30b94e0e1c1c8d7cfbe4", func := "loop.example/g00139/laws.FnNumsCoded", spec := "fnNumsCoded", apart := false }
def FnNumsCodedSaid : Prop := fnNumsCodedRow.holds Try.pinned (OpenSpec.ofChange fnNumsCodedSpec)

/-- ITS FALSE NEIGHBOUR: 'it returns false'. Refute it at one input. -/
def fnNumsCodedWrong : ChangeSpec := { name := "fnNumsCoded", fn := fun _ => fun
  | [d] => { results := [.lit (.bool false)], args := [d] }
  | _ => none }
def FnNumsCodedWrongFalsely : Prop := fnNumsCodedRow.holds Try.pinned (OpenSpec.ofChange fnNumsCodedWrong)

/-- 'laws.FnExactCodeText': WHATEVER THE INPUT: true; the input reads as it did. -/
def fnExactCodeTextSpec : ChangeSpec := { name := "fnExactCodeText", fn := fun _ => fun
  | [d1, d2] => { results := [.lit (.bool true)], args := [d1, d2] }
  | _ => none }
def fnExactCodeTextRow : OpenClaim := { program := "ytdeheflbigggbaa", sum := "132ae566ed79da54a3e6551569dc1304aa97eace757e30b94e0e1c1c8d7cfbe4", func := "loop.example/g00139/laws.FnExactCodeText", spec := "fnExactCodeText", unfollowed := true, recurses := true, apart := false }
def FnExactCodeTextSaid : Prop := fnExactCodeTextRow.holds Try.pinned (OpenSpec.ofChange fnExactCodeTextSpec)

/-- ITS FALSE NEIGHBOUR: 'it returns false'. Refute it at one input. -/
def fnExactCodeTextWrong : ChangeSpec := { name := "fnExactCodeText", fn := fun _ => fun
  | [d1, d2] => { results := [.lit (.bool false)], args := [d1, d2] }
  | _ => none }
def FnExactCodeTextWrongFalsely : Prop := fnExactCodeTextRow.holds Try.pinned (OpenSpec.ofChange fnExactCodeTextWrong)

/-- 'laws.FnPrefix': WHATEVER THE INPUT: true; the input reads as it did. -/
def fnPrefixSpec : ChangeSpec := { name := "fnPrefix", fn := fun _ => fun
  | [d] => { results := [.lit (.bool true)], args := [d] }
  | _ => none }
def fnPrefixRow : OpenClaim := { program := "ytdeheflbigggbaa", sum := "132ae566ed79da54a3e6551569dc1304aa97eace757e30b94e0e1c1c8d7cfbe4", func := "loop.example/g00139/laws.FnPrefix", spec := "fnPrefix", apart := false }
def FnPrefixSaid : Prop := fnPrefixRow.holds Try.pinned (OpenSpec.ofChange fnPrefixSpec)

/-- ITS FALSE NEIGHBOUR: 'it returns false'. Refute it at one input. -/
def fnPrefixWrong : ChangeSpec := { name := "fnPrefix", fn := fun _ => fun
  | [d] => { results := [.lit (.bool false)], args := [d] }
  | _ => none }
def FnPrefixWrongFalsely : Prop := fnPrefixRow.holds Try.pinned (OpenSpec.ofChange fnPrefixWrong)

/-- 'laws.FnExactBestLens': WHATEVER THE INPUT: true; the input reads as it did. -/
def fnExactBestLensSpec : ChangeSpec := { name := "fnExactBestLens", fn := fun _ => fun
  | [d] => { results := [.lit (.bool true)], args := [d] }
  | _ => none }
def fnExactBestLensRow : OpenClaim := { program := "ytdeheflbigggbaa", sum := "132ae566ed79da54a3e6551569dc1304aa97eace757e30b94e0e1c1c8d7cfbe4", func := "loop.example/g00139/laws.FnExactBestLens", spec := "fnExactBestLens", unfollowed := true, recurses := true, apart := false }
def FnExactBestLensSaid : Prop := fnExactBestLensRow.holds Try.pinned (OpenSpec.ofChange fnExactBestLensSpec)

/-- ITS FALSE NEIGHBOUR: 'it returns false'. Refute it at one input. -/
def fnExactBestLensWrong : ChangeSpec := { name := "fnExactBestLens", fn := fun _ => fun
  | [d] => { results := [.lit (.bool false)], args := [d] }
  | _ => none }
def FnExactBestLensWrongFalsely : Prop := fnExactBestLensRow.holds Try.pinned (OpenSpec.ofChange fnExactBestLensWrong)

/-- 'laws.FnBest': WHATEVER THE INPUT: true; the input reads as it did. -/
def fnBestSpec : ChangeSpec := { name := "fnBest", fn := fun _ => fun
  | [d1, d2] => { results := [.lit (.bool true)], args := [d1, d2] }
  | _ => none }
def fnBestRow : OpenClaim := { program := "ytdeheflbigggbaa", sum := "132ae566ed79da54a3e6551569dc1304aa97eace757e30b94e0e1c1c8d7cfbe4", func := "loop.example/g00139/laws.FnBest", spec := "fnBest", unfollowed := true, recurses := true, apart := false }
def FnBestSaid : Prop := fnBestRow.holds Try.pinned (OpenSpec.ofChange fnBestSpec)

/-- ITS FALSE NEIGHBOUR: 'it returns false'. Refute it at one input. -/
def fnBestWrong : ChangeSpec := { name := "fnBest", fn := fun _ => fun
  | [d1, d2] => { results := [.lit (.bool false)], args := [d1, d2] }
  | _ => none }
def FnBestWrongFalsely : Prop := fnBestRow.holds Try.pinned (OpenSpec.ofChange fnBestWrong)

/- THE SECOND FORM. 'bulk': how many values and letters a reading holds, each counted each time it is reached (what is shared counts as often as it is met; a slice's spare places count too). A statement '..UptoSaid' is the law's where the arguments, and the package variables that the reading takes, are together of bulk at most 1048576: NARROWER than '..Said'. Prove '..Said' where nothing that the law and all that it calls make is longer than what came in: it says more and counts as full. Else prove '..UptoSaid'. A law counts once. -/
mutual
def uptoBulk {H : Type} : DataW H → Nat
  | .lit (.string bytes) => bytes.length + 1
  | .lit _ => 1
  | .nil => 1
  | .ptr d => uptoBulk d + 1
  | .slice elems spare => uptoBulkAll elems + uptoBulkAll spare + 1
  | .agg parts => uptoBulkAll parts + 1
  | .iface _ d => uptoBulk d + 1
  | .map entries => uptoBulkEntries entries + 1
  | .held _ => 1
def uptoBulkAll {H : Type} : List (DataW H) → Nat
  | [] => 0
  | d :: r => uptoBulk d + uptoBulkAll r
def uptoBulkEntries {H : Type} : List (Lit × DataW H) → Nat
  | [] => 0
  | x :: r => uptoBulkEntry x + uptoBulkEntries r
def uptoBulkEntry {H : Type} : Lit × DataW H → Nat
  | (.string bytes, d) => bytes.length + uptoBulk d + 1
  | (_, d) => uptoBulk d + 1
 end
def uptoSmall : (H : Type) → List (DataW H) → Bool := fun _ ds => decide (uptoBulkAll ds ≤ 1048576)
def OpenSpec.upto (s : _root_.Go.ChangeSpec) : _root_.Go.OpenSpec := { _root_.Go.OpenSpec.ofChange s with cond := some uptoSmall }

/-- 'laws.FnExactBinsOf', WHERE WHAT IT READS IS OF BULK AT MOST 1048576: true; the input reads as it did. -/
def fnExactBinsOfUptoRow : OpenClaim := { program := "ytdeheflbigggbaa", sum := "132ae566ed79da54a3e6551569dc1304aa97eace757e30b94e0e1c1c8d7cfbe4", func := "loop.example/g00139/laws.FnExactBinsOf", spec := "fnExactBinsOf", apart := false, narrowed := true }
def FnExactBinsOfUptoSaid : Prop := fnExactBinsOfUptoRow.holds Try.pinned (OpenSpec.upto fnExactBinsOfSpec)

/-- 'laws.FnCheap', WHERE WHAT IT READS IS OF BULK AT MOST 1048576: true; the input reads as it did. -/
def fnCheapUptoRow : OpenClaim := { program := "ytdeheflbigggbaa", sum := "132ae566ed79da54a3e6551569dc1304aa97eace757e30b94e0e1c1c8d7cfbe4", func := "loop.example/g00139/laws.FnCheap", spec := "fnCheap", apart := false, narrowed := true }
def FnCheapUptoSaid : Prop := fnCheapUptoRow.holds Try.pinned (OpenSpec.upto fnCheapSpec)

/-- 'laws.FnExactDecodeBins', WHERE WHAT IT READS IS OF BULK AT MOST 1048576: true; the input reads as it did. -/
def fnExactDecodeBinsUptoRow : OpenClaim := { program := "ytdeheflbigggbaa", sum := "132ae566ed79da54a3e6551569dc1304aa97eace757e30b94e0e1c1c8d7cfbe4", func := "loop.example/g00139/laws.FnExactDecodeBins", spec := "fnExactDecodeBins", apart := false, narrowed := true }
def FnExactDecodeBinsUptoSaid : Prop := fnExactDecodeBinsUptoRow.holds Try.pinned (OpenSpec.upto fnExactDecodeBinsSpec)

/-- 'laws.FnExactListBins', WHERE WHAT IT READS IS OF BULK AT MOST 1048576: true; the input reads as it did. -/
def fnExactListBinsUptoRow : OpenClaim := { program := "ytdeheflbigggbaa", sum := "132ae566ed79da54a3e6551569dc1304aa97eace757e30b94e0e1c1c8d7cfbe4", func := "loop.example/g00139/laws.FnExactListBins", spec := "fnExactListBins", apart := false, narrowed := true }
def FnExactListBinsUptoSaid : Prop := fnExactListBinsUptoRow.holds Try.pinned (OpenSpec.upto fnExactListBinsSpec)

/-- 'laws.FnExactReadNums', WHERE WHAT IT READS IS OF BULK AT MOST 1048576: true; the input reads as it did. -/
def fnExactReadNumsUptoRow : OpenClaim := { program := "ytdeheflbigggbaa", sum := "132ae566ed79da54a3e6551569dc1304aa97eace757e30b94e0e1c1c8d7cfbe4", func := "loop.example/g00139/laws.FnExactReadNums", spec := "fnExactReadNums", apart := false, narrowed := true }
def FnExactReadNumsUptoSaid : Prop := fnExactReadNumsUptoRow.holds Try.pinned (OpenSpec.upto fnExactReadNumsSpec)

/-- 'laws.FnExactEncodeBins', WHERE WHAT IT READS IS OF BULK AT MOST 1048576: true; the input reads as it did. -/
def fnExactEncodeBinsUptoRow : OpenClaim := { program := "ytdeheflbigggbaa", sum := "132ae566ed79da54a3e6551569dc1304aa97eace757e30b94e0e1c1c8d7cfbe4", func := "loop.example/g00139/laws.FnExactEncodeBins", spec := "fnExactEncodeBins", apart := false, narrowed := true }
def FnExactEncodeBinsUptoSaid : Prop := fnExactEncodeBinsUptoRow.holds Try.pinned (OpenSpec.upto fnExactEncodeBinsSpec)

/-- 'laws.FnBinsBack', WHERE WHAT IT READS IS OF BULK AT MOST 1048576: true; the input reads as it did. -/
def fnBinsBackUptoRow : OpenClaim := { program := "ytdeheflbigggbaa", sum := "132ae566ed79da54a3e6551569dc1304aa97eace757e30b94e0e1c1c8d7cfbe4", func := "loop.example/g00139/laws.FnBinsBack", spec := "fnBinsBack", apart := false, narrowed := true }
def FnBinsBackUptoSaid : Prop := fnBinsBackUptoRow.holds Try.pinned (OpenSpec.upto fnBinsBackSpec)

/-- 'laws.FnNumsCoded', WHERE WHAT IT READS IS OF BULK AT MOST 1048576: true; the input reads as it did. -/
def fnNumsCodedUptoRow : OpenClaim := { program := "ytdeheflbigggbaa", sum := "132ae566ed79da54a3e6551569dc1304aa97eace757e30b94e0e1c1c8d7cfbe4", func := "loop.example/g00139/laws.FnNumsCoded", spec := "fnNumsCoded", apart := false, narrowed := true }
def FnNumsCodedUptoSaid : Prop := fnNumsCodedUptoRow.holds Try.pinned (OpenSpec.upto fnNumsCodedSpec)

/-- 'laws.FnExactCodeText', WHERE WHAT IT READS IS OF BULK AT MOST 1048576: true; the input reads as it did. -/
def fnExactCodeTextUptoRow : OpenClaim := { program := "ytdeheflbigggbaa", sum := "132ae566ed79da54a3e6551569dc1304aa97eace757e30b94e0e1c1c8d7cfbe4", func := "loop.example/g00139/laws.FnExactCodeText", spec := "fnExactCodeText", unfollowed := true, recurses := true, apart := false, narrowed := true }
def FnExactCodeTextUptoSaid : Prop := fnExactCodeTextUptoRow.holds Try.pinned (OpenSpec.upto fnExactCodeTextSpec)

/-- 'laws.FnPrefix', WHERE WHAT IT READS IS OF BULK AT MOST 1048576: true; the input reads as it did. -/
def fnPrefixUptoRow : OpenClaim := { program := "ytdeheflbigggbaa", sum := "132ae566ed79da54a3e6551569dc1304aa97eace757e30b94e0e1c1c8d7cfbe4", func := "loop.example/g00139/laws.FnPrefix", spec := "fnPrefix", apart := false, narrowed := true }
def FnPrefixUptoSaid : Prop := fnPrefixUptoRow.holds Try.pinned (OpenSpec.upto fnPrefixSpec)

/-- 'laws.FnExactBestLens', WHERE WHAT IT READS IS OF BULK AT MOST 1048576: true; the input reads as it did. -/
def fnExactBestLensUptoRow : OpenClaim := { program := "ytdeheflbigggbaa", sum := "132ae566ed79da54a3e6551569dc1304aa97eace757e30b94e0e1c1c8d7cfbe4", func := "loop.example/g00139/laws.FnExactBestLens", spec := "fnExactBestLens", unfollowed := true, recurses := true, apart := false, narrowed := true }
def FnExactBestLensUptoSaid : Prop := fnExactBestLensUptoRow.holds Try.pinned (OpenSpec.upto fnExactBestLensSpec)

/-- 'laws.FnBest', WHERE WHAT IT READS IS OF BULK AT MOST 1048576: true; the input reads as it did. -/
def fnBestUptoRow : OpenClaim := { program := "ytdeheflbigggbaa", sum := "132ae566ed79da54a3e6551569dc1304aa97eace757e30b94e0e1c1c8d7cfbe4", func := "loop.example/g00139/laws.FnBest", spec := "fnBest", unfollowed := true, recurses := true, apart := false, narrowed := true }
def FnBestUptoSaid : Prop := fnBestUptoRow.holds Try.pinned (OpenSpec.upto fnBestSpec)

end Rows
end Go.Proofs.Ytdeheflbigggbaa
