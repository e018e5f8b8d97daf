/-
  No cell of these rows narrows 'for every input' (looked for: loops, veiled, ifaces, maps, wideKeys, modest, calm, conditions, laid).
  DERIVED. THE GIVEN ROWS OF THIS SEAT. 8 by the template 'for every input the law returns true; each argument reads behind the call as it read before'; 0 by the template 'total and deterministic' (their statements: YtimappilioaagaaTotals.lean).
  GIVEN WITH THE SEED: the statements are not yours to turn. If you find one false, say at which input.
  Laid BY PROGRAM, IN A SANDBOX (cutbox-rows.mjs): the forced cells as the released guide's own fill.sh prints them over the translation bf497f64782bb1f0… (all of the seat's roots in one cut). By AI agents, Wed Nov 11 2026. No macro, syntax, notation, axiom, sorry.
-/
import Derived.Test.YtimappilioaagaaChecked
import GoSem.Claim
import GoSem.ClaimJoined
import GoSem.ClaimMapViews
import Derived.JoinedTies
import Derived.KernelRfl
namespace Go.Proofs.Ytimappilioaagaa
/- THE CELL 'sum', in the pinned program and in every row, IS THE sha256 OF THE DUMP (.gsa) THAT YtimappilioaagaaProg.lean LOADS. Nothing in Lean hashes anything: it is a label: what it is worth is what the hold of that sum in a sandbox is worth. -/
noncomputable def Try.pinned : Pinned := { name := "ytimappilioaagaa", sum := "bf497f64782bb1f0793adeddf50478c0a0e56b4628dbdad8d2cf775773901be6", checked := Try.checked }
namespace Rows
def none {H : Type} : Left H := { results := [], args := [] }

/-- 'laws.FnExactFromYcc': WHATEVER THE INPUT: true; the input reads as it did. -/
def fnExactFromYccSpec : ChangeSpec := { name := "fnExactFromYcc", fn := fun _ => fun
  | [d1, d2] => { results := [.lit (.bool true)], args := [d1, d2] }
  | _ => none }
def fnExactFromYccRow : OpenClaim := { program := "ytimappilioaagaa", sum := "bf497f64782bb1f0793adeddf50478c0a0e56b4628dbdad8d2cf775773901be6", func := "loop.example/g00139/laws.FnExactFromYcc", spec := "fnExactFromYcc", apart := false }
def FnExactFromYccSaid : Prop := fnExactFromYccRow.holds Try.pinned (OpenSpec.ofChange fnExactFromYccSpec)

/-- ITS FALSE NEIGHBOUR: 'it returns false'. Refute it at one input. -/
def fnExactFromYccWrong : ChangeSpec := { name := "fnExactFromYcc", fn := fun _ => fun
  | [d1, d2] => { results := [.lit (.bool false)], args := [d1, d2] }
  | _ => none }
def FnExactFromYccWrongFalsely : Prop := fnExactFromYccRow.holds Try.pinned (OpenSpec.ofChange fnExactFromYccWrong)

/-- 'laws.FnExactToYcc': WHATEVER THE INPUT: true; the input reads as it did. -/
def fnExactToYccSpec : ChangeSpec := { name := "fnExactToYcc", fn := fun _ => fun
  | [d1, d2] => { results := [.lit (.bool true)], args := [d1, d2] }
  | _ => none }
def fnExactToYccRow : OpenClaim := { program := "ytimappilioaagaa", sum := "bf497f64782bb1f0793adeddf50478c0a0e56b4628dbdad8d2cf775773901be6", func := "loop.example/g00139/laws.FnExactToYcc", spec := "fnExactToYcc", apart := false }
def FnExactToYccSaid : Prop := fnExactToYccRow.holds Try.pinned (OpenSpec.ofChange fnExactToYccSpec)

/-- ITS FALSE NEIGHBOUR: 'it returns false'. Refute it at one input. -/
def fnExactToYccWrong : ChangeSpec := { name := "fnExactToYcc", fn := fun _ => fun
  | [d1, d2] => { results := [.lit (.bool false)], args := [d1, d2] }
  | _ => none }
def FnExactToYccWrongFalsely : Prop := fnExactToYccRow.holds Try.pinned (OpenSpec.ofChange fnExactToYccWrong)

/-- 'laws.FnColourBack': WHATEVER THE INPUT: true; the input reads as it did. -/
def fnColourBackSpec : ChangeSpec := { name := "fnColourBack", fn := fun _ => fun
  | [d] => { results := [.lit (.bool true)], args := [d] }
  | _ => none }
def fnColourBackRow : OpenClaim := { program := "ytimappilioaagaa", sum := "bf497f64782bb1f0793adeddf50478c0a0e56b4628dbdad8d2cf775773901be6", func := "loop.example/g00139/laws.FnColourBack", spec := "fnColourBack", apart := false }
def FnColourBackSaid : Prop := fnColourBackRow.holds Try.pinned (OpenSpec.ofChange fnColourBackSpec)

/-- ITS FALSE NEIGHBOUR: 'it returns false'. Refute it at one input. -/
def fnColourBackWrong : ChangeSpec := { name := "fnColourBack", fn := fun _ => fun
  | [d] => { results := [.lit (.bool false)], args := [d] }
  | _ => none }
def FnColourBackWrongFalsely : Prop := fnColourBackRow.holds Try.pinned (OpenSpec.ofChange fnColourBackWrong)

/-- 'laws.FnExactPictureOk': WHATEVER THE INPUT: true; the input reads as it did. -/
def fnExactPictureOkSpec : ChangeSpec := { name := "fnExactPictureOk", fn := fun _ => fun
  | [d] => { results := [.lit (.bool true)], args := [d] }
  | _ => none }
def fnExactPictureOkRow : OpenClaim := { program := "ytimappilioaagaa", sum := "bf497f64782bb1f0793adeddf50478c0a0e56b4628dbdad8d2cf775773901be6", func := "loop.example/g00139/laws.FnExactPictureOk", spec := "fnExactPictureOk", apart := false }
def FnExactPictureOkSaid : Prop := fnExactPictureOkRow.holds Try.pinned (OpenSpec.ofChange fnExactPictureOkSpec)

/-- ITS FALSE NEIGHBOUR: 'it returns false'. Refute it at one input. -/
def fnExactPictureOkWrong : ChangeSpec := { name := "fnExactPictureOk", fn := fun _ => fun
  | [d] => { results := [.lit (.bool false)], args := [d] }
  | _ => none }
def FnExactPictureOkWrongFalsely : Prop := fnExactPictureOkRow.holds Try.pinned (OpenSpec.ofChange fnExactPictureOkWrong)

/-- 'laws.FnExactFrameFor': WHATEVER THE INPUT: true; the input reads as it did. -/
def fnExactFrameForSpec : ChangeSpec := { name := "fnExactFrameFor", fn := fun _ => fun
  | [d1, d2] => { results := [.lit (.bool true)], args := [d1, d2] }
  | _ => none }
def fnExactFrameForRow : OpenClaim := { program := "ytimappilioaagaa", sum := "bf497f64782bb1f0793adeddf50478c0a0e56b4628dbdad8d2cf775773901be6", func := "loop.example/g00139/laws.FnExactFrameFor", spec := "fnExactFrameFor", apart := false }
def FnExactFrameForSaid : Prop := fnExactFrameForRow.holds Try.pinned (OpenSpec.ofChange fnExactFrameForSpec)

/-- ITS FALSE NEIGHBOUR: 'it returns false'. Refute it at one input. -/
def fnExactFrameForWrong : ChangeSpec := { name := "fnExactFrameFor", fn := fun _ => fun
  | [d1, d2] => { results := [.lit (.bool false)], args := [d1, d2] }
  | _ => none }
def FnExactFrameForWrongFalsely : Prop := fnExactFrameForRow.holds Try.pinned (OpenSpec.ofChange fnExactFrameForWrong)

/-- 'laws.FnLimits': WHATEVER THE INPUT: true; the input reads as it did. -/
def fnLimitsSpec : ChangeSpec := { name := "fnLimits", fn := fun _ => fun
  | [d] => { results := [.lit (.bool true)], args := [d] }
  | _ => none }
def fnLimitsRow : OpenClaim := { program := "ytimappilioaagaa", sum := "bf497f64782bb1f0793adeddf50478c0a0e56b4628dbdad8d2cf775773901be6", func := "loop.example/g00139/laws.FnLimits", spec := "fnLimits", unfollowed := true, recurses := true, apart := false }
def FnLimitsSaid : Prop := fnLimitsRow.holds Try.pinned (OpenSpec.ofChange fnLimitsSpec)

/-- ITS FALSE NEIGHBOUR: 'it returns false'. Refute it at one input. -/
def fnLimitsWrong : ChangeSpec := { name := "fnLimits", fn := fun _ => fun
  | [d] => { results := [.lit (.bool false)], args := [d] }
  | _ => none }
def FnLimitsWrongFalsely : Prop := fnLimitsRow.holds Try.pinned (OpenSpec.ofChange fnLimitsWrong)

/-- 'laws.FnExactReadSegs': WHATEVER THE INPUT: true; the input reads as it did. -/
def fnExactReadSegsSpec : ChangeSpec := { name := "fnExactReadSegs", fn := fun _ => fun
  | [d] => { results := [.lit (.bool true)], args := [d] }
  | _ => none }
def fnExactReadSegsRow : OpenClaim := { program := "ytimappilioaagaa", sum := "bf497f64782bb1f0793adeddf50478c0a0e56b4628dbdad8d2cf775773901be6", func := "loop.example/g00139/laws.FnExactReadSegs", spec := "fnExactReadSegs", apart := false }
def FnExactReadSegsSaid : Prop := fnExactReadSegsRow.holds Try.pinned (OpenSpec.ofChange fnExactReadSegsSpec)

/-- ITS FALSE NEIGHBOUR: 'it returns false'. Refute it at one input. -/
def fnExactReadSegsWrong : ChangeSpec := { name := "fnExactReadSegs", fn := fun _ => fun
  | [d] => { results := [.lit (.bool false)], args := [d] }
  | _ => none }
def FnExactReadSegsWrongFalsely : Prop := fnExactReadSegsRow.holds Try.pinned (OpenSpec.ofChange fnExactReadSegsWrong)

/-- 'laws.FnSegsBack': WHATEVER THE INPUT: true; the input reads as it did. -/
def fnSegsBackSpec : ChangeSpec := { name := "fnSegsBack", fn := fun _ => fun
  | [d1, d2] => { results := [.lit (.bool true)], args := [d1, d2] }
  | _ => none }
def fnSegsBackRow : OpenClaim := { program := "ytimappilioaagaa", sum := "bf497f64782bb1f0793adeddf50478c0a0e56b4628dbdad8d2cf775773901be6", func := "loop.example/g00139/laws.FnSegsBack", spec := "fnSegsBack", apart := false }
def FnSegsBackSaid : Prop := fnSegsBackRow.holds Try.pinned (OpenSpec.ofChange fnSegsBackSpec)

/-- ITS FALSE NEIGHBOUR: 'it returns false'. Refute it at one input. -/
def fnSegsBackWrong : ChangeSpec := { name := "fnSegsBack", fn := fun _ => fun
  | [d1, d2] => { results := [.lit (.bool false)], args := [d1, d2] }
  | _ => none }
def FnSegsBackWrongFalsely : Prop := fnSegsBackRow.holds Try.pinned (OpenSpec.ofChange fnSegsBackWrong)

/- THE SECOND FORM. 'bulk': how many values and letters a reading holds, each counted each time it is reached (what is shared counts as often as it is met; a slice's spare places count too). A statement '..UptoSaid' is the law's where the arguments, and the package variables that the reading takes, are together of bulk at most 1048576: NARROWER than '..Said'. Prove '..Said' where nothing that the law and all that it calls make is longer than what came in: it says more and counts as full. Else prove '..UptoSaid'. A law counts once. -/
mutual
def uptoBulk {H : Type} : DataW H → Nat
  | .lit (.string bytes) => bytes.length + 1
  | .lit _ => 1
  | .nil => 1
  | .ptr d => uptoBulk d + 1
  | .slice elems spare => uptoBulkAll elems + uptoBulkAll spare + 1
  | .agg parts => uptoBulkAll parts + 1
  | .iface _ d => uptoBulk d + 1
  | .map entries => uptoBulkEntries entries + 1
  | .held _ => 1
def uptoBulkAll {H : Type} : List (DataW H) → Nat
  | [] => 0
  | d :: r => uptoBulk d + uptoBulkAll r
def uptoBulkEntries {H : Type} : List (Lit × DataW H) → Nat
  | [] => 0
  | x :: r => uptoBulkEntry x + uptoBulkEntries r
def uptoBulkEntry {H : Type} : Lit × DataW H → Nat
  | (.string bytes, d) => bytes.length + uptoBulk d + 1
  | (_, d) => uptoBulk d + 1
 end
def uptoSmall : (H : Type) → List (DataW H) → Bool := fun _ ds => decide (uptoBulkAll ds ≤ 1048576)
def OpenSpec.upto (s : _root_.Go.ChangeSpec) : _root_.Go.OpenSpec := { _root_.Go.OpenSpec.ofChange s with cond := some uptoSmall }

/-- 'laws.FnExactFromYcc', WHERE WHAT IT READS IS OF BULK AT MOST 1048576: true; the input reads as it did. -/
def fnExactFromYccUptoRow : OpenClaim := { program := "ytimappilioaagaa", sum := "bf497f64782bb1f0793adeddf50478c0a0e56b4628dbdad8d2cf775773901be6", func := "loop.example/g00139/laws.FnExactFromYcc", spec := "fnExactFromYcc", apart := false, narrowed := true }
def FnExactFromYccUptoSaid : Prop := fnExactFromYccUptoRow.holds Try.pinned (OpenSpec.upto fnExactFromYccSpec)

/-- 'laws.FnExactToYcc', WHERE WHAT IT READS IS OF BULK AT MOST 1048576: true; the input reads as it did. -/
def fnExactToYccUptoRow : OpenClaim := { program := "ytimappilioaagaa", sum := "bf497f64782bb1f0793adeddf50478c0a0e56b4628dbdad8d2cf775773901be6", func := "loop.example/g00139/laws.FnExactToYcc", spec := "fnExactToYcc", apart := false, narrowed := true }
def FnExactToYccUptoSaid : Prop := fnExactToYccUptoRow.holds Try.pinned (OpenSpec.upto fnExactToYccSpec)

/-- 'laws.FnColourBack', WHERE WHAT IT READS IS OF BULK AT MOST 1048576: true; the input reads as it did. -/
def fnColourBackUptoRow : OpenClaim := { program := "ytimappilioaagaa", sum := "bf497f64782bb1f0793adeddf50478c0a0e56b4628dbdad8d2cf775773901be6", func := "loop.example/g00139/laws.FnColourBack", spec := "fnColourBack", apart := false, narrowed := true }
def FnColourBackUptoSaid : Prop := fnColourBackUptoRow.holds Try.pinned (OpenSpec.upto fnColourBackSpec)

/-- 'laws.FnExactPictureOk', WHERE WHAT IT READS IS OF BULK AT MOST 1048576: true; the input reads as it did. -/
def fnExactPictureOkUptoRow : OpenClaim := { program := "ytimappilioaagaa", sum := "bf497f64782bb1f0793adeddf50478c0a0e56b4628dbdad8d2cf775773901be6", func := "loop.example/g00139/laws.FnExactPictureOk", spec := "fnExactPictureOk", apart := false, narrowed := true }
def FnExactPictureOkUptoSaid : Prop := fnExactPictureOkUptoRow.holds Try.pinned (OpenSpec.upto fnExactPictureOkSpec)

/-- 'laws.FnExactFrameFor', WHERE WHAT IT READS IS OF BULK AT MOST 1048576: true; the input reads as it did. -/
def fnExactFrameForUptoRow : OpenClaim := { program := "ytimappilioaagaa", sum := "bf497f64782bb1f0793adeddf50478c0a0e56b4628dbdad8d2cf775773901be6", func := "loop.example/g00139/laws.FnExactFrameFor", spec := "fnExactFrameFor", apart := false, narrowed := true }
def FnExactFrameForUptoSaid : Prop := fnExactFrameForUptoRow.holds Try.pinned (OpenSpec.upto fnExactFrameForSpec)

/-- 'laws.FnLimits', WHERE WHAT IT READS IS OF BULK AT MOST 1048576: true; the input reads as it did. -/
def fnLimitsUptoRow : OpenClaim := { program := "ytimappilioaagaa", sum := "bf497f64782bb1f0793adeddf50478c0a0e56b4628dbdad8d2cf775773901be6", func := "loop.example/g00139/laws.FnLimits", spec := "fnLimits", unfollowed := true, recurses := true, apart := false, narrowed := true }
def FnLimitsUptoSaid : Prop := fnLimitsUptoRow.holds Try.pinned (OpenSpec.upto fnLimitsSpec)

/-- 'laws.FnExactReadSegs', WHERE WHAT IT READS IS OF BULK AT MOST 1048576: true; the input reads as it did. -/
def fnExactReadSegsUptoRow : OpenClaim := { program := "ytimappilioaagaa", sum := "bf497f64782bb1f0793adeddf50478c0a0e56b4628dbdad8d2cf775773901be6", func := "loop.example/g00139/laws.FnExactReadSegs", spec := "fnExactReadSegs", apart := false, narrowed := true }
def FnExactReadSegsUptoSaid : Prop := fnExactReadSegsUptoRow.holds Try.pinned (OpenSpec.upto fnExactReadSegsSpec)

/-- 'laws.FnSegsBack', WHERE WHAT IT READS IS OF BULK AT MOST 1048576: true; the input reads as it did. -/
def fnSegsBackUptoRow : OpenClaim := { program := "ytimappilioaagaa", sum := "bf497f64782bb1f0793adeddf50478c0a0e56b4628dbdad8d2cf775773901be6", func := "loop.example/g00139/laws.FnSegsBack", spec := "fnSegsBack", apart := false, narrowed := true }
def FnSegsBackUptoSaid : Prop := fnSegsBackUptoRow.holds Try.pinned (OpenSpec.upto fnSegsBackSpec)

end Rows
end Go.Proofs.Ytimappilioaagaa
