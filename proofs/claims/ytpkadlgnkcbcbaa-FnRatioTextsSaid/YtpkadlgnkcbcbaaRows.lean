/-
  No cell of these rows narrows 'for every input' (looked for: loops, veiled, ifaces, maps, wideKeys, modest, calm, conditions, laid).
  DERIVED. THE GIVEN ROWS OF THIS SEAT. 12 by the template 'for every input the law returns true; each argument reads behind the call as it read before'; 0 by the template 'total and deterministic' (their statements: YtpkadlgnkcbcbaaTotals.lean).
  GIVEN WITH THE SEED: the statements are not yours to turn. If you find one false, say at which input.
  Laid BY PROGRAM, IN A SANDBOX (cutbox-rows.mjs): the forced cells as the released guide's own fill.sh prints them over the translation bca296fa25862951… (all of the seat's roots in one cut). By AI agents, Wed Nov 11 2026. No macro, syntax, notation, axiom, sorry.
-/
import Derived.Test.YtpkadlgnkcbcbaaChecked
import GoSem.Claim
import GoSem.ClaimJoined
import GoSem.ClaimMapViews
import Derived.JoinedTies
import Derived.KernelRfl
namespace Go.Proofs.Ytpkadlgnkcbcbaa
/- THE CELL 'sum', in the pinned program and in every row, IS THE sha256 OF THE DUMP (.gsa) THAT YtpkadlgnkcbcbaaProg.lean LOADS. Nothing in Lean hashes anything: it is a label: what it is worth is what the hold of that sum in a sandbox is worth. -/
noncomputable def Try.pinned : Pinned := { name := "ytpkadlgnkcbcbaa", sum := "bca296fa25862951ecc878e663c022e8d9ea2e4cbbd5167a10b440c1980dc49f", checked := Try.checked }
namespace Rows
def none {H : Type} : Left H := { results := [], args := [] }

/-- 'laws.FnExactIsRatio': WHATEVER THE INPUT: true; the input reads as it did. -/
def fnExactIsRatioSpec : ChangeSpec := { name := "fnExactIsRatio", fn := fun _ => fun
  | [d] => { results := [.lit (.bool true)], args := [d] }
  | _ => none }
def fnExactIsRatioRow : OpenClaim := { program := "ytpkadlgnkcbcbaa", sum := "bca296fa25862951ecc878e663c022e8d9ea2e4cbbd5167a10b440c1980dc49f", func := "loop.example/g01049/laws.FnExactIsRatio", spec := "fnExactIsRatio", apart := false }
def FnExactIsRatioSaid : Prop := fnExactIsRatioRow.holds Try.pinned (OpenSpec.ofChange fnExactIsRatioSpec)

/-- ITS FALSE NEIGHBOUR: 'it returns false'. Refute it at one input. -/
def fnExactIsRatioWrong : ChangeSpec := { name := "fnExactIsRatio", fn := fun _ => fun
  | [d] => { results := [.lit (.bool false)], args := [d] }
  | _ => none }
def FnExactIsRatioWrongFalsely : Prop := fnExactIsRatioRow.holds Try.pinned (OpenSpec.ofChange fnExactIsRatioWrong)

/-- 'laws.FnExactCompareRatios': WHATEVER THE INPUT: true; the input reads as it did. -/
def fnExactCompareRatiosSpec : ChangeSpec := { name := "fnExactCompareRatios", fn := fun _ => fun
  | [d1, d2] => { results := [.lit (.bool true)], args := [d1, d2] }
  | _ => none }
def fnExactCompareRatiosRow : OpenClaim := { program := "ytpkadlgnkcbcbaa", sum := "bca296fa25862951ecc878e663c022e8d9ea2e4cbbd5167a10b440c1980dc49f", func := "loop.example/g01049/laws.FnExactCompareRatios", spec := "fnExactCompareRatios", apart := false }
def FnExactCompareRatiosSaid : Prop := fnExactCompareRatiosRow.holds Try.pinned (OpenSpec.ofChange fnExactCompareRatiosSpec)

/-- ITS FALSE NEIGHBOUR: 'it returns false'. Refute it at one input. -/
def fnExactCompareRatiosWrong : ChangeSpec := { name := "fnExactCompareRatios", fn := fun _ => fun
  | [d1, d2] => { results := [.lit (.bool false)], args := [d1, d2] }
  | _ => none }
def FnExactCompareRatiosWrongFalsely : Prop := fnExactCompareRatiosRow.holds Try.pinned (OpenSpec.ofChange fnExactCompareRatiosWrong)

/-- 'laws.FnExactFloorRatio': WHATEVER THE INPUT: true; the input reads as it did. -/
def fnExactFloorRatioSpec : ChangeSpec := { name := "fnExactFloorRatio", fn := fun _ => fun
  | [d1, d2] => { results := [.lit (.bool true)], args := [d1, d2] }
  | _ => none }
def fnExactFloorRatioRow : OpenClaim := { program := "ytpkadlgnkcbcbaa", sum := "bca296fa25862951ecc878e663c022e8d9ea2e4cbbd5167a10b440c1980dc49f", func := "loop.example/g01049/laws.FnExactFloorRatio", spec := "fnExactFloorRatio", apart := false }
def FnExactFloorRatioSaid : Prop := fnExactFloorRatioRow.holds Try.pinned (OpenSpec.ofChange fnExactFloorRatioSpec)

/-- ITS FALSE NEIGHBOUR: 'it returns false'. Refute it at one input. -/
def fnExactFloorRatioWrong : ChangeSpec := { name := "fnExactFloorRatio", fn := fun _ => fun
  | [d1, d2] => { results := [.lit (.bool false)], args := [d1, d2] }
  | _ => none }
def FnExactFloorRatioWrongFalsely : Prop := fnExactFloorRatioRow.holds Try.pinned (OpenSpec.ofChange fnExactFloorRatioWrong)

/-- 'laws.FnExactRatioText': WHATEVER THE INPUT: true; the input reads as it did. -/
def fnExactRatioTextSpec : ChangeSpec := { name := "fnExactRatioText", fn := fun _ => fun
  | [d] => { results := [.lit (.bool true)], args := [d] }
  | _ => none }
def fnExactRatioTextRow : OpenClaim := { program := "ytpkadlgnkcbcbaa", sum := "bca296fa25862951ecc878e663c022e8d9ea2e4cbbd5167a10b440c1980dc49f", func := "loop.example/g01049/laws.FnExactRatioText", spec := "fnExactRatioText", recurses := true, apart := false }
def FnExactRatioTextSaid : Prop := fnExactRatioTextRow.holds Try.pinned (OpenSpec.ofChange fnExactRatioTextSpec)

/-- ITS FALSE NEIGHBOUR: 'it returns false'. Refute it at one input. -/
def fnExactRatioTextWrong : ChangeSpec := { name := "fnExactRatioText", fn := fun _ => fun
  | [d] => { results := [.lit (.bool false)], args := [d] }
  | _ => none }
def FnExactRatioTextWrongFalsely : Prop := fnExactRatioTextRow.holds Try.pinned (OpenSpec.ofChange fnExactRatioTextWrong)

/-- 'laws.FnExactAddRatios': WHATEVER THE INPUT: true; the input reads as it did. -/
def fnExactAddRatiosSpec : ChangeSpec := { name := "fnExactAddRatios", fn := fun _ => fun
  | [d1, d2] => { results := [.lit (.bool true)], args := [d1, d2] }
  | _ => none }
def fnExactAddRatiosRow : OpenClaim := { program := "ytpkadlgnkcbcbaa", sum := "bca296fa25862951ecc878e663c022e8d9ea2e4cbbd5167a10b440c1980dc49f", func := "loop.example/g01049/laws.FnExactAddRatios", spec := "fnExactAddRatios", apart := false }
def FnExactAddRatiosSaid : Prop := fnExactAddRatiosRow.holds Try.pinned (OpenSpec.ofChange fnExactAddRatiosSpec)

/-- ITS FALSE NEIGHBOUR: 'it returns false'. Refute it at one input. -/
def fnExactAddRatiosWrong : ChangeSpec := { name := "fnExactAddRatios", fn := fun _ => fun
  | [d1, d2] => { results := [.lit (.bool false)], args := [d1, d2] }
  | _ => none }
def FnExactAddRatiosWrongFalsely : Prop := fnExactAddRatiosRow.holds Try.pinned (OpenSpec.ofChange fnExactAddRatiosWrong)

/-- 'laws.FnExactMultiplyRatios': WHATEVER THE INPUT: true; the input reads as it did. -/
def fnExactMultiplyRatiosSpec : ChangeSpec := { name := "fnExactMultiplyRatios", fn := fun _ => fun
  | [d1, d2] => { results := [.lit (.bool true)], args := [d1, d2] }
  | _ => none }
def fnExactMultiplyRatiosRow : OpenClaim := { program := "ytpkadlgnkcbcbaa", sum := "bca296fa25862951ecc878e663c022e8d9ea2e4cbbd5167a10b440c1980dc49f", func := "loop.example/g01049/laws.FnExactMultiplyRatios", spec := "fnExactMultiplyRatios", apart := false }
def FnExactMultiplyRatiosSaid : Prop := fnExactMultiplyRatiosRow.holds Try.pinned (OpenSpec.ofChange fnExactMultiplyRatiosSpec)

/-- ITS FALSE NEIGHBOUR: 'it returns false'. Refute it at one input. -/
def fnExactMultiplyRatiosWrong : ChangeSpec := { name := "fnExactMultiplyRatios", fn := fun _ => fun
  | [d1, d2] => { results := [.lit (.bool false)], args := [d1, d2] }
  | _ => none }
def FnExactMultiplyRatiosWrongFalsely : Prop := fnExactMultiplyRatiosRow.holds Try.pinned (OpenSpec.ofChange fnExactMultiplyRatiosWrong)

/-- 'laws.FnExactMakeRatio': WHATEVER THE INPUT: true; the input reads as it did. -/
def fnExactMakeRatioSpec : ChangeSpec := { name := "fnExactMakeRatio", fn := fun _ => fun
  | [d1, d2] => { results := [.lit (.bool true)], args := [d1, d2] }
  | _ => none }
def fnExactMakeRatioRow : OpenClaim := { program := "ytpkadlgnkcbcbaa", sum := "bca296fa25862951ecc878e663c022e8d9ea2e4cbbd5167a10b440c1980dc49f", func := "loop.example/g01049/laws.FnExactMakeRatio", spec := "fnExactMakeRatio", apart := false }
def FnExactMakeRatioSaid : Prop := fnExactMakeRatioRow.holds Try.pinned (OpenSpec.ofChange fnExactMakeRatioSpec)

/-- ITS FALSE NEIGHBOUR: 'it returns false'. Refute it at one input. -/
def fnExactMakeRatioWrong : ChangeSpec := { name := "fnExactMakeRatio", fn := fun _ => fun
  | [d1, d2] => { results := [.lit (.bool false)], args := [d1, d2] }
  | _ => none }
def FnExactMakeRatioWrongFalsely : Prop := fnExactMakeRatioRow.holds Try.pinned (OpenSpec.ofChange fnExactMakeRatioWrong)

/-- 'laws.FnExactBetweenRatios': WHATEVER THE INPUT: true; the input reads as it did. -/
def fnExactBetweenRatiosSpec : ChangeSpec := { name := "fnExactBetweenRatios", fn := fun _ => fun
  | [d1, d2] => { results := [.lit (.bool true)], args := [d1, d2] }
  | _ => none }
def fnExactBetweenRatiosRow : OpenClaim := { program := "ytpkadlgnkcbcbaa", sum := "bca296fa25862951ecc878e663c022e8d9ea2e4cbbd5167a10b440c1980dc49f", func := "loop.example/g01049/laws.FnExactBetweenRatios", spec := "fnExactBetweenRatios", apart := false }
def FnExactBetweenRatiosSaid : Prop := fnExactBetweenRatiosRow.holds Try.pinned (OpenSpec.ofChange fnExactBetweenRatiosSpec)

/-- ITS FALSE NEIGHBOUR: 'it returns false'. Refute it at one input. -/
def fnExactBetweenRatiosWrong : ChangeSpec := { name := "fnExactBetweenRatios", fn := fun _ => fun
  | [d1, d2] => { results := [.lit (.bool false)], args := [d1, d2] }
  | _ => none }
def FnExactBetweenRatiosWrongFalsely : Prop := fnExactBetweenRatiosRow.holds Try.pinned (OpenSpec.ofChange fnExactBetweenRatiosWrong)

/-- 'laws.FnExactReadRatio': WHATEVER THE INPUT: true; the input reads as it did. -/
def fnExactReadRatioSpec : ChangeSpec := { name := "fnExactReadRatio", fn := fun _ => fun
  | [d] => { results := [.lit (.bool true)], args := [d] }
  | _ => none }
def fnExactReadRatioRow : OpenClaim := { program := "ytpkadlgnkcbcbaa", sum := "bca296fa25862951ecc878e663c022e8d9ea2e4cbbd5167a10b440c1980dc49f", func := "loop.example/g01049/laws.FnExactReadRatio", spec := "fnExactReadRatio", recurses := true, apart := false }
def FnExactReadRatioSaid : Prop := fnExactReadRatioRow.holds Try.pinned (OpenSpec.ofChange fnExactReadRatioSpec)

/-- ITS FALSE NEIGHBOUR: 'it returns false'. Refute it at one input. -/
def fnExactReadRatioWrong : ChangeSpec := { name := "fnExactReadRatio", fn := fun _ => fun
  | [d] => { results := [.lit (.bool false)], args := [d] }
  | _ => none }
def FnExactReadRatioWrongFalsely : Prop := fnExactReadRatioRow.holds Try.pinned (OpenSpec.ofChange fnExactReadRatioWrong)

/-- 'laws.FnFractions': WHATEVER THE INPUT: true; the input reads as it did. -/
def fnFractionsSpec : ChangeSpec := { name := "fnFractions", fn := fun _ => fun
  | [d] => { results := [.lit (.bool true)], args := [d] }
  | _ => none }
def fnFractionsRow : OpenClaim := { program := "ytpkadlgnkcbcbaa", sum := "bca296fa25862951ecc878e663c022e8d9ea2e4cbbd5167a10b440c1980dc49f", func := "loop.example/g01049/laws.FnFractions", spec := "fnFractions", apart := false }
def FnFractionsSaid : Prop := fnFractionsRow.holds Try.pinned (OpenSpec.ofChange fnFractionsSpec)

/-- ITS FALSE NEIGHBOUR: 'it returns false'. Refute it at one input. -/
def fnFractionsWrong : ChangeSpec := { name := "fnFractions", fn := fun _ => fun
  | [d] => { results := [.lit (.bool false)], args := [d] }
  | _ => none }
def FnFractionsWrongFalsely : Prop := fnFractionsRow.holds Try.pinned (OpenSpec.ofChange fnFractionsWrong)

/-- 'laws.FnBetween': WHATEVER THE INPUT: true; the input reads as it did. -/
def fnBetweenSpec : ChangeSpec := { name := "fnBetween", fn := fun _ => fun
  | [d] => { results := [.lit (.bool true)], args := [d] }
  | _ => none }
def fnBetweenRow : OpenClaim := { program := "ytpkadlgnkcbcbaa", sum := "bca296fa25862951ecc878e663c022e8d9ea2e4cbbd5167a10b440c1980dc49f", func := "loop.example/g01049/laws.FnBetween", spec := "fnBetween", apart := false }
def FnBetweenSaid : Prop := fnBetweenRow.holds Try.pinned (OpenSpec.ofChange fnBetweenSpec)

/-- ITS FALSE NEIGHBOUR: 'it returns false'. Refute it at one input. -/
def fnBetweenWrong : ChangeSpec := { name := "fnBetween", fn := fun _ => fun
  | [d] => { results := [.lit (.bool false)], args := [d] }
  | _ => none }
def FnBetweenWrongFalsely : Prop := fnBetweenRow.holds Try.pinned (OpenSpec.ofChange fnBetweenWrong)

/-- 'laws.FnRatioTexts': WHATEVER THE INPUT: true; the input reads as it did. -/
def fnRatioTextsSpec : ChangeSpec := { name := "fnRatioTexts", fn := fun _ => fun
  | [d] => { results := [.lit (.bool true)], args := [d] }
  | _ => none }
def fnRatioTextsRow : OpenClaim := { program := "ytpkadlgnkcbcbaa", sum := "bca296fa25862951ecc878e663c022e8d9ea2e4cbbd5167a10b440c1980dc49f", func := "loop.example/g01049/laws.FnRatioTexts", spec := "fnRatioTexts", recurses := true, apart := false }
def FnRatioTextsSaid : Prop := fnRatioTextsRow.holds Try.pinned (OpenSpec.ofChange fnRatioTextsSpec)

/-- ITS FALSE NEIGHBOUR: 'it returns false'. Refute it at one input. -/
def fnRatioTextsWrong : ChangeSpec := { name := "fnRatioTexts", fn := fun _ => fun
  | [d] => { results := [.lit (.bool false)], args := [d] }
  | _ => none }
def FnRatioTextsWrongFalsely : Prop := fnRatioTextsRow.holds Try.pinned (OpenSpec.ofChange fnRatioTextsWrong)

/- THE SECOND FORM. 'bulk': how many values and letters a reading holds, each counted each time it is reached (what is shared counts as often as it is met; a slice's spare places count too). A statement '..UptoSaid' is the law's where the arguments, and the package variables that the reading takes, are together of bulk at most 1048576: NARROWER than '..Said'. Prove '..Said' where nothing that the law and all that it calls make is longer than what came in: it says more and counts as full. Else prove '..UptoSaid'. A law counts once. -/
mutual
def uptoBulk {H : Type} : DataW H → Nat
  | .lit (.string bytes) => bytes.length + 1
  | .lit _ => 1
  | .nil => 1
  | .ptr d => uptoBulk d + 1
  | .slice elems spare => uptoBulkAll elems + uptoBulkAll spare + 1
  | .agg parts => uptoBulkAll parts + 1
  | .iface _ d => uptoBulk d + 1
  | .map entries => uptoBulkEntries entries + 1
  | .held _ => 1
def uptoBulkAll {H : Type} : List (DataW H) → Nat
  | [] => 0
  | d :: r => uptoBulk d + uptoBulkAll r
def uptoBulkEntries {H : Type} : List (Lit × DataW H) → Nat
  | [] => 0
  | x :: r => uptoBulkEntry x + uptoBulkEntries r
def uptoBulkEntry {H : Type} : Lit × DataW H → Nat
  | (.string bytes, d) => bytes.length + uptoBulk d + 1
  | (_, d) => uptoBulk d + 1
 end
def uptoSmall : (H : Type) → List (DataW H) → Bool := fun _ ds => decide (uptoBulkAll ds ≤ 1048576)
def OpenSpec.upto (s : _root_.Go.ChangeSpec) : _root_.Go.OpenSpec := { _root_.Go.OpenSpec.ofChange s with cond := some uptoSmall }

/-- 'laws.FnExactIsRatio', WHERE WHAT IT READS IS OF BULK AT MOST 1048576: true; the input reads as it did. -/
def fnExactIsRatioUptoRow : OpenClaim := { program := "ytpkadlgnkcbcbaa", sum := "bca296fa25862951ecc878e663c022e8d9ea2e4cbbd5167a10b440c1980dc49f", func := "loop.example/g01049/laws.FnExactIsRatio", spec := "fnExactIsRatio", apart := false, narrowed := true }
def FnExactIsRatioUptoSaid : Prop := fnExactIsRatioUptoRow.holds Try.pinned (OpenSpec.upto fnExactIsRatioSpec)

/-- 'laws.FnExactCompareRatios', WHERE WHAT IT READS IS OF BULK AT MOST 1048576: true; the input reads as it did. -/
def fnExactCompareRatiosUptoRow : OpenClaim := { program := "ytpkadlgnkcbcbaa", sum := "bca296fa25862951ecc878e663c022e8d9ea2e4cbbd5167a10b440c1980dc49f", func := "loop.example/g01049/laws.FnExactCompareRatios", spec := "fnExactCompareRatios", apart := false, narrowed := true }
def FnExactCompareRatiosUptoSaid : Prop := fnExactCompareRatiosUptoRow.holds Try.pinned (OpenSpec.upto fnExactCompareRatiosSpec)

/-- 'laws.FnExactFloorRatio', WHERE WHAT IT READS IS OF BULK AT MOST 1048576: true; the input reads as it did. -/
def fnExactFloorRatioUptoRow : OpenClaim := { program := "ytpkadlgnkcbcbaa", sum := "bca296fa25862951ecc878e663c022e8d9ea2e4cbbd5167a10b440c1980dc49f", func := "loop.example/g01049/laws.FnExactFloorRatio", spec := "fnExactFloorRatio", apart := false, narrowed := true }
def FnExactFloorRatioUptoSaid : Prop := fnExactFloorRatioUptoRow.holds Try.pinned (OpenSpec.upto fnExactFloorRatioSpec)

/-- 'laws.FnExactRatioText', WHERE WHAT IT READS IS OF BULK AT MOST 1048576: true; the input reads as it did. -/
def fnExactRatioTextUptoRow : OpenClaim := { program := "ytpkadlgnkcbcbaa", sum := "bca296fa25862951ecc878e663c022e8d9ea2e4cbbd5167a10b440c1980dc49f", func := "loop.example/g01049/laws.FnExactRatioText", spec := "fnExactRatioText", recurses := true, apart := false, narrowed := true }
def FnExactRatioTextUptoSaid : Prop := fnExactRatioTextUptoRow.holds Try.pinned (OpenSpec.upto fnExactRatioTextSpec)

/-- 'laws.FnExactAddRatios', WHERE WHAT IT READS IS OF BULK AT MOST 1048576: true; the input reads as it did. -/
def fnExactAddRatiosUptoRow : OpenClaim := { program := "ytpkadlgnkcbcbaa", sum := "bca296fa25862951ecc878e663c022e8d9ea2e4cbbd5167a10b440c1980dc49f", func := "loop.example/g01049/laws.FnExactAddRatios", spec := "fnExactAddRatios", apart := false, narrowed := true }
def FnExactAddRatiosUptoSaid : Prop := fnExactAddRatiosUptoRow.holds Try.pinned (OpenSpec.upto fnExactAddRatiosSpec)

/-- 'laws.FnExactMultiplyRatios', WHERE WHAT IT READS IS OF BULK AT MOST 1048576: true; the input reads as it did. -/
def fnExactMultiplyRatiosUptoRow : OpenClaim := { program := "ytpkadlgnkcbcbaa", sum := "bca296fa25862951ecc878e663c022e8d9ea2e4cbbd5167a10b440c1980dc49f", func := "loop.example/g01049/laws.FnExactMultiplyRatios", spec := "fnExactMultiplyRatios", apart := false, narrowed := true }
def FnExactMultiplyRatiosUptoSaid : Prop := fnExactMultiplyRatiosUptoRow.holds Try.pinned (OpenSpec.upto fnExactMultiplyRatiosSpec)

/-- 'laws.FnExactMakeRatio', WHERE WHAT IT READS IS OF BULK AT MOST 1048576: true; the input reads as it did. -/
def fnExactMakeRatioUptoRow : OpenClaim := { program := "ytpkadlgnkcbcbaa", sum := "bca296fa25862951ecc878e663c022e8d9ea2e4cbbd5167a10b440c1980dc49f", func := "loop.example/g01049/laws.FnExactMakeRatio", spec := "fnExactMakeRatio", apart := false, narrowed := true }
def FnExactMakeRatioUptoSaid : Prop := fnExactMakeRatioUptoRow.holds Try.pinned (OpenSpec.upto fnExactMakeRatioSpec)

/-- 'laws.FnExactBetweenRatios', WHERE WHAT IT READS IS OF BULK AT MOST 1048576: true; the input reads as it did. -/
def fnExactBetweenRatiosUptoRow : OpenClaim := { program := "ytpkadlgnkcbcbaa", sum := "bca296fa25862951ecc878e663c022e8d9ea2e4cbbd5167a10b440c1980dc49f", func := "loop.example/g01049/laws.FnExactBetweenRatios", spec := "fnExactBetweenRatios", apart := false, narrowed := true }
def FnExactBetweenRatiosUptoSaid : Prop := fnExactBetweenRatiosUptoRow.holds Try.pinned (OpenSpec.upto fnExactBetweenRatiosSpec)

/-- 'laws.FnExactReadRatio', WHERE WHAT IT READS IS OF BULK AT MOST 1048576: true; the input reads as it did. -/
def fnExactReadRatioUptoRow : OpenClaim := { program := "ytpkadlgnkcbcbaa", sum := "bca296fa25862951ecc878e663c022e8d9ea2e4cbbd5167a10b440c1980dc49f", func := "loop.example/g01049/laws.FnExactReadRatio", spec := "fnExactReadRatio", recurses := true, apart := false, narrowed := true }
def FnExactReadRatioUptoSaid : Prop := fnExactReadRatioUptoRow.holds Try.pinned (OpenSpec.upto fnExactReadRatioSpec)

/-- 'laws.FnFractions', WHERE WHAT IT READS IS OF BULK AT MOST 1048576: true; the input reads as it did. -/
def fnFractionsUptoRow : OpenClaim := { program := "ytpkadlgnkcbcbaa", sum := "bca296fa25862951ecc878e663c022e8d9ea2e4cbbd5167a10b440c1980dc49f", func := "loop.example/g01049/laws.FnFractions", spec := "fnFractions", apart := false, narrowed := true }
def FnFractionsUptoSaid : Prop := fnFractionsUptoRow.holds Try.pinned (OpenSpec.upto fnFractionsSpec)

/-- 'laws.FnBetween', WHERE WHAT IT READS IS OF BULK AT MOST 1048576: true; the input reads as it did. -/
def fnBetweenUptoRow : OpenClaim := { program := "ytpkadlgnkcbcbaa", sum := "bca296fa25862951ecc878e663c022e8d9ea2e4cbbd5167a10b440c1980dc49f", func := "loop.example/g01049/laws.FnBetween", spec := "fnBetween", apart := false, narrowed := true }
def FnBetweenUptoSaid : Prop := fnBetweenUptoRow.holds Try.pinned (OpenSpec.upto fnBetweenSpec)

/-- 'laws.FnRatioTexts', WHERE WHAT IT READS IS OF BULK AT MOST 1048576: true; the input reads as it did. -/
def fnRatioTextsUptoRow : OpenClaim := { program := "ytpkadlgnkcbcbaa", sum := "bca296fa25862951ecc878e663c022e8d9ea2e4cbbd5167a10b440c1980dc49f", func := "loop.example/g01049/laws.FnRatioTexts", spec := "fnRatioTexts", recurses := true, apart := false, narrowed := true }
def FnRatioTextsUptoSaid : Prop := fnRatioTextsUptoRow.holds Try.pinned (OpenSpec.upto fnRatioTextsSpec)

end Rows
end Go.Proofs.Ytpkadlgnkcbcbaa
