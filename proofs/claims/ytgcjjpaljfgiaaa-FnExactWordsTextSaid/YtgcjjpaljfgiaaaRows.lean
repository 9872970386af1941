/-
  No cell of these rows narrows 'for every input' (looked for: loops, veiled, ifaces, maps, wideKeys, modest, calm, conditions, laid).
  DERIVED. THE GIVEN ROWS OF THIS SEAT. 13 by the template 'for every input the law returns true; each argument reads behind the call as it read before'; 0 by the template 'total and deterministic' (their statements: YtgcjjpaljfgiaaaTotals.lean).
  GIVEN WITH THE SEED: the statements are not yours to turn. If you find one false, say at which input.
  Laid BY PROGRAM, IN A SANDBOX (cutbox-rows.mjs): the forced cells as the released guide's own fill.sh prints them over the translation ea4a31712b89c8ab… (all of the seat's roots in one cut). By AI agents, Wed Nov 11 2026. No macro, syntax, notation, axiom, sorry.
-/
import Derived.Test.YtgcjjpaljfgiaaaChecked
import GoSem.Claim
import GoSem.ClaimJoined
import GoSem.ClaimMapViews
import Derived.JoinedTies
import Derived.KernelRfl
namespace Go.Proofs.Ytgcjjpaljfgiaaa
/- THE CELL 'sum', in the pinned program and in every row, IS THE sha256 OF THE DUMP (.gsa) THAT YtgcjjpaljfgiaaaProg.lean LOADS. Nothing in Lean hashes anything: it is a label: what it is worth is what the hold of that sum in a sandbox is worth. -/
noncomputable def Try.pinned : Pinned := { name := "ytgcjjpaljfgiaaa", sum := "ea4a31712b89c8ab91bdb500ec298208bac952e137a5f6dd06bb2f4314b0f3b7", checked := Try.checked }
namespace Rows
def none {H : Type} : Left H := { results := [], args := [] }

/-- 'laws.FnExactConstants': WHATEVER THE INPUT: true; the input reads as it did. -/
def fnExactConstantsSpec : ChangeSpec := { name := "fnExactConstants", fn := fun _ => fun
  | [] => { results := [.lit (.bool true)], args := [] }
  | _ => none }
def fnExactConstantsRow : OpenClaim := { program := "ytgcjjpaljfgiaaa", sum := "ea4a31712b89c8ab91bdb500ec298208bac952e137a5f6dd06bb2f4314b0f3b7", func := "loop.example/g01049/laws.FnExactConstants", spec := "fnExactConstants", apart := false }
def FnExactConstantsSaid : Prop := fnExactConstantsRow.holds Try.pinned (OpenSpec.ofChange fnExactConstantsSpec)

/-- ITS FALSE NEIGHBOUR: 'it returns false'. Refute it at one input. -/
def fnExactConstantsWrong : ChangeSpec := { name := "fnExactConstants", fn := fun _ => fun
  | [] => { results := [.lit (.bool false)], args := [] }
  | _ => none }
def FnExactConstantsWrongFalsely : Prop := fnExactConstantsRow.holds Try.pinned (OpenSpec.ofChange fnExactConstantsWrong)

/-- 'laws.FnExactIsWord': WHATEVER THE INPUT: true; the input reads as it did. -/
def fnExactIsWordSpec : ChangeSpec := { name := "fnExactIsWord", fn := fun _ => fun
  | [d] => { results := [.lit (.bool true)], args := [d] }
  | _ => none }
def fnExactIsWordRow : OpenClaim := { program := "ytgcjjpaljfgiaaa", sum := "ea4a31712b89c8ab91bdb500ec298208bac952e137a5f6dd06bb2f4314b0f3b7", func := "loop.example/g01049/laws.FnExactIsWord", spec := "fnExactIsWord", apart := false }
def FnExactIsWordSaid : Prop := fnExactIsWordRow.holds Try.pinned (OpenSpec.ofChange fnExactIsWordSpec)

/-- ITS FALSE NEIGHBOUR: 'it returns false'. Refute it at one input. -/
def fnExactIsWordWrong : ChangeSpec := { name := "fnExactIsWord", fn := fun _ => fun
  | [d] => { results := [.lit (.bool false)], args := [d] }
  | _ => none }
def FnExactIsWordWrongFalsely : Prop := fnExactIsWordRow.holds Try.pinned (OpenSpec.ofChange fnExactIsWordWrong)

/-- 'laws.FnExactTimeText': WHATEVER THE INPUT: true; the input reads as it did. -/
def fnExactTimeTextSpec : ChangeSpec := { name := "fnExactTimeText", fn := fun _ => fun
  | [d] => { results := [.lit (.bool true)], args := [d] }
  | _ => none }
def fnExactTimeTextRow : OpenClaim := { program := "ytgcjjpaljfgiaaa", sum := "ea4a31712b89c8ab91bdb500ec298208bac952e137a5f6dd06bb2f4314b0f3b7", func := "loop.example/g01049/laws.FnExactTimeText", spec := "fnExactTimeText", recurses := true, apart := false }
def FnExactTimeTextSaid : Prop := fnExactTimeTextRow.holds Try.pinned (OpenSpec.ofChange fnExactTimeTextSpec)

/-- ITS FALSE NEIGHBOUR: 'it returns false'. Refute it at one input. -/
def fnExactTimeTextWrong : ChangeSpec := { name := "fnExactTimeText", fn := fun _ => fun
  | [d] => { results := [.lit (.bool false)], args := [d] }
  | _ => none }
def FnExactTimeTextWrongFalsely : Prop := fnExactTimeTextRow.holds Try.pinned (OpenSpec.ofChange fnExactTimeTextWrong)

/-- 'laws.FnLists': WHATEVER THE INPUT: true; the input reads as it did. -/
def fnListsSpec : ChangeSpec := { name := "fnLists", fn := fun _ => fun
  | [d] => { results := [.lit (.bool true)], args := [d] }
  | _ => none }
def fnListsRow : OpenClaim := { program := "ytgcjjpaljfgiaaa", sum := "ea4a31712b89c8ab91bdb500ec298208bac952e137a5f6dd06bb2f4314b0f3b7", func := "loop.example/g01049/laws.FnLists", spec := "fnLists", recurses := true, apart := false }
def FnListsSaid : Prop := fnListsRow.holds Try.pinned (OpenSpec.ofChange fnListsSpec)

/-- ITS FALSE NEIGHBOUR: 'it returns false'. Refute it at one input. -/
def fnListsWrong : ChangeSpec := { name := "fnLists", fn := fun _ => fun
  | [d] => { results := [.lit (.bool false)], args := [d] }
  | _ => none }
def FnListsWrongFalsely : Prop := fnListsRow.holds Try.pinned (OpenSpec.ofChange fnListsWrong)

/-- 'laws.FnExactReadTime': WHATEVER THE INPUT: true; the input reads as it did. -/
def fnExactReadTimeSpec : ChangeSpec := { name := "fnExactReadTime", fn := fun _ => fun
  | [d] => { results := [.lit (.bool true)], args := [d] }
  | _ => none }
def fnExactReadTimeRow : OpenClaim := { program := "ytgcjjpaljfgiaaa", sum := "ea4a31712b89c8ab91bdb500ec298208bac952e137a5f6dd06bb2f4314b0f3b7", func := "loop.example/g01049/laws.FnExactReadTime", spec := "fnExactReadTime", recurses := true, apart := false }
def FnExactReadTimeSaid : Prop := fnExactReadTimeRow.holds Try.pinned (OpenSpec.ofChange fnExactReadTimeSpec)

/-- ITS FALSE NEIGHBOUR: 'it returns false'. Refute it at one input. -/
def fnExactReadTimeWrong : ChangeSpec := { name := "fnExactReadTime", fn := fun _ => fun
  | [d] => { results := [.lit (.bool false)], args := [d] }
  | _ => none }
def FnExactReadTimeWrongFalsely : Prop := fnExactReadTimeRow.holds Try.pinned (OpenSpec.ofChange fnExactReadTimeWrong)

/-- 'laws.FnExactSortNumbers': WHATEVER THE INPUT: true; the input reads as it did. -/
def fnExactSortNumbersSpec : ChangeSpec := { name := "fnExactSortNumbers", fn := fun _ => fun
  | [d] => { results := [.lit (.bool true)], args := [d] }
  | _ => none }
def fnExactSortNumbersRow : OpenClaim := { program := "ytgcjjpaljfgiaaa", sum := "ea4a31712b89c8ab91bdb500ec298208bac952e137a5f6dd06bb2f4314b0f3b7", func := "loop.example/g01049/laws.FnExactSortNumbers", spec := "fnExactSortNumbers", apart := false }
def FnExactSortNumbersSaid : Prop := fnExactSortNumbersRow.holds Try.pinned (OpenSpec.ofChange fnExactSortNumbersSpec)

/-- ITS FALSE NEIGHBOUR: 'it returns false'. Refute it at one input. -/
def fnExactSortNumbersWrong : ChangeSpec := { name := "fnExactSortNumbers", fn := fun _ => fun
  | [d] => { results := [.lit (.bool false)], args := [d] }
  | _ => none }
def FnExactSortNumbersWrongFalsely : Prop := fnExactSortNumbersRow.holds Try.pinned (OpenSpec.ofChange fnExactSortNumbersWrong)

/-- 'laws.FnExactReadWords': WHATEVER THE INPUT: true; the input reads as it did. -/
def fnExactReadWordsSpec : ChangeSpec := { name := "fnExactReadWords", fn := fun _ => fun
  | [d] => { results := [.lit (.bool true)], args := [d] }
  | _ => none }
def fnExactReadWordsRow : OpenClaim := { program := "ytgcjjpaljfgiaaa", sum := "ea4a31712b89c8ab91bdb500ec298208bac952e137a5f6dd06bb2f4314b0f3b7", func := "loop.example/g01049/laws.FnExactReadWords", spec := "fnExactReadWords", apart := false }
def FnExactReadWordsSaid : Prop := fnExactReadWordsRow.holds Try.pinned (OpenSpec.ofChange fnExactReadWordsSpec)

/-- ITS FALSE NEIGHBOUR: 'it returns false'. Refute it at one input. -/
def fnExactReadWordsWrong : ChangeSpec := { name := "fnExactReadWords", fn := fun _ => fun
  | [d] => { results := [.lit (.bool false)], args := [d] }
  | _ => none }
def FnExactReadWordsWrongFalsely : Prop := fnExactReadWordsRow.holds Try.pinned (OpenSpec.ofChange fnExactReadWordsWrong)

/-- 'laws.FnExactWordsText': WHATEVER THE INPUT: true; the input reads as it did. -/
def fnExactWordsTextSpec : ChangeSpec := { name := "fnExactWordsText", fn := fun _ => fun
  | [d] => { results := [.lit (.bool true)], args := [d] }
  | _ => none }
def fnExactWordsTextRow : OpenClaim := { program := "ytgcjjpaljfgiaaa", sum := "ea4a31712b89c8ab91bdb500ec298208bac952e137a5f6dd06bb2f4314b0f3b7", func := "loop.example/g01049/laws.FnExactWordsText", spec := "fnExactWordsText", apart := false }
def FnExactWordsTextSaid : Prop := fnExactWordsTextRow.holds Try.pinned (OpenSpec.ofChange fnExactWordsTextSpec)

/-- ITS FALSE NEIGHBOUR: 'it returns false'. Refute it at one input. -/
def fnExactWordsTextWrong : ChangeSpec := { name := "fnExactWordsText", fn := fun _ => fun
  | [d] => { results := [.lit (.bool false)], args := [d] }
  | _ => none }
def FnExactWordsTextWrongFalsely : Prop := fnExactWordsTextRow.holds Try.pinned (OpenSpec.ofChange fnExactWordsTextWrong)

/-- 'laws.FnExactListText': WHATEVER THE INPUT: true; the input reads as it did. -/
def fnExactListTextSpec : ChangeSpec := { name := "fnExactListText", fn := fun _ => fun
  | [d] => { results := [.lit (.bool true)], args := [d] }
  | _ => none }
def fnExactListTextRow : OpenClaim := { program := "ytgcjjpaljfgiaaa", sum := "ea4a31712b89c8ab91bdb500ec298208bac952e137a5f6dd06bb2f4314b0f3b7", func := "loop.example/g01049/laws.FnExactListText", spec := "fnExactListText", recurses := true, apart := false }
def FnExactListTextSaid : Prop := fnExactListTextRow.holds Try.pinned (OpenSpec.ofChange fnExactListTextSpec)

/-- ITS FALSE NEIGHBOUR: 'it returns false'. Refute it at one input. -/
def fnExactListTextWrong : ChangeSpec := { name := "fnExactListText", fn := fun _ => fun
  | [d] => { results := [.lit (.bool false)], args := [d] }
  | _ => none }
def FnExactListTextWrongFalsely : Prop := fnExactListTextRow.holds Try.pinned (OpenSpec.ofChange fnExactListTextWrong)

/-- 'laws.FnExactReadList': WHATEVER THE INPUT: true; the input reads as it did. -/
def fnExactReadListSpec : ChangeSpec := { name := "fnExactReadList", fn := fun _ => fun
  | [d] => { results := [.lit (.bool true)], args := [d] }
  | _ => none }
def fnExactReadListRow : OpenClaim := { program := "ytgcjjpaljfgiaaa", sum := "ea4a31712b89c8ab91bdb500ec298208bac952e137a5f6dd06bb2f4314b0f3b7", func := "loop.example/g01049/laws.FnExactReadList", spec := "fnExactReadList", recurses := true, apart := false }
def FnExactReadListSaid : Prop := fnExactReadListRow.holds Try.pinned (OpenSpec.ofChange fnExactReadListSpec)

/-- ITS FALSE NEIGHBOUR: 'it returns false'. Refute it at one input. -/
def fnExactReadListWrong : ChangeSpec := { name := "fnExactReadList", fn := fun _ => fun
  | [d] => { results := [.lit (.bool false)], args := [d] }
  | _ => none }
def FnExactReadListWrongFalsely : Prop := fnExactReadListRow.holds Try.pinned (OpenSpec.ofChange fnExactReadListWrong)

/-- 'laws.FnSorted': WHATEVER THE INPUT: true; the input reads as it did. -/
def fnSortedSpec : ChangeSpec := { name := "fnSorted", fn := fun _ => fun
  | [d] => { results := [.lit (.bool true)], args := [d] }
  | _ => none }
def fnSortedRow : OpenClaim := { program := "ytgcjjpaljfgiaaa", sum := "ea4a31712b89c8ab91bdb500ec298208bac952e137a5f6dd06bb2f4314b0f3b7", func := "loop.example/g01049/laws.FnSorted", spec := "fnSorted", apart := false }
def FnSortedSaid : Prop := fnSortedRow.holds Try.pinned (OpenSpec.ofChange fnSortedSpec)

/-- ITS FALSE NEIGHBOUR: 'it returns false'. Refute it at one input. -/
def fnSortedWrong : ChangeSpec := { name := "fnSorted", fn := fun _ => fun
  | [d] => { results := [.lit (.bool false)], args := [d] }
  | _ => none }
def FnSortedWrongFalsely : Prop := fnSortedRow.holds Try.pinned (OpenSpec.ofChange fnSortedWrong)

/-- 'laws.FnTimes': WHATEVER THE INPUT: true; the input reads as it did. -/
def fnTimesSpec : ChangeSpec := { name := "fnTimes", fn := fun _ => fun
  | [d] => { results := [.lit (.bool true)], args := [d] }
  | _ => none }
def fnTimesRow : OpenClaim := { program := "ytgcjjpaljfgiaaa", sum := "ea4a31712b89c8ab91bdb500ec298208bac952e137a5f6dd06bb2f4314b0f3b7", func := "loop.example/g01049/laws.FnTimes", spec := "fnTimes", recurses := true, apart := false }
def FnTimesSaid : Prop := fnTimesRow.holds Try.pinned (OpenSpec.ofChange fnTimesSpec)

/-- ITS FALSE NEIGHBOUR: 'it returns false'. Refute it at one input. -/
def fnTimesWrong : ChangeSpec := { name := "fnTimes", fn := fun _ => fun
  | [d] => { results := [.lit (.bool false)], args := [d] }
  | _ => none }
def FnTimesWrongFalsely : Prop := fnTimesRow.holds Try.pinned (OpenSpec.ofChange fnTimesWrong)

/-- 'laws.FnWords': WHATEVER THE INPUT: true; the input reads as it did. -/
def fnWordsSpec : ChangeSpec := { name := "fnWords", fn := fun _ => fun
  | [d] => { results := [.lit (.bool true)], args := [d] }
  | _ => none }
def fnWordsRow : OpenClaim := { program := "ytgcjjpaljfgiaaa", sum := "ea4a31712b89c8ab91bdb500ec298208bac952e137a5f6dd06bb2f4314b0f3b7", func := "loop.example/g01049/laws.FnWords", spec := "fnWords", apart := false }
def FnWordsSaid : Prop := fnWordsRow.holds Try.pinned (OpenSpec.ofChange fnWordsSpec)

/-- ITS FALSE NEIGHBOUR: 'it returns false'. Refute it at one input. -/
def fnWordsWrong : ChangeSpec := { name := "fnWords", fn := fun _ => fun
  | [d] => { results := [.lit (.bool false)], args := [d] }
  | _ => none }
def FnWordsWrongFalsely : Prop := fnWordsRow.holds Try.pinned (OpenSpec.ofChange fnWordsWrong)

/- THE SECOND FORM. 'bulk': how many values and letters a reading holds, each counted each time it is reached (what is shared counts as often as it is met; a slice's spare places count too). A statement '..UptoSaid' is the law's where the arguments, and the package variables that the reading takes, are together of bulk at most 1048576: NARROWER than '..Said'. Prove '..Said' where nothing that the law and all that it calls make is longer than what came in: it says more and counts as full. Else prove '..UptoSaid'. A law counts once. -/
mutual
def uptoBulk {H : Type} : DataW H → Nat
  | .lit (.string bytes) => bytes.length + 1
  | .lit _ => 1
  | .nil => 1
  | .ptr d => uptoBulk d + 1
  | .slice elems spare => uptoBulkAll elems + uptoBulkAll spare + 1
  | .agg parts => uptoBulkAll parts + 1
  | .iface _ d => uptoBulk d + 1
  | .map entries => uptoBulkEntries entries + 1
  | .held _ => 1
def uptoBulkAll {H : Type} : List (DataW H) → Nat
  | [] => 0
  | d :: r => uptoBulk d + uptoBulkAll r
def uptoBulkEntries {H : Type} : List (Lit × DataW H) → Nat
  | [] => 0
  | x :: r => uptoBulkEntry x + uptoBulkEntries r
def uptoBulkEntry {H : Type} : Lit × DataW H → Nat
  | (.string bytes, d) => bytes.length + uptoBulk d + 1
  | (_, d) => uptoBulk d + 1
 end
def uptoSmall : (H : Type) → List (DataW H) → Bool := fun _ ds => decide (uptoBulkAll ds ≤ 1048576)
def OpenSpec.upto (s : _root_.Go.ChangeSpec) : _root_.Go.OpenSpec := { _root_.Go.OpenSpec.ofChange s with cond := some uptoSmall }

/-- 'laws.FnExactConstants', WHERE WHAT IT READS IS OF BULK AT MOST 1048576: true; the input reads as it did. -/
def fnExactConstantsUptoRow : OpenClaim := { program := "ytgcjjpaljfgiaaa", sum := "ea4a31712b89c8ab91bdb500ec298208bac952e137a5f6dd06bb2f4314b0f3b7", func := "loop.example/g01049/laws.FnExactConstants", spec := "fnExactConstants", apart := false, narrowed := true }
def FnExactConstantsUptoSaid : Prop := fnExactConstantsUptoRow.holds Try.pinned (OpenSpec.upto fnExactConstantsSpec)

/-- 'laws.FnExactIsWord', WHERE WHAT IT READS IS OF BULK AT MOST 1048576: true; the input reads as it did. -/
def fnExactIsWordUptoRow : OpenClaim := { program := "ytgcjjpaljfgiaaa", sum := "ea4a31712b89c8ab91bdb500ec298208bac952e137a5f6dd06bb2f4314b0f3b7", func := "loop.example/g01049/laws.FnExactIsWord", spec := "fnExactIsWord", apart := false, narrowed := true }
def FnExactIsWordUptoSaid : Prop := fnExactIsWordUptoRow.holds Try.pinned (OpenSpec.upto fnExactIsWordSpec)

/-- 'laws.FnExactTimeText', WHERE WHAT IT READS IS OF BULK AT MOST 1048576: true; the input reads as it did. -/
def fnExactTimeTextUptoRow : OpenClaim := { program := "ytgcjjpaljfgiaaa", sum := "ea4a31712b89c8ab91bdb500ec298208bac952e137a5f6dd06bb2f4314b0f3b7", func := "loop.example/g01049/laws.FnExactTimeText", spec := "fnExactTimeText", recurses := true, apart := false, narrowed := true }
def FnExactTimeTextUptoSaid : Prop := fnExactTimeTextUptoRow.holds Try.pinned (OpenSpec.upto fnExactTimeTextSpec)

/-- 'laws.FnLists', WHERE WHAT IT READS IS OF BULK AT MOST 1048576: true; the input reads as it did. -/
def fnListsUptoRow : OpenClaim := { program := "ytgcjjpaljfgiaaa", sum := "ea4a31712b89c8ab91bdb500ec298208bac952e137a5f6dd06bb2f4314b0f3b7", func := "loop.example/g01049/laws.FnLists", spec := "fnLists", recurses := true, apart := false, narrowed := true }
def FnListsUptoSaid : Prop := fnListsUptoRow.holds Try.pinned (OpenSpec.upto fnListsSpec)

/-- 'laws.FnExactReadTime', WHERE WHAT IT READS IS OF BULK AT MOST 1048576: true; the input reads as it did. -/
def fnExactReadTimeUptoRow : OpenClaim := { program := "ytgcjjpaljfgiaaa", sum := "ea4a31712b89c8ab91bdb500ec298208bac952e137a5f6dd06bb2f4314b0f3b7", func := "loop.example/g01049/laws.FnExactReadTime", spec := "fnExactReadTime", recurses := true, apart := false, narrowed := true }
def FnExactReadTimeUptoSaid : Prop := fnExactReadTimeUptoRow.holds Try.pinned (OpenSpec.upto fnExactReadTimeSpec)

/-- 'laws.FnExactSortNumbers', WHERE WHAT IT READS IS OF BULK AT MOST 1048576: true; the input reads as it did. -/
def fnExactSortNumbersUptoRow : OpenClaim := { program := "ytgcjjpaljfgiaaa", sum := "ea4a31712b89c8ab91bdb500ec298208bac952e137a5f6dd06bb2f4314b0f3b7", func := "loop.example/g01049/laws.FnExactSortNumbers", spec := "fnExactSortNumbers", apart := false, narrowed := true }
def FnExactSortNumbersUptoSaid : Prop := fnExactSortNumbersUptoRow.holds Try.pinned (OpenSpec.upto fnExactSortNumbersSpec)

/-- 'laws.FnExactReadWords', WHERE WHAT IT READS IS OF BULK AT MOST 1048576: true; the input reads as it did. -/
def fnExactReadWordsUptoRow : OpenClaim := { program := "ytgcjjpaljfgiaaa", sum := "ea4a31712b89c8ab91bdb500ec298208bac952e137a5f6dd06bb2f4314b0f3b7", func := "loop.example/g01049/laws.FnExactReadWords", spec := "fnExactReadWords", apart := false, narrowed := true }
def FnExactReadWordsUptoSaid : Prop := fnExactReadWordsUptoRow.holds Try.pinned (OpenSpec.upto fnExactReadWordsSpec)

/-- 'laws.FnExactWordsText', WHERE WHAT IT READS IS OF BULK AT MOST 1048576: true; the input reads as it did. -/
def fnExactWordsTextUptoRow : OpenClaim := { program := "ytgcjjpaljfgiaaa", sum := "ea4a31712b89c8ab91bdb500ec298208bac952e137a5f6dd06bb2f4314b0f3b7", func := "loop.example/g01049/laws.FnExactWordsText", spec := "fnExactWordsText", apart := false, narrowed := true }
def FnExactWordsTextUptoSaid : Prop := fnExactWordsTextUptoRow.holds Try.pinned (OpenSpec.upto fnExactWordsTextSpec)

/-- 'laws.FnExactListText', WHERE WHAT IT READS IS OF BULK AT MOST 1048576: true; the input reads as it did. -/
def fnExactListTextUptoRow : OpenClaim := { program := "ytgcjjpaljfgiaaa", sum := "ea4a31712b89c8ab91bdb500ec298208bac952e137a5f6dd06bb2f4314b0f3b7", func := "loop.example/g01049/laws.FnExactListText", spec := "fnExactListText", recurses := true, apart := false, narrowed := true }
def FnExactListTextUptoSaid : Prop := fnExactListTextUptoRow.holds Try.pinned (OpenSpec.upto fnExactListTextSpec)

/-- 'laws.FnExactReadList', WHERE WHAT IT READS IS OF BULK AT MOST 1048576: true; the input reads as it did. -/
def fnExactReadListUptoRow : OpenClaim := { program := "ytgcjjpaljfgiaaa", sum := "ea4a31712b89c8ab91bdb500ec298208bac952e137a5f6dd06bb2f4314b0f3b7", func := "loop.example/g01049/laws.FnExactReadList", spec := "fnExactReadList", recurses := true, apart := false, narrowed := true }
def FnExactReadListUptoSaid : Prop := fnExactReadListUptoRow.holds Try.pinned (OpenSpec.upto fnExactReadListSpec)

/-- 'laws.FnSorted', WHERE WHAT IT READS IS OF BULK AT MOST 1048576: true; the input reads as it did. -/
def fnSortedUptoRow : OpenClaim := { program := "ytgcjjpaljfgiaaa", sum := "ea4a31712b89c8ab91bdb500ec298208bac952e137a5f6dd06bb2f4314b0f3b7", func := "loop.example/g01049/laws.FnSorted", spec := "fnSorted", apart := false, narrowed := true }
def FnSortedUptoSaid : Prop := fnSortedUptoRow.holds Try.pinned (OpenSpec.upto fnSortedSpec)

/-- 'laws.FnTimes', WHERE WHAT IT READS IS OF BULK AT MOST 1048576: true; the input reads as it did. -/
def fnTimesUptoRow : OpenClaim := { program := "ytgcjjpaljfgiaaa", sum := "ea4a31712b89c8ab91bdb500ec298208bac952e137a5f6dd06bb2f4314b0f3b7", func := "loop.example/g01049/laws.FnTimes", spec := "fnTimes", recurses := true, apart := false, narrowed := true }
def FnTimesUptoSaid : Prop := fnTimesUptoRow.holds Try.pinned (OpenSpec.upto fnTimesSpec)

/-- 'laws.FnWords', WHERE WHAT IT READS IS OF BULK AT MOST 1048576: true; the input reads as it did. -/
def fnWordsUptoRow : OpenClaim := { program := "ytgcjjpaljfgiaaa", sum := "ea4a31712b89c8ab91bdb500ec298208bac952e137a5f6dd06bb2f4314b0f3b7", func := "loop.example/g01049/laws.FnWords", spec := "fnWords", apart := false, narrowed := true }
def FnWordsUptoSaid : Prop := fnWordsUptoRow.holds Try.pinned (OpenSpec.upto fnWordsSpec)

end Rows
end Go.Proofs.Ytgcjjpaljfgiaaa
