/-
  No cell of these rows narrows 'for every input' (looked for: loops, veiled, ifaces, maps, wideKeys, modest, calm, conditions, laid).
  DERIVED. THE GIVEN ROWS OF THIS SEAT. 11 by the template 'for every input the law returns true; each argument reads behind the call as it read before'; 0 by the template 'total and deterministic' (their statements: YtidibjmckgbpbaaTotals.lean).
  GIVEN WITH THE SEED: the statements are not yours to turn. If you find one false, say at which input.
  Laid BY PROGRAM, IN A SANDBOX (cutbox-rows.mjs): the forced cells as the released guide's own fill.sh prints them over the translation 85743c193f6bdf56… (all of the seat's roots in one cut). By AI agents, Wed Nov 11 2026. No macro, syntax, notation, axiom, sorry.
-/
import Derived.Test.YtidibjmckgbpbaaChecked
import GoSem.Claim
import GoSem.ClaimJoined
import GoSem.ClaimMapViews
import Derived.JoinedTies
import Derived.KernelRfl
namespace Go.Proofs.Ytidibjmckgbpbaa
/- THE CELL 'sum', in the pinned program and in every row, IS THE sha256 OF THE DUMP (.gsa) THAT YtidibjmckgbpbaaProg.lean LOADS. Nothing in Lean hashes anything: it is a label: what it is worth is what the hold of that sum in a sandbox is worth. -/
noncomputable def Try.pinned : Pinned := { name := "ytidibjmckgbpbaa", sum := "85743c193f6bdf5624e43d3ba6cea6a877097ce3ca08e9aafa9a9eafbd8a82a7", checked := Try.checked }
namespace Rows
def none {H : Type} : Left H := { results := [], args := [] }

/-- 'laws.FnExactIsProfile': WHATEVER THE INPUT: true; the input reads as it did. -/
def fnExactIsProfileSpec : ChangeSpec := { name := "fnExactIsProfile", fn := fun _ => fun
  | [d] => { results := [.lit (.bool true)], args := [d] }
  | _ => none }
def fnExactIsProfileRow : OpenClaim := { program := "ytidibjmckgbpbaa", sum := "85743c193f6bdf5624e43d3ba6cea6a877097ce3ca08e9aafa9a9eafbd8a82a7", func := "loop.example/g01049/laws.FnExactIsProfile", spec := "fnExactIsProfile", apart := false }
def FnExactIsProfileSaid : Prop := fnExactIsProfileRow.holds Try.pinned (OpenSpec.ofChange fnExactIsProfileSpec)

/-- ITS FALSE NEIGHBOUR: 'it returns false'. Refute it at one input. -/
def fnExactIsProfileWrong : ChangeSpec := { name := "fnExactIsProfile", fn := fun _ => fun
  | [d] => { results := [.lit (.bool false)], args := [d] }
  | _ => none }
def FnExactIsProfileWrongFalsely : Prop := fnExactIsProfileRow.holds Try.pinned (OpenSpec.ofChange fnExactIsProfileWrong)

/-- 'laws.FnExactWindAt': WHATEVER THE INPUT: true; the input reads as it did. -/
def fnExactWindAtSpec : ChangeSpec := { name := "fnExactWindAt", fn := fun _ => fun
  | [d1, d2] => { results := [.lit (.bool true)], args := [d1, d2] }
  | _ => none }
def fnExactWindAtRow : OpenClaim := { program := "ytidibjmckgbpbaa", sum := "85743c193f6bdf5624e43d3ba6cea6a877097ce3ca08e9aafa9a9eafbd8a82a7", func := "loop.example/g01049/laws.FnExactWindAt", spec := "fnExactWindAt", apart := false }
def FnExactWindAtSaid : Prop := fnExactWindAtRow.holds Try.pinned (OpenSpec.ofChange fnExactWindAtSpec)

/-- ITS FALSE NEIGHBOUR: 'it returns false'. Refute it at one input. -/
def fnExactWindAtWrong : ChangeSpec := { name := "fnExactWindAt", fn := fun _ => fun
  | [d1, d2] => { results := [.lit (.bool false)], args := [d1, d2] }
  | _ => none }
def FnExactWindAtWrongFalsely : Prop := fnExactWindAtRow.holds Try.pinned (OpenSpec.ofChange fnExactWindAtWrong)

/-- 'laws.FnExactWidestWind': WHATEVER THE INPUT: true; the input reads as it did. -/
def fnExactWidestWindSpec : ChangeSpec := { name := "fnExactWidestWind", fn := fun _ => fun
  | [d1, d2] => { results := [.lit (.bool true)], args := [d1, d2] }
  | _ => none }
def fnExactWidestWindRow : OpenClaim := { program := "ytidibjmckgbpbaa", sum := "85743c193f6bdf5624e43d3ba6cea6a877097ce3ca08e9aafa9a9eafbd8a82a7", func := "loop.example/g01049/laws.FnExactWidestWind", spec := "fnExactWidestWind", apart := false }
def FnExactWidestWindSaid : Prop := fnExactWidestWindRow.holds Try.pinned (OpenSpec.ofChange fnExactWidestWindSpec)

/-- ITS FALSE NEIGHBOUR: 'it returns false'. Refute it at one input. -/
def fnExactWidestWindWrong : ChangeSpec := { name := "fnExactWidestWind", fn := fun _ => fun
  | [d1, d2] => { results := [.lit (.bool false)], args := [d1, d2] }
  | _ => none }
def FnExactWidestWindWrongFalsely : Prop := fnExactWidestWindRow.holds Try.pinned (OpenSpec.ofChange fnExactWidestWindWrong)

/-- 'laws.FnExactCommonWind': WHATEVER THE INPUT: true; the input reads as it did. -/
def fnExactCommonWindSpec : ChangeSpec := { name := "fnExactCommonWind", fn := fun _ => fun
  | [d1, d2] => { results := [.lit (.bool true)], args := [d1, d2] }
  | _ => none }
def fnExactCommonWindRow : OpenClaim := { program := "ytidibjmckgbpbaa", sum := "85743c193f6bdf5624e43d3ba6cea6a877097ce3ca08e9aafa9a9eafbd8a82a7", func := "loop.example/g01049/laws.FnExactCommonWind", spec := "fnExactCommonWind", apart := false }
def FnExactCommonWindSaid : Prop := fnExactCommonWindRow.holds Try.pinned (OpenSpec.ofChange fnExactCommonWindSpec)

/-- ITS FALSE NEIGHBOUR: 'it returns false'. Refute it at one input. -/
def fnExactCommonWindWrong : ChangeSpec := { name := "fnExactCommonWind", fn := fun _ => fun
  | [d1, d2] => { results := [.lit (.bool false)], args := [d1, d2] }
  | _ => none }
def FnExactCommonWindWrongFalsely : Prop := fnExactCommonWindRow.holds Try.pinned (OpenSpec.ofChange fnExactCommonWindWrong)

/-- 'laws.FnExactIsCalm': WHATEVER THE INPUT: true; the input reads as it did. -/
def fnExactIsCalmSpec : ChangeSpec := { name := "fnExactIsCalm", fn := fun _ => fun
  | [d1, d2, d3] => { results := [.lit (.bool true)], args := [d1, d2, d3] }
  | _ => none }
def fnExactIsCalmRow : OpenClaim := { program := "ytidibjmckgbpbaa", sum := "85743c193f6bdf5624e43d3ba6cea6a877097ce3ca08e9aafa9a9eafbd8a82a7", func := "loop.example/g01049/laws.FnExactIsCalm", spec := "fnExactIsCalm", apart := false }
def FnExactIsCalmSaid : Prop := fnExactIsCalmRow.holds Try.pinned (OpenSpec.ofChange fnExactIsCalmSpec)

/-- ITS FALSE NEIGHBOUR: 'it returns false'. Refute it at one input. -/
def fnExactIsCalmWrong : ChangeSpec := { name := "fnExactIsCalm", fn := fun _ => fun
  | [d1, d2, d3] => { results := [.lit (.bool false)], args := [d1, d2, d3] }
  | _ => none }
def FnExactIsCalmWrongFalsely : Prop := fnExactIsCalmRow.holds Try.pinned (OpenSpec.ofChange fnExactIsCalmWrong)

/-- 'laws.FnExactJoinProfiles': WHATEVER THE INPUT: true; the input reads as it did. -/
def fnExactJoinProfilesSpec : ChangeSpec := { name := "fnExactJoinProfiles", fn := fun _ => fun
  | [d1, d2] => { results := [.lit (.bool true)], args := [d1, d2] }
  | _ => none }
def fnExactJoinProfilesRow : OpenClaim := { program := "ytidibjmckgbpbaa", sum := "85743c193f6bdf5624e43d3ba6cea6a877097ce3ca08e9aafa9a9eafbd8a82a7", func := "loop.example/g01049/laws.FnExactJoinProfiles", spec := "fnExactJoinProfiles", apart := false }
def FnExactJoinProfilesSaid : Prop := fnExactJoinProfilesRow.holds Try.pinned (OpenSpec.ofChange fnExactJoinProfilesSpec)

/-- ITS FALSE NEIGHBOUR: 'it returns false'. Refute it at one input. -/
def fnExactJoinProfilesWrong : ChangeSpec := { name := "fnExactJoinProfiles", fn := fun _ => fun
  | [d1, d2] => { results := [.lit (.bool false)], args := [d1, d2] }
  | _ => none }
def FnExactJoinProfilesWrongFalsely : Prop := fnExactJoinProfilesRow.holds Try.pinned (OpenSpec.ofChange fnExactJoinProfilesWrong)

/-- 'laws.FnExactFirstGust': WHATEVER THE INPUT: true; the input reads as it did. -/
def fnExactFirstGustSpec : ChangeSpec := { name := "fnExactFirstGust", fn := fun _ => fun
  | [d1, d2, d3] => { results := [.lit (.bool true)], args := [d1, d2, d3] }
  | _ => none }
def fnExactFirstGustRow : OpenClaim := { program := "ytidibjmckgbpbaa", sum := "85743c193f6bdf5624e43d3ba6cea6a877097ce3ca08e9aafa9a9eafbd8a82a7", func := "loop.example/g01049/laws.FnExactFirstGust", spec := "fnExactFirstGust", apart := false }
def FnExactFirstGustSaid : Prop := fnExactFirstGustRow.holds Try.pinned (OpenSpec.ofChange fnExactFirstGustSpec)

/-- ITS FALSE NEIGHBOUR: 'it returns false'. Refute it at one input. -/
def fnExactFirstGustWrong : ChangeSpec := { name := "fnExactFirstGust", fn := fun _ => fun
  | [d1, d2, d3] => { results := [.lit (.bool false)], args := [d1, d2, d3] }
  | _ => none }
def FnExactFirstGustWrongFalsely : Prop := fnExactFirstGustRow.holds Try.pinned (OpenSpec.ofChange fnExactFirstGustWrong)

/-- 'laws.FnExactWidenWind': WHATEVER THE INPUT: true; the input reads as it did. -/
def fnExactWidenWindSpec : ChangeSpec := { name := "fnExactWidenWind", fn := fun _ => fun
  | [d1, d2, d3] => { results := [.lit (.bool true)], args := [d1, d2, d3] }
  | _ => none }
def fnExactWidenWindRow : OpenClaim := { program := "ytidibjmckgbpbaa", sum := "85743c193f6bdf5624e43d3ba6cea6a877097ce3ca08e9aafa9a9eafbd8a82a7", func := "loop.example/g01049/laws.FnExactWidenWind", spec := "fnExactWidenWind", apart := false }
def FnExactWidenWindSaid : Prop := fnExactWidenWindRow.holds Try.pinned (OpenSpec.ofChange fnExactWidenWindSpec)

/-- ITS FALSE NEIGHBOUR: 'it returns false'. Refute it at one input. -/
def fnExactWidenWindWrong : ChangeSpec := { name := "fnExactWidenWind", fn := fun _ => fun
  | [d1, d2, d3] => { results := [.lit (.bool false)], args := [d1, d2, d3] }
  | _ => none }
def FnExactWidenWindWrongFalsely : Prop := fnExactWidenWindRow.holds Try.pinned (OpenSpec.ofChange fnExactWidenWindWrong)

/-- 'laws.FnProfiles': WHATEVER THE INPUT: true; the input reads as it did. -/
def fnProfilesSpec : ChangeSpec := { name := "fnProfiles", fn := fun _ => fun
  | [d] => { results := [.lit (.bool true)], args := [d] }
  | _ => none }
def fnProfilesRow : OpenClaim := { program := "ytidibjmckgbpbaa", sum := "85743c193f6bdf5624e43d3ba6cea6a877097ce3ca08e9aafa9a9eafbd8a82a7", func := "loop.example/g01049/laws.FnProfiles", spec := "fnProfiles", apart := false }
def FnProfilesSaid : Prop := fnProfilesRow.holds Try.pinned (OpenSpec.ofChange fnProfilesSpec)

/-- ITS FALSE NEIGHBOUR: 'it returns false'. Refute it at one input. -/
def fnProfilesWrong : ChangeSpec := { name := "fnProfiles", fn := fun _ => fun
  | [d] => { results := [.lit (.bool false)], args := [d] }
  | _ => none }
def FnProfilesWrongFalsely : Prop := fnProfilesRow.holds Try.pinned (OpenSpec.ofChange fnProfilesWrong)

/-- 'laws.FnGusts': WHATEVER THE INPUT: true; the input reads as it did. -/
def fnGustsSpec : ChangeSpec := { name := "fnGusts", fn := fun _ => fun
  | [d] => { results := [.lit (.bool true)], args := [d] }
  | _ => none }
def fnGustsRow : OpenClaim := { program := "ytidibjmckgbpbaa", sum := "85743c193f6bdf5624e43d3ba6cea6a877097ce3ca08e9aafa9a9eafbd8a82a7", func := "loop.example/g01049/laws.FnGusts", spec := "fnGusts", apart := false }
def FnGustsSaid : Prop := fnGustsRow.holds Try.pinned (OpenSpec.ofChange fnGustsSpec)

/-- ITS FALSE NEIGHBOUR: 'it returns false'. Refute it at one input. -/
def fnGustsWrong : ChangeSpec := { name := "fnGusts", fn := fun _ => fun
  | [d] => { results := [.lit (.bool false)], args := [d] }
  | _ => none }
def FnGustsWrongFalsely : Prop := fnGustsRow.holds Try.pinned (OpenSpec.ofChange fnGustsWrong)

/-- 'laws.FnWinds': WHATEVER THE INPUT: true; the input reads as it did. -/
def fnWindsSpec : ChangeSpec := { name := "fnWinds", fn := fun _ => fun
  | [d] => { results := [.lit (.bool true)], args := [d] }
  | _ => none }
def fnWindsRow : OpenClaim := { program := "ytidibjmckgbpbaa", sum := "85743c193f6bdf5624e43d3ba6cea6a877097ce3ca08e9aafa9a9eafbd8a82a7", func := "loop.example/g01049/laws.FnWinds", spec := "fnWinds", apart := false }
def FnWindsSaid : Prop := fnWindsRow.holds Try.pinned (OpenSpec.ofChange fnWindsSpec)

/-- ITS FALSE NEIGHBOUR: 'it returns false'. Refute it at one input. -/
def fnWindsWrong : ChangeSpec := { name := "fnWinds", fn := fun _ => fun
  | [d] => { results := [.lit (.bool false)], args := [d] }
  | _ => none }
def FnWindsWrongFalsely : Prop := fnWindsRow.holds Try.pinned (OpenSpec.ofChange fnWindsWrong)

/- THE SECOND FORM. 'bulk': how many values and letters a reading holds, each counted each time it is reached (what is shared counts as often as it is met; a slice's spare places count too). A statement '..UptoSaid' is the law's where the arguments, and the package variables that the reading takes, are together of bulk at most 1048576: NARROWER than '..Said'. Prove '..Said' where nothing that the law and all that it calls make is longer than what came in: it says more and counts as full. Else prove '..UptoSaid'. A law counts once. -/
mutual
def uptoBulk {H : Type} : DataW H → Nat
  | .lit (.string bytes) => bytes.length + 1
  | .lit _ => 1
  | .nil => 1
  | .ptr d => uptoBulk d + 1
  | .slice elems spare => uptoBulkAll elems + uptoBulkAll spare + 1
  | .agg parts => uptoBulkAll parts + 1
  | .iface _ d => uptoBulk d + 1
  | .map entries => uptoBulkEntries entries + 1
  | .held _ => 1
def uptoBulkAll {H : Type} : List (DataW H) → Nat
  | [] => 0
  | d :: r => uptoBulk d + uptoBulkAll r
def uptoBulkEntries {H : Type} : List (Lit × DataW H) → Nat
  | [] => 0
  | x :: r => uptoBulkEntry x + uptoBulkEntries r
def uptoBulkEntry {H : Type} : Lit × DataW H → Nat
  | (.string bytes, d) => bytes.length + uptoBulk d + 1
  | (_, d) => uptoBulk d + 1
 end
def uptoSmall : (H : Type) → List (DataW H) → Bool := fun _ ds => decide (uptoBulkAll ds ≤ 1048576)
def OpenSpec.upto (s : _root_.Go.ChangeSpec) : _root_.Go.OpenSpec := { _root_.Go.OpenSpec.ofChange s with cond := some uptoSmall }

/-- 'laws.FnExactIsProfile', WHERE WHAT IT READS IS OF BULK AT MOST 1048576: true; the input reads as it did. -/
def fnExactIsProfileUptoRow : OpenClaim := { program := "ytidibjmckgbpbaa", sum := "85743c193f6bdf5624e43d3ba6cea6a877097ce3ca08e9aafa9a9eafbd8a82a7", func := "loop.example/g01049/laws.FnExactIsProfile", spec := "fnExactIsProfile", apart := false, narrowed := true }
def FnExactIsProfileUptoSaid : Prop := fnExactIsProfileUptoRow.holds Try.pinned (OpenSpec.upto fnExactIsProfileSpec)

/-- 'laws.FnExactWindAt', WHERE WHAT IT READS IS OF BULK AT MOST 1048576: true; the input reads as it did. -/
def fnExactWindAtUptoRow : OpenClaim := { program := "ytidibjmckgbpbaa", sum := "85743c193f6bdf5624e43d3ba6cea6a877097ce3ca08e9aafa9a9eafbd8a82a7", func := "loop.example/g01049/laws.FnExactWindAt", spec := "fnExactWindAt", apart := false, narrowed := true }
def FnExactWindAtUptoSaid : Prop := fnExactWindAtUptoRow.holds Try.pinned (OpenSpec.upto fnExactWindAtSpec)

/-- 'laws.FnExactWidestWind', WHERE WHAT IT READS IS OF BULK AT MOST 1048576: true; the input reads as it did. -/
def fnExactWidestWindUptoRow : OpenClaim := { program := "ytidibjmckgbpbaa", sum := "85743c193f6bdf5624e43d3ba6cea6a877097ce3ca08e9aafa9a9eafbd8a82a7", func := "loop.example/g01049/laws.FnExactWidestWind", spec := "fnExactWidestWind", apart := false, narrowed := true }
def FnExactWidestWindUptoSaid : Prop := fnExactWidestWindUptoRow.holds Try.pinned (OpenSpec.upto fnExactWidestWindSpec)

/-- 'laws.FnExactCommonWind', WHERE WHAT IT READS IS OF BULK AT MOST 1048576: true; the input reads as it did. -/
def fnExactCommonWindUptoRow : OpenClaim := { program := "ytidibjmckgbpbaa", sum := "85743c193f6bdf5624e43d3ba6cea6a877097ce3ca08e9aafa9a9eafbd8a82a7", func := "loop.example/g01049/laws.FnExactCommonWind", spec := "fnExactCommonWind", apart := false, narrowed := true }
def FnExactCommonWindUptoSaid : Prop := fnExactCommonWindUptoRow.holds Try.pinned (OpenSpec.upto fnExactCommonWindSpec)

/-- 'laws.FnExactIsCalm', WHERE WHAT IT READS IS OF BULK AT MOST 1048576: true; the input reads as it did. -/
def fnExactIsCalmUptoRow : OpenClaim := { program := "ytidibjmckgbpbaa", sum := "85743c193f6bdf5624e43d3ba6cea6a877097ce3ca08e9aafa9a9eafbd8a82a7", func := "loop.example/g01049/laws.FnExactIsCalm", spec := "fnExactIsCalm", apart := false, narrowed := true }
def FnExactIsCalmUptoSaid : Prop := fnExactIsCalmUptoRow.holds Try.pinned (OpenSpec.upto fnExactIsCalmSpec)

/-- 'laws.FnExactJoinProfiles', WHERE WHAT IT READS IS OF BULK AT MOST 1048576: true; the input reads as it did. -/
def fnExactJoinProfilesUptoRow : OpenClaim := { program := "ytidibjmckgbpbaa", sum := "85743c193f6bdf5624e43d3ba6cea6a877097ce3ca08e9aafa9a9eafbd8a82a7", func := "loop.example/g01049/laws.FnExactJoinProfiles", spec := "fnExactJoinProfiles", apart := false, narrowed := true }
def FnExactJoinProfilesUptoSaid : Prop := fnExactJoinProfilesUptoRow.holds Try.pinned (OpenSpec.upto fnExactJoinProfilesSpec)

/-- 'laws.FnExactFirstGust', WHERE WHAT IT READS IS OF BULK AT MOST 1048576: true; the input reads as it did. -/
def fnExactFirstGustUptoRow : OpenClaim := { program := "ytidibjmckgbpbaa", sum := "85743c193f6bdf5624e43d3ba6cea6a877097ce3ca08e9aafa9a9eafbd8a82a7", func := "loop.example/g01049/laws.FnExactFirstGust", spec := "fnExactFirstGust", apart := false, narrowed := true }
def FnExactFirstGustUptoSaid : Prop := fnExactFirstGustUptoRow.holds Try.pinned (OpenSpec.upto fnExactFirstGustSpec)

/-- 'laws.FnExactWidenWind', WHERE WHAT IT READS IS OF BULK AT MOST 1048576: true; the input reads as it did. -/
def fnExactWidenWindUptoRow : OpenClaim := { program := "ytidibjmckgbpbaa", sum := "85743c193f6bdf5624e43d3ba6cea6a877097ce3ca08e9aafa9a9eafbd8a82a7", func := "loop.example/g01049/laws.FnExactWidenWind", spec := "fnExactWidenWind", apart := false, narrowed := true }
def FnExactWidenWindUptoSaid : Prop := fnExactWidenWindUptoRow.holds Try.pinned (OpenSpec.upto fnExactWidenWindSpec)

/-- 'laws.FnProfiles', WHERE WHAT IT READS IS OF BULK AT MOST 1048576: true; the input reads as it did. -/
def fnProfilesUptoRow : OpenClaim := { program := "ytidibjmckgbpbaa", sum := "85743c193f6bdf5624e43d3ba6cea6a877097ce3ca08e9aafa9a9eafbd8a82a7", func := "loop.example/g01049/laws.FnProfiles", spec := "fnProfiles", apart := false, narrowed := true }
def FnProfilesUptoSaid : Prop := fnProfilesUptoRow.holds Try.pinned (OpenSpec.upto fnProfilesSpec)

/-- 'laws.FnGusts', WHERE WHAT IT READS IS OF BULK AT MOST 1048576: true; the input reads as it did. -/
def fnGustsUptoRow : OpenClaim := { program := "ytidibjmckgbpbaa", sum := "85743c193f6bdf5624e43d3ba6cea6a877097ce3ca08e9aafa9a9eafbd8a82a7", func := "loop.example/g01049/laws.FnGusts", spec := "fnGusts", apart := false, narrowed := true }
def FnGustsUptoSaid : Prop := fnGustsUptoRow.holds Try.pinned (OpenSpec.upto fnGustsSpec)

/-- 'laws.FnWinds', WHERE WHAT IT READS IS OF BULK AT MOST 1048576: true; the input reads as it did. -/
def fnWindsUptoRow : OpenClaim := { program := "ytidibjmckgbpbaa", sum := "85743c193f6bdf5624e43d3ba6cea6a877097ce3ca08e9aafa9a9eafbd8a82a7", func := "loop.example/g01049/laws.FnWinds", spec := "fnWinds", apart := false, narrowed := true }
def FnWindsUptoSaid : Prop := fnWindsUptoRow.holds Try.pinned (OpenSpec.upto fnWindsSpec)

end Rows
end Go.Proofs.Ytidibjmckgbpbaa
