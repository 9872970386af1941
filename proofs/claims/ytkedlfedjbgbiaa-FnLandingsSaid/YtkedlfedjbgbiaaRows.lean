/-
  No cell of these rows narrows 'for every input' (looked for: loops, veiled, ifaces, maps, wideKeys, modest, calm, conditions, laid).
  DERIVED. THE GIVEN ROWS OF THIS SEAT. 14 by the template 'for every input the law returns true; each argument reads behind the call as it read before'; 0 by the template 'total and deterministic' (their statements: YtkedlfedjbgbiaaTotals.lean).
  GIVEN WITH THE SEED: the statements are not yours to turn. If you find one false, say at which input.
  Laid BY PROGRAM, IN A SANDBOX (cutbox-rows.mjs): the forced cells as the released guide's own fill.sh prints them over the translation 5afdb90292153aaf… (all of the seat's roots in one cut). By AI agents, Wed Nov 11 2026. No macro, syntax, notation, axiom, sorry.
-/
import Derived.Test.YtkedlfedjbgbiaaChecked
import GoSem.Claim
import GoSem.ClaimJoined
import GoSem.ClaimMapViews
import Derived.JoinedTies
import Derived.KernelRfl
namespace Go.Proofs.Ytkedlfedjbgbiaa
/- THE CELL 'sum', in the pinned program and in every row, IS THE sha256 OF THE DUMP (.gsa) THAT YtkedlfedjbgbiaaProg.lean LOADS. Nothing in Lean hashes anything: it is a label: what it is worth is what the hold of that sum in a sandbox is worth. -/
noncomputable def Try.pinned : Pinned := { name := "ytkedlfedjbgbiaa", sum := "5afdb90292153aaf06b3a36ae60011319574115604150ec5e5a2e5b8ecd67757", checked := Try.checked }
namespace Rows
def none {H : Type} : Left H := { results := [], args := [] }

/-- 'laws.FnExactIsShot': WHATEVER THE INPUT: true; the input reads as it did. -/
def fnExactIsShotSpec : ChangeSpec := { name := "fnExactIsShot", fn := fun _ => fun
  | [d] => { results := [.lit (.bool true)], args := [d] }
  | _ => none }
def fnExactIsShotRow : OpenClaim := { program := "ytkedlfedjbgbiaa", sum := "5afdb90292153aaf06b3a36ae60011319574115604150ec5e5a2e5b8ecd67757", func := "loop.example/g01049/laws.FnExactIsShot", spec := "fnExactIsShot", apart := false }
def FnExactIsShotSaid : Prop := fnExactIsShotRow.holds Try.pinned (OpenSpec.ofChange fnExactIsShotSpec)

/-- ITS FALSE NEIGHBOUR: 'it returns false'. Refute it at one input. -/
def fnExactIsShotWrong : ChangeSpec := { name := "fnExactIsShot", fn := fun _ => fun
  | [d] => { results := [.lit (.bool false)], args := [d] }
  | _ => none }
def FnExactIsShotWrongFalsely : Prop := fnExactIsShotRow.holds Try.pinned (OpenSpec.ofChange fnExactIsShotWrong)

/-- 'laws.FnExactDriftAt': WHATEVER THE INPUT: true; the input reads as it did. -/
def fnExactDriftAtSpec : ChangeSpec := { name := "fnExactDriftAt", fn := fun _ => fun
  | [d1, d2, d3] => { results := [.lit (.bool true)], args := [d1, d2, d3] }
  | _ => none }
def fnExactDriftAtRow : OpenClaim := { program := "ytkedlfedjbgbiaa", sum := "5afdb90292153aaf06b3a36ae60011319574115604150ec5e5a2e5b8ecd67757", func := "loop.example/g01049/laws.FnExactDriftAt", spec := "fnExactDriftAt", apart := false }
def FnExactDriftAtSaid : Prop := fnExactDriftAtRow.holds Try.pinned (OpenSpec.ofChange fnExactDriftAtSpec)

/-- ITS FALSE NEIGHBOUR: 'it returns false'. Refute it at one input. -/
def fnExactDriftAtWrong : ChangeSpec := { name := "fnExactDriftAt", fn := fun _ => fun
  | [d1, d2, d3] => { results := [.lit (.bool false)], args := [d1, d2, d3] }
  | _ => none }
def FnExactDriftAtWrongFalsely : Prop := fnExactDriftAtRow.holds Try.pinned (OpenSpec.ofChange fnExactDriftAtWrong)

/-- 'laws.FnExactHeightAt': WHATEVER THE INPUT: true; the input reads as it did. -/
def fnExactHeightAtSpec : ChangeSpec := { name := "fnExactHeightAt", fn := fun _ => fun
  | [d1, d2] => { results := [.lit (.bool true)], args := [d1, d2] }
  | _ => none }
def fnExactHeightAtRow : OpenClaim := { program := "ytkedlfedjbgbiaa", sum := "5afdb90292153aaf06b3a36ae60011319574115604150ec5e5a2e5b8ecd67757", func := "loop.example/g01049/laws.FnExactHeightAt", spec := "fnExactHeightAt", apart := false }
def FnExactHeightAtSaid : Prop := fnExactHeightAtRow.holds Try.pinned (OpenSpec.ofChange fnExactHeightAtSpec)

/-- ITS FALSE NEIGHBOUR: 'it returns false'. Refute it at one input. -/
def fnExactHeightAtWrong : ChangeSpec := { name := "fnExactHeightAt", fn := fun _ => fun
  | [d1, d2] => { results := [.lit (.bool false)], args := [d1, d2] }
  | _ => none }
def FnExactHeightAtWrongFalsely : Prop := fnExactHeightAtRow.holds Try.pinned (OpenSpec.ofChange fnExactHeightAtWrong)

/-- 'laws.FnExactDriftRange': WHATEVER THE INPUT: true; the input reads as it did. -/
def fnExactDriftRangeSpec : ChangeSpec := { name := "fnExactDriftRange", fn := fun _ => fun
  | [d1, d2, d3, d4] => { results := [.lit (.bool true)], args := [d1, d2, d3, d4] }
  | _ => none }
def fnExactDriftRangeRow : OpenClaim := { program := "ytkedlfedjbgbiaa", sum := "5afdb90292153aaf06b3a36ae60011319574115604150ec5e5a2e5b8ecd67757", func := "loop.example/g01049/laws.FnExactDriftRange", spec := "fnExactDriftRange", apart := false }
def FnExactDriftRangeSaid : Prop := fnExactDriftRangeRow.holds Try.pinned (OpenSpec.ofChange fnExactDriftRangeSpec)

/-- ITS FALSE NEIGHBOUR: 'it returns false'. Refute it at one input. -/
def fnExactDriftRangeWrong : ChangeSpec := { name := "fnExactDriftRange", fn := fun _ => fun
  | [d1, d2, d3, d4] => { results := [.lit (.bool false)], args := [d1, d2, d3, d4] }
  | _ => none }
def FnExactDriftRangeWrongFalsely : Prop := fnExactDriftRangeRow.holds Try.pinned (OpenSpec.ofChange fnExactDriftRangeWrong)

/-- 'laws.FnExactTopOf': WHATEVER THE INPUT: true; the input reads as it did. -/
def fnExactTopOfSpec : ChangeSpec := { name := "fnExactTopOf", fn := fun _ => fun
  | [d] => { results := [.lit (.bool true)], args := [d] }
  | _ => none }
def fnExactTopOfRow : OpenClaim := { program := "ytkedlfedjbgbiaa", sum := "5afdb90292153aaf06b3a36ae60011319574115604150ec5e5a2e5b8ecd67757", func := "loop.example/g01049/laws.FnExactTopOf", spec := "fnExactTopOf", apart := false }
def FnExactTopOfSaid : Prop := fnExactTopOfRow.holds Try.pinned (OpenSpec.ofChange fnExactTopOfSpec)

/-- ITS FALSE NEIGHBOUR: 'it returns false'. Refute it at one input. -/
def fnExactTopOfWrong : ChangeSpec := { name := "fnExactTopOf", fn := fun _ => fun
  | [d] => { results := [.lit (.bool false)], args := [d] }
  | _ => none }
def FnExactTopOfWrongFalsely : Prop := fnExactTopOfRow.holds Try.pinned (OpenSpec.ofChange fnExactTopOfWrong)

/-- 'laws.FnExactUpForTop': WHATEVER THE INPUT: true; the input reads as it did. -/
def fnExactUpForTopSpec : ChangeSpec := { name := "fnExactUpForTop", fn := fun _ => fun
  | [d] => { results := [.lit (.bool true)], args := [d] }
  | _ => none }
def fnExactUpForTopRow : OpenClaim := { program := "ytkedlfedjbgbiaa", sum := "5afdb90292153aaf06b3a36ae60011319574115604150ec5e5a2e5b8ecd67757", func := "loop.example/g01049/laws.FnExactUpForTop", spec := "fnExactUpForTop", apart := false }
def FnExactUpForTopSaid : Prop := fnExactUpForTopRow.holds Try.pinned (OpenSpec.ofChange fnExactUpForTopSpec)

/-- ITS FALSE NEIGHBOUR: 'it returns false'. Refute it at one input. -/
def fnExactUpForTopWrong : ChangeSpec := { name := "fnExactUpForTop", fn := fun _ => fun
  | [d] => { results := [.lit (.bool false)], args := [d] }
  | _ => none }
def FnExactUpForTopWrongFalsely : Prop := fnExactUpForTopRow.holds Try.pinned (OpenSpec.ofChange fnExactUpForTopWrong)

/-- 'laws.FnExactFlightOf': WHATEVER THE INPUT: true; the input reads as it did. -/
def fnExactFlightOfSpec : ChangeSpec := { name := "fnExactFlightOf", fn := fun _ => fun
  | [d] => { results := [.lit (.bool true)], args := [d] }
  | _ => none }
def fnExactFlightOfRow : OpenClaim := { program := "ytkedlfedjbgbiaa", sum := "5afdb90292153aaf06b3a36ae60011319574115604150ec5e5a2e5b8ecd67757", func := "loop.example/g01049/laws.FnExactFlightOf", spec := "fnExactFlightOf", apart := false }
def FnExactFlightOfSaid : Prop := fnExactFlightOfRow.holds Try.pinned (OpenSpec.ofChange fnExactFlightOfSpec)

/-- ITS FALSE NEIGHBOUR: 'it returns false'. Refute it at one input. -/
def fnExactFlightOfWrong : ChangeSpec := { name := "fnExactFlightOf", fn := fun _ => fun
  | [d] => { results := [.lit (.bool false)], args := [d] }
  | _ => none }
def FnExactFlightOfWrongFalsely : Prop := fnExactFlightOfRow.holds Try.pinned (OpenSpec.ofChange fnExactFlightOfWrong)

/-- 'laws.FnExactLandingRange': WHATEVER THE INPUT: true; the input reads as it did. -/
def fnExactLandingRangeSpec : ChangeSpec := { name := "fnExactLandingRange", fn := fun _ => fun
  | [d1, d2, d3, d4] => { results := [.lit (.bool true)], args := [d1, d2, d3, d4] }
  | _ => none }
def fnExactLandingRangeRow : OpenClaim := { program := "ytkedlfedjbgbiaa", sum := "5afdb90292153aaf06b3a36ae60011319574115604150ec5e5a2e5b8ecd67757", func := "loop.example/g01049/laws.FnExactLandingRange", spec := "fnExactLandingRange", apart := false }
def FnExactLandingRangeSaid : Prop := fnExactLandingRangeRow.holds Try.pinned (OpenSpec.ofChange fnExactLandingRangeSpec)

/-- ITS FALSE NEIGHBOUR: 'it returns false'. Refute it at one input. -/
def fnExactLandingRangeWrong : ChangeSpec := { name := "fnExactLandingRange", fn := fun _ => fun
  | [d1, d2, d3, d4] => { results := [.lit (.bool false)], args := [d1, d2, d3, d4] }
  | _ => none }
def FnExactLandingRangeWrongFalsely : Prop := fnExactLandingRangeRow.holds Try.pinned (OpenSpec.ofChange fnExactLandingRangeWrong)

/-- 'laws.FnExactDebrisTime': WHATEVER THE INPUT: true; the input reads as it did. -/
def fnExactDebrisTimeSpec : ChangeSpec := { name := "fnExactDebrisTime", fn := fun _ => fun
  | [d] => { results := [.lit (.bool true)], args := [d] }
  | _ => none }
def fnExactDebrisTimeRow : OpenClaim := { program := "ytkedlfedjbgbiaa", sum := "5afdb90292153aaf06b3a36ae60011319574115604150ec5e5a2e5b8ecd67757", func := "loop.example/g01049/laws.FnExactDebrisTime", spec := "fnExactDebrisTime", apart := false }
def FnExactDebrisTimeSaid : Prop := fnExactDebrisTimeRow.holds Try.pinned (OpenSpec.ofChange fnExactDebrisTimeSpec)

/-- ITS FALSE NEIGHBOUR: 'it returns false'. Refute it at one input. -/
def fnExactDebrisTimeWrong : ChangeSpec := { name := "fnExactDebrisTime", fn := fun _ => fun
  | [d] => { results := [.lit (.bool false)], args := [d] }
  | _ => none }
def FnExactDebrisTimeWrongFalsely : Prop := fnExactDebrisTimeRow.holds Try.pinned (OpenSpec.ofChange fnExactDebrisTimeWrong)

/-- 'laws.FnTops': WHATEVER THE INPUT: true; the input reads as it did. -/
def fnTopsSpec : ChangeSpec := { name := "fnTops", fn := fun _ => fun
  | [d] => { results := [.lit (.bool true)], args := [d] }
  | _ => none }
def fnTopsRow : OpenClaim := { program := "ytkedlfedjbgbiaa", sum := "5afdb90292153aaf06b3a36ae60011319574115604150ec5e5a2e5b8ecd67757", func := "loop.example/g01049/laws.FnTops", spec := "fnTops", apart := false }
def FnTopsSaid : Prop := fnTopsRow.holds Try.pinned (OpenSpec.ofChange fnTopsSpec)

/-- ITS FALSE NEIGHBOUR: 'it returns false'. Refute it at one input. -/
def fnTopsWrong : ChangeSpec := { name := "fnTops", fn := fun _ => fun
  | [d] => { results := [.lit (.bool false)], args := [d] }
  | _ => none }
def FnTopsWrongFalsely : Prop := fnTopsRow.holds Try.pinned (OpenSpec.ofChange fnTopsWrong)

/-- 'laws.FnExactSideFor': WHATEVER THE INPUT: true; the input reads as it did. -/
def fnExactSideForSpec : ChangeSpec := { name := "fnExactSideFor", fn := fun _ => fun
  | [d1, d2, d3, d4] => { results := [.lit (.bool true)], args := [d1, d2, d3, d4] }
  | _ => none }
def fnExactSideForRow : OpenClaim := { program := "ytkedlfedjbgbiaa", sum := "5afdb90292153aaf06b3a36ae60011319574115604150ec5e5a2e5b8ecd67757", func := "loop.example/g01049/laws.FnExactSideFor", spec := "fnExactSideFor", apart := false }
def FnExactSideForSaid : Prop := fnExactSideForRow.holds Try.pinned (OpenSpec.ofChange fnExactSideForSpec)

/-- ITS FALSE NEIGHBOUR: 'it returns false'. Refute it at one input. -/
def fnExactSideForWrong : ChangeSpec := { name := "fnExactSideFor", fn := fun _ => fun
  | [d1, d2, d3, d4] => { results := [.lit (.bool false)], args := [d1, d2, d3, d4] }
  | _ => none }
def FnExactSideForWrongFalsely : Prop := fnExactSideForRow.holds Try.pinned (OpenSpec.ofChange fnExactSideForWrong)

/-- 'laws.FnFlights': WHATEVER THE INPUT: true; the input reads as it did. -/
def fnFlightsSpec : ChangeSpec := { name := "fnFlights", fn := fun _ => fun
  | [d] => { results := [.lit (.bool true)], args := [d] }
  | _ => none }
def fnFlightsRow : OpenClaim := { program := "ytkedlfedjbgbiaa", sum := "5afdb90292153aaf06b3a36ae60011319574115604150ec5e5a2e5b8ecd67757", func := "loop.example/g01049/laws.FnFlights", spec := "fnFlights", apart := false }
def FnFlightsSaid : Prop := fnFlightsRow.holds Try.pinned (OpenSpec.ofChange fnFlightsSpec)

/-- ITS FALSE NEIGHBOUR: 'it returns false'. Refute it at one input. -/
def fnFlightsWrong : ChangeSpec := { name := "fnFlights", fn := fun _ => fun
  | [d] => { results := [.lit (.bool false)], args := [d] }
  | _ => none }
def FnFlightsWrongFalsely : Prop := fnFlightsRow.holds Try.pinned (OpenSpec.ofChange fnFlightsWrong)

/-- 'laws.FnDrifts': WHATEVER THE INPUT: true; the input reads as it did. -/
def fnDriftsSpec : ChangeSpec := { name := "fnDrifts", fn := fun _ => fun
  | [d] => { results := [.lit (.bool true)], args := [d] }
  | _ => none }
def fnDriftsRow : OpenClaim := { program := "ytkedlfedjbgbiaa", sum := "5afdb90292153aaf06b3a36ae60011319574115604150ec5e5a2e5b8ecd67757", func := "loop.example/g01049/laws.FnDrifts", spec := "fnDrifts", apart := false }
def FnDriftsSaid : Prop := fnDriftsRow.holds Try.pinned (OpenSpec.ofChange fnDriftsSpec)

/-- ITS FALSE NEIGHBOUR: 'it returns false'. Refute it at one input. -/
def fnDriftsWrong : ChangeSpec := { name := "fnDrifts", fn := fun _ => fun
  | [d] => { results := [.lit (.bool false)], args := [d] }
  | _ => none }
def FnDriftsWrongFalsely : Prop := fnDriftsRow.holds Try.pinned (OpenSpec.ofChange fnDriftsWrong)

/-- 'laws.FnLandings': WHATEVER THE INPUT: true; the input reads as it did. -/
def fnLandingsSpec : ChangeSpec := { name := "fnLandings", fn := fun _ => fun
  | [d] => { results := [.lit (.bool true)], args := [d] }
  | _ => none }
def fnLandingsRow : OpenClaim := { program := "ytkedlfedjbgbiaa", sum := "5afdb90292153aaf06b3a36ae60011319574115604150ec5e5a2e5b8ecd67757", func := "loop.example/g01049/laws.FnLandings", spec := "fnLandings", apart := false }
def FnLandingsSaid : Prop := fnLandingsRow.holds Try.pinned (OpenSpec.ofChange fnLandingsSpec)

/-- ITS FALSE NEIGHBOUR: 'it returns false'. Refute it at one input. -/
def fnLandingsWrong : ChangeSpec := { name := "fnLandings", fn := fun _ => fun
  | [d] => { results := [.lit (.bool false)], args := [d] }
  | _ => none }
def FnLandingsWrongFalsely : Prop := fnLandingsRow.holds Try.pinned (OpenSpec.ofChange fnLandingsWrong)

/- THE SECOND FORM. 'bulk': how many values and letters a reading holds, each counted each time it is reached (what is shared counts as often as it is met; a slice's spare places count too). A statement '..UptoSaid' is the law's where the arguments, and the package variables that the reading takes, are together of bulk at most 1048576: NARROWER than '..Said'. Prove '..Said' where nothing that the law and all that it calls make is longer than what came in: it says more and counts as full. Else prove '..UptoSaid'. A law counts once. -/
mutual
def uptoBulk {H : Type} : DataW H → Nat
  | .lit (.string bytes) => bytes.length + 1
  | .lit _ => 1
  | .nil => 1
  | .ptr d => uptoBulk d + 1
  | .slice elems spare => uptoBulkAll elems + uptoBulkAll spare + 1
  | .agg parts => uptoBulkAll parts + 1
  | .iface _ d => uptoBulk d + 1
  | .map entries => uptoBulkEntries entries + 1
  | .held _ => 1
def uptoBulkAll {H : Type} : List (DataW H) → Nat
  | [] => 0
  | d :: r => uptoBulk d + uptoBulkAll r
def uptoBulkEntries {H : Type} : List (Lit × DataW H) → Nat
  | [] => 0
  | x :: r => uptoBulkEntry x + uptoBulkEntries r
def uptoBulkEntry {H : Type} : Lit × DataW H → Nat
  | (.string bytes, d) => bytes.length + uptoBulk d + 1
  | (_, d) => uptoBulk d + 1
 end
def uptoSmall : (H : Type) → List (DataW H) → Bool := fun _ ds => decide (uptoBulkAll ds ≤ 1048576)
def OpenSpec.upto (s : _root_.Go.ChangeSpec) : _root_.Go.OpenSpec := { _root_.Go.OpenSpec.ofChange s with cond := some uptoSmall }

/-- 'laws.FnExactIsShot', WHERE WHAT IT READS IS OF BULK AT MOST 1048576: true; the input reads as it did. -/
def fnExactIsShotUptoRow : OpenClaim := { program := "ytkedlfedjbgbiaa", sum := "5afdb90292153aaf06b3a36ae60011319574115604150ec5e5a2e5b8ecd67757", func := "loop.example/g01049/laws.FnExactIsShot", spec := "fnExactIsShot", apart := false, narrowed := true }
def FnExactIsShotUptoSaid : Prop := fnExactIsShotUptoRow.holds Try.pinned (OpenSpec.upto fnExactIsShotSpec)

/-- 'laws.FnExactDriftAt', WHERE WHAT IT READS IS OF BULK AT MOST 1048576: true; the input reads as it did. -/
def fnExactDriftAtUptoRow : OpenClaim := { program := "ytkedlfedjbgbiaa", sum := "5afdb90292153aaf06b3a36ae60011319574115604150ec5e5a2e5b8ecd67757", func := "loop.example/g01049/laws.FnExactDriftAt", spec := "fnExactDriftAt", apart := false, narrowed := true }
def FnExactDriftAtUptoSaid : Prop := fnExactDriftAtUptoRow.holds Try.pinned (OpenSpec.upto fnExactDriftAtSpec)

/-- 'laws.FnExactHeightAt', WHERE WHAT IT READS IS OF BULK AT MOST 1048576: true; the input reads as it did. -/
def fnExactHeightAtUptoRow : OpenClaim := { program := "ytkedlfedjbgbiaa", sum := "5afdb90292153aaf06b3a36ae60011319574115604150ec5e5a2e5b8ecd67757", func := "loop.example/g01049/laws.FnExactHeightAt", spec := "fnExactHeightAt", apart := false, narrowed := true }
def FnExactHeightAtUptoSaid : Prop := fnExactHeightAtUptoRow.holds Try.pinned (OpenSpec.upto fnExactHeightAtSpec)

/-- 'laws.FnExactDriftRange', WHERE WHAT IT READS IS OF BULK AT MOST 1048576: true; the input reads as it did. -/
def fnExactDriftRangeUptoRow : OpenClaim := { program := "ytkedlfedjbgbiaa", sum := "5afdb90292153aaf06b3a36ae60011319574115604150ec5e5a2e5b8ecd67757", func := "loop.example/g01049/laws.FnExactDriftRange", spec := "fnExactDriftRange", apart := false, narrowed := true }
def FnExactDriftRangeUptoSaid : Prop := fnExactDriftRangeUptoRow.holds Try.pinned (OpenSpec.upto fnExactDriftRangeSpec)

/-- 'laws.FnExactTopOf', WHERE WHAT IT READS IS OF BULK AT MOST 1048576: true; the input reads as it did. -/
def fnExactTopOfUptoRow : OpenClaim := { program := "ytkedlfedjbgbiaa", sum := "5afdb90292153aaf06b3a36ae60011319574115604150ec5e5a2e5b8ecd67757", func := "loop.example/g01049/laws.FnExactTopOf", spec := "fnExactTopOf", apart := false, narrowed := true }
def FnExactTopOfUptoSaid : Prop := fnExactTopOfUptoRow.holds Try.pinned (OpenSpec.upto fnExactTopOfSpec)

/-- 'laws.FnExactUpForTop', WHERE WHAT IT READS IS OF BULK AT MOST 1048576: true; the input reads as it did. -/
def fnExactUpForTopUptoRow : OpenClaim := { program := "ytkedlfedjbgbiaa", sum := "5afdb90292153aaf06b3a36ae60011319574115604150ec5e5a2e5b8ecd67757", func := "loop.example/g01049/laws.FnExactUpForTop", spec := "fnExactUpForTop", apart := false, narrowed := true }
def FnExactUpForTopUptoSaid : Prop := fnExactUpForTopUptoRow.holds Try.pinned (OpenSpec.upto fnExactUpForTopSpec)

/-- 'laws.FnExactFlightOf', WHERE WHAT IT READS IS OF BULK AT MOST 1048576: true; the input reads as it did. -/
def fnExactFlightOfUptoRow : OpenClaim := { program := "ytkedlfedjbgbiaa", sum := "5afdb90292153aaf06b3a36ae60011319574115604150ec5e5a2e5b8ecd67757", func := "loop.example/g01049/laws.FnExactFlightOf", spec := "fnExactFlightOf", apart := false, narrowed := true }
def FnExactFlightOfUptoSaid : Prop := fnExactFlightOfUptoRow.holds Try.pinned (OpenSpec.upto fnExactFlightOfSpec)

/-- 'laws.FnExactLandingRange', WHERE WHAT IT READS IS OF BULK AT MOST 1048576: true; the input reads as it did. -/
def fnExactLandingRangeUptoRow : OpenClaim := { program := "ytkedlfedjbgbiaa", sum := "5afdb90292153aaf06b3a36ae60011319574115604150ec5e5a2e5b8ecd67757", func := "loop.example/g01049/laws.FnExactLandingRange", spec := "fnExactLandingRange", apart := false, narrowed := true }
def FnExactLandingRangeUptoSaid : Prop := fnExactLandingRangeUptoRow.holds Try.pinned (OpenSpec.upto fnExactLandingRangeSpec)

/-- 'laws.FnExactDebrisTime', WHERE WHAT IT READS IS OF BULK AT MOST 1048576: true; the input reads as it did. -/
def fnExactDebrisTimeUptoRow : OpenClaim := { program := "ytkedlfedjbgbiaa", sum := "5afdb90292153aaf06b3a36ae60011319574115604150ec5e5a2e5b8ecd67757", func := "loop.example/g01049/laws.FnExactDebrisTime", spec := "fnExactDebrisTime", apart := false, narrowed := true }
def FnExactDebrisTimeUptoSaid : Prop := fnExactDebrisTimeUptoRow.holds Try.pinned (OpenSpec.upto fnExactDebrisTimeSpec)

/-- 'laws.FnTops', WHERE WHAT IT READS IS OF BULK AT MOST 1048576: true; the input reads as it did. -/
def fnTopsUptoRow : OpenClaim := { program := "ytkedlfedjbgbiaa", sum := "5afdb90292153aaf06b3a36ae60011319574115604150ec5e5a2e5b8ecd67757", func := "loop.example/g01049/laws.FnTops", spec := "fnTops", apart := false, narrowed := true }
def FnTopsUptoSaid : Prop := fnTopsUptoRow.holds Try.pinned (OpenSpec.upto fnTopsSpec)

/-- 'laws.FnExactSideFor', WHERE WHAT IT READS IS OF BULK AT MOST 1048576: true; the input reads as it did. -/
def fnExactSideForUptoRow : OpenClaim := { program := "ytkedlfedjbgbiaa", sum := "5afdb90292153aaf06b3a36ae60011319574115604150ec5e5a2e5b8ecd67757", func := "loop.example/g01049/laws.FnExactSideFor", spec := "fnExactSideFor", apart := false, narrowed := true }
def FnExactSideForUptoSaid : Prop := fnExactSideForUptoRow.holds Try.pinned (OpenSpec.upto fnExactSideForSpec)

/-- 'laws.FnFlights', WHERE WHAT IT READS IS OF BULK AT MOST 1048576: true; the input reads as it did. -/
def fnFlightsUptoRow : OpenClaim := { program := "ytkedlfedjbgbiaa", sum := "5afdb90292153aaf06b3a36ae60011319574115604150ec5e5a2e5b8ecd67757", func := "loop.example/g01049/laws.FnFlights", spec := "fnFlights", apart := false, narrowed := true }
def FnFlightsUptoSaid : Prop := fnFlightsUptoRow.holds Try.pinned (OpenSpec.upto fnFlightsSpec)

/-- 'laws.FnDrifts', WHERE WHAT IT READS IS OF BULK AT MOST 1048576: true; the input reads as it did. -/
def fnDriftsUptoRow : OpenClaim := { program := "ytkedlfedjbgbiaa", sum := "5afdb90292153aaf06b3a36ae60011319574115604150ec5e5a2e5b8ecd67757", func := "loop.example/g01049/laws.FnDrifts", spec := "fnDrifts", apart := false, narrowed := true }
def FnDriftsUptoSaid : Prop := fnDriftsUptoRow.holds Try.pinned (OpenSpec.upto fnDriftsSpec)

/-- 'laws.FnLandings', WHERE WHAT IT READS IS OF BULK AT MOST 1048576: true; the input reads as it did. -/
def fnLandingsUptoRow : OpenClaim := { program := "ytkedlfedjbgbiaa", sum := "5afdb90292153aaf06b3a36ae60011319574115604150ec5e5a2e5b8ecd67757", func := "loop.example/g01049/laws.FnLandings", spec := "fnLandings", apart := false, narrowed := true }
def FnLandingsUptoSaid : Prop := fnLandingsUptoRow.holds Try.pinned (OpenSpec.upto fnLandingsSpec)

end Rows
end Go.Proofs.Ytkedlfedjbgbiaa
