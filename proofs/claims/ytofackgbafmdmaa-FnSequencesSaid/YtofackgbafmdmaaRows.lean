/-
  No cell of these rows narrows 'for every input' (looked for: loops, veiled, ifaces, maps, wideKeys, modest, calm, conditions, laid).
  DERIVED. THE GIVEN ROWS OF THIS SEAT. 11 by the template 'for every input the law returns true; each argument reads behind the call as it read before'; 0 by the template 'total and deterministic' (their statements: YtofackgbafmdmaaTotals.lean).
  GIVEN WITH THE SEED: the statements are not yours to turn. If you find one false, say at which input.
  Laid BY PROGRAM, IN A SANDBOX (cutbox-rows.mjs): the forced cells as the released guide's own fill.sh prints them over the translation 79b93c488a591844… (all of the seat's roots in one cut). By AI agents, Wed Nov 11 2026. No macro, syntax, notation, axiom, sorry.
-/
import Derived.Test.YtofackgbafmdmaaChecked
import GoSem.Claim
import GoSem.ClaimJoined
import GoSem.ClaimMapViews
import Derived.JoinedTies
import Derived.KernelRfl
namespace Go.Proofs.Ytofackgbafmdmaa
/- THE CELL 'sum', in the pinned program and in every row, IS THE sha256 OF THE DUMP (.gsa) THAT YtofackgbafmdmaaProg.lean LOADS. Nothing in Lean hashes anything: it is a label: what it is worth is what the hold of that sum in a sandbox is worth. -/
noncomputable def Try.pinned : Pinned := { name := "ytofackgbafmdmaa", sum := "79b93c488a591844d3e8efe5da2d54ce5f1b7220c8c59ea7bdb72c1ffd51f8f7", checked := Try.checked }
namespace Rows
def none {H : Type} : Left H := { results := [], args := [] }

/-- 'laws.FnExactGapBehind': WHATEVER THE INPUT: true; the input reads as it did. -/
def fnExactGapBehindSpec : ChangeSpec := { name := "fnExactGapBehind", fn := fun _ => fun
  | [d1, d2] => { results := [.lit (.bool true)], args := [d1, d2] }
  | _ => none }
def fnExactGapBehindRow : OpenClaim := { program := "ytofackgbafmdmaa", sum := "79b93c488a591844d3e8efe5da2d54ce5f1b7220c8c59ea7bdb72c1ffd51f8f7", func := "loop.example/g00875/laws.FnExactGapBehind", spec := "fnExactGapBehind", apart := false }
def FnExactGapBehindSaid : Prop := fnExactGapBehindRow.holds Try.pinned (OpenSpec.ofChange fnExactGapBehindSpec)

/-- ITS FALSE NEIGHBOUR: 'it returns false'. Refute it at one input. -/
def fnExactGapBehindWrong : ChangeSpec := { name := "fnExactGapBehind", fn := fun _ => fun
  | [d1, d2] => { results := [.lit (.bool false)], args := [d1, d2] }
  | _ => none }
def FnExactGapBehindWrongFalsely : Prop := fnExactGapBehindRow.holds Try.pinned (OpenSpec.ofChange fnExactGapBehindWrong)

/-- 'laws.FnExactIsValidArrivals': WHATEVER THE INPUT: true; the input reads as it did. -/
def fnExactIsValidArrivalsSpec : ChangeSpec := { name := "fnExactIsValidArrivals", fn := fun _ => fun
  | [d] => { results := [.lit (.bool true)], args := [d] }
  | _ => none }
def fnExactIsValidArrivalsRow : OpenClaim := { program := "ytofackgbafmdmaa", sum := "79b93c488a591844d3e8efe5da2d54ce5f1b7220c8c59ea7bdb72c1ffd51f8f7", func := "loop.example/g00875/laws.FnExactIsValidArrivals", spec := "fnExactIsValidArrivals", apart := false }
def FnExactIsValidArrivalsSaid : Prop := fnExactIsValidArrivalsRow.holds Try.pinned (OpenSpec.ofChange fnExactIsValidArrivalsSpec)

/-- ITS FALSE NEIGHBOUR: 'it returns false'. Refute it at one input. -/
def fnExactIsValidArrivalsWrong : ChangeSpec := { name := "fnExactIsValidArrivals", fn := fun _ => fun
  | [d] => { results := [.lit (.bool false)], args := [d] }
  | _ => none }
def FnExactIsValidArrivalsWrongFalsely : Prop := fnExactIsValidArrivalsRow.holds Try.pinned (OpenSpec.ofChange fnExactIsValidArrivalsWrong)

/-- 'laws.FnExactFirstComeSequence': WHATEVER THE INPUT: true; the input reads as it did. -/
def fnExactFirstComeSequenceSpec : ChangeSpec := { name := "fnExactFirstComeSequence", fn := fun _ => fun
  | [d] => { results := [.lit (.bool true)], args := [d] }
  | _ => none }
def fnExactFirstComeSequenceRow : OpenClaim := { program := "ytofackgbafmdmaa", sum := "79b93c488a591844d3e8efe5da2d54ce5f1b7220c8c59ea7bdb72c1ffd51f8f7", func := "loop.example/g00875/laws.FnExactFirstComeSequence", spec := "fnExactFirstComeSequence", apart := false }
def FnExactFirstComeSequenceSaid : Prop := fnExactFirstComeSequenceRow.holds Try.pinned (OpenSpec.ofChange fnExactFirstComeSequenceSpec)

/-- ITS FALSE NEIGHBOUR: 'it returns false'. Refute it at one input. -/
def fnExactFirstComeSequenceWrong : ChangeSpec := { name := "fnExactFirstComeSequence", fn := fun _ => fun
  | [d] => { results := [.lit (.bool false)], args := [d] }
  | _ => none }
def FnExactFirstComeSequenceWrongFalsely : Prop := fnExactFirstComeSequenceRow.holds Try.pinned (OpenSpec.ofChange fnExactFirstComeSequenceWrong)

/-- 'laws.FnExactLastLanding': WHATEVER THE INPUT: true; the input reads as it did. -/
def fnExactLastLandingSpec : ChangeSpec := { name := "fnExactLastLanding", fn := fun _ => fun
  | [d1, d2] => { results := [.lit (.bool true)], args := [d1, d2] }
  | _ => none }
def fnExactLastLandingRow : OpenClaim := { program := "ytofackgbafmdmaa", sum := "79b93c488a591844d3e8efe5da2d54ce5f1b7220c8c59ea7bdb72c1ffd51f8f7", func := "loop.example/g00875/laws.FnExactLastLanding", spec := "fnExactLastLanding", apart := false }
def FnExactLastLandingSaid : Prop := fnExactLastLandingRow.holds Try.pinned (OpenSpec.ofChange fnExactLastLandingSpec)

/-- ITS FALSE NEIGHBOUR: 'it returns false'. Refute it at one input. -/
def fnExactLastLandingWrong : ChangeSpec := { name := "fnExactLastLanding", fn := fun _ => fun
  | [d1, d2] => { results := [.lit (.bool false)], args := [d1, d2] }
  | _ => none }
def FnExactLastLandingWrongFalsely : Prop := fnExactLastLandingRow.holds Try.pinned (OpenSpec.ofChange fnExactLastLandingWrong)

/-- 'laws.FnExactTotalDelay': WHATEVER THE INPUT: true; the input reads as it did. -/
def fnExactTotalDelaySpec : ChangeSpec := { name := "fnExactTotalDelay", fn := fun _ => fun
  | [d1, d2] => { results := [.lit (.bool true)], args := [d1, d2] }
  | _ => none }
def fnExactTotalDelayRow : OpenClaim := { program := "ytofackgbafmdmaa", sum := "79b93c488a591844d3e8efe5da2d54ce5f1b7220c8c59ea7bdb72c1ffd51f8f7", func := "loop.example/g00875/laws.FnExactTotalDelay", spec := "fnExactTotalDelay", apart := false }
def FnExactTotalDelaySaid : Prop := fnExactTotalDelayRow.holds Try.pinned (OpenSpec.ofChange fnExactTotalDelaySpec)

/-- ITS FALSE NEIGHBOUR: 'it returns false'. Refute it at one input. -/
def fnExactTotalDelayWrong : ChangeSpec := { name := "fnExactTotalDelay", fn := fun _ => fun
  | [d1, d2] => { results := [.lit (.bool false)], args := [d1, d2] }
  | _ => none }
def FnExactTotalDelayWrongFalsely : Prop := fnExactTotalDelayRow.holds Try.pinned (OpenSpec.ofChange fnExactTotalDelayWrong)

/-- 'laws.FnExactWorstDelay': WHATEVER THE INPUT: true; the input reads as it did. -/
def fnExactWorstDelaySpec : ChangeSpec := { name := "fnExactWorstDelay", fn := fun _ => fun
  | [d1, d2] => { results := [.lit (.bool true)], args := [d1, d2] }
  | _ => none }
def fnExactWorstDelayRow : OpenClaim := { program := "ytofackgbafmdmaa", sum := "79b93c488a591844d3e8efe5da2d54ce5f1b7220c8c59ea7bdb72c1ffd51f8f7", func := "loop.example/g00875/laws.FnExactWorstDelay", spec := "fnExactWorstDelay", apart := false }
def FnExactWorstDelaySaid : Prop := fnExactWorstDelayRow.holds Try.pinned (OpenSpec.ofChange fnExactWorstDelaySpec)

/-- ITS FALSE NEIGHBOUR: 'it returns false'. Refute it at one input. -/
def fnExactWorstDelayWrong : ChangeSpec := { name := "fnExactWorstDelay", fn := fun _ => fun
  | [d1, d2] => { results := [.lit (.bool false)], args := [d1, d2] }
  | _ => none }
def FnExactWorstDelayWrongFalsely : Prop := fnExactWorstDelayRow.holds Try.pinned (OpenSpec.ofChange fnExactWorstDelayWrong)

/-- 'laws.FnExactLandingSeconds': WHATEVER THE INPUT: true; the input reads as it did. -/
def fnExactLandingSecondsSpec : ChangeSpec := { name := "fnExactLandingSeconds", fn := fun _ => fun
  | [d1, d2] => { results := [.lit (.bool true)], args := [d1, d2] }
  | _ => none }
def fnExactLandingSecondsRow : OpenClaim := { program := "ytofackgbafmdmaa", sum := "79b93c488a591844d3e8efe5da2d54ce5f1b7220c8c59ea7bdb72c1ffd51f8f7", func := "loop.example/g00875/laws.FnExactLandingSeconds", spec := "fnExactLandingSeconds", apart := false }
def FnExactLandingSecondsSaid : Prop := fnExactLandingSecondsRow.holds Try.pinned (OpenSpec.ofChange fnExactLandingSecondsSpec)

/-- ITS FALSE NEIGHBOUR: 'it returns false'. Refute it at one input. -/
def fnExactLandingSecondsWrong : ChangeSpec := { name := "fnExactLandingSeconds", fn := fun _ => fun
  | [d1, d2] => { results := [.lit (.bool false)], args := [d1, d2] }
  | _ => none }
def FnExactLandingSecondsWrongFalsely : Prop := fnExactLandingSecondsRow.holds Try.pinned (OpenSpec.ofChange fnExactLandingSecondsWrong)

/-- 'laws.FnExactInsertArrival': WHATEVER THE INPUT: true; the input reads as it did. -/
def fnExactInsertArrivalSpec : ChangeSpec := { name := "fnExactInsertArrival", fn := fun _ => fun
  | [d1, d2, d3] => { results := [.lit (.bool true)], args := [d1, d2, d3] }
  | _ => none }
def fnExactInsertArrivalRow : OpenClaim := { program := "ytofackgbafmdmaa", sum := "79b93c488a591844d3e8efe5da2d54ce5f1b7220c8c59ea7bdb72c1ffd51f8f7", func := "loop.example/g00875/laws.FnExactInsertArrival", spec := "fnExactInsertArrival", apart := false }
def FnExactInsertArrivalSaid : Prop := fnExactInsertArrivalRow.holds Try.pinned (OpenSpec.ofChange fnExactInsertArrivalSpec)

/-- ITS FALSE NEIGHBOUR: 'it returns false'. Refute it at one input. -/
def fnExactInsertArrivalWrong : ChangeSpec := { name := "fnExactInsertArrival", fn := fun _ => fun
  | [d1, d2, d3] => { results := [.lit (.bool false)], args := [d1, d2, d3] }
  | _ => none }
def FnExactInsertArrivalWrongFalsely : Prop := fnExactInsertArrivalRow.holds Try.pinned (OpenSpec.ofChange fnExactInsertArrivalWrong)

/-- 'laws.FnExactBestLanding': WHATEVER THE INPUT: true; the input reads as it did. -/
def fnExactBestLandingSpec : ChangeSpec := { name := "fnExactBestLanding", fn := fun _ => fun
  | [d1, d2] => { results := [.lit (.bool true)], args := [d1, d2] }
  | _ => none }
def fnExactBestLandingRow : OpenClaim := { program := "ytofackgbafmdmaa", sum := "79b93c488a591844d3e8efe5da2d54ce5f1b7220c8c59ea7bdb72c1ffd51f8f7", func := "loop.example/g00875/laws.FnExactBestLanding", spec := "fnExactBestLanding", recurses := true, apart := false }
def FnExactBestLandingSaid : Prop := fnExactBestLandingRow.holds Try.pinned (OpenSpec.ofChange fnExactBestLandingSpec)

/-- ITS FALSE NEIGHBOUR: 'it returns false'. Refute it at one input. -/
def fnExactBestLandingWrong : ChangeSpec := { name := "fnExactBestLanding", fn := fun _ => fun
  | [d1, d2] => { results := [.lit (.bool false)], args := [d1, d2] }
  | _ => none }
def FnExactBestLandingWrongFalsely : Prop := fnExactBestLandingRow.holds Try.pinned (OpenSpec.ofChange fnExactBestLandingWrong)

/-- 'laws.FnLandings': WHATEVER THE INPUT: true; the input reads as it did. -/
def fnLandingsSpec : ChangeSpec := { name := "fnLandings", fn := fun _ => fun
  | [d] => { results := [.lit (.bool true)], args := [d] }
  | _ => none }
def fnLandingsRow : OpenClaim := { program := "ytofackgbafmdmaa", sum := "79b93c488a591844d3e8efe5da2d54ce5f1b7220c8c59ea7bdb72c1ffd51f8f7", func := "loop.example/g00875/laws.FnLandings", spec := "fnLandings", apart := false }
def FnLandingsSaid : Prop := fnLandingsRow.holds Try.pinned (OpenSpec.ofChange fnLandingsSpec)

/-- ITS FALSE NEIGHBOUR: 'it returns false'. Refute it at one input. -/
def fnLandingsWrong : ChangeSpec := { name := "fnLandings", fn := fun _ => fun
  | [d] => { results := [.lit (.bool false)], args := [d] }
  | _ => none }
def FnLandingsWrongFalsely : Prop := fnLandingsRow.holds Try.pinned (OpenSpec.ofChange fnLandingsWrong)

/-- 'laws.FnSequences': WHATEVER THE INPUT: true; the input reads as it did. -/
def fnSequencesSpec : ChangeSpec := { name := "fnSequences", fn := fun _ => fun
  | [d] => { results := [.lit (.bool true)], args := [d] }
  | _ => none }
def fnSequencesRow : OpenClaim := { program := "ytofackgbafmdmaa", sum := "79b93c488a591844d3e8efe5da2d54ce5f1b7220c8c59ea7bdb72c1ffd51f8f7", func := "loop.example/g00875/laws.FnSequences", spec := "fnSequences", recurses := true, apart := false }
def FnSequencesSaid : Prop := fnSequencesRow.holds Try.pinned (OpenSpec.ofChange fnSequencesSpec)

/-- ITS FALSE NEIGHBOUR: 'it returns false'. Refute it at one input. -/
def fnSequencesWrong : ChangeSpec := { name := "fnSequences", fn := fun _ => fun
  | [d] => { results := [.lit (.bool false)], args := [d] }
  | _ => none }
def FnSequencesWrongFalsely : Prop := fnSequencesRow.holds Try.pinned (OpenSpec.ofChange fnSequencesWrong)

/- THE SECOND FORM. 'bulk': how many values and letters a reading holds, each counted each time it is reached (what is shared counts as often as it is met; a slice's spare places count too). A statement '..UptoSaid' is the law's where the arguments, and the package variables that the reading takes, are together of bulk at most 1048576: NARROWER than '..Said'. Prove '..Said' where nothing that the law and all that it calls make is longer than what came in: it says more and counts as full. Else prove '..UptoSaid'. A law counts once. -/
mutual
def uptoBulk {H : Type} : DataW H → Nat
  | .lit (.string bytes) => bytes.length + 1
  | .lit _ => 1
  | .nil => 1
  | .ptr d => uptoBulk d + 1
  | .slice elems spare => uptoBulkAll elems + uptoBulkAll spare + 1
  | .agg parts => uptoBulkAll parts + 1
  | .iface _ d => uptoBulk d + 1
  | .map entries => uptoBulkEntries entries + 1
  | .held _ => 1
def uptoBulkAll {H : Type} : List (DataW H) → Nat
  | [] => 0
  | d :: r => uptoBulk d + uptoBulkAll r
def uptoBulkEntries {H : Type} : List (Lit × DataW H) → Nat
  | [] => 0
  | x :: r => uptoBulkEntry x + uptoBulkEntries r
def uptoBulkEntry {H : Type} : Lit × DataW H → Nat
  | (.string bytes, d) => bytes.length + uptoBulk d + 1
  | (_, d) => uptoBulk d + 1
 end
def uptoSmall : (H : Type) → List (DataW H) → Bool := fun _ ds => decide (uptoBulkAll ds ≤ 1048576)
def OpenSpec.upto (s : _root_.Go.ChangeSpec) : _root_.Go.OpenSpec := { _root_.Go.OpenSpec.ofChange s with cond := some uptoSmall }

/-- 'laws.FnExactGapBehind', WHERE WHAT IT READS IS OF BULK AT MOST 1048576: true; the input reads as it did. -/
def fnExactGapBehindUptoRow : OpenClaim := { program := "ytofackgbafmdmaa", sum := "79b93c488a591844d3e8efe5da2d54ce5f1b7220c8c59ea7bdb72c1ffd51f8f7", func := "loop.example/g00875/laws.FnExactGapBehind", spec := "fnExactGapBehind", apart := false, narrowed := true }
def FnExactGapBehindUptoSaid : Prop := fnExactGapBehindUptoRow.holds Try.pinned (OpenSpec.upto fnExactGapBehindSpec)

/-- 'laws.FnExactIsValidArrivals', WHERE WHAT IT READS IS OF BULK AT MOST 1048576: true; the input reads as it did. -/
def fnExactIsValidArrivalsUptoRow : OpenClaim := { program := "ytofackgbafmdmaa", sum := "79b93c488a591844d3e8efe5da2d54ce5f1b7220c8c59ea7bdb72c1ffd51f8f7", func := "loop.example/g00875/laws.FnExactIsValidArrivals", spec := "fnExactIsValidArrivals", apart := false, narrowed := true }
def FnExactIsValidArrivalsUptoSaid : Prop := fnExactIsValidArrivalsUptoRow.holds Try.pinned (OpenSpec.upto fnExactIsValidArrivalsSpec)

/-- 'laws.FnExactFirstComeSequence', WHERE WHAT IT READS IS OF BULK AT MOST 1048576: true; the input reads as it did. -/
def fnExactFirstComeSequenceUptoRow : OpenClaim := { program := "ytofackgbafmdmaa", sum := "79b93c488a591844d3e8efe5da2d54ce5f1b7220c8c59ea7bdb72c1ffd51f8f7", func := "loop.example/g00875/laws.FnExactFirstComeSequence", spec := "fnExactFirstComeSequence", apart := false, narrowed := true }
def FnExactFirstComeSequenceUptoSaid : Prop := fnExactFirstComeSequenceUptoRow.holds Try.pinned (OpenSpec.upto fnExactFirstComeSequenceSpec)

/-- 'laws.FnExactLastLanding', WHERE WHAT IT READS IS OF BULK AT MOST 1048576: true; the input reads as it did. -/
def fnExactLastLandingUptoRow : OpenClaim := { program := "ytofackgbafmdmaa", sum := "79b93c488a591844d3e8efe5da2d54ce5f1b7220c8c59ea7bdb72c1ffd51f8f7", func := "loop.example/g00875/laws.FnExactLastLanding", spec := "fnExactLastLanding", apart := false, narrowed := true }
def FnExactLastLandingUptoSaid : Prop := fnExactLastLandingUptoRow.holds Try.pinned (OpenSpec.upto fnExactLastLandingSpec)

/-- 'laws.FnExactTotalDelay', WHERE WHAT IT READS IS OF BULK AT MOST 1048576: true; the input reads as it did. -/
def fnExactTotalDelayUptoRow : OpenClaim := { program := "ytofackgbafmdmaa", sum := "79b93c488a591844d3e8efe5da2d54ce5f1b7220c8c59ea7bdb72c1ffd51f8f7", func := "loop.example/g00875/laws.FnExactTotalDelay", spec := "fnExactTotalDelay", apart := false, narrowed := true }
def FnExactTotalDelayUptoSaid : Prop := fnExactTotalDelayUptoRow.holds Try.pinned (OpenSpec.upto fnExactTotalDelaySpec)

/-- 'laws.FnExactWorstDelay', WHERE WHAT IT READS IS OF BULK AT MOST 1048576: true; the input reads as it did. -/
def fnExactWorstDelayUptoRow : OpenClaim := { program := "ytofackgbafmdmaa", sum := "79b93c488a591844d3e8efe5da2d54ce5f1b7220c8c59ea7bdb72c1ffd51f8f7", func := "loop.example/g00875/laws.FnExactWorstDelay", spec := "fnExactWorstDelay", apart := false, narrowed := true }
def FnExactWorstDelayUptoSaid : Prop := fnExactWorstDelayUptoRow.holds Try.pinned (OpenSpec.upto fnExactWorstDelaySpec)

/-- 'laws.FnExactLandingSeconds', WHERE WHAT IT READS IS OF BULK AT MOST 1048576: true; the input reads as it did. -/
def fnExactLandingSecondsUptoRow : OpenClaim := { program := "ytofackgbafmdmaa", sum := "79b93c488a591844d3e8efe5da2d54ce5f1b7220c8c59ea7bdb72c1ffd51f8f7", func := "loop.example/g00875/laws.FnExactLandingSeconds", spec := "fnExactLandingSeconds", apart := false, narrowed := true }
def FnExactLandingSecondsUptoSaid : Prop := fnExactLandingSecondsUptoRow.holds Try.pinned (OpenSpec.upto fnExactLandingSecondsSpec)

/-- 'laws.FnExactInsertArrival', WHERE WHAT IT READS IS OF BULK AT MOST 1048576: true; the input reads as it did. -/
def fnExactInsertArrivalUptoRow : OpenClaim := { program := "ytofackgbafmdmaa", sum := "79b93c488a591844d3e8efe5da2d54ce5f1b7220c8c59ea7bdb72c1ffd51f8f7", func := "loop.example/g00875/laws.FnExactInsertArrival", spec := "fnExactInsertArrival", apart := false, narrowed := true }
def FnExactInsertArrivalUptoSaid : Prop := fnExactInsertArrivalUptoRow.holds Try.pinned (OpenSpec.upto fnExactInsertArrivalSpec)

/-- 'laws.FnExactBestLanding', WHERE WHAT IT READS IS OF BULK AT MOST 1048576: true; the input reads as it did. -/
def fnExactBestLandingUptoRow : OpenClaim := { program := "ytofackgbafmdmaa", sum := "79b93c488a591844d3e8efe5da2d54ce5f1b7220c8c59ea7bdb72c1ffd51f8f7", func := "loop.example/g00875/laws.FnExactBestLanding", spec := "fnExactBestLanding", recurses := true, apart := false, narrowed := true }
def FnExactBestLandingUptoSaid : Prop := fnExactBestLandingUptoRow.holds Try.pinned (OpenSpec.upto fnExactBestLandingSpec)

/-- 'laws.FnLandings', WHERE WHAT IT READS IS OF BULK AT MOST 1048576: true; the input reads as it did. -/
def fnLandingsUptoRow : OpenClaim := { program := "ytofackgbafmdmaa", sum := "79b93c488a591844d3e8efe5da2d54ce5f1b7220c8c59ea7bdb72c1ffd51f8f7", func := "loop.example/g00875/laws.FnLandings", spec := "fnLandings", apart := false, narrowed := true }
def FnLandingsUptoSaid : Prop := fnLandingsUptoRow.holds Try.pinned (OpenSpec.upto fnLandingsSpec)

/-- 'laws.FnSequences', WHERE WHAT IT READS IS OF BULK AT MOST 1048576: true; the input reads as it did. -/
def fnSequencesUptoRow : OpenClaim := { program := "ytofackgbafmdmaa", sum := "79b93c488a591844d3e8efe5da2d54ce5f1b7220c8c59ea7bdb72c1ffd51f8f7", func := "loop.example/g00875/laws.FnSequences", spec := "fnSequences", recurses := true, apart := false, narrowed := true }
def FnSequencesUptoSaid : Prop := fnSequencesUptoRow.holds Try.pinned (OpenSpec.upto fnSequencesSpec)

end Rows
end Go.Proofs.Ytofackgbafmdmaa
