/-
  No cell of these rows narrows 'for every input' (looked for: loops, veiled, ifaces, maps, wideKeys, modest, calm, conditions, laid).
  DERIVED. THE GIVEN ROWS OF THIS SEAT. 11 by the template 'for every input the law returns true; each argument reads behind the call as it read before'; 0 by the template 'total and deterministic' (their statements: YtpooodbhnkcbkaaTotals.lean).
  GIVEN WITH THE SEED: the statements are not yours to turn. If you find one false, say at which input.
  Laid BY PROGRAM, IN A SANDBOX (cutbox-rows.mjs): the forced cells as the released guide's own fill.sh prints them over the translation 172fbf312311919e… (all of the seat's roots in one cut). By AI agents, Wed Nov 11 2026. No macro, syntax, notation, axiom, sorry.
-/
import Derived.Test.YtpooodbhnkcbkaaChecked
import GoSem.Claim
import GoSem.ClaimJoined
import GoSem.ClaimMapViews
import Derived.JoinedTies
import Derived.KernelRfl
namespace Go.Proofs.Ytpooodbhnkcbkaa
/- THE CELL 'sum', in the pinned program and in every row, IS THE sha256 OF THE DUMP (.gsa) THAT YtpooodbhnkcbkaaProg.lean LOADS. Nothing in Lean hashes anything: it is a label: what it is worth is what the hold of that sum in a sandbox is worth. -/
noncomputable def Try.pinned : Pinned := { name := "ytpooodbhnkcbkaa", sum := "172fbf312311919e8e5723fd2361974fa090633cb6685130f93d5c1c69f549fd", checked := Try.checked }
namespace Rows
def none {H : Type} : Left H := { results := [], args := [] }

/-- 'laws.FnExactIsValidFlight': WHATEVER THE INPUT: true; the input reads as it did. -/
def fnExactIsValidFlightSpec : ChangeSpec := { name := "fnExactIsValidFlight", fn := fun _ => fun
  | [d] => { results := [.lit (.bool true)], args := [d] }
  | _ => none }
def fnExactIsValidFlightRow : OpenClaim := { program := "ytpooodbhnkcbkaa", sum := "172fbf312311919e8e5723fd2361974fa090633cb6685130f93d5c1c69f549fd", func := "loop.example/g00875/laws.FnExactIsValidFlight", spec := "fnExactIsValidFlight", apart := false }
def FnExactIsValidFlightSaid : Prop := fnExactIsValidFlightRow.holds Try.pinned (OpenSpec.ofChange fnExactIsValidFlightSpec)

/-- ITS FALSE NEIGHBOUR: 'it returns false'. Refute it at one input. -/
def fnExactIsValidFlightWrong : ChangeSpec := { name := "fnExactIsValidFlight", fn := fun _ => fun
  | [d] => { results := [.lit (.bool false)], args := [d] }
  | _ => none }
def FnExactIsValidFlightWrongFalsely : Prop := fnExactIsValidFlightRow.holds Try.pinned (OpenSpec.ofChange fnExactIsValidFlightWrong)

/-- 'laws.FnExactGapAt': WHATEVER THE INPUT: true; the input reads as it did. -/
def fnExactGapAtSpec : ChangeSpec := { name := "fnExactGapAt", fn := fun _ => fun
  | [d1, d2, d3] => { results := [.lit (.bool true)], args := [d1, d2, d3] }
  | _ => none }
def fnExactGapAtRow : OpenClaim := { program := "ytpooodbhnkcbkaa", sum := "172fbf312311919e8e5723fd2361974fa090633cb6685130f93d5c1c69f549fd", func := "loop.example/g00875/laws.FnExactGapAt", spec := "fnExactGapAt", apart := false }
def FnExactGapAtSaid : Prop := fnExactGapAtRow.holds Try.pinned (OpenSpec.ofChange fnExactGapAtSpec)

/-- ITS FALSE NEIGHBOUR: 'it returns false'. Refute it at one input. -/
def fnExactGapAtWrong : ChangeSpec := { name := "fnExactGapAt", fn := fun _ => fun
  | [d1, d2, d3] => { results := [.lit (.bool false)], args := [d1, d2, d3] }
  | _ => none }
def FnExactGapAtWrongFalsely : Prop := fnExactGapAtRow.holds Try.pinned (OpenSpec.ofChange fnExactGapAtWrong)

/-- 'laws.FnExactFirstMinute': WHATEVER THE INPUT: true; the input reads as it did. -/
def fnExactFirstMinuteSpec : ChangeSpec := { name := "fnExactFirstMinute", fn := fun _ => fun
  | [d1, d2, d3, d4] => { results := [.lit (.bool true)], args := [d1, d2, d3, d4] }
  | _ => none }
def fnExactFirstMinuteRow : OpenClaim := { program := "ytpooodbhnkcbkaa", sum := "172fbf312311919e8e5723fd2361974fa090633cb6685130f93d5c1c69f549fd", func := "loop.example/g00875/laws.FnExactFirstMinute", spec := "fnExactFirstMinute", apart := false }
def FnExactFirstMinuteSaid : Prop := fnExactFirstMinuteRow.holds Try.pinned (OpenSpec.ofChange fnExactFirstMinuteSpec)

/-- ITS FALSE NEIGHBOUR: 'it returns false'. Refute it at one input. -/
def fnExactFirstMinuteWrong : ChangeSpec := { name := "fnExactFirstMinute", fn := fun _ => fun
  | [d1, d2, d3, d4] => { results := [.lit (.bool false)], args := [d1, d2, d3, d4] }
  | _ => none }
def FnExactFirstMinuteWrongFalsely : Prop := fnExactFirstMinuteRow.holds Try.pinned (OpenSpec.ofChange fnExactFirstMinuteWrong)

/-- 'laws.FnApproach': WHATEVER THE INPUT: true; the input reads as it did. -/
def fnApproachSpec : ChangeSpec := { name := "fnApproach", fn := fun _ => fun
  | [d] => { results := [.lit (.bool true)], args := [d] }
  | _ => none }
def fnApproachRow : OpenClaim := { program := "ytpooodbhnkcbkaa", sum := "172fbf312311919e8e5723fd2361974fa090633cb6685130f93d5c1c69f549fd", func := "loop.example/g00875/laws.FnApproach", spec := "fnApproach", apart := false }
def FnApproachSaid : Prop := fnApproachRow.holds Try.pinned (OpenSpec.ofChange fnApproachSpec)

/-- ITS FALSE NEIGHBOUR: 'it returns false'. Refute it at one input. -/
def fnApproachWrong : ChangeSpec := { name := "fnApproach", fn := fun _ => fun
  | [d] => { results := [.lit (.bool false)], args := [d] }
  | _ => none }
def FnApproachWrongFalsely : Prop := fnApproachRow.holds Try.pinned (OpenSpec.ofChange fnApproachWrong)

/-- 'laws.FnExactClosestTime': WHATEVER THE INPUT: true; the input reads as it did. -/
def fnExactClosestTimeSpec : ChangeSpec := { name := "fnExactClosestTime", fn := fun _ => fun
  | [d1, d2] => { results := [.lit (.bool true)], args := [d1, d2] }
  | _ => none }
def fnExactClosestTimeRow : OpenClaim := { program := "ytpooodbhnkcbkaa", sum := "172fbf312311919e8e5723fd2361974fa090633cb6685130f93d5c1c69f549fd", func := "loop.example/g00875/laws.FnExactClosestTime", spec := "fnExactClosestTime", apart := false }
def FnExactClosestTimeSaid : Prop := fnExactClosestTimeRow.holds Try.pinned (OpenSpec.ofChange fnExactClosestTimeSpec)

/-- ITS FALSE NEIGHBOUR: 'it returns false'. Refute it at one input. -/
def fnExactClosestTimeWrong : ChangeSpec := { name := "fnExactClosestTime", fn := fun _ => fun
  | [d1, d2] => { results := [.lit (.bool false)], args := [d1, d2] }
  | _ => none }
def FnExactClosestTimeWrongFalsely : Prop := fnExactClosestTimeRow.holds Try.pinned (OpenSpec.ofChange fnExactClosestTimeWrong)

/-- 'laws.FnExactClosestGap': WHATEVER THE INPUT: true; the input reads as it did. -/
def fnExactClosestGapSpec : ChangeSpec := { name := "fnExactClosestGap", fn := fun _ => fun
  | [d1, d2] => { results := [.lit (.bool true)], args := [d1, d2] }
  | _ => none }
def fnExactClosestGapRow : OpenClaim := { program := "ytpooodbhnkcbkaa", sum := "172fbf312311919e8e5723fd2361974fa090633cb6685130f93d5c1c69f549fd", func := "loop.example/g00875/laws.FnExactClosestGap", spec := "fnExactClosestGap", apart := false }
def FnExactClosestGapSaid : Prop := fnExactClosestGapRow.holds Try.pinned (OpenSpec.ofChange fnExactClosestGapSpec)

/-- ITS FALSE NEIGHBOUR: 'it returns false'. Refute it at one input. -/
def fnExactClosestGapWrong : ChangeSpec := { name := "fnExactClosestGap", fn := fun _ => fun
  | [d1, d2] => { results := [.lit (.bool false)], args := [d1, d2] }
  | _ => none }
def FnExactClosestGapWrongFalsely : Prop := fnExactClosestGapRow.holds Try.pinned (OpenSpec.ofChange fnExactClosestGapWrong)

/-- 'laws.FnExactLosesSeparation': WHATEVER THE INPUT: true; the input reads as it did. -/
def fnExactLosesSeparationSpec : ChangeSpec := { name := "fnExactLosesSeparation", fn := fun _ => fun
  | [d1, d2, d3, d4] => { results := [.lit (.bool true)], args := [d1, d2, d3, d4] }
  | _ => none }
def fnExactLosesSeparationRow : OpenClaim := { program := "ytpooodbhnkcbkaa", sum := "172fbf312311919e8e5723fd2361974fa090633cb6685130f93d5c1c69f549fd", func := "loop.example/g00875/laws.FnExactLosesSeparation", spec := "fnExactLosesSeparation", apart := false }
def FnExactLosesSeparationSaid : Prop := fnExactLosesSeparationRow.holds Try.pinned (OpenSpec.ofChange fnExactLosesSeparationSpec)

/-- ITS FALSE NEIGHBOUR: 'it returns false'. Refute it at one input. -/
def fnExactLosesSeparationWrong : ChangeSpec := { name := "fnExactLosesSeparation", fn := fun _ => fun
  | [d1, d2, d3, d4] => { results := [.lit (.bool false)], args := [d1, d2, d3, d4] }
  | _ => none }
def FnExactLosesSeparationWrongFalsely : Prop := fnExactLosesSeparationRow.holds Try.pinned (OpenSpec.ofChange fnExactLosesSeparationWrong)

/-- 'laws.FnExactConflictPairs': WHATEVER THE INPUT: true; the input reads as it did. -/
def fnExactConflictPairsSpec : ChangeSpec := { name := "fnExactConflictPairs", fn := fun _ => fun
  | [d1, d2, d3] => { results := [.lit (.bool true)], args := [d1, d2, d3] }
  | _ => none }
def fnExactConflictPairsRow : OpenClaim := { program := "ytpooodbhnkcbkaa", sum := "172fbf312311919e8e5723fd2361974fa090633cb6685130f93d5c1c69f549fd", func := "loop.example/g00875/laws.FnExactConflictPairs", spec := "fnExactConflictPairs", apart := false }
def FnExactConflictPairsSaid : Prop := fnExactConflictPairsRow.holds Try.pinned (OpenSpec.ofChange fnExactConflictPairsSpec)

/-- ITS FALSE NEIGHBOUR: 'it returns false'. Refute it at one input. -/
def fnExactConflictPairsWrong : ChangeSpec := { name := "fnExactConflictPairs", fn := fun _ => fun
  | [d1, d2, d3] => { results := [.lit (.bool false)], args := [d1, d2, d3] }
  | _ => none }
def FnExactConflictPairsWrongFalsely : Prop := fnExactConflictPairsRow.holds Try.pinned (OpenSpec.ofChange fnExactConflictPairsWrong)

/-- 'laws.FnSeparation': WHATEVER THE INPUT: true; the input reads as it did. -/
def fnSeparationSpec : ChangeSpec := { name := "fnSeparation", fn := fun _ => fun
  | [d] => { results := [.lit (.bool true)], args := [d] }
  | _ => none }
def fnSeparationRow : OpenClaim := { program := "ytpooodbhnkcbkaa", sum := "172fbf312311919e8e5723fd2361974fa090633cb6685130f93d5c1c69f549fd", func := "loop.example/g00875/laws.FnSeparation", spec := "fnSeparation", apart := false }
def FnSeparationSaid : Prop := fnSeparationRow.holds Try.pinned (OpenSpec.ofChange fnSeparationSpec)

/-- ITS FALSE NEIGHBOUR: 'it returns false'. Refute it at one input. -/
def fnSeparationWrong : ChangeSpec := { name := "fnSeparation", fn := fun _ => fun
  | [d] => { results := [.lit (.bool false)], args := [d] }
  | _ => none }
def FnSeparationWrongFalsely : Prop := fnSeparationRow.holds Try.pinned (OpenSpec.ofChange fnSeparationWrong)

/-- 'laws.FnWatch': WHATEVER THE INPUT: true; the input reads as it did. -/
def fnWatchSpec : ChangeSpec := { name := "fnWatch", fn := fun _ => fun
  | [d] => { results := [.lit (.bool true)], args := [d] }
  | _ => none }
def fnWatchRow : OpenClaim := { program := "ytpooodbhnkcbkaa", sum := "172fbf312311919e8e5723fd2361974fa090633cb6685130f93d5c1c69f549fd", func := "loop.example/g00875/laws.FnWatch", spec := "fnWatch", apart := false }
def FnWatchSaid : Prop := fnWatchRow.holds Try.pinned (OpenSpec.ofChange fnWatchSpec)

/-- ITS FALSE NEIGHBOUR: 'it returns false'. Refute it at one input. -/
def fnWatchWrong : ChangeSpec := { name := "fnWatch", fn := fun _ => fun
  | [d] => { results := [.lit (.bool false)], args := [d] }
  | _ => none }
def FnWatchWrongFalsely : Prop := fnWatchRow.holds Try.pinned (OpenSpec.ofChange fnWatchWrong)

/-- 'laws.FnExactUpdateAlerts': WHATEVER THE INPUT: true; the input reads as it did. -/
def fnExactUpdateAlertsSpec : ChangeSpec := { name := "fnExactUpdateAlerts", fn := fun _ => fun
  | [d1, d2, d3, d4, d5] => { results := [.lit (.bool true)], args := [d1, d2, d3, d4, d5] }
  | _ => none }
def fnExactUpdateAlertsRow : OpenClaim := { program := "ytpooodbhnkcbkaa", sum := "172fbf312311919e8e5723fd2361974fa090633cb6685130f93d5c1c69f549fd", func := "loop.example/g00875/laws.FnExactUpdateAlerts", spec := "fnExactUpdateAlerts", apart := false }
def FnExactUpdateAlertsSaid : Prop := fnExactUpdateAlertsRow.holds Try.pinned (OpenSpec.ofChange fnExactUpdateAlertsSpec)

/-- ITS FALSE NEIGHBOUR: 'it returns false'. Refute it at one input. -/
def fnExactUpdateAlertsWrong : ChangeSpec := { name := "fnExactUpdateAlerts", fn := fun _ => fun
  | [d1, d2, d3, d4, d5] => { results := [.lit (.bool false)], args := [d1, d2, d3, d4, d5] }
  | _ => none }
def FnExactUpdateAlertsWrongFalsely : Prop := fnExactUpdateAlertsRow.holds Try.pinned (OpenSpec.ofChange fnExactUpdateAlertsWrong)

/- THE SECOND FORM. 'bulk': how many values and letters a reading holds, each counted each time it is reached (what is shared counts as often as it is met; a slice's spare places count too). A statement '..UptoSaid' is the law's where the arguments, and the package variables that the reading takes, are together of bulk at most 1048576: NARROWER than '..Said'. Prove '..Said' where nothing that the law and all that it calls make is longer than what came in: it says more and counts as full. Else prove '..UptoSaid'. A law counts once. -/
mutual
def uptoBulk {H : Type} : DataW H → Nat
  | .lit (.string bytes) => bytes.length + 1
  | .lit _ => 1
  | .nil => 1
  | .ptr d => uptoBulk d + 1
  | .slice elems spare => uptoBulkAll elems + uptoBulkAll spare + 1
  | .agg parts => uptoBulkAll parts + 1
  | .iface _ d => uptoBulk d + 1
  | .map entries => uptoBulkEntries entries + 1
  | .held _ => 1
def uptoBulkAll {H : Type} : List (DataW H) → Nat
  | [] => 0
  | d :: r => uptoBulk d + uptoBulkAll r
def uptoBulkEntries {H : Type} : List (Lit × DataW H) → Nat
  | [] => 0
  | x :: r => uptoBulkEntry x + uptoBulkEntries r
def uptoBulkEntry {H : Type} : Lit × DataW H → Nat
  | (.string bytes, d) => bytes.length + uptoBulk d + 1
  | (_, d) => uptoBulk d + 1
 end
def uptoSmall : (H : Type) → List (DataW H) → Bool := fun _ ds => decide (uptoBulkAll ds ≤ 1048576)
def OpenSpec.upto (s : _root_.Go.ChangeSpec) : _root_.Go.OpenSpec := { _root_.Go.OpenSpec.ofChange s with cond := some uptoSmall }

/-- 'laws.FnExactIsValidFlight', WHERE WHAT IT READS IS OF BULK AT MOST 1048576: true; the input reads as it did. -/
def fnExactIsValidFlightUptoRow : OpenClaim := { program := "ytpooodbhnkcbkaa", sum := "172fbf312311919e8e5723fd2361974fa090633cb6685130f93d5c1c69f549fd", func := "loop.example/g00875/laws.FnExactIsValidFlight", spec := "fnExactIsValidFlight", apart := false, narrowed := true }
def FnExactIsValidFlightUptoSaid : Prop := fnExactIsValidFlightUptoRow.holds Try.pinned (OpenSpec.upto fnExactIsValidFlightSpec)

/-- 'laws.FnExactGapAt', WHERE WHAT IT READS IS OF BULK AT MOST 1048576: true; the input reads as it did. -/
def fnExactGapAtUptoRow : OpenClaim := { program := "ytpooodbhnkcbkaa", sum := "172fbf312311919e8e5723fd2361974fa090633cb6685130f93d5c1c69f549fd", func := "loop.example/g00875/laws.FnExactGapAt", spec := "fnExactGapAt", apart := false, narrowed := true }
def FnExactGapAtUptoSaid : Prop := fnExactGapAtUptoRow.holds Try.pinned (OpenSpec.upto fnExactGapAtSpec)

/-- 'laws.FnExactFirstMinute', WHERE WHAT IT READS IS OF BULK AT MOST 1048576: true; the input reads as it did. -/
def fnExactFirstMinuteUptoRow : OpenClaim := { program := "ytpooodbhnkcbkaa", sum := "172fbf312311919e8e5723fd2361974fa090633cb6685130f93d5c1c69f549fd", func := "loop.example/g00875/laws.FnExactFirstMinute", spec := "fnExactFirstMinute", apart := false, narrowed := true }
def FnExactFirstMinuteUptoSaid : Prop := fnExactFirstMinuteUptoRow.holds Try.pinned (OpenSpec.upto fnExactFirstMinuteSpec)

/-- 'laws.FnApproach', WHERE WHAT IT READS IS OF BULK AT MOST 1048576: true; the input reads as it did. -/
def fnApproachUptoRow : OpenClaim := { program := "ytpooodbhnkcbkaa", sum := "172fbf312311919e8e5723fd2361974fa090633cb6685130f93d5c1c69f549fd", func := "loop.example/g00875/laws.FnApproach", spec := "fnApproach", apart := false, narrowed := true }
def FnApproachUptoSaid : Prop := fnApproachUptoRow.holds Try.pinned (OpenSpec.upto fnApproachSpec)

/-- 'laws.FnExactClosestTime', WHERE WHAT IT READS IS OF BULK AT MOST 1048576: true; the input reads as it did. -/
def fnExactClosestTimeUptoRow : OpenClaim := { program := "ytpooodbhnkcbkaa", sum := "172fbf312311919e8e5723fd2361974fa090633cb6685130f93d5c1c69f549fd", func := "loop.example/g00875/laws.FnExactClosestTime", spec := "fnExactClosestTime", apart := false, narrowed := true }
def FnExactClosestTimeUptoSaid : Prop := fnExactClosestTimeUptoRow.holds Try.pinned (OpenSpec.upto fnExactClosestTimeSpec)

/-- 'laws.FnExactClosestGap', WHERE WHAT IT READS IS OF BULK AT MOST 1048576: true; the input reads as it did. -/
def fnExactClosestGapUptoRow : OpenClaim := { program := "ytpooodbhnkcbkaa", sum := "172fbf312311919e8e5723fd2361974fa090633cb6685130f93d5c1c69f549fd", func := "loop.example/g00875/laws.FnExactClosestGap", spec := "fnExactClosestGap", apart := false, narrowed := true }
def FnExactClosestGapUptoSaid : Prop := fnExactClosestGapUptoRow.holds Try.pinned (OpenSpec.upto fnExactClosestGapSpec)

/-- 'laws.FnExactLosesSeparation', WHERE WHAT IT READS IS OF BULK AT MOST 1048576: true; the input reads as it did. -/
def fnExactLosesSeparationUptoRow : OpenClaim := { program := "ytpooodbhnkcbkaa", sum := "172fbf312311919e8e5723fd2361974fa090633cb6685130f93d5c1c69f549fd", func := "loop.example/g00875/laws.FnExactLosesSeparation", spec := "fnExactLosesSeparation", apart := false, narrowed := true }
def FnExactLosesSeparationUptoSaid : Prop := fnExactLosesSeparationUptoRow.holds Try.pinned (OpenSpec.upto fnExactLosesSeparationSpec)

/-- 'laws.FnExactConflictPairs', WHERE WHAT IT READS IS OF BULK AT MOST 1048576: true; the input reads as it did. -/
def fnExactConflictPairsUptoRow : OpenClaim := { program := "ytpooodbhnkcbkaa", sum := "172fbf312311919e8e5723fd2361974fa090633cb6685130f93d5c1c69f549fd", func := "loop.example/g00875/laws.FnExactConflictPairs", spec := "fnExactConflictPairs", apart := false, narrowed := true }
def FnExactConflictPairsUptoSaid : Prop := fnExactConflictPairsUptoRow.holds Try.pinned (OpenSpec.upto fnExactConflictPairsSpec)

/-- 'laws.FnSeparation', WHERE WHAT IT READS IS OF BULK AT MOST 1048576: true; the input reads as it did. -/
def fnSeparationUptoRow : OpenClaim := { program := "ytpooodbhnkcbkaa", sum := "172fbf312311919e8e5723fd2361974fa090633cb6685130f93d5c1c69f549fd", func := "loop.example/g00875/laws.FnSeparation", spec := "fnSeparation", apart := false, narrowed := true }
def FnSeparationUptoSaid : Prop := fnSeparationUptoRow.holds Try.pinned (OpenSpec.upto fnSeparationSpec)

/-- 'laws.FnWatch', WHERE WHAT IT READS IS OF BULK AT MOST 1048576: true; the input reads as it did. -/
def fnWatchUptoRow : OpenClaim := { program := "ytpooodbhnkcbkaa", sum := "172fbf312311919e8e5723fd2361974fa090633cb6685130f93d5c1c69f549fd", func := "loop.example/g00875/laws.FnWatch", spec := "fnWatch", apart := false, narrowed := true }
def FnWatchUptoSaid : Prop := fnWatchUptoRow.holds Try.pinned (OpenSpec.upto fnWatchSpec)

/-- 'laws.FnExactUpdateAlerts', WHERE WHAT IT READS IS OF BULK AT MOST 1048576: true; the input reads as it did. -/
def fnExactUpdateAlertsUptoRow : OpenClaim := { program := "ytpooodbhnkcbkaa", sum := "172fbf312311919e8e5723fd2361974fa090633cb6685130f93d5c1c69f549fd", func := "loop.example/g00875/laws.FnExactUpdateAlerts", spec := "fnExactUpdateAlerts", apart := false, narrowed := true }
def FnExactUpdateAlertsUptoSaid : Prop := fnExactUpdateAlertsUptoRow.holds Try.pinned (OpenSpec.upto fnExactUpdateAlertsSpec)

end Rows
end Go.Proofs.Ytpooodbhnkcbkaa
