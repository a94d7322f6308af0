/-
  No cell of these rows narrows 'for every input' (looked for: loops, veiled, ifaces, maps, wideKeys, modest, calm, conditions, laid).
  DERIVED. THE GIVEN ROWS OF THIS SEAT. 9 by the template 'for every input the law returns true; each argument reads behind the call as it read before'; 0 by the template 'total and deterministic' (their statements: YtlhjgnodhdlooaaTotals.lean).
  GIVEN WITH THE SEED: the statements are not yours to turn. If you find one false, say at which input.
  Laid BY PROGRAM, IN A SANDBOX (cutbox-rows.mjs): the forced cells as the released guide's own fill.sh prints them over the translation 07ecf7d4def427a4… (all of the seat's roots in one cut). By AI agents, Wed Nov 11 2026. No macro, syntax, notation, axiom, sorry.
-/
import Derived.Test.YtlhjgnodhdlooaaChecked
import GoSem.Claim
import GoSem.ClaimJoined
import GoSem.ClaimMapViews
import Derived.JoinedTies
import Derived.KernelRfl
namespace Go.Proofs.Ytlhjgnodhdlooaa
/- THE CELL 'sum', in the pinned program and in every row, IS THE sha256 OF THE DUMP (.gsa) THAT YtlhjgnodhdlooaaProg.lean LOADS. Nothing in Lean hashes anything: it is a label: what it is worth is what the hold of that sum in a sandbox is worth. -/
noncomputable def Try.pinned : Pinned := { name := "ytlhjgnodhdlooaa", sum := "07ecf7d4def427a48a7c15e7f153c058d3776e644ca11ec3310b8b7532eaddba", checked := Try.checked }
namespace Rows
def none {H : Type} : Left H := { results := [], args := [] }

/-- 'laws.FnExactAlertLine': WHATEVER THE INPUT: true; the input reads as it did. -/
def fnExactAlertLineSpec : ChangeSpec := { name := "fnExactAlertLine", fn := fun _ => fun
  | [d] => { results := [.lit (.bool true)], args := [d] }
  | _ => none }
def fnExactAlertLineRow : OpenClaim := { program := "ytlhjgnodhdlooaa", sum := "07ecf7d4def427a48a7c15e7f153c058d3776e644ca11ec3310b8b7532eaddba", func := "loop.example/g00875/laws.FnExactAlertLine", spec := "fnExactAlertLine", recurses := true, apart := false }
def FnExactAlertLineSaid : Prop := fnExactAlertLineRow.holds Try.pinned (OpenSpec.ofChange fnExactAlertLineSpec)

/-- ITS FALSE NEIGHBOUR: 'it returns false'. Refute it at one input. -/
def fnExactAlertLineWrong : ChangeSpec := { name := "fnExactAlertLine", fn := fun _ => fun
  | [d] => { results := [.lit (.bool false)], args := [d] }
  | _ => none }
def FnExactAlertLineWrongFalsely : Prop := fnExactAlertLineRow.holds Try.pinned (OpenSpec.ofChange fnExactAlertLineWrong)

/-- 'laws.FnExactIsValidAlerts': WHATEVER THE INPUT: true; the input reads as it did. -/
def fnExactIsValidAlertsSpec : ChangeSpec := { name := "fnExactIsValidAlerts", fn := fun _ => fun
  | [d] => { results := [.lit (.bool true)], args := [d] }
  | _ => none }
def fnExactIsValidAlertsRow : OpenClaim := { program := "ytlhjgnodhdlooaa", sum := "07ecf7d4def427a48a7c15e7f153c058d3776e644ca11ec3310b8b7532eaddba", func := "loop.example/g00875/laws.FnExactIsValidAlerts", spec := "fnExactIsValidAlerts", apart := false }
def FnExactIsValidAlertsSaid : Prop := fnExactIsValidAlertsRow.holds Try.pinned (OpenSpec.ofChange fnExactIsValidAlertsSpec)

/-- ITS FALSE NEIGHBOUR: 'it returns false'. Refute it at one input. -/
def fnExactIsValidAlertsWrong : ChangeSpec := { name := "fnExactIsValidAlerts", fn := fun _ => fun
  | [d] => { results := [.lit (.bool false)], args := [d] }
  | _ => none }
def FnExactIsValidAlertsWrongFalsely : Prop := fnExactIsValidAlertsRow.holds Try.pinned (OpenSpec.ofChange fnExactIsValidAlertsWrong)

/-- 'laws.FnExactAlertOf': WHATEVER THE INPUT: true; the input reads as it did. -/
def fnExactAlertOfSpec : ChangeSpec := { name := "fnExactAlertOf", fn := fun _ => fun
  | [d1, d2, d3] => { results := [.lit (.bool true)], args := [d1, d2, d3] }
  | _ => none }
def fnExactAlertOfRow : OpenClaim := { program := "ytlhjgnodhdlooaa", sum := "07ecf7d4def427a48a7c15e7f153c058d3776e644ca11ec3310b8b7532eaddba", func := "loop.example/g00875/laws.FnExactAlertOf", spec := "fnExactAlertOf", apart := false }
def FnExactAlertOfSaid : Prop := fnExactAlertOfRow.holds Try.pinned (OpenSpec.ofChange fnExactAlertOfSpec)

/-- ITS FALSE NEIGHBOUR: 'it returns false'. Refute it at one input. -/
def fnExactAlertOfWrong : ChangeSpec := { name := "fnExactAlertOf", fn := fun _ => fun
  | [d1, d2, d3] => { results := [.lit (.bool false)], args := [d1, d2, d3] }
  | _ => none }
def FnExactAlertOfWrongFalsely : Prop := fnExactAlertOfRow.holds Try.pinned (OpenSpec.ofChange fnExactAlertOfWrong)

/-- 'laws.FnExactLevelOf': WHATEVER THE INPUT: true; the input reads as it did. -/
def fnExactLevelOfSpec : ChangeSpec := { name := "fnExactLevelOf", fn := fun _ => fun
  | [d1, d2, d3] => { results := [.lit (.bool true)], args := [d1, d2, d3] }
  | _ => none }
def fnExactLevelOfRow : OpenClaim := { program := "ytlhjgnodhdlooaa", sum := "07ecf7d4def427a48a7c15e7f153c058d3776e644ca11ec3310b8b7532eaddba", func := "loop.example/g00875/laws.FnExactLevelOf", spec := "fnExactLevelOf", apart := false }
def FnExactLevelOfSaid : Prop := fnExactLevelOfRow.holds Try.pinned (OpenSpec.ofChange fnExactLevelOfSpec)

/-- ITS FALSE NEIGHBOUR: 'it returns false'. Refute it at one input. -/
def fnExactLevelOfWrong : ChangeSpec := { name := "fnExactLevelOf", fn := fun _ => fun
  | [d1, d2, d3] => { results := [.lit (.bool false)], args := [d1, d2, d3] }
  | _ => none }
def FnExactLevelOfWrongFalsely : Prop := fnExactLevelOfRow.holds Try.pinned (OpenSpec.ofChange fnExactLevelOfWrong)

/-- 'laws.FnExactSeeAlert': WHATEVER THE INPUT: true; the input reads as it did. -/
def fnExactSeeAlertSpec : ChangeSpec := { name := "fnExactSeeAlert", fn := fun _ => fun
  | [d1, d2, d3] => { results := [.lit (.bool true)], args := [d1, d2, d3] }
  | _ => none }
def fnExactSeeAlertRow : OpenClaim := { program := "ytlhjgnodhdlooaa", sum := "07ecf7d4def427a48a7c15e7f153c058d3776e644ca11ec3310b8b7532eaddba", func := "loop.example/g00875/laws.FnExactSeeAlert", spec := "fnExactSeeAlert", apart := false }
def FnExactSeeAlertSaid : Prop := fnExactSeeAlertRow.holds Try.pinned (OpenSpec.ofChange fnExactSeeAlertSpec)

/-- ITS FALSE NEIGHBOUR: 'it returns false'. Refute it at one input. -/
def fnExactSeeAlertWrong : ChangeSpec := { name := "fnExactSeeAlert", fn := fun _ => fun
  | [d1, d2, d3] => { results := [.lit (.bool false)], args := [d1, d2, d3] }
  | _ => none }
def FnExactSeeAlertWrongFalsely : Prop := fnExactSeeAlertRow.holds Try.pinned (OpenSpec.ofChange fnExactSeeAlertWrong)

/-- 'laws.FnExactParseAlert': WHATEVER THE INPUT: true; the input reads as it did. -/
def fnExactParseAlertSpec : ChangeSpec := { name := "fnExactParseAlert", fn := fun _ => fun
  | [d] => { results := [.lit (.bool true)], args := [d] }
  | _ => none }
def fnExactParseAlertRow : OpenClaim := { program := "ytlhjgnodhdlooaa", sum := "07ecf7d4def427a48a7c15e7f153c058d3776e644ca11ec3310b8b7532eaddba", func := "loop.example/g00875/laws.FnExactParseAlert", spec := "fnExactParseAlert", recurses := true, apart := false }
def FnExactParseAlertSaid : Prop := fnExactParseAlertRow.holds Try.pinned (OpenSpec.ofChange fnExactParseAlertSpec)

/-- ITS FALSE NEIGHBOUR: 'it returns false'. Refute it at one input. -/
def fnExactParseAlertWrong : ChangeSpec := { name := "fnExactParseAlert", fn := fun _ => fun
  | [d] => { results := [.lit (.bool false)], args := [d] }
  | _ => none }
def FnExactParseAlertWrongFalsely : Prop := fnExactParseAlertRow.holds Try.pinned (OpenSpec.ofChange fnExactParseAlertWrong)

/-- 'laws.FnExactUnseenAlerts': WHATEVER THE INPUT: true; the input reads as it did. -/
def fnExactUnseenAlertsSpec : ChangeSpec := { name := "fnExactUnseenAlerts", fn := fun _ => fun
  | [d] => { results := [.lit (.bool true)], args := [d] }
  | _ => none }
def fnExactUnseenAlertsRow : OpenClaim := { program := "ytlhjgnodhdlooaa", sum := "07ecf7d4def427a48a7c15e7f153c058d3776e644ca11ec3310b8b7532eaddba", func := "loop.example/g00875/laws.FnExactUnseenAlerts", spec := "fnExactUnseenAlerts", apart := false }
def FnExactUnseenAlertsSaid : Prop := fnExactUnseenAlertsRow.holds Try.pinned (OpenSpec.ofChange fnExactUnseenAlertsSpec)

/-- ITS FALSE NEIGHBOUR: 'it returns false'. Refute it at one input. -/
def fnExactUnseenAlertsWrong : ChangeSpec := { name := "fnExactUnseenAlerts", fn := fun _ => fun
  | [d] => { results := [.lit (.bool false)], args := [d] }
  | _ => none }
def FnExactUnseenAlertsWrongFalsely : Prop := fnExactUnseenAlertsRow.holds Try.pinned (OpenSpec.ofChange fnExactUnseenAlertsWrong)

/-- 'laws.FnExactSetAlert': WHATEVER THE INPUT: true; the input reads as it did. -/
def fnExactSetAlertSpec : ChangeSpec := { name := "fnExactSetAlert", fn := fun _ => fun
  | [d1, d2, d3, d4, d5] => { results := [.lit (.bool true)], args := [d1, d2, d3, d4, d5] }
  | _ => none }
def fnExactSetAlertRow : OpenClaim := { program := "ytlhjgnodhdlooaa", sum := "07ecf7d4def427a48a7c15e7f153c058d3776e644ca11ec3310b8b7532eaddba", func := "loop.example/g00875/laws.FnExactSetAlert", spec := "fnExactSetAlert", apart := false }
def FnExactSetAlertSaid : Prop := fnExactSetAlertRow.holds Try.pinned (OpenSpec.ofChange fnExactSetAlertSpec)

/-- ITS FALSE NEIGHBOUR: 'it returns false'. Refute it at one input. -/
def fnExactSetAlertWrong : ChangeSpec := { name := "fnExactSetAlert", fn := fun _ => fun
  | [d1, d2, d3, d4, d5] => { results := [.lit (.bool false)], args := [d1, d2, d3, d4, d5] }
  | _ => none }
def FnExactSetAlertWrongFalsely : Prop := fnExactSetAlertRow.holds Try.pinned (OpenSpec.ofChange fnExactSetAlertWrong)

/-- 'laws.FnAlerts': WHATEVER THE INPUT: true; the input reads as it did. -/
def fnAlertsSpec : ChangeSpec := { name := "fnAlerts", fn := fun _ => fun
  | [d] => { results := [.lit (.bool true)], args := [d] }
  | _ => none }
def fnAlertsRow : OpenClaim := { program := "ytlhjgnodhdlooaa", sum := "07ecf7d4def427a48a7c15e7f153c058d3776e644ca11ec3310b8b7532eaddba", func := "loop.example/g00875/laws.FnAlerts", spec := "fnAlerts", recurses := true, apart := false }
def FnAlertsSaid : Prop := fnAlertsRow.holds Try.pinned (OpenSpec.ofChange fnAlertsSpec)

/-- ITS FALSE NEIGHBOUR: 'it returns false'. Refute it at one input. -/
def fnAlertsWrong : ChangeSpec := { name := "fnAlerts", fn := fun _ => fun
  | [d] => { results := [.lit (.bool false)], args := [d] }
  | _ => none }
def FnAlertsWrongFalsely : Prop := fnAlertsRow.holds Try.pinned (OpenSpec.ofChange fnAlertsWrong)

/- THE SECOND FORM. 'bulk': how many values and letters a reading holds, each counted each time it is reached (what is shared counts as often as it is met; a slice's spare places count too). A statement '..UptoSaid' is the law's where the arguments, and the package variables that the reading takes, are together of bulk at most 1048576: NARROWER than '..Said'. Prove '..Said' where nothing that the law and all that it calls make is longer than what came in: it says more and counts as full. Else prove '..UptoSaid'. A law counts once. -/
mutual
def uptoBulk {H : Type} : DataW H → Nat
  | .lit (.string bytes) => bytes.length + 1
  | .lit _ => 1
  | .nil => 1
  | .ptr d => uptoBulk d + 1
  | .slice elems spare => uptoBulkAll elems + uptoBulkAll spare + 1
  | .agg parts => uptoBulkAll parts + 1
  | .iface _ d => uptoBulk d + 1
  | .map entries => uptoBulkEntries entries + 1
  | .held _ => 1
def uptoBulkAll {H : Type} : List (DataW H) → Nat
  | [] => 0
  | d :: r => uptoBulk d + uptoBulkAll r
def uptoBulkEntries {H : Type} : List (Lit × DataW H) → Nat
  | [] => 0
  | x :: r => uptoBulkEntry x + uptoBulkEntries r
def uptoBulkEntry {H : Type} : Lit × DataW H → Nat
  | (.string bytes, d) => bytes.length + uptoBulk d + 1
  | (_, d) => uptoBulk d + 1
 end
def uptoSmall : (H : Type) → List (DataW H) → Bool := fun _ ds => decide (uptoBulkAll ds ≤ 1048576)
def OpenSpec.upto (s : _root_.Go.ChangeSpec) : _root_.Go.OpenSpec := { _root_.Go.OpenSpec.ofChange s with cond := some uptoSmall }

/-- 'laws.FnExactAlertLine', WHERE WHAT IT READS IS OF BULK AT MOST 1048576: true; the input reads as it did. -/
def fnExactAlertLineUptoRow : OpenClaim := { program := "ytlhjgnodhdlooaa", sum := "07ecf7d4def427a48a7c15e7f153c058d3776e644ca11ec3310b8b7532eaddba", func := "loop.example/g00875/laws.FnExactAlertLine", spec := "fnExactAlertLine", recurses := true, apart := false, narrowed := true }
def FnExactAlertLineUptoSaid : Prop := fnExactAlertLineUptoRow.holds Try.pinned (OpenSpec.upto fnExactAlertLineSpec)

/-- 'laws.FnExactIsValidAlerts', WHERE WHAT IT READS IS OF BULK AT MOST 1048576: true; the input reads as it did. -/
def fnExactIsValidAlertsUptoRow : OpenClaim := { program := "ytlhjgnodhdlooaa", sum := "07ecf7d4def427a48a7c15e7f153c058d3776e644ca11ec3310b8b7532eaddba", func := "loop.example/g00875/laws.FnExactIsValidAlerts", spec := "fnExactIsValidAlerts", apart := false, narrowed := true }
def FnExactIsValidAlertsUptoSaid : Prop := fnExactIsValidAlertsUptoRow.holds Try.pinned (OpenSpec.upto fnExactIsValidAlertsSpec)

/-- 'laws.FnExactAlertOf', WHERE WHAT IT READS IS OF BULK AT MOST 1048576: true; the input reads as it did. -/
def fnExactAlertOfUptoRow : OpenClaim := { program := "ytlhjgnodhdlooaa", sum := "07ecf7d4def427a48a7c15e7f153c058d3776e644ca11ec3310b8b7532eaddba", func := "loop.example/g00875/laws.FnExactAlertOf", spec := "fnExactAlertOf", apart := false, narrowed := true }
def FnExactAlertOfUptoSaid : Prop := fnExactAlertOfUptoRow.holds Try.pinned (OpenSpec.upto fnExactAlertOfSpec)

/-- 'laws.FnExactLevelOf', WHERE WHAT IT READS IS OF BULK AT MOST 1048576: true; the input reads as it did. -/
def fnExactLevelOfUptoRow : OpenClaim := { program := "ytlhjgnodhdlooaa", sum := "07ecf7d4def427a48a7c15e7f153c058d3776e644ca11ec3310b8b7532eaddba", func := "loop.example/g00875/laws.FnExactLevelOf", spec := "fnExactLevelOf", apart := false, narrowed := true }
def FnExactLevelOfUptoSaid : Prop := fnExactLevelOfUptoRow.holds Try.pinned (OpenSpec.upto fnExactLevelOfSpec)

/-- 'laws.FnExactSeeAlert', WHERE WHAT IT READS IS OF BULK AT MOST 1048576: true; the input reads as it did. -/
def fnExactSeeAlertUptoRow : OpenClaim := { program := "ytlhjgnodhdlooaa", sum := "07ecf7d4def427a48a7c15e7f153c058d3776e644ca11ec3310b8b7532eaddba", func := "loop.example/g00875/laws.FnExactSeeAlert", spec := "fnExactSeeAlert", apart := false, narrowed := true }
def FnExactSeeAlertUptoSaid : Prop := fnExactSeeAlertUptoRow.holds Try.pinned (OpenSpec.upto fnExactSeeAlertSpec)

/-- 'laws.FnExactParseAlert', WHERE WHAT IT READS IS OF BULK AT MOST 1048576: true; the input reads as it did. -/
def fnExactParseAlertUptoRow : OpenClaim := { program := "ytlhjgnodhdlooaa", sum := "07ecf7d4def427a48a7c15e7f153c058d3776e644ca11ec3310b8b7532eaddba", func := "loop.example/g00875/laws.FnExactParseAlert", spec := "fnExactParseAlert", recurses := true, apart := false, narrowed := true }
def FnExactParseAlertUptoSaid : Prop := fnExactParseAlertUptoRow.holds Try.pinned (OpenSpec.upto fnExactParseAlertSpec)

/-- 'laws.FnExactUnseenAlerts', WHERE WHAT IT READS IS OF BULK AT MOST 1048576: true; the input reads as it did. -/
def fnExactUnseenAlertsUptoRow : OpenClaim := { program := "ytlhjgnodhdlooaa", sum := "07ecf7d4def427a48a7c15e7f153c058d3776e644ca11ec3310b8b7532eaddba", func := "loop.example/g00875/laws.FnExactUnseenAlerts", spec := "fnExactUnseenAlerts", apart := false, narrowed := true }
def FnExactUnseenAlertsUptoSaid : Prop := fnExactUnseenAlertsUptoRow.holds Try.pinned (OpenSpec.upto fnExactUnseenAlertsSpec)

/-- 'laws.FnExactSetAlert', WHERE WHAT IT READS IS OF BULK AT MOST 1048576: true; the input reads as it did. -/
def fnExactSetAlertUptoRow : OpenClaim := { program := "ytlhjgnodhdlooaa", sum := "07ecf7d4def427a48a7c15e7f153c058d3776e644ca11ec3310b8b7532eaddba", func := "loop.example/g00875/laws.FnExactSetAlert", spec := "fnExactSetAlert", apart := false, narrowed := true }
def FnExactSetAlertUptoSaid : Prop := fnExactSetAlertUptoRow.holds Try.pinned (OpenSpec.upto fnExactSetAlertSpec)

/-- 'laws.FnAlerts', WHERE WHAT IT READS IS OF BULK AT MOST 1048576: true; the input reads as it did. -/
def fnAlertsUptoRow : OpenClaim := { program := "ytlhjgnodhdlooaa", sum := "07ecf7d4def427a48a7c15e7f153c058d3776e644ca11ec3310b8b7532eaddba", func := "loop.example/g00875/laws.FnAlerts", spec := "fnAlerts", recurses := true, apart := false, narrowed := true }
def FnAlertsUptoSaid : Prop := fnAlertsUptoRow.holds Try.pinned (OpenSpec.upto fnAlertsSpec)

end Rows
end Go.Proofs.Ytlhjgnodhdlooaa
