/-
  No cell of these rows narrows 'for every input' (looked for: loops, veiled, ifaces, maps, wideKeys, modest, calm, conditions, laid).
  DERIVED. THE GIVEN ROWS OF THIS SEAT. 6 by the template 'for every input the law returns true; each argument reads behind the call as it read before'; 0 by the template 'total and deterministic' (their statements: YtoklmbhhoefgpaaTotals.lean).
  GIVEN WITH THE SEED: the statements are not yours to turn. If you find one false, say at which input.
  Laid BY PROGRAM, IN A SANDBOX (cutbox-rows.mjs): the forced cells as the released guide's own fill.sh prints them over the translation 2d4e90536f4fea47… (all of the seat's roots in one cut). By AI agents, Wed Nov 11 2026. No macro, syntax, notation, axiom, sorry.
-/
import Derived.Test.YtoklmbhhoefgpaaChecked
import GoSem.Claim
import GoSem.ClaimJoined
import GoSem.ClaimMapViews
import Derived.JoinedTies
import Derived.KernelRfl
namespace Go.Proofs.Ytoklmbhhoefgpaa
/- THE CELL 'sum', in the pinned program and in every row, IS THE sha256 OF THE DUMP (.gsa) THAT YtoklmbhhoefgpaaProg.lean LOADS. Nothing in Lean hashes anything: it is a label: what it is worth is what the hold of that sum in a sandbox is worth. -/
noncomputable def Try.pinned : Pinned := { name := "ytoklmbhhoefgpaa", sum := "2d4e90536f4fea47a1ebf11bb1bc6bd4dfd6cbcfbbcdc5988c63b9880a3b557e", checked := Try.checked }
namespace Rows
def none {H : Type} : Left H := { results := [], args := [] }

/-- 'laws.FnExactConflictPairs': WHATEVER THE INPUT: true; the input reads as it did. -/
def fnExactConflictPairsSpec : ChangeSpec := { name := "fnExactConflictPairs", fn := fun _ => fun
  | [d1, d2, d3] => { results := [.lit (.bool true)], args := [d1, d2, d3] }
  | _ => none }
def fnExactConflictPairsRow : OpenClaim := { program := "ytoklmbhhoefgpaa", sum := "2d4e90536f4fea47a1ebf11bb1bc6bd4dfd6cbcfbbcdc5988c63b9880a3b557e", func := "loop.example/g00875/laws.FnExactConflictPairs", spec := "fnExactConflictPairs", apart := false }
def FnExactConflictPairsSaid : Prop := fnExactConflictPairsRow.holds Try.pinned (OpenSpec.ofChange fnExactConflictPairsSpec)

/-- ITS FALSE NEIGHBOUR: 'it returns false'. Refute it at one input. -/
def fnExactConflictPairsWrong : ChangeSpec := { name := "fnExactConflictPairs", fn := fun _ => fun
  | [d1, d2, d3] => { results := [.lit (.bool false)], args := [d1, d2, d3] }
  | _ => none }
def FnExactConflictPairsWrongFalsely : Prop := fnExactConflictPairsRow.holds Try.pinned (OpenSpec.ofChange fnExactConflictPairsWrong)

/-- 'laws.FnExactFreeDirections': WHATEVER THE INPUT: true; the input reads as it did. -/
def fnExactFreeDirectionsSpec : ChangeSpec := { name := "fnExactFreeDirections", fn := fun _ => fun
  | [d1, d2, d3, d4] => { results := [.lit (.bool true)], args := [d1, d2, d3, d4] }
  | _ => none }
def fnExactFreeDirectionsRow : OpenClaim := { program := "ytoklmbhhoefgpaa", sum := "2d4e90536f4fea47a1ebf11bb1bc6bd4dfd6cbcfbbcdc5988c63b9880a3b557e", func := "loop.example/g00875/laws.FnExactFreeDirections", spec := "fnExactFreeDirections", apart := false }
def FnExactFreeDirectionsSaid : Prop := fnExactFreeDirectionsRow.holds Try.pinned (OpenSpec.ofChange fnExactFreeDirectionsSpec)

/-- ITS FALSE NEIGHBOUR: 'it returns false'. Refute it at one input. -/
def fnExactFreeDirectionsWrong : ChangeSpec := { name := "fnExactFreeDirections", fn := fun _ => fun
  | [d1, d2, d3, d4] => { results := [.lit (.bool false)], args := [d1, d2, d3, d4] }
  | _ => none }
def FnExactFreeDirectionsWrongFalsely : Prop := fnExactFreeDirectionsRow.holds Try.pinned (OpenSpec.ofChange fnExactFreeDirectionsWrong)

/-- 'laws.FnExactUpdateAlerts': WHATEVER THE INPUT: true; the input reads as it did. -/
def fnExactUpdateAlertsSpec : ChangeSpec := { name := "fnExactUpdateAlerts", fn := fun _ => fun
  | [d1, d2, d3, d4, d5] => { results := [.lit (.bool true)], args := [d1, d2, d3, d4, d5] }
  | _ => none }
def fnExactUpdateAlertsRow : OpenClaim := { program := "ytoklmbhhoefgpaa", sum := "2d4e90536f4fea47a1ebf11bb1bc6bd4dfd6cbcfbbcdc5988c63b9880a3b557e", func := "loop.example/g00875/laws.FnExactUpdateAlerts", spec := "fnExactUpdateAlerts", apart := false }
def FnExactUpdateAlertsSaid : Prop := fnExactUpdateAlertsRow.holds Try.pinned (OpenSpec.ofChange fnExactUpdateAlertsSpec)

/-- ITS FALSE NEIGHBOUR: 'it returns false'. Refute it at one input. -/
def fnExactUpdateAlertsWrong : ChangeSpec := { name := "fnExactUpdateAlerts", fn := fun _ => fun
  | [d1, d2, d3, d4, d5] => { results := [.lit (.bool false)], args := [d1, d2, d3, d4, d5] }
  | _ => none }
def FnExactUpdateAlertsWrongFalsely : Prop := fnExactUpdateAlertsRow.holds Try.pinned (OpenSpec.ofChange fnExactUpdateAlertsWrong)

/-- 'laws.FnApproach': WHATEVER THE INPUT: true; the input reads as it did. -/
def fnApproachSpec : ChangeSpec := { name := "fnApproach", fn := fun _ => fun
  | [d] => { results := [.lit (.bool true)], args := [d] }
  | _ => none }
def fnApproachRow : OpenClaim := { program := "ytoklmbhhoefgpaa", sum := "2d4e90536f4fea47a1ebf11bb1bc6bd4dfd6cbcfbbcdc5988c63b9880a3b557e", func := "loop.example/g00875/laws.FnApproach", spec := "fnApproach", apart := false }
def FnApproachSaid : Prop := fnApproachRow.holds Try.pinned (OpenSpec.ofChange fnApproachSpec)

/-- ITS FALSE NEIGHBOUR: 'it returns false'. Refute it at one input. -/
def fnApproachWrong : ChangeSpec := { name := "fnApproach", fn := fun _ => fun
  | [d] => { results := [.lit (.bool false)], args := [d] }
  | _ => none }
def FnApproachWrongFalsely : Prop := fnApproachRow.holds Try.pinned (OpenSpec.ofChange fnApproachWrong)

/-- 'laws.FnSeparation': WHATEVER THE INPUT: true; the input reads as it did. -/
def fnSeparationSpec : ChangeSpec := { name := "fnSeparation", fn := fun _ => fun
  | [d] => { results := [.lit (.bool true)], args := [d] }
  | _ => none }
def fnSeparationRow : OpenClaim := { program := "ytoklmbhhoefgpaa", sum := "2d4e90536f4fea47a1ebf11bb1bc6bd4dfd6cbcfbbcdc5988c63b9880a3b557e", func := "loop.example/g00875/laws.FnSeparation", spec := "fnSeparation", apart := false }
def FnSeparationSaid : Prop := fnSeparationRow.holds Try.pinned (OpenSpec.ofChange fnSeparationSpec)

/-- ITS FALSE NEIGHBOUR: 'it returns false'. Refute it at one input. -/
def fnSeparationWrong : ChangeSpec := { name := "fnSeparation", fn := fun _ => fun
  | [d] => { results := [.lit (.bool false)], args := [d] }
  | _ => none }
def FnSeparationWrongFalsely : Prop := fnSeparationRow.holds Try.pinned (OpenSpec.ofChange fnSeparationWrong)

/-- 'laws.FnWatch': WHATEVER THE INPUT: true; the input reads as it did. -/
def fnWatchSpec : ChangeSpec := { name := "fnWatch", fn := fun _ => fun
  | [d] => { results := [.lit (.bool true)], args := [d] }
  | _ => none }
def fnWatchRow : OpenClaim := { program := "ytoklmbhhoefgpaa", sum := "2d4e90536f4fea47a1ebf11bb1bc6bd4dfd6cbcfbbcdc5988c63b9880a3b557e", func := "loop.example/g00875/laws.FnWatch", spec := "fnWatch", apart := false }
def FnWatchSaid : Prop := fnWatchRow.holds Try.pinned (OpenSpec.ofChange fnWatchSpec)

/-- ITS FALSE NEIGHBOUR: 'it returns false'. Refute it at one input. -/
def fnWatchWrong : ChangeSpec := { name := "fnWatch", fn := fun _ => fun
  | [d] => { results := [.lit (.bool false)], args := [d] }
  | _ => none }
def FnWatchWrongFalsely : Prop := fnWatchRow.holds Try.pinned (OpenSpec.ofChange fnWatchWrong)

/- THE SECOND FORM. 'bulk': how many values and letters a reading holds, each counted each time it is reached (what is shared counts as often as it is met; a slice's spare places count too). A statement '..UptoSaid' is the law's where the arguments, and the package variables that the reading takes, are together of bulk at most 1048576: NARROWER than '..Said'. Prove '..Said' where nothing that the law and all that it calls make is longer than what came in: it says more and counts as full. Else prove '..UptoSaid'. A law counts once. -/
mutual
def uptoBulk {H : Type} : DataW H → Nat
  | .lit (.string bytes) => bytes.length + 1
  | .lit _ => 1
  | .nil => 1
  | .ptr d => uptoBulk d + 1
  | .slice elems spare => uptoBulkAll elems + uptoBulkAll spare + 1
  | .agg parts => uptoBulkAll parts + 1
  | .iface _ d => uptoBulk d + 1
  | .map entries => uptoBulkEntries entries + 1
  | .held _ => 1
def uptoBulkAll {H : Type} : List (DataW H) → Nat
  | [] => 0
  | d :: r => uptoBulk d + uptoBulkAll r
def uptoBulkEntries {H : Type} : List (Lit × DataW H) → Nat
  | [] => 0
  | x :: r => uptoBulkEntry x + uptoBulkEntries r
def uptoBulkEntry {H : Type} : Lit × DataW H → Nat
  | (.string bytes, d) => bytes.length + uptoBulk d + 1
  | (_, d) => uptoBulk d + 1
 end
def uptoSmall : (H : Type) → List (DataW H) → Bool := fun _ ds => decide (uptoBulkAll ds ≤ 1048576)
def OpenSpec.upto (s : _root_.Go.ChangeSpec) : _root_.Go.OpenSpec := { _root_.Go.OpenSpec.ofChange s with cond := some uptoSmall }

/-- 'laws.FnExactConflictPairs', WHERE WHAT IT READS IS OF BULK AT MOST 1048576: true; the input reads as it did. -/
def fnExactConflictPairsUptoRow : OpenClaim := { program := "ytoklmbhhoefgpaa", sum := "2d4e90536f4fea47a1ebf11bb1bc6bd4dfd6cbcfbbcdc5988c63b9880a3b557e", func := "loop.example/g00875/laws.FnExactConflictPairs", spec := "fnExactConflictPairs", apart := false, narrowed := true }
def FnExactConflictPairsUptoSaid : Prop := fnExactConflictPairsUptoRow.holds Try.pinned (OpenSpec.upto fnExactConflictPairsSpec)

/-- 'laws.FnExactFreeDirections', WHERE WHAT IT READS IS OF BULK AT MOST 1048576: true; the input reads as it did. -/
def fnExactFreeDirectionsUptoRow : OpenClaim := { program := "ytoklmbhhoefgpaa", sum := "2d4e90536f4fea47a1ebf11bb1bc6bd4dfd6cbcfbbcdc5988c63b9880a3b557e", func := "loop.example/g00875/laws.FnExactFreeDirections", spec := "fnExactFreeDirections", apart := false, narrowed := true }
def FnExactFreeDirectionsUptoSaid : Prop := fnExactFreeDirectionsUptoRow.holds Try.pinned (OpenSpec.upto fnExactFreeDirectionsSpec)

/-- 'laws.FnExactUpdateAlerts', WHERE WHAT IT READS IS OF BULK AT MOST 1048576: true; the input reads as it did. -/
def fnExactUpdateAlertsUptoRow : OpenClaim := { program := "ytoklmbhhoefgpaa", sum := "2d4e90536f4fea47a1ebf11bb1bc6bd4dfd6cbcfbbcdc5988c63b9880a3b557e", func := "loop.example/g00875/laws.FnExactUpdateAlerts", spec := "fnExactUpdateAlerts", apart := false, narrowed := true }
def FnExactUpdateAlertsUptoSaid : Prop := fnExactUpdateAlertsUptoRow.holds Try.pinned (OpenSpec.upto fnExactUpdateAlertsSpec)

/-- 'laws.FnApproach', WHERE WHAT IT READS IS OF BULK AT MOST 1048576: true; the input reads as it did. -/
def fnApproachUptoRow : OpenClaim := { program := "ytoklmbhhoefgpaa", sum := "2d4e90536f4fea47a1ebf11bb1bc6bd4dfd6cbcfbbcdc5988c63b9880a3b557e", func := "loop.example/g00875/laws.FnApproach", spec := "fnApproach", apart := false, narrowed := true }
def FnApproachUptoSaid : Prop := fnApproachUptoRow.holds Try.pinned (OpenSpec.upto fnApproachSpec)

/-- 'laws.FnSeparation', WHERE WHAT IT READS IS OF BULK AT MOST 1048576: true; the input reads as it did. -/
def fnSeparationUptoRow : OpenClaim := { program := "ytoklmbhhoefgpaa", sum := "2d4e90536f4fea47a1ebf11bb1bc6bd4dfd6cbcfbbcdc5988c63b9880a3b557e", func := "loop.example/g00875/laws.FnSeparation", spec := "fnSeparation", apart := false, narrowed := true }
def FnSeparationUptoSaid : Prop := fnSeparationUptoRow.holds Try.pinned (OpenSpec.upto fnSeparationSpec)

/-- 'laws.FnWatch', WHERE WHAT IT READS IS OF BULK AT MOST 1048576: true; the input reads as it did. -/
def fnWatchUptoRow : OpenClaim := { program := "ytoklmbhhoefgpaa", sum := "2d4e90536f4fea47a1ebf11bb1bc6bd4dfd6cbcfbbcdc5988c63b9880a3b557e", func := "loop.example/g00875/laws.FnWatch", spec := "fnWatch", apart := false, narrowed := true }
def FnWatchUptoSaid : Prop := fnWatchUptoRow.holds Try.pinned (OpenSpec.upto fnWatchSpec)

end Rows
end Go.Proofs.Ytoklmbhhoefgpaa
