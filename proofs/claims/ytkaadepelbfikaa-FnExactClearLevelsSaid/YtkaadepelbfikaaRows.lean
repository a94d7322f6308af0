/-
  No cell of these rows narrows 'for every input' (looked for: loops, veiled, ifaces, maps, wideKeys, modest, calm, conditions, laid).
  DERIVED. THE GIVEN ROWS OF THIS SEAT. 11 by the template 'for every input the law returns true; each argument reads behind the call as it read before'; 0 by the template 'total and deterministic' (their statements: YtkaadepelbfikaaTotals.lean).
  GIVEN WITH THE SEED: the statements are not yours to turn. If you find one false, say at which input.
  Laid BY PROGRAM, IN A SANDBOX (cutbox-rows.mjs): the forced cells as the released guide's own fill.sh prints them over the translation 210cce6f109caa9c… (all of the seat's roots in one cut). By AI agents, Wed Nov 11 2026. No macro, syntax, notation, axiom, sorry.
-/
import Derived.Test.YtkaadepelbfikaaChecked
import GoSem.Claim
import GoSem.ClaimJoined
import GoSem.ClaimMapViews
import Derived.JoinedTies
import Derived.KernelRfl
namespace Go.Proofs.Ytkaadepelbfikaa
/- THE CELL 'sum', in the pinned program and in every row, IS THE sha256 OF THE DUMP (.gsa) THAT YtkaadepelbfikaaProg.lean LOADS. Nothing in Lean hashes anything: it is a label: what it is worth is what the hold of that sum in a sandbox is worth. -/
noncomputable def Try.pinned : Pinned := { name := "ytkaadepelbfikaa", sum := "210cce6f109caa9c1ad2f6db40720c560d0a28d62a830baea49670ce1669f634", checked := Try.checked }
namespace Rows
def none {H : Type} : Left H := { results := [], args := [] }

/-- 'laws.FnExactIsFlightLevel': WHATEVER THE INPUT: true; the input reads as it did. -/
def fnExactIsFlightLevelSpec : ChangeSpec := { name := "fnExactIsFlightLevel", fn := fun _ => fun
  | [d] => { results := [.lit (.bool true)], args := [d] }
  | _ => none }
def fnExactIsFlightLevelRow : OpenClaim := { program := "ytkaadepelbfikaa", sum := "210cce6f109caa9c1ad2f6db40720c560d0a28d62a830baea49670ce1669f634", func := "loop.example/g00875/laws.FnExactIsFlightLevel", spec := "fnExactIsFlightLevel", apart := false }
def FnExactIsFlightLevelSaid : Prop := fnExactIsFlightLevelRow.holds Try.pinned (OpenSpec.ofChange fnExactIsFlightLevelSpec)

/-- ITS FALSE NEIGHBOUR: 'it returns false'. Refute it at one input. -/
def fnExactIsFlightLevelWrong : ChangeSpec := { name := "fnExactIsFlightLevel", fn := fun _ => fun
  | [d] => { results := [.lit (.bool false)], args := [d] }
  | _ => none }
def FnExactIsFlightLevelWrongFalsely : Prop := fnExactIsFlightLevelRow.holds Try.pinned (OpenSpec.ofChange fnExactIsFlightLevelWrong)

/-- 'laws.FnExactIsRightLevel': WHATEVER THE INPUT: true; the input reads as it did. -/
def fnExactIsRightLevelSpec : ChangeSpec := { name := "fnExactIsRightLevel", fn := fun _ => fun
  | [d1, d2] => { results := [.lit (.bool true)], args := [d1, d2] }
  | _ => none }
def fnExactIsRightLevelRow : OpenClaim := { program := "ytkaadepelbfikaa", sum := "210cce6f109caa9c1ad2f6db40720c560d0a28d62a830baea49670ce1669f634", func := "loop.example/g00875/laws.FnExactIsRightLevel", spec := "fnExactIsRightLevel", apart := false }
def FnExactIsRightLevelSaid : Prop := fnExactIsRightLevelRow.holds Try.pinned (OpenSpec.ofChange fnExactIsRightLevelSpec)

/-- ITS FALSE NEIGHBOUR: 'it returns false'. Refute it at one input. -/
def fnExactIsRightLevelWrong : ChangeSpec := { name := "fnExactIsRightLevel", fn := fun _ => fun
  | [d1, d2] => { results := [.lit (.bool false)], args := [d1, d2] }
  | _ => none }
def FnExactIsRightLevelWrongFalsely : Prop := fnExactIsRightLevelRow.holds Try.pinned (OpenSpec.ofChange fnExactIsRightLevelWrong)

/-- 'laws.FnExactIsValidClearances': WHATEVER THE INPUT: true; the input reads as it did. -/
def fnExactIsValidClearancesSpec : ChangeSpec := { name := "fnExactIsValidClearances", fn := fun _ => fun
  | [d] => { results := [.lit (.bool true)], args := [d] }
  | _ => none }
def fnExactIsValidClearancesRow : OpenClaim := { program := "ytkaadepelbfikaa", sum := "210cce6f109caa9c1ad2f6db40720c560d0a28d62a830baea49670ce1669f634", func := "loop.example/g00875/laws.FnExactIsValidClearances", spec := "fnExactIsValidClearances", apart := false }
def FnExactIsValidClearancesSaid : Prop := fnExactIsValidClearancesRow.holds Try.pinned (OpenSpec.ofChange fnExactIsValidClearancesSpec)

/-- ITS FALSE NEIGHBOUR: 'it returns false'. Refute it at one input. -/
def fnExactIsValidClearancesWrong : ChangeSpec := { name := "fnExactIsValidClearances", fn := fun _ => fun
  | [d] => { results := [.lit (.bool false)], args := [d] }
  | _ => none }
def FnExactIsValidClearancesWrongFalsely : Prop := fnExactIsValidClearancesRow.holds Try.pinned (OpenSpec.ofChange fnExactIsValidClearancesWrong)

/-- 'laws.FnExactClearedAt': WHATEVER THE INPUT: true; the input reads as it did. -/
def fnExactClearedAtSpec : ChangeSpec := { name := "fnExactClearedAt", fn := fun _ => fun
  | [d1, d2, d3] => { results := [.lit (.bool true)], args := [d1, d2, d3] }
  | _ => none }
def fnExactClearedAtRow : OpenClaim := { program := "ytkaadepelbfikaa", sum := "210cce6f109caa9c1ad2f6db40720c560d0a28d62a830baea49670ce1669f634", func := "loop.example/g00875/laws.FnExactClearedAt", spec := "fnExactClearedAt", apart := false }
def FnExactClearedAtSaid : Prop := fnExactClearedAtRow.holds Try.pinned (OpenSpec.ofChange fnExactClearedAtSpec)

/-- ITS FALSE NEIGHBOUR: 'it returns false'. Refute it at one input. -/
def fnExactClearedAtWrong : ChangeSpec := { name := "fnExactClearedAt", fn := fun _ => fun
  | [d1, d2, d3] => { results := [.lit (.bool false)], args := [d1, d2, d3] }
  | _ => none }
def FnExactClearedAtWrongFalsely : Prop := fnExactClearedAtRow.holds Try.pinned (OpenSpec.ofChange fnExactClearedAtWrong)

/-- 'laws.FnExactLevelConflicts': WHATEVER THE INPUT: true; the input reads as it did. -/
def fnExactLevelConflictsSpec : ChangeSpec := { name := "fnExactLevelConflicts", fn := fun _ => fun
  | [d1, d2] => { results := [.lit (.bool true)], args := [d1, d2] }
  | _ => none }
def fnExactLevelConflictsRow : OpenClaim := { program := "ytkaadepelbfikaa", sum := "210cce6f109caa9c1ad2f6db40720c560d0a28d62a830baea49670ce1669f634", func := "loop.example/g00875/laws.FnExactLevelConflicts", spec := "fnExactLevelConflicts", apart := false }
def FnExactLevelConflictsSaid : Prop := fnExactLevelConflictsRow.holds Try.pinned (OpenSpec.ofChange fnExactLevelConflictsSpec)

/-- ITS FALSE NEIGHBOUR: 'it returns false'. Refute it at one input. -/
def fnExactLevelConflictsWrong : ChangeSpec := { name := "fnExactLevelConflicts", fn := fun _ => fun
  | [d1, d2] => { results := [.lit (.bool false)], args := [d1, d2] }
  | _ => none }
def FnExactLevelConflictsWrongFalsely : Prop := fnExactLevelConflictsRow.holds Try.pinned (OpenSpec.ofChange fnExactLevelConflictsWrong)

/-- 'laws.FnExactClearLevels': WHATEVER THE INPUT: true; the input reads as it did. -/
def fnExactClearLevelsSpec : ChangeSpec := { name := "fnExactClearLevels", fn := fun _ => fun
  | [d1, d2] => { results := [.lit (.bool true)], args := [d1, d2] }
  | _ => none }
def fnExactClearLevelsRow : OpenClaim := { program := "ytkaadepelbfikaa", sum := "210cce6f109caa9c1ad2f6db40720c560d0a28d62a830baea49670ce1669f634", func := "loop.example/g00875/laws.FnExactClearLevels", spec := "fnExactClearLevels", apart := false }
def FnExactClearLevelsSaid : Prop := fnExactClearLevelsRow.holds Try.pinned (OpenSpec.ofChange fnExactClearLevelsSpec)

/-- ITS FALSE NEIGHBOUR: 'it returns false'. Refute it at one input. -/
def fnExactClearLevelsWrong : ChangeSpec := { name := "fnExactClearLevels", fn := fun _ => fun
  | [d1, d2] => { results := [.lit (.bool false)], args := [d1, d2] }
  | _ => none }
def FnExactClearLevelsWrongFalsely : Prop := fnExactClearLevelsRow.holds Try.pinned (OpenSpec.ofChange fnExactClearLevelsWrong)

/-- 'laws.FnExactReleaseLevels': WHATEVER THE INPUT: true; the input reads as it did. -/
def fnExactReleaseLevelsSpec : ChangeSpec := { name := "fnExactReleaseLevels", fn := fun _ => fun
  | [d1, d2] => { results := [.lit (.bool true)], args := [d1, d2] }
  | _ => none }
def fnExactReleaseLevelsRow : OpenClaim := { program := "ytkaadepelbfikaa", sum := "210cce6f109caa9c1ad2f6db40720c560d0a28d62a830baea49670ce1669f634", func := "loop.example/g00875/laws.FnExactReleaseLevels", spec := "fnExactReleaseLevels", apart := false }
def FnExactReleaseLevelsSaid : Prop := fnExactReleaseLevelsRow.holds Try.pinned (OpenSpec.ofChange fnExactReleaseLevelsSpec)

/-- ITS FALSE NEIGHBOUR: 'it returns false'. Refute it at one input. -/
def fnExactReleaseLevelsWrong : ChangeSpec := { name := "fnExactReleaseLevels", fn := fun _ => fun
  | [d1, d2] => { results := [.lit (.bool false)], args := [d1, d2] }
  | _ => none }
def FnExactReleaseLevelsWrongFalsely : Prop := fnExactReleaseLevelsRow.holds Try.pinned (OpenSpec.ofChange fnExactReleaseLevelsWrong)

/-- 'laws.FnExactFreeLevels': WHATEVER THE INPUT: true; the input reads as it did. -/
def fnExactFreeLevelsSpec : ChangeSpec := { name := "fnExactFreeLevels", fn := fun _ => fun
  | [d1, d2, d3, d4] => { results := [.lit (.bool true)], args := [d1, d2, d3, d4] }
  | _ => none }
def fnExactFreeLevelsRow : OpenClaim := { program := "ytkaadepelbfikaa", sum := "210cce6f109caa9c1ad2f6db40720c560d0a28d62a830baea49670ce1669f634", func := "loop.example/g00875/laws.FnExactFreeLevels", spec := "fnExactFreeLevels", apart := false }
def FnExactFreeLevelsSaid : Prop := fnExactFreeLevelsRow.holds Try.pinned (OpenSpec.ofChange fnExactFreeLevelsSpec)

/-- ITS FALSE NEIGHBOUR: 'it returns false'. Refute it at one input. -/
def fnExactFreeLevelsWrong : ChangeSpec := { name := "fnExactFreeLevels", fn := fun _ => fun
  | [d1, d2, d3, d4] => { results := [.lit (.bool false)], args := [d1, d2, d3, d4] }
  | _ => none }
def FnExactFreeLevelsWrongFalsely : Prop := fnExactFreeLevelsRow.holds Try.pinned (OpenSpec.ofChange fnExactFreeLevelsWrong)

/-- 'laws.FnExactNearestLevel': WHATEVER THE INPUT: true; the input reads as it did. -/
def fnExactNearestLevelSpec : ChangeSpec := { name := "fnExactNearestLevel", fn := fun _ => fun
  | [d1, d2, d3, d4, d5, d6] => { results := [.lit (.bool true)], args := [d1, d2, d3, d4, d5, d6] }
  | _ => none }
def fnExactNearestLevelRow : OpenClaim := { program := "ytkaadepelbfikaa", sum := "210cce6f109caa9c1ad2f6db40720c560d0a28d62a830baea49670ce1669f634", func := "loop.example/g00875/laws.FnExactNearestLevel", spec := "fnExactNearestLevel", apart := false }
def FnExactNearestLevelSaid : Prop := fnExactNearestLevelRow.holds Try.pinned (OpenSpec.ofChange fnExactNearestLevelSpec)

/-- ITS FALSE NEIGHBOUR: 'it returns false'. Refute it at one input. -/
def fnExactNearestLevelWrong : ChangeSpec := { name := "fnExactNearestLevel", fn := fun _ => fun
  | [d1, d2, d3, d4, d5, d6] => { results := [.lit (.bool false)], args := [d1, d2, d3, d4, d5, d6] }
  | _ => none }
def FnExactNearestLevelWrongFalsely : Prop := fnExactNearestLevelRow.holds Try.pinned (OpenSpec.ofChange fnExactNearestLevelWrong)

/-- 'laws.FnClearances': WHATEVER THE INPUT: true; the input reads as it did. -/
def fnClearancesSpec : ChangeSpec := { name := "fnClearances", fn := fun _ => fun
  | [d] => { results := [.lit (.bool true)], args := [d] }
  | _ => none }
def fnClearancesRow : OpenClaim := { program := "ytkaadepelbfikaa", sum := "210cce6f109caa9c1ad2f6db40720c560d0a28d62a830baea49670ce1669f634", func := "loop.example/g00875/laws.FnClearances", spec := "fnClearances", apart := false }
def FnClearancesSaid : Prop := fnClearancesRow.holds Try.pinned (OpenSpec.ofChange fnClearancesSpec)

/-- ITS FALSE NEIGHBOUR: 'it returns false'. Refute it at one input. -/
def fnClearancesWrong : ChangeSpec := { name := "fnClearances", fn := fun _ => fun
  | [d] => { results := [.lit (.bool false)], args := [d] }
  | _ => none }
def FnClearancesWrongFalsely : Prop := fnClearancesRow.holds Try.pinned (OpenSpec.ofChange fnClearancesWrong)

/-- 'laws.FnLevels': WHATEVER THE INPUT: true; the input reads as it did. -/
def fnLevelsSpec : ChangeSpec := { name := "fnLevels", fn := fun _ => fun
  | [d] => { results := [.lit (.bool true)], args := [d] }
  | _ => none }
def fnLevelsRow : OpenClaim := { program := "ytkaadepelbfikaa", sum := "210cce6f109caa9c1ad2f6db40720c560d0a28d62a830baea49670ce1669f634", func := "loop.example/g00875/laws.FnLevels", spec := "fnLevels", apart := false }
def FnLevelsSaid : Prop := fnLevelsRow.holds Try.pinned (OpenSpec.ofChange fnLevelsSpec)

/-- ITS FALSE NEIGHBOUR: 'it returns false'. Refute it at one input. -/
def fnLevelsWrong : ChangeSpec := { name := "fnLevels", fn := fun _ => fun
  | [d] => { results := [.lit (.bool false)], args := [d] }
  | _ => none }
def FnLevelsWrongFalsely : Prop := fnLevelsRow.holds Try.pinned (OpenSpec.ofChange fnLevelsWrong)

/- THE SECOND FORM. 'bulk': how many values and letters a reading holds, each counted each time it is reached (what is shared counts as often as it is met; a slice's spare places count too). A statement '..UptoSaid' is the law's where the arguments, and the package variables that the reading takes, are together of bulk at most 1048576: NARROWER than '..Said'. Prove '..Said' where nothing that the law and all that it calls make is longer than what came in: it says more and counts as full. Else prove '..UptoSaid'. A law counts once. -/
mutual
def uptoBulk {H : Type} : DataW H → Nat
  | .lit (.string bytes) => bytes.length + 1
  | .lit _ => 1
  | .nil => 1
  | .ptr d => uptoBulk d + 1
  | .slice elems spare => uptoBulkAll elems + uptoBulkAll spare + 1
  | .agg parts => uptoBulkAll parts + 1
  | .iface _ d => uptoBulk d + 1
  | .map entries => uptoBulkEntries entries + 1
  | .held _ => 1
def uptoBulkAll {H : Type} : List (DataW H) → Nat
  | [] => 0
  | d :: r => uptoBulk d + uptoBulkAll r
def uptoBulkEntries {H : Type} : List (Lit × DataW H) → Nat
  | [] => 0
  | x :: r => uptoBulkEntry x + uptoBulkEntries r
def uptoBulkEntry {H : Type} : Lit × DataW H → Nat
  | (.string bytes, d) => bytes.length + uptoBulk d + 1
  | (_, d) => uptoBulk d + 1
 end
def uptoSmall : (H : Type) → List (DataW H) → Bool := fun _ ds => decide (uptoBulkAll ds ≤ 1048576)
def OpenSpec.upto (s : _root_.Go.ChangeSpec) : _root_.Go.OpenSpec := { _root_.Go.OpenSpec.ofChange s with cond := some uptoSmall }

/-- 'laws.FnExactIsFlightLevel', WHERE WHAT IT READS IS OF BULK AT MOST 1048576: true; the input reads as it did. -/
def fnExactIsFlightLevelUptoRow : OpenClaim := { program := "ytkaadepelbfikaa", sum := "210cce6f109caa9c1ad2f6db40720c560d0a28d62a830baea49670ce1669f634", func := "loop.example/g00875/laws.FnExactIsFlightLevel", spec := "fnExactIsFlightLevel", apart := false, narrowed := true }
def FnExactIsFlightLevelUptoSaid : Prop := fnExactIsFlightLevelUptoRow.holds Try.pinned (OpenSpec.upto fnExactIsFlightLevelSpec)

/-- 'laws.FnExactIsRightLevel', WHERE WHAT IT READS IS OF BULK AT MOST 1048576: true; the input reads as it did. -/
def fnExactIsRightLevelUptoRow : OpenClaim := { program := "ytkaadepelbfikaa", sum := "210cce6f109caa9c1ad2f6db40720c560d0a28d62a830baea49670ce1669f634", func := "loop.example/g00875/laws.FnExactIsRightLevel", spec := "fnExactIsRightLevel", apart := false, narrowed := true }
def FnExactIsRightLevelUptoSaid : Prop := fnExactIsRightLevelUptoRow.holds Try.pinned (OpenSpec.upto fnExactIsRightLevelSpec)

/-- 'laws.FnExactIsValidClearances', WHERE WHAT IT READS IS OF BULK AT MOST 1048576: true; the input reads as it did. -/
def fnExactIsValidClearancesUptoRow : OpenClaim := { program := "ytkaadepelbfikaa", sum := "210cce6f109caa9c1ad2f6db40720c560d0a28d62a830baea49670ce1669f634", func := "loop.example/g00875/laws.FnExactIsValidClearances", spec := "fnExactIsValidClearances", apart := false, narrowed := true }
def FnExactIsValidClearancesUptoSaid : Prop := fnExactIsValidClearancesUptoRow.holds Try.pinned (OpenSpec.upto fnExactIsValidClearancesSpec)

/-- 'laws.FnExactClearedAt', WHERE WHAT IT READS IS OF BULK AT MOST 1048576: true; the input reads as it did. -/
def fnExactClearedAtUptoRow : OpenClaim := { program := "ytkaadepelbfikaa", sum := "210cce6f109caa9c1ad2f6db40720c560d0a28d62a830baea49670ce1669f634", func := "loop.example/g00875/laws.FnExactClearedAt", spec := "fnExactClearedAt", apart := false, narrowed := true }
def FnExactClearedAtUptoSaid : Prop := fnExactClearedAtUptoRow.holds Try.pinned (OpenSpec.upto fnExactClearedAtSpec)

/-- 'laws.FnExactLevelConflicts', WHERE WHAT IT READS IS OF BULK AT MOST 1048576: true; the input reads as it did. -/
def fnExactLevelConflictsUptoRow : OpenClaim := { program := "ytkaadepelbfikaa", sum := "210cce6f109caa9c1ad2f6db40720c560d0a28d62a830baea49670ce1669f634", func := "loop.example/g00875/laws.FnExactLevelConflicts", spec := "fnExactLevelConflicts", apart := false, narrowed := true }
def FnExactLevelConflictsUptoSaid : Prop := fnExactLevelConflictsUptoRow.holds Try.pinned (OpenSpec.upto fnExactLevelConflictsSpec)

/-- 'laws.FnExactClearLevels', WHERE WHAT IT READS IS OF BULK AT MOST 1048576: true; the input reads as it did. -/
def fnExactClearLevelsUptoRow : OpenClaim := { program := "ytkaadepelbfikaa", sum := "210cce6f109caa9c1ad2f6db40720c560d0a28d62a830baea49670ce1669f634", func := "loop.example/g00875/laws.FnExactClearLevels", spec := "fnExactClearLevels", apart := false, narrowed := true }
def FnExactClearLevelsUptoSaid : Prop := fnExactClearLevelsUptoRow.holds Try.pinned (OpenSpec.upto fnExactClearLevelsSpec)

/-- 'laws.FnExactReleaseLevels', WHERE WHAT IT READS IS OF BULK AT MOST 1048576: true; the input reads as it did. -/
def fnExactReleaseLevelsUptoRow : OpenClaim := { program := "ytkaadepelbfikaa", sum := "210cce6f109caa9c1ad2f6db40720c560d0a28d62a830baea49670ce1669f634", func := "loop.example/g00875/laws.FnExactReleaseLevels", spec := "fnExactReleaseLevels", apart := false, narrowed := true }
def FnExactReleaseLevelsUptoSaid : Prop := fnExactReleaseLevelsUptoRow.holds Try.pinned (OpenSpec.upto fnExactReleaseLevelsSpec)

/-- 'laws.FnExactFreeLevels', WHERE WHAT IT READS IS OF BULK AT MOST 1048576: true; the input reads as it did. -/
def fnExactFreeLevelsUptoRow : OpenClaim := { program := "ytkaadepelbfikaa", sum := "210cce6f109caa9c1ad2f6db40720c560d0a28d62a830baea49670ce1669f634", func := "loop.example/g00875/laws.FnExactFreeLevels", spec := "fnExactFreeLevels", apart := false, narrowed := true }
def FnExactFreeLevelsUptoSaid : Prop := fnExactFreeLevelsUptoRow.holds Try.pinned (OpenSpec.upto fnExactFreeLevelsSpec)

/-- 'laws.FnExactNearestLevel', WHERE WHAT IT READS IS OF BULK AT MOST 1048576: true; the input reads as it did. -/
def fnExactNearestLevelUptoRow : OpenClaim := { program := "ytkaadepelbfikaa", sum := "210cce6f109caa9c1ad2f6db40720c560d0a28d62a830baea49670ce1669f634", func := "loop.example/g00875/laws.FnExactNearestLevel", spec := "fnExactNearestLevel", apart := false, narrowed := true }
def FnExactNearestLevelUptoSaid : Prop := fnExactNearestLevelUptoRow.holds Try.pinned (OpenSpec.upto fnExactNearestLevelSpec)

/-- 'laws.FnClearances', WHERE WHAT IT READS IS OF BULK AT MOST 1048576: true; the input reads as it did. -/
def fnClearancesUptoRow : OpenClaim := { program := "ytkaadepelbfikaa", sum := "210cce6f109caa9c1ad2f6db40720c560d0a28d62a830baea49670ce1669f634", func := "loop.example/g00875/laws.FnClearances", spec := "fnClearances", apart := false, narrowed := true }
def FnClearancesUptoSaid : Prop := fnClearancesUptoRow.holds Try.pinned (OpenSpec.upto fnClearancesSpec)

/-- 'laws.FnLevels', WHERE WHAT IT READS IS OF BULK AT MOST 1048576: true; the input reads as it did. -/
def fnLevelsUptoRow : OpenClaim := { program := "ytkaadepelbfikaa", sum := "210cce6f109caa9c1ad2f6db40720c560d0a28d62a830baea49670ce1669f634", func := "loop.example/g00875/laws.FnLevels", spec := "fnLevels", apart := false, narrowed := true }
def FnLevelsUptoSaid : Prop := fnLevelsUptoRow.holds Try.pinned (OpenSpec.upto fnLevelsSpec)

end Rows
end Go.Proofs.Ytkaadepelbfikaa
