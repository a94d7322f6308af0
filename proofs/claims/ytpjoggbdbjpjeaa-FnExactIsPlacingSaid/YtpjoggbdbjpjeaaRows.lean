/-
  No cell of these rows narrows 'for every input' (looked for: loops, veiled, ifaces, maps, wideKeys, modest, calm, conditions, laid).
  DERIVED. THE GIVEN ROWS OF THIS SEAT. 7 by the template 'for every input the law returns true; each argument reads behind the call as it read before'; 0 by the template 'total and deterministic' (their statements: YtpjoggbdbjpjeaaTotals.lean).
  GIVEN WITH THE SEED: the statements are not yours to turn. If you find one false, say at which input.
  Laid BY PROGRAM, IN A SANDBOX (cutbox-rows.mjs): the forced cells as the released guide's own fill.sh prints them over the translation 8d7a12f387fa42fc… (all of the seat's roots in one cut). By AI agents, Wed Nov 11 2026. No macro, syntax, notation, axiom, sorry.
-/
import Derived.Test.YtpjoggbdbjpjeaaChecked
import GoSem.Claim
import GoSem.ClaimJoined
import GoSem.ClaimMapViews
import Derived.JoinedTies
import Derived.KernelRfl
namespace Go.Proofs.Ytpjoggbdbjpjeaa
/- THE CELL 'sum', in the pinned program and in every row, IS THE sha256 OF THE DUMP (.gsa) THAT YtpjoggbdbjpjeaaProg.lean LOADS. Nothing in Lean hashes anything: it is a label: what it is worth is what the hold of that sum in a sandbox is worth. -/
noncomputable def Try.pinned : Pinned := { name := "ytpjoggbdbjpjeaa", sum := "8d7a12f387fa42fc310adff08c2e3d3387efbf2aaacf1d43dc2a2cca9116cf98", checked := Try.checked }
namespace Rows
def none {H : Type} : Left H := { results := [], args := [] }

/-- 'laws.FnExactFreeDirections': WHATEVER THE INPUT: true; the input reads as it did. -/
def fnExactFreeDirectionsSpec : ChangeSpec := { name := "fnExactFreeDirections", fn := fun _ => fun
  | [d1, d2, d3, d4] => { results := [.lit (.bool true)], args := [d1, d2, d3, d4] }
  | _ => none }
def fnExactFreeDirectionsRow : OpenClaim := { program := "ytpjoggbdbjpjeaa", sum := "8d7a12f387fa42fc310adff08c2e3d3387efbf2aaacf1d43dc2a2cca9116cf98", func := "loop.example/g00875/laws.FnExactFreeDirections", spec := "fnExactFreeDirections", apart := false }
def FnExactFreeDirectionsSaid : Prop := fnExactFreeDirectionsRow.holds Try.pinned (OpenSpec.ofChange fnExactFreeDirectionsSpec)

/-- ITS FALSE NEIGHBOUR: 'it returns false'. Refute it at one input. -/
def fnExactFreeDirectionsWrong : ChangeSpec := { name := "fnExactFreeDirections", fn := fun _ => fun
  | [d1, d2, d3, d4] => { results := [.lit (.bool false)], args := [d1, d2, d3, d4] }
  | _ => none }
def FnExactFreeDirectionsWrongFalsely : Prop := fnExactFreeDirectionsRow.holds Try.pinned (OpenSpec.ofChange fnExactFreeDirectionsWrong)

/-- 'laws.FnExactSectorsAt': WHATEVER THE INPUT: true; the input reads as it did. -/
def fnExactSectorsAtSpec : ChangeSpec := { name := "fnExactSectorsAt", fn := fun _ => fun
  | [d1, d2] => { results := [.lit (.bool true)], args := [d1, d2] }
  | _ => none }
def fnExactSectorsAtRow : OpenClaim := { program := "ytpjoggbdbjpjeaa", sum := "8d7a12f387fa42fc310adff08c2e3d3387efbf2aaacf1d43dc2a2cca9116cf98", func := "loop.example/g00875/laws.FnExactSectorsAt", spec := "fnExactSectorsAt", apart := false }
def FnExactSectorsAtSaid : Prop := fnExactSectorsAtRow.holds Try.pinned (OpenSpec.ofChange fnExactSectorsAtSpec)

/-- ITS FALSE NEIGHBOUR: 'it returns false'. Refute it at one input. -/
def fnExactSectorsAtWrong : ChangeSpec := { name := "fnExactSectorsAt", fn := fun _ => fun
  | [d1, d2] => { results := [.lit (.bool false)], args := [d1, d2] }
  | _ => none }
def FnExactSectorsAtWrongFalsely : Prop := fnExactSectorsAtRow.holds Try.pinned (OpenSpec.ofChange fnExactSectorsAtWrong)

/-- 'laws.FnCrossings': WHATEVER THE INPUT: true; the input reads as it did. -/
def fnCrossingsSpec : ChangeSpec := { name := "fnCrossings", fn := fun _ => fun
  | [d] => { results := [.lit (.bool true)], args := [d] }
  | _ => none }
def fnCrossingsRow : OpenClaim := { program := "ytpjoggbdbjpjeaa", sum := "8d7a12f387fa42fc310adff08c2e3d3387efbf2aaacf1d43dc2a2cca9116cf98", func := "loop.example/g00875/laws.FnCrossings", spec := "fnCrossings", apart := false }
def FnCrossingsSaid : Prop := fnCrossingsRow.holds Try.pinned (OpenSpec.ofChange fnCrossingsSpec)

/-- ITS FALSE NEIGHBOUR: 'it returns false'. Refute it at one input. -/
def fnCrossingsWrong : ChangeSpec := { name := "fnCrossings", fn := fun _ => fun
  | [d] => { results := [.lit (.bool false)], args := [d] }
  | _ => none }
def FnCrossingsWrongFalsely : Prop := fnCrossingsRow.holds Try.pinned (OpenSpec.ofChange fnCrossingsWrong)

/-- 'laws.FnSectors': WHATEVER THE INPUT: true; the input reads as it did. -/
def fnSectorsSpec : ChangeSpec := { name := "fnSectors", fn := fun _ => fun
  | [d] => { results := [.lit (.bool true)], args := [d] }
  | _ => none }
def fnSectorsRow : OpenClaim := { program := "ytpjoggbdbjpjeaa", sum := "8d7a12f387fa42fc310adff08c2e3d3387efbf2aaacf1d43dc2a2cca9116cf98", func := "loop.example/g00875/laws.FnSectors", spec := "fnSectors", apart := false }
def FnSectorsSaid : Prop := fnSectorsRow.holds Try.pinned (OpenSpec.ofChange fnSectorsSpec)

/-- ITS FALSE NEIGHBOUR: 'it returns false'. Refute it at one input. -/
def fnSectorsWrong : ChangeSpec := { name := "fnSectors", fn := fun _ => fun
  | [d] => { results := [.lit (.bool false)], args := [d] }
  | _ => none }
def FnSectorsWrongFalsely : Prop := fnSectorsRow.holds Try.pinned (OpenSpec.ofChange fnSectorsWrong)

/-- 'laws.FnExactLabelAt': WHATEVER THE INPUT: true; the input reads as it did. -/
def fnExactLabelAtSpec : ChangeSpec := { name := "fnExactLabelAt", fn := fun _ => fun
  | [d1, d2] => { results := [.lit (.bool true)], args := [d1, d2] }
  | _ => none }
def fnExactLabelAtRow : OpenClaim := { program := "ytpjoggbdbjpjeaa", sum := "8d7a12f387fa42fc310adff08c2e3d3387efbf2aaacf1d43dc2a2cca9116cf98", func := "loop.example/g00875/laws.FnExactLabelAt", spec := "fnExactLabelAt", apart := false }
def FnExactLabelAtSaid : Prop := fnExactLabelAtRow.holds Try.pinned (OpenSpec.ofChange fnExactLabelAtSpec)

/-- ITS FALSE NEIGHBOUR: 'it returns false'. Refute it at one input. -/
def fnExactLabelAtWrong : ChangeSpec := { name := "fnExactLabelAt", fn := fun _ => fun
  | [d1, d2] => { results := [.lit (.bool false)], args := [d1, d2] }
  | _ => none }
def FnExactLabelAtWrongFalsely : Prop := fnExactLabelAtRow.holds Try.pinned (OpenSpec.ofChange fnExactLabelAtWrong)

/-- 'laws.FnExactCornersFor': WHATEVER THE INPUT: true; the input reads as it did. -/
def fnExactCornersForSpec : ChangeSpec := { name := "fnExactCornersFor", fn := fun _ => fun
  | [d] => { results := [.lit (.bool true)], args := [d] }
  | _ => none }
def fnExactCornersForRow : OpenClaim := { program := "ytpjoggbdbjpjeaa", sum := "8d7a12f387fa42fc310adff08c2e3d3387efbf2aaacf1d43dc2a2cca9116cf98", func := "loop.example/g00875/laws.FnExactCornersFor", spec := "fnExactCornersFor", apart := false }
def FnExactCornersForSaid : Prop := fnExactCornersForRow.holds Try.pinned (OpenSpec.ofChange fnExactCornersForSpec)

/-- ITS FALSE NEIGHBOUR: 'it returns false'. Refute it at one input. -/
def fnExactCornersForWrong : ChangeSpec := { name := "fnExactCornersFor", fn := fun _ => fun
  | [d] => { results := [.lit (.bool false)], args := [d] }
  | _ => none }
def FnExactCornersForWrongFalsely : Prop := fnExactCornersForRow.holds Try.pinned (OpenSpec.ofChange fnExactCornersForWrong)

/-- 'laws.FnExactIsPlacing': WHATEVER THE INPUT: true; the input reads as it did. -/
def fnExactIsPlacingSpec : ChangeSpec := { name := "fnExactIsPlacing", fn := fun _ => fun
  | [d1, d2] => { results := [.lit (.bool true)], args := [d1, d2] }
  | _ => none }
def fnExactIsPlacingRow : OpenClaim := { program := "ytpjoggbdbjpjeaa", sum := "8d7a12f387fa42fc310adff08c2e3d3387efbf2aaacf1d43dc2a2cca9116cf98", func := "loop.example/g00875/laws.FnExactIsPlacing", spec := "fnExactIsPlacing", apart := false }
def FnExactIsPlacingSaid : Prop := fnExactIsPlacingRow.holds Try.pinned (OpenSpec.ofChange fnExactIsPlacingSpec)

/-- ITS FALSE NEIGHBOUR: 'it returns false'. Refute it at one input. -/
def fnExactIsPlacingWrong : ChangeSpec := { name := "fnExactIsPlacing", fn := fun _ => fun
  | [d1, d2] => { results := [.lit (.bool false)], args := [d1, d2] }
  | _ => none }
def FnExactIsPlacingWrongFalsely : Prop := fnExactIsPlacingRow.holds Try.pinned (OpenSpec.ofChange fnExactIsPlacingWrong)

/- THE SECOND FORM. 'bulk': how many values and letters a reading holds, each counted each time it is reached (what is shared counts as often as it is met; a slice's spare places count too). A statement '..UptoSaid' is the law's where the arguments, and the package variables that the reading takes, are together of bulk at most 1048576: NARROWER than '..Said'. Prove '..Said' where nothing that the law and all that it calls make is longer than what came in: it says more and counts as full. Else prove '..UptoSaid'. A law counts once. -/
mutual
def uptoBulk {H : Type} : DataW H → Nat
  | .lit (.string bytes) => bytes.length + 1
  | .lit _ => 1
  | .nil => 1
  | .ptr d => uptoBulk d + 1
  | .slice elems spare => uptoBulkAll elems + uptoBulkAll spare + 1
  | .agg parts => uptoBulkAll parts + 1
  | .iface _ d => uptoBulk d + 1
  | .map entries => uptoBulkEntries entries + 1
  | .held _ => 1
def uptoBulkAll {H : Type} : List (DataW H) → Nat
  | [] => 0
  | d :: r => uptoBulk d + uptoBulkAll r
def uptoBulkEntries {H : Type} : List (Lit × DataW H) → Nat
  | [] => 0
  | x :: r => uptoBulkEntry x + uptoBulkEntries r
def uptoBulkEntry {H : Type} : Lit × DataW H → Nat
  | (.string bytes, d) => bytes.length + uptoBulk d + 1
  | (_, d) => uptoBulk d + 1
 end
def uptoSmall : (H : Type) → List (DataW H) → Bool := fun _ ds => decide (uptoBulkAll ds ≤ 1048576)
def OpenSpec.upto (s : _root_.Go.ChangeSpec) : _root_.Go.OpenSpec := { _root_.Go.OpenSpec.ofChange s with cond := some uptoSmall }

/-- 'laws.FnExactFreeDirections', WHERE WHAT IT READS IS OF BULK AT MOST 1048576: true; the input reads as it did. -/
def fnExactFreeDirectionsUptoRow : OpenClaim := { program := "ytpjoggbdbjpjeaa", sum := "8d7a12f387fa42fc310adff08c2e3d3387efbf2aaacf1d43dc2a2cca9116cf98", func := "loop.example/g00875/laws.FnExactFreeDirections", spec := "fnExactFreeDirections", apart := false, narrowed := true }
def FnExactFreeDirectionsUptoSaid : Prop := fnExactFreeDirectionsUptoRow.holds Try.pinned (OpenSpec.upto fnExactFreeDirectionsSpec)

/-- 'laws.FnExactSectorsAt', WHERE WHAT IT READS IS OF BULK AT MOST 1048576: true; the input reads as it did. -/
def fnExactSectorsAtUptoRow : OpenClaim := { program := "ytpjoggbdbjpjeaa", sum := "8d7a12f387fa42fc310adff08c2e3d3387efbf2aaacf1d43dc2a2cca9116cf98", func := "loop.example/g00875/laws.FnExactSectorsAt", spec := "fnExactSectorsAt", apart := false, narrowed := true }
def FnExactSectorsAtUptoSaid : Prop := fnExactSectorsAtUptoRow.holds Try.pinned (OpenSpec.upto fnExactSectorsAtSpec)

/-- 'laws.FnCrossings', WHERE WHAT IT READS IS OF BULK AT MOST 1048576: true; the input reads as it did. -/
def fnCrossingsUptoRow : OpenClaim := { program := "ytpjoggbdbjpjeaa", sum := "8d7a12f387fa42fc310adff08c2e3d3387efbf2aaacf1d43dc2a2cca9116cf98", func := "loop.example/g00875/laws.FnCrossings", spec := "fnCrossings", apart := false, narrowed := true }
def FnCrossingsUptoSaid : Prop := fnCrossingsUptoRow.holds Try.pinned (OpenSpec.upto fnCrossingsSpec)

/-- 'laws.FnSectors', WHERE WHAT IT READS IS OF BULK AT MOST 1048576: true; the input reads as it did. -/
def fnSectorsUptoRow : OpenClaim := { program := "ytpjoggbdbjpjeaa", sum := "8d7a12f387fa42fc310adff08c2e3d3387efbf2aaacf1d43dc2a2cca9116cf98", func := "loop.example/g00875/laws.FnSectors", spec := "fnSectors", apart := false, narrowed := true }
def FnSectorsUptoSaid : Prop := fnSectorsUptoRow.holds Try.pinned (OpenSpec.upto fnSectorsSpec)

/-- 'laws.FnExactLabelAt', WHERE WHAT IT READS IS OF BULK AT MOST 1048576: true; the input reads as it did. -/
def fnExactLabelAtUptoRow : OpenClaim := { program := "ytpjoggbdbjpjeaa", sum := "8d7a12f387fa42fc310adff08c2e3d3387efbf2aaacf1d43dc2a2cca9116cf98", func := "loop.example/g00875/laws.FnExactLabelAt", spec := "fnExactLabelAt", apart := false, narrowed := true }
def FnExactLabelAtUptoSaid : Prop := fnExactLabelAtUptoRow.holds Try.pinned (OpenSpec.upto fnExactLabelAtSpec)

/-- 'laws.FnExactCornersFor', WHERE WHAT IT READS IS OF BULK AT MOST 1048576: true; the input reads as it did. -/
def fnExactCornersForUptoRow : OpenClaim := { program := "ytpjoggbdbjpjeaa", sum := "8d7a12f387fa42fc310adff08c2e3d3387efbf2aaacf1d43dc2a2cca9116cf98", func := "loop.example/g00875/laws.FnExactCornersFor", spec := "fnExactCornersFor", apart := false, narrowed := true }
def FnExactCornersForUptoSaid : Prop := fnExactCornersForUptoRow.holds Try.pinned (OpenSpec.upto fnExactCornersForSpec)

/-- 'laws.FnExactIsPlacing', WHERE WHAT IT READS IS OF BULK AT MOST 1048576: true; the input reads as it did. -/
def fnExactIsPlacingUptoRow : OpenClaim := { program := "ytpjoggbdbjpjeaa", sum := "8d7a12f387fa42fc310adff08c2e3d3387efbf2aaacf1d43dc2a2cca9116cf98", func := "loop.example/g00875/laws.FnExactIsPlacing", spec := "fnExactIsPlacing", apart := false, narrowed := true }
def FnExactIsPlacingUptoSaid : Prop := fnExactIsPlacingUptoRow.holds Try.pinned (OpenSpec.upto fnExactIsPlacingSpec)

end Rows
end Go.Proofs.Ytpjoggbdbjpjeaa
