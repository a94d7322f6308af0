/-
  No cell of these rows narrows 'for every input' (looked for: loops, veiled, ifaces, maps, wideKeys, modest, calm, conditions, laid).
  DERIVED. THE GIVEN ROWS OF THIS SEAT. 11 by the template 'for every input the law returns true; each argument reads behind the call as it read before'; 0 by the template 'total and deterministic' (their statements: YtdigpdclgoofkaaTotals.lean).
  GIVEN WITH THE SEED: the statements are not yours to turn. If you find one false, say at which input.
  Laid BY PROGRAM, IN A SANDBOX (cutbox-rows.mjs): the forced cells as the released guide's own fill.sh prints them over the translation b5f05befa896228c… (all of the seat's roots in one cut). By AI agents, Wed Nov 11 2026. No macro, syntax, notation, axiom, sorry.
-/
import Derived.Test.YtdigpdclgoofkaaChecked
import GoSem.Claim
import GoSem.ClaimJoined
import GoSem.ClaimMapViews
import Derived.JoinedTies
import Derived.KernelRfl
namespace Go.Proofs.Ytdigpdclgoofkaa
/- THE CELL 'sum', in the pinned program and in every row, IS THE sha256 OF THE DUMP (.gsa) THAT YtdigpdclgoofkaaProg.lean LOADS. Nothing in Lean hashes anything: it is a label: what it is worth is what the hold of that sum in a sandbox is worth. -/
noncomputable def Try.pinned : Pinned := { name := "ytdigpdclgoofkaa", sum := "b5f05befa896228ca5f707980f9a24598721016840e08ce04df4bbe872fa5c90", checked := Try.checked }
namespace Rows
def none {H : Type} : Left H := { results := [], args := [] }

/-- 'laws.FnExactIsValidWindGrid': WHATEVER THE INPUT: true; the input reads as it did. -/
def fnExactIsValidWindGridSpec : ChangeSpec := { name := "fnExactIsValidWindGrid", fn := fun _ => fun
  | [d] => { results := [.lit (.bool true)], args := [d] }
  | _ => none }
def fnExactIsValidWindGridRow : OpenClaim := { program := "ytdigpdclgoofkaa", sum := "b5f05befa896228ca5f707980f9a24598721016840e08ce04df4bbe872fa5c90", func := "loop.example/g00875/laws.FnExactIsValidWindGrid", spec := "fnExactIsValidWindGrid", apart := false }
def FnExactIsValidWindGridSaid : Prop := fnExactIsValidWindGridRow.holds Try.pinned (OpenSpec.ofChange fnExactIsValidWindGridSpec)

/-- ITS FALSE NEIGHBOUR: 'it returns false'. Refute it at one input. -/
def fnExactIsValidWindGridWrong : ChangeSpec := { name := "fnExactIsValidWindGrid", fn := fun _ => fun
  | [d] => { results := [.lit (.bool false)], args := [d] }
  | _ => none }
def FnExactIsValidWindGridWrongFalsely : Prop := fnExactIsValidWindGridRow.holds Try.pinned (OpenSpec.ofChange fnExactIsValidWindGridWrong)

/-- 'laws.FnExactCalmPoints': WHATEVER THE INPUT: true; the input reads as it did. -/
def fnExactCalmPointsSpec : ChangeSpec := { name := "fnExactCalmPoints", fn := fun _ => fun
  | [d1, d2] => { results := [.lit (.bool true)], args := [d1, d2] }
  | _ => none }
def fnExactCalmPointsRow : OpenClaim := { program := "ytdigpdclgoofkaa", sum := "b5f05befa896228ca5f707980f9a24598721016840e08ce04df4bbe872fa5c90", func := "loop.example/g00875/laws.FnExactCalmPoints", spec := "fnExactCalmPoints", apart := false }
def FnExactCalmPointsSaid : Prop := fnExactCalmPointsRow.holds Try.pinned (OpenSpec.ofChange fnExactCalmPointsSpec)

/-- ITS FALSE NEIGHBOUR: 'it returns false'. Refute it at one input. -/
def fnExactCalmPointsWrong : ChangeSpec := { name := "fnExactCalmPoints", fn := fun _ => fun
  | [d1, d2] => { results := [.lit (.bool false)], args := [d1, d2] }
  | _ => none }
def FnExactCalmPointsWrongFalsely : Prop := fnExactCalmPointsRow.holds Try.pinned (OpenSpec.ofChange fnExactCalmPointsWrong)

/-- 'laws.FnExactStrongestWind': WHATEVER THE INPUT: true; the input reads as it did. -/
def fnExactStrongestWindSpec : ChangeSpec := { name := "fnExactStrongestWind", fn := fun _ => fun
  | [d] => { results := [.lit (.bool true)], args := [d] }
  | _ => none }
def fnExactStrongestWindRow : OpenClaim := { program := "ytdigpdclgoofkaa", sum := "b5f05befa896228ca5f707980f9a24598721016840e08ce04df4bbe872fa5c90", func := "loop.example/g00875/laws.FnExactStrongestWind", spec := "fnExactStrongestWind", apart := false }
def FnExactStrongestWindSaid : Prop := fnExactStrongestWindRow.holds Try.pinned (OpenSpec.ofChange fnExactStrongestWindSpec)

/-- ITS FALSE NEIGHBOUR: 'it returns false'. Refute it at one input. -/
def fnExactStrongestWindWrong : ChangeSpec := { name := "fnExactStrongestWind", fn := fun _ => fun
  | [d] => { results := [.lit (.bool false)], args := [d] }
  | _ => none }
def FnExactStrongestWindWrongFalsely : Prop := fnExactStrongestWindRow.holds Try.pinned (OpenSpec.ofChange fnExactStrongestWindWrong)

/-- 'laws.FnExactMeanWind': WHATEVER THE INPUT: true; the input reads as it did. -/
def fnExactMeanWindSpec : ChangeSpec := { name := "fnExactMeanWind", fn := fun _ => fun
  | [d] => { results := [.lit (.bool true)], args := [d] }
  | _ => none }
def fnExactMeanWindRow : OpenClaim := { program := "ytdigpdclgoofkaa", sum := "b5f05befa896228ca5f707980f9a24598721016840e08ce04df4bbe872fa5c90", func := "loop.example/g00875/laws.FnExactMeanWind", spec := "fnExactMeanWind", apart := false }
def FnExactMeanWindSaid : Prop := fnExactMeanWindRow.holds Try.pinned (OpenSpec.ofChange fnExactMeanWindSpec)

/-- ITS FALSE NEIGHBOUR: 'it returns false'. Refute it at one input. -/
def fnExactMeanWindWrong : ChangeSpec := { name := "fnExactMeanWind", fn := fun _ => fun
  | [d] => { results := [.lit (.bool false)], args := [d] }
  | _ => none }
def FnExactMeanWindWrongFalsely : Prop := fnExactMeanWindRow.holds Try.pinned (OpenSpec.ofChange fnExactMeanWindWrong)

/-- 'laws.FnExactMixGrids': WHATEVER THE INPUT: true; the input reads as it did. -/
def fnExactMixGridsSpec : ChangeSpec := { name := "fnExactMixGrids", fn := fun _ => fun
  | [d1, d2, d3, d4] => { results := [.lit (.bool true)], args := [d1, d2, d3, d4] }
  | _ => none }
def fnExactMixGridsRow : OpenClaim := { program := "ytdigpdclgoofkaa", sum := "b5f05befa896228ca5f707980f9a24598721016840e08ce04df4bbe872fa5c90", func := "loop.example/g00875/laws.FnExactMixGrids", spec := "fnExactMixGrids", apart := false }
def FnExactMixGridsSaid : Prop := fnExactMixGridsRow.holds Try.pinned (OpenSpec.ofChange fnExactMixGridsSpec)

/-- ITS FALSE NEIGHBOUR: 'it returns false'. Refute it at one input. -/
def fnExactMixGridsWrong : ChangeSpec := { name := "fnExactMixGrids", fn := fun _ => fun
  | [d1, d2, d3, d4] => { results := [.lit (.bool false)], args := [d1, d2, d3, d4] }
  | _ => none }
def FnExactMixGridsWrongFalsely : Prop := fnExactMixGridsRow.holds Try.pinned (OpenSpec.ofChange fnExactMixGridsWrong)

/-- 'laws.FnExactWindAt': WHATEVER THE INPUT: true; the input reads as it did. -/
def fnExactWindAtSpec : ChangeSpec := { name := "fnExactWindAt", fn := fun _ => fun
  | [d1, d2] => { results := [.lit (.bool true)], args := [d1, d2] }
  | _ => none }
def fnExactWindAtRow : OpenClaim := { program := "ytdigpdclgoofkaa", sum := "b5f05befa896228ca5f707980f9a24598721016840e08ce04df4bbe872fa5c90", func := "loop.example/g00875/laws.FnExactWindAt", spec := "fnExactWindAt", apart := false }
def FnExactWindAtSaid : Prop := fnExactWindAtRow.holds Try.pinned (OpenSpec.ofChange fnExactWindAtSpec)

/-- ITS FALSE NEIGHBOUR: 'it returns false'. Refute it at one input. -/
def fnExactWindAtWrong : ChangeSpec := { name := "fnExactWindAt", fn := fun _ => fun
  | [d1, d2] => { results := [.lit (.bool false)], args := [d1, d2] }
  | _ => none }
def FnExactWindAtWrongFalsely : Prop := fnExactWindAtRow.holds Try.pinned (OpenSpec.ofChange fnExactWindAtWrong)

/-- 'laws.FnExactTailWind': WHATEVER THE INPUT: true; the input reads as it did. -/
def fnExactTailWindSpec : ChangeSpec := { name := "fnExactTailWind", fn := fun _ => fun
  | [d1, d2, d3] => { results := [.lit (.bool true)], args := [d1, d2, d3] }
  | _ => none }
def fnExactTailWindRow : OpenClaim := { program := "ytdigpdclgoofkaa", sum := "b5f05befa896228ca5f707980f9a24598721016840e08ce04df4bbe872fa5c90", func := "loop.example/g00875/laws.FnExactTailWind", spec := "fnExactTailWind", apart := false }
def FnExactTailWindSaid : Prop := fnExactTailWindRow.holds Try.pinned (OpenSpec.ofChange fnExactTailWindSpec)

/-- ITS FALSE NEIGHBOUR: 'it returns false'. Refute it at one input. -/
def fnExactTailWindWrong : ChangeSpec := { name := "fnExactTailWind", fn := fun _ => fun
  | [d1, d2, d3] => { results := [.lit (.bool false)], args := [d1, d2, d3] }
  | _ => none }
def FnExactTailWindWrongFalsely : Prop := fnExactTailWindRow.holds Try.pinned (OpenSpec.ofChange fnExactTailWindWrong)

/-- 'laws.FnExactGroundVelocity': WHATEVER THE INPUT: true; the input reads as it did. -/
def fnExactGroundVelocitySpec : ChangeSpec := { name := "fnExactGroundVelocity", fn := fun _ => fun
  | [d1, d2, d3] => { results := [.lit (.bool true)], args := [d1, d2, d3] }
  | _ => none }
def fnExactGroundVelocityRow : OpenClaim := { program := "ytdigpdclgoofkaa", sum := "b5f05befa896228ca5f707980f9a24598721016840e08ce04df4bbe872fa5c90", func := "loop.example/g00875/laws.FnExactGroundVelocity", spec := "fnExactGroundVelocity", apart := false }
def FnExactGroundVelocitySaid : Prop := fnExactGroundVelocityRow.holds Try.pinned (OpenSpec.ofChange fnExactGroundVelocitySpec)

/-- ITS FALSE NEIGHBOUR: 'it returns false'. Refute it at one input. -/
def fnExactGroundVelocityWrong : ChangeSpec := { name := "fnExactGroundVelocity", fn := fun _ => fun
  | [d1, d2, d3] => { results := [.lit (.bool false)], args := [d1, d2, d3] }
  | _ => none }
def FnExactGroundVelocityWrongFalsely : Prop := fnExactGroundVelocityRow.holds Try.pinned (OpenSpec.ofChange fnExactGroundVelocityWrong)

/-- 'laws.FnExactDriftPath': WHATEVER THE INPUT: true; the input reads as it did. -/
def fnExactDriftPathSpec : ChangeSpec := { name := "fnExactDriftPath", fn := fun _ => fun
  | [d1, d2, d3] => { results := [.lit (.bool true)], args := [d1, d2, d3] }
  | _ => none }
def fnExactDriftPathRow : OpenClaim := { program := "ytdigpdclgoofkaa", sum := "b5f05befa896228ca5f707980f9a24598721016840e08ce04df4bbe872fa5c90", func := "loop.example/g00875/laws.FnExactDriftPath", spec := "fnExactDriftPath", apart := false }
def FnExactDriftPathSaid : Prop := fnExactDriftPathRow.holds Try.pinned (OpenSpec.ofChange fnExactDriftPathSpec)

/-- ITS FALSE NEIGHBOUR: 'it returns false'. Refute it at one input. -/
def fnExactDriftPathWrong : ChangeSpec := { name := "fnExactDriftPath", fn := fun _ => fun
  | [d1, d2, d3] => { results := [.lit (.bool false)], args := [d1, d2, d3] }
  | _ => none }
def FnExactDriftPathWrongFalsely : Prop := fnExactDriftPathRow.holds Try.pinned (OpenSpec.ofChange fnExactDriftPathWrong)

/-- 'laws.FnWinds': WHATEVER THE INPUT: true; the input reads as it did. -/
def fnWindsSpec : ChangeSpec := { name := "fnWinds", fn := fun _ => fun
  | [d] => { results := [.lit (.bool true)], args := [d] }
  | _ => none }
def fnWindsRow : OpenClaim := { program := "ytdigpdclgoofkaa", sum := "b5f05befa896228ca5f707980f9a24598721016840e08ce04df4bbe872fa5c90", func := "loop.example/g00875/laws.FnWinds", spec := "fnWinds", apart := false }
def FnWindsSaid : Prop := fnWindsRow.holds Try.pinned (OpenSpec.ofChange fnWindsSpec)

/-- ITS FALSE NEIGHBOUR: 'it returns false'. Refute it at one input. -/
def fnWindsWrong : ChangeSpec := { name := "fnWinds", fn := fun _ => fun
  | [d] => { results := [.lit (.bool false)], args := [d] }
  | _ => none }
def FnWindsWrongFalsely : Prop := fnWindsRow.holds Try.pinned (OpenSpec.ofChange fnWindsWrong)

/-- 'laws.FnDrift': WHATEVER THE INPUT: true; the input reads as it did. -/
def fnDriftSpec : ChangeSpec := { name := "fnDrift", fn := fun _ => fun
  | [d] => { results := [.lit (.bool true)], args := [d] }
  | _ => none }
def fnDriftRow : OpenClaim := { program := "ytdigpdclgoofkaa", sum := "b5f05befa896228ca5f707980f9a24598721016840e08ce04df4bbe872fa5c90", func := "loop.example/g00875/laws.FnDrift", spec := "fnDrift", apart := false }
def FnDriftSaid : Prop := fnDriftRow.holds Try.pinned (OpenSpec.ofChange fnDriftSpec)

/-- ITS FALSE NEIGHBOUR: 'it returns false'. Refute it at one input. -/
def fnDriftWrong : ChangeSpec := { name := "fnDrift", fn := fun _ => fun
  | [d] => { results := [.lit (.bool false)], args := [d] }
  | _ => none }
def FnDriftWrongFalsely : Prop := fnDriftRow.holds Try.pinned (OpenSpec.ofChange fnDriftWrong)

/- THE SECOND FORM. 'bulk': how many values and letters a reading holds, each counted each time it is reached (what is shared counts as often as it is met; a slice's spare places count too). A statement '..UptoSaid' is the law's where the arguments, and the package variables that the reading takes, are together of bulk at most 1048576: NARROWER than '..Said'. Prove '..Said' where nothing that the law and all that it calls make is longer than what came in: it says more and counts as full. Else prove '..UptoSaid'. A law counts once. -/
mutual
def uptoBulk {H : Type} : DataW H → Nat
  | .lit (.string bytes) => bytes.length + 1
  | .lit _ => 1
  | .nil => 1
  | .ptr d => uptoBulk d + 1
  | .slice elems spare => uptoBulkAll elems + uptoBulkAll spare + 1
  | .agg parts => uptoBulkAll parts + 1
  | .iface _ d => uptoBulk d + 1
  | .map entries => uptoBulkEntries entries + 1
  | .held _ => 1
def uptoBulkAll {H : Type} : List (DataW H) → Nat
  | [] => 0
  | d :: r => uptoBulk d + uptoBulkAll r
def uptoBulkEntries {H : Type} : List (Lit × DataW H) → Nat
  | [] => 0
  | x :: r => uptoBulkEntry x + uptoBulkEntries r
def uptoBulkEntry {H : Type} : Lit × DataW H → Nat
  | (.string bytes, d) => bytes.length + uptoBulk d + 1
  | (_, d) => uptoBulk d + 1
 end
def uptoSmall : (H : Type) → List (DataW H) → Bool := fun _ ds => decide (uptoBulkAll ds ≤ 1048576)
def OpenSpec.upto (s : _root_.Go.ChangeSpec) : _root_.Go.OpenSpec := { _root_.Go.OpenSpec.ofChange s with cond := some uptoSmall }

/-- 'laws.FnExactIsValidWindGrid', WHERE WHAT IT READS IS OF BULK AT MOST 1048576: true; the input reads as it did. -/
def fnExactIsValidWindGridUptoRow : OpenClaim := { program := "ytdigpdclgoofkaa", sum := "b5f05befa896228ca5f707980f9a24598721016840e08ce04df4bbe872fa5c90", func := "loop.example/g00875/laws.FnExactIsValidWindGrid", spec := "fnExactIsValidWindGrid", apart := false, narrowed := true }
def FnExactIsValidWindGridUptoSaid : Prop := fnExactIsValidWindGridUptoRow.holds Try.pinned (OpenSpec.upto fnExactIsValidWindGridSpec)

/-- 'laws.FnExactCalmPoints', WHERE WHAT IT READS IS OF BULK AT MOST 1048576: true; the input reads as it did. -/
def fnExactCalmPointsUptoRow : OpenClaim := { program := "ytdigpdclgoofkaa", sum := "b5f05befa896228ca5f707980f9a24598721016840e08ce04df4bbe872fa5c90", func := "loop.example/g00875/laws.FnExactCalmPoints", spec := "fnExactCalmPoints", apart := false, narrowed := true }
def FnExactCalmPointsUptoSaid : Prop := fnExactCalmPointsUptoRow.holds Try.pinned (OpenSpec.upto fnExactCalmPointsSpec)

/-- 'laws.FnExactStrongestWind', WHERE WHAT IT READS IS OF BULK AT MOST 1048576: true; the input reads as it did. -/
def fnExactStrongestWindUptoRow : OpenClaim := { program := "ytdigpdclgoofkaa", sum := "b5f05befa896228ca5f707980f9a24598721016840e08ce04df4bbe872fa5c90", func := "loop.example/g00875/laws.FnExactStrongestWind", spec := "fnExactStrongestWind", apart := false, narrowed := true }
def FnExactStrongestWindUptoSaid : Prop := fnExactStrongestWindUptoRow.holds Try.pinned (OpenSpec.upto fnExactStrongestWindSpec)

/-- 'laws.FnExactMeanWind', WHERE WHAT IT READS IS OF BULK AT MOST 1048576: true; the input reads as it did. -/
def fnExactMeanWindUptoRow : OpenClaim := { program := "ytdigpdclgoofkaa", sum := "b5f05befa896228ca5f707980f9a24598721016840e08ce04df4bbe872fa5c90", func := "loop.example/g00875/laws.FnExactMeanWind", spec := "fnExactMeanWind", apart := false, narrowed := true }
def FnExactMeanWindUptoSaid : Prop := fnExactMeanWindUptoRow.holds Try.pinned (OpenSpec.upto fnExactMeanWindSpec)

/-- 'laws.FnExactMixGrids', WHERE WHAT IT READS IS OF BULK AT MOST 1048576: true; the input reads as it did. -/
def fnExactMixGridsUptoRow : OpenClaim := { program := "ytdigpdclgoofkaa", sum := "b5f05befa896228ca5f707980f9a24598721016840e08ce04df4bbe872fa5c90", func := "loop.example/g00875/laws.FnExactMixGrids", spec := "fnExactMixGrids", apart := false, narrowed := true }
def FnExactMixGridsUptoSaid : Prop := fnExactMixGridsUptoRow.holds Try.pinned (OpenSpec.upto fnExactMixGridsSpec)

/-- 'laws.FnExactWindAt', WHERE WHAT IT READS IS OF BULK AT MOST 1048576: true; the input reads as it did. -/
def fnExactWindAtUptoRow : OpenClaim := { program := "ytdigpdclgoofkaa", sum := "b5f05befa896228ca5f707980f9a24598721016840e08ce04df4bbe872fa5c90", func := "loop.example/g00875/laws.FnExactWindAt", spec := "fnExactWindAt", apart := false, narrowed := true }
def FnExactWindAtUptoSaid : Prop := fnExactWindAtUptoRow.holds Try.pinned (OpenSpec.upto fnExactWindAtSpec)

/-- 'laws.FnExactTailWind', WHERE WHAT IT READS IS OF BULK AT MOST 1048576: true; the input reads as it did. -/
def fnExactTailWindUptoRow : OpenClaim := { program := "ytdigpdclgoofkaa", sum := "b5f05befa896228ca5f707980f9a24598721016840e08ce04df4bbe872fa5c90", func := "loop.example/g00875/laws.FnExactTailWind", spec := "fnExactTailWind", apart := false, narrowed := true }
def FnExactTailWindUptoSaid : Prop := fnExactTailWindUptoRow.holds Try.pinned (OpenSpec.upto fnExactTailWindSpec)

/-- 'laws.FnExactGroundVelocity', WHERE WHAT IT READS IS OF BULK AT MOST 1048576: true; the input reads as it did. -/
def fnExactGroundVelocityUptoRow : OpenClaim := { program := "ytdigpdclgoofkaa", sum := "b5f05befa896228ca5f707980f9a24598721016840e08ce04df4bbe872fa5c90", func := "loop.example/g00875/laws.FnExactGroundVelocity", spec := "fnExactGroundVelocity", apart := false, narrowed := true }
def FnExactGroundVelocityUptoSaid : Prop := fnExactGroundVelocityUptoRow.holds Try.pinned (OpenSpec.upto fnExactGroundVelocitySpec)

/-- 'laws.FnExactDriftPath', WHERE WHAT IT READS IS OF BULK AT MOST 1048576: true; the input reads as it did. -/
def fnExactDriftPathUptoRow : OpenClaim := { program := "ytdigpdclgoofkaa", sum := "b5f05befa896228ca5f707980f9a24598721016840e08ce04df4bbe872fa5c90", func := "loop.example/g00875/laws.FnExactDriftPath", spec := "fnExactDriftPath", apart := false, narrowed := true }
def FnExactDriftPathUptoSaid : Prop := fnExactDriftPathUptoRow.holds Try.pinned (OpenSpec.upto fnExactDriftPathSpec)

/-- 'laws.FnWinds', WHERE WHAT IT READS IS OF BULK AT MOST 1048576: true; the input reads as it did. -/
def fnWindsUptoRow : OpenClaim := { program := "ytdigpdclgoofkaa", sum := "b5f05befa896228ca5f707980f9a24598721016840e08ce04df4bbe872fa5c90", func := "loop.example/g00875/laws.FnWinds", spec := "fnWinds", apart := false, narrowed := true }
def FnWindsUptoSaid : Prop := fnWindsUptoRow.holds Try.pinned (OpenSpec.upto fnWindsSpec)

/-- 'laws.FnDrift', WHERE WHAT IT READS IS OF BULK AT MOST 1048576: true; the input reads as it did. -/
def fnDriftUptoRow : OpenClaim := { program := "ytdigpdclgoofkaa", sum := "b5f05befa896228ca5f707980f9a24598721016840e08ce04df4bbe872fa5c90", func := "loop.example/g00875/laws.FnDrift", spec := "fnDrift", apart := false, narrowed := true }
def FnDriftUptoSaid : Prop := fnDriftUptoRow.holds Try.pinned (OpenSpec.upto fnDriftSpec)

end Rows
end Go.Proofs.Ytdigpdclgoofkaa
