/-
  No cell of these rows narrows 'for every input' (looked for: loops, veiled, ifaces, maps, wideKeys, modest, calm, conditions, laid).
  DERIVED. THE GIVEN ROWS OF THIS SEAT. 12 by the template 'for every input the law returns true; each argument reads behind the call as it read before'; 0 by the template 'total and deterministic' (their statements: YtllodpaghkohbaaTotals.lean).
  GIVEN WITH THE SEED: the statements are not yours to turn. If you find one false, say at which input.
  Laid BY PROGRAM, IN A SANDBOX (cutbox-rows.mjs): the forced cells as the released guide's own fill.sh prints them over the translation 68e9ee6326bfa78f… (all of the seat's roots in one cut). By AI agents, Wed Nov 11 2026. No macro, syntax, notation, axiom, sorry.
-/
import Derived.Test.YtllodpaghkohbaaChecked
import GoSem.Claim
import GoSem.ClaimJoined
import GoSem.ClaimMapViews
import Derived.JoinedTies
import Derived.KernelRfl
namespace Go.Proofs.Ytllodpaghkohbaa
/- THE CELL 'sum', in the pinned program and in every row, IS THE sha256 OF THE DUMP (.gsa) THAT YtllodpaghkohbaaProg.lean LOADS. Nothing in Lean hashes anything: it is a label: what it is worth is what the hold of that sum in a sandbox is worth. -/
noncomputable def Try.pinned : Pinned := { name := "ytllodpaghkohbaa", sum := "68e9ee6326bfa78f7e9a2b910e3ae3912131f21b5ce0650e9d353a8340115e56", checked := Try.checked }
namespace Rows
def none {H : Type} : Left H := { results := [], args := [] }

/-- 'laws.FnCombineRegionsOrder': WHATEVER THE INPUT: true; the input reads as it did. -/
def fnCombineRegionsOrderSpec : ChangeSpec := { name := "fnCombineRegionsOrder", fn := fun _ => fun
  | [d] => { results := [.lit (.bool true)], args := [d] }
  | _ => none }
def fnCombineRegionsOrderRow : OpenClaim := { program := "ytllodpaghkohbaa", sum := "68e9ee6326bfa78f7e9a2b910e3ae3912131f21b5ce0650e9d353a8340115e56", func := "loop.example/pixelworks/laws.FnCombineRegionsOrder", spec := "fnCombineRegionsOrder", unfollowed := true, recurses := true, apart := false }
def FnCombineRegionsOrderSaid : Prop := fnCombineRegionsOrderRow.holds Try.pinned (OpenSpec.ofChange fnCombineRegionsOrderSpec)

/-- ITS FALSE NEIGHBOUR: 'it returns false'. Refute it at one input. -/
def fnCombineRegionsOrderWrong : ChangeSpec := { name := "fnCombineRegionsOrder", fn := fun _ => fun
  | [d] => { results := [.lit (.bool false)], args := [d] }
  | _ => none }
def FnCombineRegionsOrderWrongFalsely : Prop := fnCombineRegionsOrderRow.holds Try.pinned (OpenSpec.ofChange fnCombineRegionsOrderWrong)

/-- 'laws.FnCombineRegions': WHATEVER THE INPUT: true; the input reads as it did. -/
def fnCombineRegionsSpec : ChangeSpec := { name := "fnCombineRegions", fn := fun _ => fun
  | [d] => { results := [.lit (.bool true)], args := [d] }
  | _ => none }
def fnCombineRegionsRow : OpenClaim := { program := "ytllodpaghkohbaa", sum := "68e9ee6326bfa78f7e9a2b910e3ae3912131f21b5ce0650e9d353a8340115e56", func := "loop.example/pixelworks/laws.FnCombineRegions", spec := "fnCombineRegions", unfollowed := true, recurses := true, apart := false }
def FnCombineRegionsSaid : Prop := fnCombineRegionsRow.holds Try.pinned (OpenSpec.ofChange fnCombineRegionsSpec)

/-- ITS FALSE NEIGHBOUR: 'it returns false'. Refute it at one input. -/
def fnCombineRegionsWrong : ChangeSpec := { name := "fnCombineRegions", fn := fun _ => fun
  | [d] => { results := [.lit (.bool false)], args := [d] }
  | _ => none }
def FnCombineRegionsWrongFalsely : Prop := fnCombineRegionsRow.holds Try.pinned (OpenSpec.ofChange fnCombineRegionsWrong)

/-- 'laws.FnCombineRegionsThree': WHATEVER THE INPUT: true; the input reads as it did. -/
def fnCombineRegionsThreeSpec : ChangeSpec := { name := "fnCombineRegionsThree", fn := fun _ => fun
  | [d] => { results := [.lit (.bool true)], args := [d] }
  | _ => none }
def fnCombineRegionsThreeRow : OpenClaim := { program := "ytllodpaghkohbaa", sum := "68e9ee6326bfa78f7e9a2b910e3ae3912131f21b5ce0650e9d353a8340115e56", func := "loop.example/pixelworks/laws.FnCombineRegionsThree", spec := "fnCombineRegionsThree", unfollowed := true, recurses := true, apart := false }
def FnCombineRegionsThreeSaid : Prop := fnCombineRegionsThreeRow.holds Try.pinned (OpenSpec.ofChange fnCombineRegionsThreeSpec)

/-- ITS FALSE NEIGHBOUR: 'it returns false'. Refute it at one input. -/
def fnCombineRegionsThreeWrong : ChangeSpec := { name := "fnCombineRegionsThree", fn := fun _ => fun
  | [d] => { results := [.lit (.bool false)], args := [d] }
  | _ => none }
def FnCombineRegionsThreeWrongFalsely : Prop := fnCombineRegionsThreeRow.holds Try.pinned (OpenSpec.ofChange fnCombineRegionsThreeWrong)

/-- 'laws.FnCombineRegionsArea': WHATEVER THE INPUT: true; the input reads as it did. -/
def fnCombineRegionsAreaSpec : ChangeSpec := { name := "fnCombineRegionsArea", fn := fun _ => fun
  | [d] => { results := [.lit (.bool true)], args := [d] }
  | _ => none }
def fnCombineRegionsAreaRow : OpenClaim := { program := "ytllodpaghkohbaa", sum := "68e9ee6326bfa78f7e9a2b910e3ae3912131f21b5ce0650e9d353a8340115e56", func := "loop.example/pixelworks/laws.FnCombineRegionsArea", spec := "fnCombineRegionsArea", unfollowed := true, recurses := true, apart := false }
def FnCombineRegionsAreaSaid : Prop := fnCombineRegionsAreaRow.holds Try.pinned (OpenSpec.ofChange fnCombineRegionsAreaSpec)

/-- ITS FALSE NEIGHBOUR: 'it returns false'. Refute it at one input. -/
def fnCombineRegionsAreaWrong : ChangeSpec := { name := "fnCombineRegionsArea", fn := fun _ => fun
  | [d] => { results := [.lit (.bool false)], args := [d] }
  | _ => none }
def FnCombineRegionsAreaWrongFalsely : Prop := fnCombineRegionsAreaRow.holds Try.pinned (OpenSpec.ofChange fnCombineRegionsAreaWrong)

/-- 'laws.FnShiftRegion': WHATEVER THE INPUT: true; the input reads as it did. -/
def fnShiftRegionSpec : ChangeSpec := { name := "fnShiftRegion", fn := fun _ => fun
  | [d] => { results := [.lit (.bool true)], args := [d] }
  | _ => none }
def fnShiftRegionRow : OpenClaim := { program := "ytllodpaghkohbaa", sum := "68e9ee6326bfa78f7e9a2b910e3ae3912131f21b5ce0650e9d353a8340115e56", func := "loop.example/pixelworks/laws.FnShiftRegion", spec := "fnShiftRegion", unfollowed := true, recurses := true, apart := false }
def FnShiftRegionSaid : Prop := fnShiftRegionRow.holds Try.pinned (OpenSpec.ofChange fnShiftRegionSpec)

/-- ITS FALSE NEIGHBOUR: 'it returns false'. Refute it at one input. -/
def fnShiftRegionWrong : ChangeSpec := { name := "fnShiftRegion", fn := fun _ => fun
  | [d] => { results := [.lit (.bool false)], args := [d] }
  | _ => none }
def FnShiftRegionWrongFalsely : Prop := fnShiftRegionRow.holds Try.pinned (OpenSpec.ofChange fnShiftRegionWrong)

/-- 'laws.FnShiftRegionShape': WHATEVER THE INPUT: true; the input reads as it did. -/
def fnShiftRegionShapeSpec : ChangeSpec := { name := "fnShiftRegionShape", fn := fun _ => fun
  | [d] => { results := [.lit (.bool true)], args := [d] }
  | _ => none }
def fnShiftRegionShapeRow : OpenClaim := { program := "ytllodpaghkohbaa", sum := "68e9ee6326bfa78f7e9a2b910e3ae3912131f21b5ce0650e9d353a8340115e56", func := "loop.example/pixelworks/laws.FnShiftRegionShape", spec := "fnShiftRegionShape", unfollowed := true, recurses := true, apart := false }
def FnShiftRegionShapeSaid : Prop := fnShiftRegionShapeRow.holds Try.pinned (OpenSpec.ofChange fnShiftRegionShapeSpec)

/-- ITS FALSE NEIGHBOUR: 'it returns false'. Refute it at one input. -/
def fnShiftRegionShapeWrong : ChangeSpec := { name := "fnShiftRegionShape", fn := fun _ => fun
  | [d] => { results := [.lit (.bool false)], args := [d] }
  | _ => none }
def FnShiftRegionShapeWrongFalsely : Prop := fnShiftRegionShapeRow.holds Try.pinned (OpenSpec.ofChange fnShiftRegionShapeWrong)

/-- 'laws.FnEdgeOf': WHATEVER THE INPUT: true; the input reads as it did. -/
def fnEdgeOfSpec : ChangeSpec := { name := "fnEdgeOf", fn := fun _ => fun
  | [d] => { results := [.lit (.bool true)], args := [d] }
  | _ => none }
def fnEdgeOfRow : OpenClaim := { program := "ytllodpaghkohbaa", sum := "68e9ee6326bfa78f7e9a2b910e3ae3912131f21b5ce0650e9d353a8340115e56", func := "loop.example/pixelworks/laws.FnEdgeOf", spec := "fnEdgeOf", unfollowed := true, recurses := true, apart := false }
def FnEdgeOfSaid : Prop := fnEdgeOfRow.holds Try.pinned (OpenSpec.ofChange fnEdgeOfSpec)

/-- ITS FALSE NEIGHBOUR: 'it returns false'. Refute it at one input. -/
def fnEdgeOfWrong : ChangeSpec := { name := "fnEdgeOf", fn := fun _ => fun
  | [d] => { results := [.lit (.bool false)], args := [d] }
  | _ => none }
def FnEdgeOfWrongFalsely : Prop := fnEdgeOfRow.holds Try.pinned (OpenSpec.ofChange fnEdgeOfWrong)

/-- 'laws.FnGrowRegion': WHATEVER THE INPUT: true; the input reads as it did. -/
def fnGrowRegionSpec : ChangeSpec := { name := "fnGrowRegion", fn := fun _ => fun
  | [d] => { results := [.lit (.bool true)], args := [d] }
  | _ => none }
def fnGrowRegionRow : OpenClaim := { program := "ytllodpaghkohbaa", sum := "68e9ee6326bfa78f7e9a2b910e3ae3912131f21b5ce0650e9d353a8340115e56", func := "loop.example/pixelworks/laws.FnGrowRegion", spec := "fnGrowRegion", unfollowed := true, recurses := true, apart := false }
def FnGrowRegionSaid : Prop := fnGrowRegionRow.holds Try.pinned (OpenSpec.ofChange fnGrowRegionSpec)

/-- ITS FALSE NEIGHBOUR: 'it returns false'. Refute it at one input. -/
def fnGrowRegionWrong : ChangeSpec := { name := "fnGrowRegion", fn := fun _ => fun
  | [d] => { results := [.lit (.bool false)], args := [d] }
  | _ => none }
def FnGrowRegionWrongFalsely : Prop := fnGrowRegionRow.holds Try.pinned (OpenSpec.ofChange fnGrowRegionWrong)

/-- 'laws.FnGrowRegionUnion': WHATEVER THE INPUT: true; the input reads as it did. -/
def fnGrowRegionUnionSpec : ChangeSpec := { name := "fnGrowRegionUnion", fn := fun _ => fun
  | [d] => { results := [.lit (.bool true)], args := [d] }
  | _ => none }
def fnGrowRegionUnionRow : OpenClaim := { program := "ytllodpaghkohbaa", sum := "68e9ee6326bfa78f7e9a2b910e3ae3912131f21b5ce0650e9d353a8340115e56", func := "loop.example/pixelworks/laws.FnGrowRegionUnion", spec := "fnGrowRegionUnion", unfollowed := true, recurses := true, apart := false }
def FnGrowRegionUnionSaid : Prop := fnGrowRegionUnionRow.holds Try.pinned (OpenSpec.ofChange fnGrowRegionUnionSpec)

/-- ITS FALSE NEIGHBOUR: 'it returns false'. Refute it at one input. -/
def fnGrowRegionUnionWrong : ChangeSpec := { name := "fnGrowRegionUnion", fn := fun _ => fun
  | [d] => { results := [.lit (.bool false)], args := [d] }
  | _ => none }
def FnGrowRegionUnionWrongFalsely : Prop := fnGrowRegionUnionRow.holds Try.pinned (OpenSpec.ofChange fnGrowRegionUnionWrong)

/-- 'laws.FnShrinkRegionSteps': WHATEVER THE INPUT: true; the input reads as it did. -/
def fnShrinkRegionStepsSpec : ChangeSpec := { name := "fnShrinkRegionSteps", fn := fun _ => fun
  | [d] => { results := [.lit (.bool true)], args := [d] }
  | _ => none }
def fnShrinkRegionStepsRow : OpenClaim := { program := "ytllodpaghkohbaa", sum := "68e9ee6326bfa78f7e9a2b910e3ae3912131f21b5ce0650e9d353a8340115e56", func := "loop.example/pixelworks/laws.FnShrinkRegionSteps", spec := "fnShrinkRegionSteps", unfollowed := true, recurses := true, apart := false }
def FnShrinkRegionStepsSaid : Prop := fnShrinkRegionStepsRow.holds Try.pinned (OpenSpec.ofChange fnShrinkRegionStepsSpec)

/-- ITS FALSE NEIGHBOUR: 'it returns false'. Refute it at one input. -/
def fnShrinkRegionStepsWrong : ChangeSpec := { name := "fnShrinkRegionSteps", fn := fun _ => fun
  | [d] => { results := [.lit (.bool false)], args := [d] }
  | _ => none }
def FnShrinkRegionStepsWrongFalsely : Prop := fnShrinkRegionStepsRow.holds Try.pinned (OpenSpec.ofChange fnShrinkRegionStepsWrong)

/-- 'laws.FnShrinkRegion': WHATEVER THE INPUT: true; the input reads as it did. -/
def fnShrinkRegionSpec : ChangeSpec := { name := "fnShrinkRegion", fn := fun _ => fun
  | [d] => { results := [.lit (.bool true)], args := [d] }
  | _ => none }
def fnShrinkRegionRow : OpenClaim := { program := "ytllodpaghkohbaa", sum := "68e9ee6326bfa78f7e9a2b910e3ae3912131f21b5ce0650e9d353a8340115e56", func := "loop.example/pixelworks/laws.FnShrinkRegion", spec := "fnShrinkRegion", unfollowed := true, recurses := true, apart := false }
def FnShrinkRegionSaid : Prop := fnShrinkRegionRow.holds Try.pinned (OpenSpec.ofChange fnShrinkRegionSpec)

/-- ITS FALSE NEIGHBOUR: 'it returns false'. Refute it at one input. -/
def fnShrinkRegionWrong : ChangeSpec := { name := "fnShrinkRegion", fn := fun _ => fun
  | [d] => { results := [.lit (.bool false)], args := [d] }
  | _ => none }
def FnShrinkRegionWrongFalsely : Prop := fnShrinkRegionRow.holds Try.pinned (OpenSpec.ofChange fnShrinkRegionWrong)

/-- 'laws.FnOpenRegion': WHATEVER THE INPUT: true; the input reads as it did. -/
def fnOpenRegionSpec : ChangeSpec := { name := "fnOpenRegion", fn := fun _ => fun
  | [d] => { results := [.lit (.bool true)], args := [d] }
  | _ => none }
def fnOpenRegionRow : OpenClaim := { program := "ytllodpaghkohbaa", sum := "68e9ee6326bfa78f7e9a2b910e3ae3912131f21b5ce0650e9d353a8340115e56", func := "loop.example/pixelworks/laws.FnOpenRegion", spec := "fnOpenRegion", unfollowed := true, recurses := true, apart := false }
def FnOpenRegionSaid : Prop := fnOpenRegionRow.holds Try.pinned (OpenSpec.ofChange fnOpenRegionSpec)

/-- ITS FALSE NEIGHBOUR: 'it returns false'. Refute it at one input. -/
def fnOpenRegionWrong : ChangeSpec := { name := "fnOpenRegion", fn := fun _ => fun
  | [d] => { results := [.lit (.bool false)], args := [d] }
  | _ => none }
def FnOpenRegionWrongFalsely : Prop := fnOpenRegionRow.holds Try.pinned (OpenSpec.ofChange fnOpenRegionWrong)

/- THE SECOND FORM. 'bulk': how many values and letters a reading holds, each counted each time it is reached (what is shared counts as often as it is met; a slice's spare places count too). A statement '..UptoSaid' is the law's where the arguments, and the package variables that the reading takes, are together of bulk at most 1048576: NARROWER than '..Said'. Prove '..Said' where nothing that the law and all that it calls make is longer than what came in: it says more and counts as full. Else prove '..UptoSaid'. A law counts once. -/
mutual
def uptoBulk {H : Type} : DataW H → Nat
  | .lit (.string bytes) => bytes.length + 1
  | .lit _ => 1
  | .nil => 1
  | .ptr d => uptoBulk d + 1
  | .slice elems spare => uptoBulkAll elems + uptoBulkAll spare + 1
  | .agg parts => uptoBulkAll parts + 1
  | .iface _ d => uptoBulk d + 1
  | .map entries => uptoBulkEntries entries + 1
  | .held _ => 1
def uptoBulkAll {H : Type} : List (DataW H) → Nat
  | [] => 0
  | d :: r => uptoBulk d + uptoBulkAll r
def uptoBulkEntries {H : Type} : List (Lit × DataW H) → Nat
  | [] => 0
  | x :: r => uptoBulkEntry x + uptoBulkEntries r
def uptoBulkEntry {H : Type} : Lit × DataW H → Nat
  | (.string bytes, d) => bytes.length + uptoBulk d + 1
  | (_, d) => uptoBulk d + 1
 end
def uptoSmall : (H : Type) → List (DataW H) → Bool := fun _ ds => decide (uptoBulkAll ds ≤ 1048576)
def OpenSpec.upto (s : _root_.Go.ChangeSpec) : _root_.Go.OpenSpec := { _root_.Go.OpenSpec.ofChange s with cond := some uptoSmall }

/-- 'laws.FnCombineRegionsOrder', WHERE WHAT IT READS IS OF BULK AT MOST 1048576: true; the input reads as it did. -/
def fnCombineRegionsOrderUptoRow : OpenClaim := { program := "ytllodpaghkohbaa", sum := "68e9ee6326bfa78f7e9a2b910e3ae3912131f21b5ce0650e9d353a8340115e56", func := "loop.example/pixelworks/laws.FnCombineRegionsOrder", spec := "fnCombineRegionsOrder", unfollowed := true, recurses := true, apart := false, narrowed := true }
def FnCombineRegionsOrderUptoSaid : Prop := fnCombineRegionsOrderUptoRow.holds Try.pinned (OpenSpec.upto fnCombineRegionsOrderSpec)

/-- 'laws.FnCombineRegions', WHERE WHAT IT READS IS OF BULK AT MOST 1048576: true; the input reads as it did. -/
def fnCombineRegionsUptoRow : OpenClaim := { program := "ytllodpaghkohbaa", sum := "68e9ee6326bfa78f7e9a2b910e3ae3912131f21b5ce0650e9d353a8340115e56", func := "loop.example/pixelworks/laws.FnCombineRegions", spec := "fnCombineRegions", unfollowed := true, recurses := true, apart := false, narrowed := true }
def FnCombineRegionsUptoSaid : Prop := fnCombineRegionsUptoRow.holds Try.pinned (OpenSpec.upto fnCombineRegionsSpec)

/-- 'laws.FnCombineRegionsThree', WHERE WHAT IT READS IS OF BULK AT MOST 1048576: true; the input reads as it did. -/
def fnCombineRegionsThreeUptoRow : OpenClaim := { program := "ytllodpaghkohbaa", sum := "68e9ee6326bfa78f7e9a2b910e3ae3912131f21b5ce0650e9d353a8340115e56", func := "loop.example/pixelworks/laws.FnCombineRegionsThree", spec := "fnCombineRegionsThree", unfollowed := true, recurses := true, apart := false, narrowed := true }
def FnCombineRegionsThreeUptoSaid : Prop := fnCombineRegionsThreeUptoRow.holds Try.pinned (OpenSpec.upto fnCombineRegionsThreeSpec)

/-- 'laws.FnCombineRegionsArea', WHERE WHAT IT READS IS OF BULK AT MOST 1048576: true; the input reads as it did. -/
def fnCombineRegionsAreaUptoRow : OpenClaim := { program := "ytllodpaghkohbaa", sum := "68e9ee6326bfa78f7e9a2b910e3ae3912131f21b5ce0650e9d353a8340115e56", func := "loop.example/pixelworks/laws.FnCombineRegionsArea", spec := "fnCombineRegionsArea", unfollowed := true, recurses := true, apart := false, narrowed := true }
def FnCombineRegionsAreaUptoSaid : Prop := fnCombineRegionsAreaUptoRow.holds Try.pinned (OpenSpec.upto fnCombineRegionsAreaSpec)

/-- 'laws.FnShiftRegion', WHERE WHAT IT READS IS OF BULK AT MOST 1048576: true; the input reads as it did. -/
def fnShiftRegionUptoRow : OpenClaim := { program := "ytllodpaghkohbaa", sum := "68e9ee6326bfa78f7e9a2b910e3ae3912131f21b5ce0650e9d353a8340115e56", func := "loop.example/pixelworks/laws.FnShiftRegion", spec := "fnShiftRegion", unfollowed := true, recurses := true, apart := false, narrowed := true }
def FnShiftRegionUptoSaid : Prop := fnShiftRegionUptoRow.holds Try.pinned (OpenSpec.upto fnShiftRegionSpec)

/-- 'laws.FnShiftRegionShape', WHERE WHAT IT READS IS OF BULK AT MOST 1048576: true; the input reads as it did. -/
def fnShiftRegionShapeUptoRow : OpenClaim := { program := "ytllodpaghkohbaa", sum := "68e9ee6326bfa78f7e9a2b910e3ae3912131f21b5ce0650e9d353a8340115e56", func := "loop.example/pixelworks/laws.FnShiftRegionShape", spec := "fnShiftRegionShape", unfollowed := true, recurses := true, apart := false, narrowed := true }
def FnShiftRegionShapeUptoSaid : Prop := fnShiftRegionShapeUptoRow.holds Try.pinned (OpenSpec.upto fnShiftRegionShapeSpec)

/-- 'laws.FnEdgeOf', WHERE WHAT IT READS IS OF BULK AT MOST 1048576: true; the input reads as it did. -/
def fnEdgeOfUptoRow : OpenClaim := { program := "ytllodpaghkohbaa", sum := "68e9ee6326bfa78f7e9a2b910e3ae3912131f21b5ce0650e9d353a8340115e56", func := "loop.example/pixelworks/laws.FnEdgeOf", spec := "fnEdgeOf", unfollowed := true, recurses := true, apart := false, narrowed := true }
def FnEdgeOfUptoSaid : Prop := fnEdgeOfUptoRow.holds Try.pinned (OpenSpec.upto fnEdgeOfSpec)

/-- 'laws.FnGrowRegion', WHERE WHAT IT READS IS OF BULK AT MOST 1048576: true; the input reads as it did. -/
def fnGrowRegionUptoRow : OpenClaim := { program := "ytllodpaghkohbaa", sum := "68e9ee6326bfa78f7e9a2b910e3ae3912131f21b5ce0650e9d353a8340115e56", func := "loop.example/pixelworks/laws.FnGrowRegion", spec := "fnGrowRegion", unfollowed := true, recurses := true, apart := false, narrowed := true }
def FnGrowRegionUptoSaid : Prop := fnGrowRegionUptoRow.holds Try.pinned (OpenSpec.upto fnGrowRegionSpec)

/-- 'laws.FnGrowRegionUnion', WHERE WHAT IT READS IS OF BULK AT MOST 1048576: true; the input reads as it did. -/
def fnGrowRegionUnionUptoRow : OpenClaim := { program := "ytllodpaghkohbaa", sum := "68e9ee6326bfa78f7e9a2b910e3ae3912131f21b5ce0650e9d353a8340115e56", func := "loop.example/pixelworks/laws.FnGrowRegionUnion", spec := "fnGrowRegionUnion", unfollowed := true, recurses := true, apart := false, narrowed := true }
def FnGrowRegionUnionUptoSaid : Prop := fnGrowRegionUnionUptoRow.holds Try.pinned (OpenSpec.upto fnGrowRegionUnionSpec)

/-- 'laws.FnShrinkRegionSteps', WHERE WHAT IT READS IS OF BULK AT MOST 1048576: true; the input reads as it did. -/
def fnShrinkRegionStepsUptoRow : OpenClaim := { program := "ytllodpaghkohbaa", sum := "68e9ee6326bfa78f7e9a2b910e3ae3912131f21b5ce0650e9d353a8340115e56", func := "loop.example/pixelworks/laws.FnShrinkRegionSteps", spec := "fnShrinkRegionSteps", unfollowed := true, recurses := true, apart := false, narrowed := true }
def FnShrinkRegionStepsUptoSaid : Prop := fnShrinkRegionStepsUptoRow.holds Try.pinned (OpenSpec.upto fnShrinkRegionStepsSpec)

/-- 'laws.FnShrinkRegion', WHERE WHAT IT READS IS OF BULK AT MOST 1048576: true; the input reads as it did. -/
def fnShrinkRegionUptoRow : OpenClaim := { program := "ytllodpaghkohbaa", sum := "68e9ee6326bfa78f7e9a2b910e3ae3912131f21b5ce0650e9d353a8340115e56", func := "loop.example/pixelworks/laws.FnShrinkRegion", spec := "fnShrinkRegion", unfollowed := true, recurses := true, apart := false, narrowed := true }
def FnShrinkRegionUptoSaid : Prop := fnShrinkRegionUptoRow.holds Try.pinned (OpenSpec.upto fnShrinkRegionSpec)

/-- 'laws.FnOpenRegion', WHERE WHAT IT READS IS OF BULK AT MOST 1048576: true; the input reads as it did. -/
def fnOpenRegionUptoRow : OpenClaim := { program := "ytllodpaghkohbaa", sum := "68e9ee6326bfa78f7e9a2b910e3ae3912131f21b5ce0650e9d353a8340115e56", func := "loop.example/pixelworks/laws.FnOpenRegion", spec := "fnOpenRegion", unfollowed := true, recurses := true, apart := false, narrowed := true }
def FnOpenRegionUptoSaid : Prop := fnOpenRegionUptoRow.holds Try.pinned (OpenSpec.upto fnOpenRegionSpec)

end Rows
end Go.Proofs.Ytllodpaghkohbaa
