/-
  No cell of these rows narrows 'for every input' (looked for: loops, veiled, ifaces, maps, wideKeys, modest, calm, conditions, laid).
  DERIVED. THE GIVEN ROWS OF THIS SEAT. 4 by the template 'for every input the law returns true; each argument reads behind the call as it read before'; 0 by the template 'total and deterministic' (their statements: YtceoecmjccakgaaTotals.lean).
  GIVEN WITH THE SEED: the statements are not yours to turn. If you find one false, say at which input.
  Laid BY PROGRAM, IN A SANDBOX (cutbox-rows.mjs): the forced cells as the released guide's own fill.sh prints them over the translation ddb98462bb7d0a0e… (all of the seat's roots in one cut). By AI agents, Wed Nov 11 2026. No macro, syntax, notation, axiom, sorry.
-/
import Derived.Test.YtceoecmjccakgaaChecked
import GoSem.Claim
import GoSem.ClaimJoined
import GoSem.ClaimMapViews
import Derived.JoinedTies
import Derived.KernelRfl
namespace Go.Proofs.Ytceoecmjccakgaa
/- THE CELL 'sum', in the pinned program and in every row, IS THE sha256 OF THE DUMP (.gsa) THAT YtceoecmjccakgaaProg.lean LOADS. Nothing in Lean hashes anything: it is a label: what it is worth is what the hold of that sum in a sandbox is worth. -/
noncomputable def Try.pinned : Pinned := { name := "ytceoecmjccakgaa", sum := "ddb98462bb7d0a0e1726da91b973067f085d5be95d006ce87f6937f710d704e6", checked := Try.checked }
namespace Rows
def none {H : Type} : Left H := { results := [], args := [] }

/-- 'laws.FnPartsOf': WHATEVER THE INPUT: true; the input reads as it did. -/
def fnPartsOfSpec : ChangeSpec := { name := "fnPartsOf", fn := fun _ => fun
  | [d] => { results := [.lit (.bool true)], args := [d] }
  | _ => none }
def fnPartsOfRow : OpenClaim := { program := "ytceoecmjccakgaa", sum := "ddb98462bb7d0a0e1726da91b973067f085d5be95d006ce87f6937f710d704e6", func := "loop.example/pixelworks/laws.FnPartsOf", spec := "fnPartsOf", unfollowed := true, recurses := true, apart := false }
def FnPartsOfSaid : Prop := fnPartsOfRow.holds Try.pinned (OpenSpec.ofChange fnPartsOfSpec)

/-- ITS FALSE NEIGHBOUR: 'it returns false'. Refute it at one input. -/
def fnPartsOfWrong : ChangeSpec := { name := "fnPartsOf", fn := fun _ => fun
  | [d] => { results := [.lit (.bool false)], args := [d] }
  | _ => none }
def FnPartsOfWrongFalsely : Prop := fnPartsOfRow.holds Try.pinned (OpenSpec.ofChange fnPartsOfWrong)

/-- 'laws.FnPartsOfGrown': WHATEVER THE INPUT: true; the input reads as it did. -/
def fnPartsOfGrownSpec : ChangeSpec := { name := "fnPartsOfGrown", fn := fun _ => fun
  | [d] => { results := [.lit (.bool true)], args := [d] }
  | _ => none }
def fnPartsOfGrownRow : OpenClaim := { program := "ytceoecmjccakgaa", sum := "ddb98462bb7d0a0e1726da91b973067f085d5be95d006ce87f6937f710d704e6", func := "loop.example/pixelworks/laws.FnPartsOfGrown", spec := "fnPartsOfGrown", unfollowed := true, recurses := true, apart := false }
def FnPartsOfGrownSaid : Prop := fnPartsOfGrownRow.holds Try.pinned (OpenSpec.ofChange fnPartsOfGrownSpec)

/-- ITS FALSE NEIGHBOUR: 'it returns false'. Refute it at one input. -/
def fnPartsOfGrownWrong : ChangeSpec := { name := "fnPartsOfGrown", fn := fun _ => fun
  | [d] => { results := [.lit (.bool false)], args := [d] }
  | _ => none }
def FnPartsOfGrownWrongFalsely : Prop := fnPartsOfGrownRow.holds Try.pinned (OpenSpec.ofChange fnPartsOfGrownWrong)

/-- 'laws.FnShiftRegionShape': WHATEVER THE INPUT: true; the input reads as it did. -/
def fnShiftRegionShapeSpec : ChangeSpec := { name := "fnShiftRegionShape", fn := fun _ => fun
  | [d] => { results := [.lit (.bool true)], args := [d] }
  | _ => none }
def fnShiftRegionShapeRow : OpenClaim := { program := "ytceoecmjccakgaa", sum := "ddb98462bb7d0a0e1726da91b973067f085d5be95d006ce87f6937f710d704e6", func := "loop.example/pixelworks/laws.FnShiftRegionShape", spec := "fnShiftRegionShape", unfollowed := true, recurses := true, apart := false }
def FnShiftRegionShapeSaid : Prop := fnShiftRegionShapeRow.holds Try.pinned (OpenSpec.ofChange fnShiftRegionShapeSpec)

/-- ITS FALSE NEIGHBOUR: 'it returns false'. Refute it at one input. -/
def fnShiftRegionShapeWrong : ChangeSpec := { name := "fnShiftRegionShape", fn := fun _ => fun
  | [d] => { results := [.lit (.bool false)], args := [d] }
  | _ => none }
def FnShiftRegionShapeWrongFalsely : Prop := fnShiftRegionShapeRow.holds Try.pinned (OpenSpec.ofChange fnShiftRegionShapeWrong)

/-- 'laws.FnDiscRegion': WHATEVER THE INPUT: true; the input reads as it did. -/
def fnDiscRegionSpec : ChangeSpec := { name := "fnDiscRegion", fn := fun _ => fun
  | [d] => { results := [.lit (.bool true)], args := [d] }
  | _ => none }
def fnDiscRegionRow : OpenClaim := { program := "ytceoecmjccakgaa", sum := "ddb98462bb7d0a0e1726da91b973067f085d5be95d006ce87f6937f710d704e6", func := "loop.example/pixelworks/laws.FnDiscRegion", spec := "fnDiscRegion", unfollowed := true, recurses := true, apart := false }
def FnDiscRegionSaid : Prop := fnDiscRegionRow.holds Try.pinned (OpenSpec.ofChange fnDiscRegionSpec)

/-- ITS FALSE NEIGHBOUR: 'it returns false'. Refute it at one input. -/
def fnDiscRegionWrong : ChangeSpec := { name := "fnDiscRegion", fn := fun _ => fun
  | [d] => { results := [.lit (.bool false)], args := [d] }
  | _ => none }
def FnDiscRegionWrongFalsely : Prop := fnDiscRegionRow.holds Try.pinned (OpenSpec.ofChange fnDiscRegionWrong)

/- THE SECOND FORM. 'bulk': how many values and letters a reading holds, each counted each time it is reached (what is shared counts as often as it is met; a slice's spare places count too). A statement '..UptoSaid' is the law's where the arguments, and the package variables that the reading takes, are together of bulk at most 1048576: NARROWER than '..Said'. Prove '..Said' where nothing that the law and all that it calls make is longer than what came in: it says more and counts as full. Else prove '..UptoSaid'. A law counts once. -/
mutual
def uptoBulk {H : Type} : DataW H → Nat
  | .lit (.string bytes) => bytes.length + 1
  | .lit _ => 1
  | .nil => 1
  | .ptr d => uptoBulk d + 1
  | .slice elems spare => uptoBulkAll elems + uptoBulkAll spare + 1
  | .agg parts => uptoBulkAll parts + 1
  | .iface _ d => uptoBulk d + 1
  | .map entries => uptoBulkEntries entries + 1
  | .held _ => 1
def uptoBulkAll {H : Type} : List (DataW H) → Nat
  | [] => 0
  | d :: r => uptoBulk d + uptoBulkAll r
def uptoBulkEntries {H : Type} : List (Lit × DataW H) → Nat
  | [] => 0
  | x :: r => uptoBulkEntry x + uptoBulkEntries r
def uptoBulkEntry {H : Type} : Lit × DataW H → Nat
  | (.string bytes, d) => bytes.length + uptoBulk d + 1
  | (_, d) => uptoBulk d + 1
 end
def uptoSmall : (H : Type) → List (DataW H) → Bool := fun _ ds => decide (uptoBulkAll ds ≤ 1048576)
def OpenSpec.upto (s : _root_.Go.ChangeSpec) : _root_.Go.OpenSpec := { _root_.Go.OpenSpec.ofChange s with cond := some uptoSmall }

/-- 'laws.FnPartsOf', WHERE WHAT IT READS IS OF BULK AT MOST 1048576: true; the input reads as it did. -/
def fnPartsOfUptoRow : OpenClaim := { program := "ytceoecmjccakgaa", sum := "ddb98462bb7d0a0e1726da91b973067f085d5be95d006ce87f6937f710d704e6", func := "loop.example/pixelworks/laws.FnPartsOf", spec := "fnPartsOf", unfollowed := true, recurses := true, apart := false, narrowed := true }
def FnPartsOfUptoSaid : Prop := fnPartsOfUptoRow.holds Try.pinned (OpenSpec.upto fnPartsOfSpec)

/-- 'laws.FnPartsOfGrown', WHERE WHAT IT READS IS OF BULK AT MOST 1048576: true; the input reads as it did. -/
def fnPartsOfGrownUptoRow : OpenClaim := { program := "ytceoecmjccakgaa", sum := "ddb98462bb7d0a0e1726da91b973067f085d5be95d006ce87f6937f710d704e6", func := "loop.example/pixelworks/laws.FnPartsOfGrown", spec := "fnPartsOfGrown", unfollowed := true, recurses := true, apart := false, narrowed := true }
def FnPartsOfGrownUptoSaid : Prop := fnPartsOfGrownUptoRow.holds Try.pinned (OpenSpec.upto fnPartsOfGrownSpec)

/-- 'laws.FnShiftRegionShape', WHERE WHAT IT READS IS OF BULK AT MOST 1048576: true; the input reads as it did. -/
def fnShiftRegionShapeUptoRow : OpenClaim := { program := "ytceoecmjccakgaa", sum := "ddb98462bb7d0a0e1726da91b973067f085d5be95d006ce87f6937f710d704e6", func := "loop.example/pixelworks/laws.FnShiftRegionShape", spec := "fnShiftRegionShape", unfollowed := true, recurses := true, apart := false, narrowed := true }
def FnShiftRegionShapeUptoSaid : Prop := fnShiftRegionShapeUptoRow.holds Try.pinned (OpenSpec.upto fnShiftRegionShapeSpec)

/-- 'laws.FnDiscRegion', WHERE WHAT IT READS IS OF BULK AT MOST 1048576: true; the input reads as it did. -/
def fnDiscRegionUptoRow : OpenClaim := { program := "ytceoecmjccakgaa", sum := "ddb98462bb7d0a0e1726da91b973067f085d5be95d006ce87f6937f710d704e6", func := "loop.example/pixelworks/laws.FnDiscRegion", spec := "fnDiscRegion", unfollowed := true, recurses := true, apart := false, narrowed := true }
def FnDiscRegionUptoSaid : Prop := fnDiscRegionUptoRow.holds Try.pinned (OpenSpec.upto fnDiscRegionSpec)

end Rows
end Go.Proofs.Ytceoecmjccakgaa
