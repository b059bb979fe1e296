/-
  No cell of these rows narrows 'for every input' (looked for: loops, veiled, ifaces, maps, wideKeys, modest, calm, conditions, laid).
  DERIVED. THE GIVEN ROWS OF THIS SEAT. 11 by the template 'for every input the law returns true; each argument reads behind the call as it read before'; 0 by the template 'total and deterministic' (their statements: YtifjkllkbciliaaTotals.lean).
  GIVEN WITH THE SEED: the statements are not yours to turn. If you find one false, say at which input.
  Laid BY PROGRAM, IN A SANDBOX (cutbox-rows.mjs): the forced cells as the released guide's own fill.sh prints them over the translation fcb49b3d14b52c0c… (all of the seat's roots in one cut). By AI agents, Wed Nov 11 2026. No macro, syntax, notation, axiom, sorry.
-/
import Derived.Test.YtifjkllkbciliaaChecked
import GoSem.Claim
import GoSem.ClaimJoined
import GoSem.ClaimMapViews
import Derived.JoinedTies
import Derived.KernelRfl
namespace Go.Proofs.Ytifjkllkbciliaa
/- THE CELL 'sum', in the pinned program and in every row, IS THE sha256 OF THE DUMP (.gsa) THAT YtifjkllkbciliaaProg.lean LOADS. Nothing in Lean hashes anything: it is a label: what it is worth is what the hold of that sum in a sandbox is worth. -/
noncomputable def Try.pinned : Pinned := { name := "ytifjkllkbciliaa", sum := "fcb49b3d14b52c0c4b83a421af411aaafaf90a99810dac92a8d61fe682c672b6", checked := Try.checked }
namespace Rows
def none {H : Type} : Left H := { results := [], args := [] }

/-- 'laws.FnExactDiscRegion': WHATEVER THE INPUT: true; the input reads as it did. -/
def fnExactDiscRegionSpec : ChangeSpec := { name := "fnExactDiscRegion", fn := fun _ => fun
  | [d1, d2, d3] => { results := [.lit (.bool true)], args := [d1, d2, d3] }
  | _ => none }
def fnExactDiscRegionRow : OpenClaim := { program := "ytifjkllkbciliaa", sum := "fcb49b3d14b52c0c4b83a421af411aaafaf90a99810dac92a8d61fe682c672b6", func := "loop.example/pixelworks/laws.FnExactDiscRegion", spec := "fnExactDiscRegion", unfollowed := true, recurses := true, apart := false }
def FnExactDiscRegionSaid : Prop := fnExactDiscRegionRow.holds Try.pinned (OpenSpec.ofChange fnExactDiscRegionSpec)

/-- ITS FALSE NEIGHBOUR: 'it returns false'. Refute it at one input. -/
def fnExactDiscRegionWrong : ChangeSpec := { name := "fnExactDiscRegion", fn := fun _ => fun
  | [d1, d2, d3] => { results := [.lit (.bool false)], args := [d1, d2, d3] }
  | _ => none }
def FnExactDiscRegionWrongFalsely : Prop := fnExactDiscRegionRow.holds Try.pinned (OpenSpec.ofChange fnExactDiscRegionWrong)

/-- 'laws.FnDiscRegionGrow': WHATEVER THE INPUT: true; the input reads as it did. -/
def fnDiscRegionGrowSpec : ChangeSpec := { name := "fnDiscRegionGrow", fn := fun _ => fun
  | [d] => { results := [.lit (.bool true)], args := [d] }
  | _ => none }
def fnDiscRegionGrowRow : OpenClaim := { program := "ytifjkllkbciliaa", sum := "fcb49b3d14b52c0c4b83a421af411aaafaf90a99810dac92a8d61fe682c672b6", func := "loop.example/pixelworks/laws.FnDiscRegionGrow", spec := "fnDiscRegionGrow", unfollowed := true, recurses := true, apart := false }
def FnDiscRegionGrowSaid : Prop := fnDiscRegionGrowRow.holds Try.pinned (OpenSpec.ofChange fnDiscRegionGrowSpec)

/-- ITS FALSE NEIGHBOUR: 'it returns false'. Refute it at one input. -/
def fnDiscRegionGrowWrong : ChangeSpec := { name := "fnDiscRegionGrow", fn := fun _ => fun
  | [d] => { results := [.lit (.bool false)], args := [d] }
  | _ => none }
def FnDiscRegionGrowWrongFalsely : Prop := fnDiscRegionGrowRow.holds Try.pinned (OpenSpec.ofChange fnDiscRegionGrowWrong)

/-- 'laws.FnDiscRegion': WHATEVER THE INPUT: true; the input reads as it did. -/
def fnDiscRegionSpec : ChangeSpec := { name := "fnDiscRegion", fn := fun _ => fun
  | [d] => { results := [.lit (.bool true)], args := [d] }
  | _ => none }
def fnDiscRegionRow : OpenClaim := { program := "ytifjkllkbciliaa", sum := "fcb49b3d14b52c0c4b83a421af411aaafaf90a99810dac92a8d61fe682c672b6", func := "loop.example/pixelworks/laws.FnDiscRegion", spec := "fnDiscRegion", unfollowed := true, recurses := true, apart := false }
def FnDiscRegionSaid : Prop := fnDiscRegionRow.holds Try.pinned (OpenSpec.ofChange fnDiscRegionSpec)

/-- ITS FALSE NEIGHBOUR: 'it returns false'. Refute it at one input. -/
def fnDiscRegionWrong : ChangeSpec := { name := "fnDiscRegion", fn := fun _ => fun
  | [d] => { results := [.lit (.bool false)], args := [d] }
  | _ => none }
def FnDiscRegionWrongFalsely : Prop := fnDiscRegionRow.holds Try.pinned (OpenSpec.ofChange fnDiscRegionWrong)

/-- 'laws.FnExactLineRegion': WHATEVER THE INPUT: true; the input reads as it did. -/
def fnExactLineRegionSpec : ChangeSpec := { name := "fnExactLineRegion", fn := fun _ => fun
  | [d1, d2, d3, d4] => { results := [.lit (.bool true)], args := [d1, d2, d3, d4] }
  | _ => none }
def fnExactLineRegionRow : OpenClaim := { program := "ytifjkllkbciliaa", sum := "fcb49b3d14b52c0c4b83a421af411aaafaf90a99810dac92a8d61fe682c672b6", func := "loop.example/pixelworks/laws.FnExactLineRegion", spec := "fnExactLineRegion", apart := false }
def FnExactLineRegionSaid : Prop := fnExactLineRegionRow.holds Try.pinned (OpenSpec.ofChange fnExactLineRegionSpec)

/-- ITS FALSE NEIGHBOUR: 'it returns false'. Refute it at one input. -/
def fnExactLineRegionWrong : ChangeSpec := { name := "fnExactLineRegion", fn := fun _ => fun
  | [d1, d2, d3, d4] => { results := [.lit (.bool false)], args := [d1, d2, d3, d4] }
  | _ => none }
def FnExactLineRegionWrongFalsely : Prop := fnExactLineRegionRow.holds Try.pinned (OpenSpec.ofChange fnExactLineRegionWrong)

/-- 'laws.FnLineRegionBox': WHATEVER THE INPUT: true; the input reads as it did. -/
def fnLineRegionBoxSpec : ChangeSpec := { name := "fnLineRegionBox", fn := fun _ => fun
  | [d] => { results := [.lit (.bool true)], args := [d] }
  | _ => none }
def fnLineRegionBoxRow : OpenClaim := { program := "ytifjkllkbciliaa", sum := "fcb49b3d14b52c0c4b83a421af411aaafaf90a99810dac92a8d61fe682c672b6", func := "loop.example/pixelworks/laws.FnLineRegionBox", spec := "fnLineRegionBox", apart := false }
def FnLineRegionBoxSaid : Prop := fnLineRegionBoxRow.holds Try.pinned (OpenSpec.ofChange fnLineRegionBoxSpec)

/-- ITS FALSE NEIGHBOUR: 'it returns false'. Refute it at one input. -/
def fnLineRegionBoxWrong : ChangeSpec := { name := "fnLineRegionBox", fn := fun _ => fun
  | [d] => { results := [.lit (.bool false)], args := [d] }
  | _ => none }
def FnLineRegionBoxWrongFalsely : Prop := fnLineRegionBoxRow.holds Try.pinned (OpenSpec.ofChange fnLineRegionBoxWrong)

/-- 'laws.FnLineRegionSwap': WHATEVER THE INPUT: true; the input reads as it did. -/
def fnLineRegionSwapSpec : ChangeSpec := { name := "fnLineRegionSwap", fn := fun _ => fun
  | [d] => { results := [.lit (.bool true)], args := [d] }
  | _ => none }
def fnLineRegionSwapRow : OpenClaim := { program := "ytifjkllkbciliaa", sum := "fcb49b3d14b52c0c4b83a421af411aaafaf90a99810dac92a8d61fe682c672b6", func := "loop.example/pixelworks/laws.FnLineRegionSwap", spec := "fnLineRegionSwap", apart := false }
def FnLineRegionSwapSaid : Prop := fnLineRegionSwapRow.holds Try.pinned (OpenSpec.ofChange fnLineRegionSwapSpec)

/-- ITS FALSE NEIGHBOUR: 'it returns false'. Refute it at one input. -/
def fnLineRegionSwapWrong : ChangeSpec := { name := "fnLineRegionSwap", fn := fun _ => fun
  | [d] => { results := [.lit (.bool false)], args := [d] }
  | _ => none }
def FnLineRegionSwapWrongFalsely : Prop := fnLineRegionSwapRow.holds Try.pinned (OpenSpec.ofChange fnLineRegionSwapWrong)

/-- 'laws.FnLineRegion': WHATEVER THE INPUT: true; the input reads as it did. -/
def fnLineRegionSpec : ChangeSpec := { name := "fnLineRegion", fn := fun _ => fun
  | [d] => { results := [.lit (.bool true)], args := [d] }
  | _ => none }
def fnLineRegionRow : OpenClaim := { program := "ytifjkllkbciliaa", sum := "fcb49b3d14b52c0c4b83a421af411aaafaf90a99810dac92a8d61fe682c672b6", func := "loop.example/pixelworks/laws.FnLineRegion", spec := "fnLineRegion", apart := false }
def FnLineRegionSaid : Prop := fnLineRegionRow.holds Try.pinned (OpenSpec.ofChange fnLineRegionSpec)

/-- ITS FALSE NEIGHBOUR: 'it returns false'. Refute it at one input. -/
def fnLineRegionWrong : ChangeSpec := { name := "fnLineRegion", fn := fun _ => fun
  | [d] => { results := [.lit (.bool false)], args := [d] }
  | _ => none }
def FnLineRegionWrongFalsely : Prop := fnLineRegionRow.holds Try.pinned (OpenSpec.ofChange fnLineRegionWrong)

/-- 'laws.FnAreaOf': WHATEVER THE INPUT: true; the input reads as it did. -/
def fnAreaOfSpec : ChangeSpec := { name := "fnAreaOf", fn := fun _ => fun
  | [d] => { results := [.lit (.bool true)], args := [d] }
  | _ => none }
def fnAreaOfRow : OpenClaim := { program := "ytifjkllkbciliaa", sum := "fcb49b3d14b52c0c4b83a421af411aaafaf90a99810dac92a8d61fe682c672b6", func := "loop.example/pixelworks/laws.FnAreaOf", spec := "fnAreaOf", apart := false }
def FnAreaOfSaid : Prop := fnAreaOfRow.holds Try.pinned (OpenSpec.ofChange fnAreaOfSpec)

/-- ITS FALSE NEIGHBOUR: 'it returns false'. Refute it at one input. -/
def fnAreaOfWrong : ChangeSpec := { name := "fnAreaOf", fn := fun _ => fun
  | [d] => { results := [.lit (.bool false)], args := [d] }
  | _ => none }
def FnAreaOfWrongFalsely : Prop := fnAreaOfRow.holds Try.pinned (OpenSpec.ofChange fnAreaOfWrong)

/-- 'laws.FnRegionHas': WHATEVER THE INPUT: true; the input reads as it did. -/
def fnRegionHasSpec : ChangeSpec := { name := "fnRegionHas", fn := fun _ => fun
  | [d] => { results := [.lit (.bool true)], args := [d] }
  | _ => none }
def fnRegionHasRow : OpenClaim := { program := "ytifjkllkbciliaa", sum := "fcb49b3d14b52c0c4b83a421af411aaafaf90a99810dac92a8d61fe682c672b6", func := "loop.example/pixelworks/laws.FnRegionHas", spec := "fnRegionHas", apart := false }
def FnRegionHasSaid : Prop := fnRegionHasRow.holds Try.pinned (OpenSpec.ofChange fnRegionHasSpec)

/-- ITS FALSE NEIGHBOUR: 'it returns false'. Refute it at one input. -/
def fnRegionHasWrong : ChangeSpec := { name := "fnRegionHas", fn := fun _ => fun
  | [d] => { results := [.lit (.bool false)], args := [d] }
  | _ => none }
def FnRegionHasWrongFalsely : Prop := fnRegionHasRow.holds Try.pinned (OpenSpec.ofChange fnRegionHasWrong)

/-- 'laws.FnValidRegion': WHATEVER THE INPUT: true; the input reads as it did. -/
def fnValidRegionSpec : ChangeSpec := { name := "fnValidRegion", fn := fun _ => fun
  | [d] => { results := [.lit (.bool true)], args := [d] }
  | _ => none }
def fnValidRegionRow : OpenClaim := { program := "ytifjkllkbciliaa", sum := "fcb49b3d14b52c0c4b83a421af411aaafaf90a99810dac92a8d61fe682c672b6", func := "loop.example/pixelworks/laws.FnValidRegion", spec := "fnValidRegion", unfollowed := true, recurses := true, apart := false }
def FnValidRegionSaid : Prop := fnValidRegionRow.holds Try.pinned (OpenSpec.ofChange fnValidRegionSpec)

/-- ITS FALSE NEIGHBOUR: 'it returns false'. Refute it at one input. -/
def fnValidRegionWrong : ChangeSpec := { name := "fnValidRegion", fn := fun _ => fun
  | [d] => { results := [.lit (.bool false)], args := [d] }
  | _ => none }
def FnValidRegionWrongFalsely : Prop := fnValidRegionRow.holds Try.pinned (OpenSpec.ofChange fnValidRegionWrong)

/-- 'laws.FnBoundsOf': WHATEVER THE INPUT: true; the input reads as it did. -/
def fnBoundsOfSpec : ChangeSpec := { name := "fnBoundsOf", fn := fun _ => fun
  | [d] => { results := [.lit (.bool true)], args := [d] }
  | _ => none }
def fnBoundsOfRow : OpenClaim := { program := "ytifjkllkbciliaa", sum := "fcb49b3d14b52c0c4b83a421af411aaafaf90a99810dac92a8d61fe682c672b6", func := "loop.example/pixelworks/laws.FnBoundsOf", spec := "fnBoundsOf", unfollowed := true, recurses := true, apart := false }
def FnBoundsOfSaid : Prop := fnBoundsOfRow.holds Try.pinned (OpenSpec.ofChange fnBoundsOfSpec)

/-- ITS FALSE NEIGHBOUR: 'it returns false'. Refute it at one input. -/
def fnBoundsOfWrong : ChangeSpec := { name := "fnBoundsOf", fn := fun _ => fun
  | [d] => { results := [.lit (.bool false)], args := [d] }
  | _ => none }
def FnBoundsOfWrongFalsely : Prop := fnBoundsOfRow.holds Try.pinned (OpenSpec.ofChange fnBoundsOfWrong)

/- THE SECOND FORM. 'bulk': how many values and letters a reading holds, each counted each time it is reached (what is shared counts as often as it is met; a slice's spare places count too). A statement '..UptoSaid' is the law's where the arguments, and the package variables that the reading takes, are together of bulk at most 1048576: NARROWER than '..Said'. Prove '..Said' where nothing that the law and all that it calls make is longer than what came in: it says more and counts as full. Else prove '..UptoSaid'. A law counts once. -/
mutual
def uptoBulk {H : Type} : DataW H → Nat
  | .lit (.string bytes) => bytes.length + 1
  | .lit _ => 1
  | .nil => 1
  | .ptr d => uptoBulk d + 1
  | .slice elems spare => uptoBulkAll elems + uptoBulkAll spare + 1
  | .agg parts => uptoBulkAll parts + 1
  | .iface _ d => uptoBulk d + 1
  | .map entries => uptoBulkEntries entries + 1
  | .held _ => 1
def uptoBulkAll {H : Type} : List (DataW H) → Nat
  | [] => 0
  | d :: r => uptoBulk d + uptoBulkAll r
def uptoBulkEntries {H : Type} : List (Lit × DataW H) → Nat
  | [] => 0
  | x :: r => uptoBulkEntry x + uptoBulkEntries r
def uptoBulkEntry {H : Type} : Lit × DataW H → Nat
  | (.string bytes, d) => bytes.length + uptoBulk d + 1
  | (_, d) => uptoBulk d + 1
 end
def uptoSmall : (H : Type) → List (DataW H) → Bool := fun _ ds => decide (uptoBulkAll ds ≤ 1048576)
def OpenSpec.upto (s : _root_.Go.ChangeSpec) : _root_.Go.OpenSpec := { _root_.Go.OpenSpec.ofChange s with cond := some uptoSmall }

/-- 'laws.FnExactDiscRegion', WHERE WHAT IT READS IS OF BULK AT MOST 1048576: true; the input reads as it did. -/
def fnExactDiscRegionUptoRow : OpenClaim := { program := "ytifjkllkbciliaa", sum := "fcb49b3d14b52c0c4b83a421af411aaafaf90a99810dac92a8d61fe682c672b6", func := "loop.example/pixelworks/laws.FnExactDiscRegion", spec := "fnExactDiscRegion", unfollowed := true, recurses := true, apart := false, narrowed := true }
def FnExactDiscRegionUptoSaid : Prop := fnExactDiscRegionUptoRow.holds Try.pinned (OpenSpec.upto fnExactDiscRegionSpec)

/-- 'laws.FnDiscRegionGrow', WHERE WHAT IT READS IS OF BULK AT MOST 1048576: true; the input reads as it did. -/
def fnDiscRegionGrowUptoRow : OpenClaim := { program := "ytifjkllkbciliaa", sum := "fcb49b3d14b52c0c4b83a421af411aaafaf90a99810dac92a8d61fe682c672b6", func := "loop.example/pixelworks/laws.FnDiscRegionGrow", spec := "fnDiscRegionGrow", unfollowed := true, recurses := true, apart := false, narrowed := true }
def FnDiscRegionGrowUptoSaid : Prop := fnDiscRegionGrowUptoRow.holds Try.pinned (OpenSpec.upto fnDiscRegionGrowSpec)

/-- 'laws.FnDiscRegion', WHERE WHAT IT READS IS OF BULK AT MOST 1048576: true; the input reads as it did. -/
def fnDiscRegionUptoRow : OpenClaim := { program := "ytifjkllkbciliaa", sum := "fcb49b3d14b52c0c4b83a421af411aaafaf90a99810dac92a8d61fe682c672b6", func := "loop.example/pixelworks/laws.FnDiscRegion", spec := "fnDiscRegion", unfollowed := true, recurses := true, apart := false, narrowed := true }
def FnDiscRegionUptoSaid : Prop := fnDiscRegionUptoRow.holds Try.pinned (OpenSpec.upto fnDiscRegionSpec)

/-- 'laws.FnExactLineRegion', WHERE WHAT IT READS IS OF BULK AT MOST 1048576: true; the input reads as it did. -/
def fnExactLineRegionUptoRow : OpenClaim := { program := "ytifjkllkbciliaa", sum := "fcb49b3d14b52c0c4b83a421af411aaafaf90a99810dac92a8d61fe682c672b6", func := "loop.example/pixelworks/laws.FnExactLineRegion", spec := "fnExactLineRegion", apart := false, narrowed := true }
def FnExactLineRegionUptoSaid : Prop := fnExactLineRegionUptoRow.holds Try.pinned (OpenSpec.upto fnExactLineRegionSpec)

/-- 'laws.FnLineRegionBox', WHERE WHAT IT READS IS OF BULK AT MOST 1048576: true; the input reads as it did. -/
def fnLineRegionBoxUptoRow : OpenClaim := { program := "ytifjkllkbciliaa", sum := "fcb49b3d14b52c0c4b83a421af411aaafaf90a99810dac92a8d61fe682c672b6", func := "loop.example/pixelworks/laws.FnLineRegionBox", spec := "fnLineRegionBox", apart := false, narrowed := true }
def FnLineRegionBoxUptoSaid : Prop := fnLineRegionBoxUptoRow.holds Try.pinned (OpenSpec.upto fnLineRegionBoxSpec)

/-- 'laws.FnLineRegionSwap', WHERE WHAT IT READS IS OF BULK AT MOST 1048576: true; the input reads as it did. -/
def fnLineRegionSwapUptoRow : OpenClaim := { program := "ytifjkllkbciliaa", sum := "fcb49b3d14b52c0c4b83a421af411aaafaf90a99810dac92a8d61fe682c672b6", func := "loop.example/pixelworks/laws.FnLineRegionSwap", spec := "fnLineRegionSwap", apart := false, narrowed := true }
def FnLineRegionSwapUptoSaid : Prop := fnLineRegionSwapUptoRow.holds Try.pinned (OpenSpec.upto fnLineRegionSwapSpec)

/-- 'laws.FnLineRegion', WHERE WHAT IT READS IS OF BULK AT MOST 1048576: true; the input reads as it did. -/
def fnLineRegionUptoRow : OpenClaim := { program := "ytifjkllkbciliaa", sum := "fcb49b3d14b52c0c4b83a421af411aaafaf90a99810dac92a8d61fe682c672b6", func := "loop.example/pixelworks/laws.FnLineRegion", spec := "fnLineRegion", apart := false, narrowed := true }
def FnLineRegionUptoSaid : Prop := fnLineRegionUptoRow.holds Try.pinned (OpenSpec.upto fnLineRegionSpec)

/-- 'laws.FnAreaOf', WHERE WHAT IT READS IS OF BULK AT MOST 1048576: true; the input reads as it did. -/
def fnAreaOfUptoRow : OpenClaim := { program := "ytifjkllkbciliaa", sum := "fcb49b3d14b52c0c4b83a421af411aaafaf90a99810dac92a8d61fe682c672b6", func := "loop.example/pixelworks/laws.FnAreaOf", spec := "fnAreaOf", apart := false, narrowed := true }
def FnAreaOfUptoSaid : Prop := fnAreaOfUptoRow.holds Try.pinned (OpenSpec.upto fnAreaOfSpec)

/-- 'laws.FnRegionHas', WHERE WHAT IT READS IS OF BULK AT MOST 1048576: true; the input reads as it did. -/
def fnRegionHasUptoRow : OpenClaim := { program := "ytifjkllkbciliaa", sum := "fcb49b3d14b52c0c4b83a421af411aaafaf90a99810dac92a8d61fe682c672b6", func := "loop.example/pixelworks/laws.FnRegionHas", spec := "fnRegionHas", apart := false, narrowed := true }
def FnRegionHasUptoSaid : Prop := fnRegionHasUptoRow.holds Try.pinned (OpenSpec.upto fnRegionHasSpec)

/-- 'laws.FnValidRegion', WHERE WHAT IT READS IS OF BULK AT MOST 1048576: true; the input reads as it did. -/
def fnValidRegionUptoRow : OpenClaim := { program := "ytifjkllkbciliaa", sum := "fcb49b3d14b52c0c4b83a421af411aaafaf90a99810dac92a8d61fe682c672b6", func := "loop.example/pixelworks/laws.FnValidRegion", spec := "fnValidRegion", unfollowed := true, recurses := true, apart := false, narrowed := true }
def FnValidRegionUptoSaid : Prop := fnValidRegionUptoRow.holds Try.pinned (OpenSpec.upto fnValidRegionSpec)

/-- 'laws.FnBoundsOf', WHERE WHAT IT READS IS OF BULK AT MOST 1048576: true; the input reads as it did. -/
def fnBoundsOfUptoRow : OpenClaim := { program := "ytifjkllkbciliaa", sum := "fcb49b3d14b52c0c4b83a421af411aaafaf90a99810dac92a8d61fe682c672b6", func := "loop.example/pixelworks/laws.FnBoundsOf", spec := "fnBoundsOf", unfollowed := true, recurses := true, apart := false, narrowed := true }
def FnBoundsOfUptoSaid : Prop := fnBoundsOfUptoRow.holds Try.pinned (OpenSpec.upto fnBoundsOfSpec)

end Rows
end Go.Proofs.Ytifjkllkbciliaa
