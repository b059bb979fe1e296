/-
  No cell of these rows narrows 'for every input' (looked for: loops, veiled, ifaces, maps, wideKeys, modest, calm, conditions, laid).
  DERIVED. THE GIVEN ROWS OF THIS SEAT. 9 by the template 'for every input the law returns true; each argument reads behind the call as it read before'; 0 by the template 'total and deterministic' (their statements: YtbciflelcmmldaaTotals.lean).
  GIVEN WITH THE SEED: the statements are not yours to turn. If you find one false, say at which input.
  Laid BY PROGRAM, IN A SANDBOX (cutbox-rows.mjs): the forced cells as the released guide's own fill.sh prints them over the translation d60009c4806f6300… (all of the seat's roots in one cut). By AI agents, Wed Nov 11 2026. No macro, syntax, notation, axiom, sorry.
-/
import Derived.Test.YtbciflelcmmldaaChecked
import GoSem.Claim
import GoSem.ClaimJoined
import GoSem.ClaimMapViews
import Derived.JoinedTies
import Derived.KernelRfl
namespace Go.Proofs.Ytbciflelcmmldaa
/- THE CELL 'sum', in the pinned program and in every row, IS THE sha256 OF THE DUMP (.gsa) THAT YtbciflelcmmldaaProg.lean LOADS. Nothing in Lean hashes anything: it is a label: what it is worth is what the hold of that sum in a sandbox is worth. -/
noncomputable def Try.pinned : Pinned := { name := "ytbciflelcmmldaa", sum := "d60009c4806f6300ba75492577e781cc11631e2b1dcc55d2a452ab9a17ea8a11", checked := Try.checked }
namespace Rows
def none {H : Type} : Left H := { results := [], args := [] }

/-- 'laws.FnMaskImage': WHATEVER THE INPUT: true; the input reads as it did. -/
def fnMaskImageSpec : ChangeSpec := { name := "fnMaskImage", fn := fun _ => fun
  | [d] => { results := [.lit (.bool true)], args := [d] }
  | _ => none }
def fnMaskImageRow : OpenClaim := { program := "ytbciflelcmmldaa", sum := "d60009c4806f6300ba75492577e781cc11631e2b1dcc55d2a452ab9a17ea8a11", func := "loop.example/pixelworks/laws.FnMaskImage", spec := "fnMaskImage", unfollowed := true, recurses := true, apart := false }
def FnMaskImageSaid : Prop := fnMaskImageRow.holds Try.pinned (OpenSpec.ofChange fnMaskImageSpec)

/-- ITS FALSE NEIGHBOUR: 'it returns false'. Refute it at one input. -/
def fnMaskImageWrong : ChangeSpec := { name := "fnMaskImage", fn := fun _ => fun
  | [d] => { results := [.lit (.bool false)], args := [d] }
  | _ => none }
def FnMaskImageWrongFalsely : Prop := fnMaskImageRow.holds Try.pinned (OpenSpec.ofChange fnMaskImageWrong)

/-- 'laws.FnMaskImageChanged': WHATEVER THE INPUT: true; the input reads as it did. -/
def fnMaskImageChangedSpec : ChangeSpec := { name := "fnMaskImageChanged", fn := fun _ => fun
  | [d] => { results := [.lit (.bool true)], args := [d] }
  | _ => none }
def fnMaskImageChangedRow : OpenClaim := { program := "ytbciflelcmmldaa", sum := "d60009c4806f6300ba75492577e781cc11631e2b1dcc55d2a452ab9a17ea8a11", func := "loop.example/pixelworks/laws.FnMaskImageChanged", spec := "fnMaskImageChanged", unfollowed := true, recurses := true, apart := false }
def FnMaskImageChangedSaid : Prop := fnMaskImageChangedRow.holds Try.pinned (OpenSpec.ofChange fnMaskImageChangedSpec)

/-- ITS FALSE NEIGHBOUR: 'it returns false'. Refute it at one input. -/
def fnMaskImageChangedWrong : ChangeSpec := { name := "fnMaskImageChanged", fn := fun _ => fun
  | [d] => { results := [.lit (.bool false)], args := [d] }
  | _ => none }
def FnMaskImageChangedWrongFalsely : Prop := fnMaskImageChangedRow.holds Try.pinned (OpenSpec.ofChange fnMaskImageChangedWrong)

/-- 'laws.FnExactMaskImage': WHATEVER THE INPUT: true; the input reads as it did. -/
def fnExactMaskImageSpec : ChangeSpec := { name := "fnExactMaskImage", fn := fun _ => fun
  | [d1, d2, d3] => { results := [.lit (.bool true)], args := [d1, d2, d3] }
  | _ => none }
def fnExactMaskImageRow : OpenClaim := { program := "ytbciflelcmmldaa", sum := "d60009c4806f6300ba75492577e781cc11631e2b1dcc55d2a452ab9a17ea8a11", func := "loop.example/pixelworks/laws.FnExactMaskImage", spec := "fnExactMaskImage", unfollowed := true, recurses := true, apart := false }
def FnExactMaskImageSaid : Prop := fnExactMaskImageRow.holds Try.pinned (OpenSpec.ofChange fnExactMaskImageSpec)

/-- ITS FALSE NEIGHBOUR: 'it returns false'. Refute it at one input. -/
def fnExactMaskImageWrong : ChangeSpec := { name := "fnExactMaskImage", fn := fun _ => fun
  | [d1, d2, d3] => { results := [.lit (.bool false)], args := [d1, d2, d3] }
  | _ => none }
def FnExactMaskImageWrongFalsely : Prop := fnExactMaskImageRow.holds Try.pinned (OpenSpec.ofChange fnExactMaskImageWrong)

/-- 'laws.FnExactFillRegion': WHATEVER THE INPUT: true; the input reads as it did. -/
def fnExactFillRegionSpec : ChangeSpec := { name := "fnExactFillRegion", fn := fun _ => fun
  | [d1, d2, d3] => { results := [.lit (.bool true)], args := [d1, d2, d3] }
  | _ => none }
def fnExactFillRegionRow : OpenClaim := { program := "ytbciflelcmmldaa", sum := "d60009c4806f6300ba75492577e781cc11631e2b1dcc55d2a452ab9a17ea8a11", func := "loop.example/pixelworks/laws.FnExactFillRegion", spec := "fnExactFillRegion", unfollowed := true, recurses := true, apart := false }
def FnExactFillRegionSaid : Prop := fnExactFillRegionRow.holds Try.pinned (OpenSpec.ofChange fnExactFillRegionSpec)

/-- ITS FALSE NEIGHBOUR: 'it returns false'. Refute it at one input. -/
def fnExactFillRegionWrong : ChangeSpec := { name := "fnExactFillRegion", fn := fun _ => fun
  | [d1, d2, d3] => { results := [.lit (.bool false)], args := [d1, d2, d3] }
  | _ => none }
def FnExactFillRegionWrongFalsely : Prop := fnExactFillRegionRow.holds Try.pinned (OpenSpec.ofChange fnExactFillRegionWrong)

/-- 'laws.FnFillRegion': WHATEVER THE INPUT: true; the input reads as it did. -/
def fnFillRegionSpec : ChangeSpec := { name := "fnFillRegion", fn := fun _ => fun
  | [d] => { results := [.lit (.bool true)], args := [d] }
  | _ => none }
def fnFillRegionRow : OpenClaim := { program := "ytbciflelcmmldaa", sum := "d60009c4806f6300ba75492577e781cc11631e2b1dcc55d2a452ab9a17ea8a11", func := "loop.example/pixelworks/laws.FnFillRegion", spec := "fnFillRegion", unfollowed := true, recurses := true, apart := false }
def FnFillRegionSaid : Prop := fnFillRegionRow.holds Try.pinned (OpenSpec.ofChange fnFillRegionSpec)

/-- ITS FALSE NEIGHBOUR: 'it returns false'. Refute it at one input. -/
def fnFillRegionWrong : ChangeSpec := { name := "fnFillRegion", fn := fun _ => fun
  | [d] => { results := [.lit (.bool false)], args := [d] }
  | _ => none }
def FnFillRegionWrongFalsely : Prop := fnFillRegionRow.holds Try.pinned (OpenSpec.ofChange fnFillRegionWrong)

/-- 'laws.FnPartsOf': WHATEVER THE INPUT: true; the input reads as it did. -/
def fnPartsOfSpec : ChangeSpec := { name := "fnPartsOf", fn := fun _ => fun
  | [d] => { results := [.lit (.bool true)], args := [d] }
  | _ => none }
def fnPartsOfRow : OpenClaim := { program := "ytbciflelcmmldaa", sum := "d60009c4806f6300ba75492577e781cc11631e2b1dcc55d2a452ab9a17ea8a11", func := "loop.example/pixelworks/laws.FnPartsOf", spec := "fnPartsOf", unfollowed := true, recurses := true, apart := false }
def FnPartsOfSaid : Prop := fnPartsOfRow.holds Try.pinned (OpenSpec.ofChange fnPartsOfSpec)

/-- ITS FALSE NEIGHBOUR: 'it returns false'. Refute it at one input. -/
def fnPartsOfWrong : ChangeSpec := { name := "fnPartsOf", fn := fun _ => fun
  | [d] => { results := [.lit (.bool false)], args := [d] }
  | _ => none }
def FnPartsOfWrongFalsely : Prop := fnPartsOfRow.holds Try.pinned (OpenSpec.ofChange fnPartsOfWrong)

/-- 'laws.FnPartsOfGrown': WHATEVER THE INPUT: true; the input reads as it did. -/
def fnPartsOfGrownSpec : ChangeSpec := { name := "fnPartsOfGrown", fn := fun _ => fun
  | [d] => { results := [.lit (.bool true)], args := [d] }
  | _ => none }
def fnPartsOfGrownRow : OpenClaim := { program := "ytbciflelcmmldaa", sum := "d60009c4806f6300ba75492577e781cc11631e2b1dcc55d2a452ab9a17ea8a11", func := "loop.example/pixelworks/laws.FnPartsOfGrown", spec := "fnPartsOfGrown", unfollowed := true, recurses := true, apart := false }
def FnPartsOfGrownSaid : Prop := fnPartsOfGrownRow.holds Try.pinned (OpenSpec.ofChange fnPartsOfGrownSpec)

/-- ITS FALSE NEIGHBOUR: 'it returns false'. Refute it at one input. -/
def fnPartsOfGrownWrong : ChangeSpec := { name := "fnPartsOfGrown", fn := fun _ => fun
  | [d] => { results := [.lit (.bool false)], args := [d] }
  | _ => none }
def FnPartsOfGrownWrongFalsely : Prop := fnPartsOfGrownRow.holds Try.pinned (OpenSpec.ofChange fnPartsOfGrownWrong)

/-- 'laws.FnExactPackSprites': WHATEVER THE INPUT: true; the input reads as it did. -/
def fnExactPackSpritesSpec : ChangeSpec := { name := "fnExactPackSprites", fn := fun _ => fun
  | [d1, d2] => { results := [.lit (.bool true)], args := [d1, d2] }
  | _ => none }
def fnExactPackSpritesRow : OpenClaim := { program := "ytbciflelcmmldaa", sum := "d60009c4806f6300ba75492577e781cc11631e2b1dcc55d2a452ab9a17ea8a11", func := "loop.example/pixelworks/laws.FnExactPackSprites", spec := "fnExactPackSprites", unfollowed := true, recurses := true, apart := false }
def FnExactPackSpritesSaid : Prop := fnExactPackSpritesRow.holds Try.pinned (OpenSpec.ofChange fnExactPackSpritesSpec)

/-- ITS FALSE NEIGHBOUR: 'it returns false'. Refute it at one input. -/
def fnExactPackSpritesWrong : ChangeSpec := { name := "fnExactPackSprites", fn := fun _ => fun
  | [d1, d2] => { results := [.lit (.bool false)], args := [d1, d2] }
  | _ => none }
def FnExactPackSpritesWrongFalsely : Prop := fnExactPackSpritesRow.holds Try.pinned (OpenSpec.ofChange fnExactPackSpritesWrong)

/-- 'laws.FnPackSprites': WHATEVER THE INPUT: true; the input reads as it did. -/
def fnPackSpritesSpec : ChangeSpec := { name := "fnPackSprites", fn := fun _ => fun
  | [d] => { results := [.lit (.bool true)], args := [d] }
  | _ => none }
def fnPackSpritesRow : OpenClaim := { program := "ytbciflelcmmldaa", sum := "d60009c4806f6300ba75492577e781cc11631e2b1dcc55d2a452ab9a17ea8a11", func := "loop.example/pixelworks/laws.FnPackSprites", spec := "fnPackSprites", unfollowed := true, recurses := true, apart := false }
def FnPackSpritesSaid : Prop := fnPackSpritesRow.holds Try.pinned (OpenSpec.ofChange fnPackSpritesSpec)

/-- ITS FALSE NEIGHBOUR: 'it returns false'. Refute it at one input. -/
def fnPackSpritesWrong : ChangeSpec := { name := "fnPackSprites", fn := fun _ => fun
  | [d] => { results := [.lit (.bool false)], args := [d] }
  | _ => none }
def FnPackSpritesWrongFalsely : Prop := fnPackSpritesRow.holds Try.pinned (OpenSpec.ofChange fnPackSpritesWrong)

/- THE SECOND FORM. 'bulk': how many values and letters a reading holds, each counted each time it is reached (what is shared counts as often as it is met; a slice's spare places count too). A statement '..UptoSaid' is the law's where the arguments, and the package variables that the reading takes, are together of bulk at most 1048576: NARROWER than '..Said'. Prove '..Said' where nothing that the law and all that it calls make is longer than what came in: it says more and counts as full. Else prove '..UptoSaid'. A law counts once. -/
mutual
def uptoBulk {H : Type} : DataW H → Nat
  | .lit (.string bytes) => bytes.length + 1
  | .lit _ => 1
  | .nil => 1
  | .ptr d => uptoBulk d + 1
  | .slice elems spare => uptoBulkAll elems + uptoBulkAll spare + 1
  | .agg parts => uptoBulkAll parts + 1
  | .iface _ d => uptoBulk d + 1
  | .map entries => uptoBulkEntries entries + 1
  | .held _ => 1
def uptoBulkAll {H : Type} : List (DataW H) → Nat
  | [] => 0
  | d :: r => uptoBulk d + uptoBulkAll r
def uptoBulkEntries {H : Type} : List (Lit × DataW H) → Nat
  | [] => 0
  | x :: r => uptoBulkEntry x + uptoBulkEntries r
def uptoBulkEntry {H : Type} : Lit × DataW H → Nat
  | (.string bytes, d) => bytes.length + uptoBulk d + 1
  | (_, d) => uptoBulk d + 1
 end
def uptoSmall : (H : Type) → List (DataW H) → Bool := fun _ ds => decide (uptoBulkAll ds ≤ 1048576)
def OpenSpec.upto (s : _root_.Go.ChangeSpec) : _root_.Go.OpenSpec := { _root_.Go.OpenSpec.ofChange s with cond := some uptoSmall }

/-- 'laws.FnMaskImage', WHERE WHAT IT READS IS OF BULK AT MOST 1048576: true; the input reads as it did. -/
def fnMaskImageUptoRow : OpenClaim := { program := "ytbciflelcmmldaa", sum := "d60009c4806f6300ba75492577e781cc11631e2b1dcc55d2a452ab9a17ea8a11", func := "loop.example/pixelworks/laws.FnMaskImage", spec := "fnMaskImage", unfollowed := true, recurses := true, apart := false, narrowed := true }
def FnMaskImageUptoSaid : Prop := fnMaskImageUptoRow.holds Try.pinned (OpenSpec.upto fnMaskImageSpec)

/-- 'laws.FnMaskImageChanged', WHERE WHAT IT READS IS OF BULK AT MOST 1048576: true; the input reads as it did. -/
def fnMaskImageChangedUptoRow : OpenClaim := { program := "ytbciflelcmmldaa", sum := "d60009c4806f6300ba75492577e781cc11631e2b1dcc55d2a452ab9a17ea8a11", func := "loop.example/pixelworks/laws.FnMaskImageChanged", spec := "fnMaskImageChanged", unfollowed := true, recurses := true, apart := false, narrowed := true }
def FnMaskImageChangedUptoSaid : Prop := fnMaskImageChangedUptoRow.holds Try.pinned (OpenSpec.upto fnMaskImageChangedSpec)

/-- 'laws.FnExactMaskImage', WHERE WHAT IT READS IS OF BULK AT MOST 1048576: true; the input reads as it did. -/
def fnExactMaskImageUptoRow : OpenClaim := { program := "ytbciflelcmmldaa", sum := "d60009c4806f6300ba75492577e781cc11631e2b1dcc55d2a452ab9a17ea8a11", func := "loop.example/pixelworks/laws.FnExactMaskImage", spec := "fnExactMaskImage", unfollowed := true, recurses := true, apart := false, narrowed := true }
def FnExactMaskImageUptoSaid : Prop := fnExactMaskImageUptoRow.holds Try.pinned (OpenSpec.upto fnExactMaskImageSpec)

/-- 'laws.FnExactFillRegion', WHERE WHAT IT READS IS OF BULK AT MOST 1048576: true; the input reads as it did. -/
def fnExactFillRegionUptoRow : OpenClaim := { program := "ytbciflelcmmldaa", sum := "d60009c4806f6300ba75492577e781cc11631e2b1dcc55d2a452ab9a17ea8a11", func := "loop.example/pixelworks/laws.FnExactFillRegion", spec := "fnExactFillRegion", unfollowed := true, recurses := true, apart := false, narrowed := true }
def FnExactFillRegionUptoSaid : Prop := fnExactFillRegionUptoRow.holds Try.pinned (OpenSpec.upto fnExactFillRegionSpec)

/-- 'laws.FnFillRegion', WHERE WHAT IT READS IS OF BULK AT MOST 1048576: true; the input reads as it did. -/
def fnFillRegionUptoRow : OpenClaim := { program := "ytbciflelcmmldaa", sum := "d60009c4806f6300ba75492577e781cc11631e2b1dcc55d2a452ab9a17ea8a11", func := "loop.example/pixelworks/laws.FnFillRegion", spec := "fnFillRegion", unfollowed := true, recurses := true, apart := false, narrowed := true }
def FnFillRegionUptoSaid : Prop := fnFillRegionUptoRow.holds Try.pinned (OpenSpec.upto fnFillRegionSpec)

/-- 'laws.FnPartsOf', WHERE WHAT IT READS IS OF BULK AT MOST 1048576: true; the input reads as it did. -/
def fnPartsOfUptoRow : OpenClaim := { program := "ytbciflelcmmldaa", sum := "d60009c4806f6300ba75492577e781cc11631e2b1dcc55d2a452ab9a17ea8a11", func := "loop.example/pixelworks/laws.FnPartsOf", spec := "fnPartsOf", unfollowed := true, recurses := true, apart := false, narrowed := true }
def FnPartsOfUptoSaid : Prop := fnPartsOfUptoRow.holds Try.pinned (OpenSpec.upto fnPartsOfSpec)

/-- 'laws.FnPartsOfGrown', WHERE WHAT IT READS IS OF BULK AT MOST 1048576: true; the input reads as it did. -/
def fnPartsOfGrownUptoRow : OpenClaim := { program := "ytbciflelcmmldaa", sum := "d60009c4806f6300ba75492577e781cc11631e2b1dcc55d2a452ab9a17ea8a11", func := "loop.example/pixelworks/laws.FnPartsOfGrown", spec := "fnPartsOfGrown", unfollowed := true, recurses := true, apart := false, narrowed := true }
def FnPartsOfGrownUptoSaid : Prop := fnPartsOfGrownUptoRow.holds Try.pinned (OpenSpec.upto fnPartsOfGrownSpec)

/-- 'laws.FnExactPackSprites', WHERE WHAT IT READS IS OF BULK AT MOST 1048576: true; the input reads as it did. -/
def fnExactPackSpritesUptoRow : OpenClaim := { program := "ytbciflelcmmldaa", sum := "d60009c4806f6300ba75492577e781cc11631e2b1dcc55d2a452ab9a17ea8a11", func := "loop.example/pixelworks/laws.FnExactPackSprites", spec := "fnExactPackSprites", unfollowed := true, recurses := true, apart := false, narrowed := true }
def FnExactPackSpritesUptoSaid : Prop := fnExactPackSpritesUptoRow.holds Try.pinned (OpenSpec.upto fnExactPackSpritesSpec)

/-- 'laws.FnPackSprites', WHERE WHAT IT READS IS OF BULK AT MOST 1048576: true; the input reads as it did. -/
def fnPackSpritesUptoRow : OpenClaim := { program := "ytbciflelcmmldaa", sum := "d60009c4806f6300ba75492577e781cc11631e2b1dcc55d2a452ab9a17ea8a11", func := "loop.example/pixelworks/laws.FnPackSprites", spec := "fnPackSprites", unfollowed := true, recurses := true, apart := false, narrowed := true }
def FnPackSpritesUptoSaid : Prop := fnPackSpritesUptoRow.holds Try.pinned (OpenSpec.upto fnPackSpritesSpec)

end Rows
end Go.Proofs.Ytbciflelcmmldaa
