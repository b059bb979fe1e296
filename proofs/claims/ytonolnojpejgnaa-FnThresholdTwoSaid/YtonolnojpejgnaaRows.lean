/-
  No cell of these rows narrows 'for every input' (looked for: loops, veiled, ifaces, maps, wideKeys, modest, calm, conditions, laid).
  DERIVED. THE GIVEN ROWS OF THIS SEAT. 12 by the template 'for every input the law returns true; each argument reads behind the call as it read before'; 0 by the template 'total and deterministic' (their statements: YtonolnojpejgnaaTotals.lean).
  GIVEN WITH THE SEED: the statements are not yours to turn. If you find one false, say at which input.
  Laid BY PROGRAM, IN A SANDBOX (cutbox-rows.mjs): the forced cells as the released guide's own fill.sh prints them over the translation 258a1b0bb91149dd… (all of the seat's roots in one cut). By AI agents, Wed Nov 11 2026. No macro, syntax, notation, axiom, sorry.
-/
import Derived.Test.YtonolnojpejgnaaChecked
import GoSem.Claim
import GoSem.ClaimJoined
import GoSem.ClaimMapViews
import Derived.JoinedTies
import Derived.KernelRfl
namespace Go.Proofs.Ytonolnojpejgnaa
/- THE CELL 'sum', in the pinned program and in every row, IS THE sha256 OF THE DUMP (.gsa) THAT YtonolnojpejgnaaProg.lean LOADS. Nothing in Lean hashes anything: it is a label: what it is worth is what the hold of that sum in a sandbox is worth. -/
noncomputable def Try.pinned : Pinned := { name := "ytonolnojpejgnaa", sum := "258a1b0bb91149dd279032a39a5014f2d69ef4e0cd645a41f5efc738686b2334", checked := Try.checked }
namespace Rows
def none {H : Type} : Left H := { results := [], args := [] }

/-- 'laws.FnExactHistogramOf': WHATEVER THE INPUT: true; the input reads as it did. -/
def fnExactHistogramOfSpec : ChangeSpec := { name := "fnExactHistogramOf", fn := fun _ => fun
  | [d] => { results := [.lit (.bool true)], args := [d] }
  | _ => none }
def fnExactHistogramOfRow : OpenClaim := { program := "ytonolnojpejgnaa", sum := "258a1b0bb91149dd279032a39a5014f2d69ef4e0cd645a41f5efc738686b2334", func := "loop.example/pixelworks/laws.FnExactHistogramOf", spec := "fnExactHistogramOf", unfollowed := true, recurses := true, apart := false }
def FnExactHistogramOfSaid : Prop := fnExactHistogramOfRow.holds Try.pinned (OpenSpec.ofChange fnExactHistogramOfSpec)

/-- ITS FALSE NEIGHBOUR: 'it returns false'. Refute it at one input. -/
def fnExactHistogramOfWrong : ChangeSpec := { name := "fnExactHistogramOf", fn := fun _ => fun
  | [d] => { results := [.lit (.bool false)], args := [d] }
  | _ => none }
def FnExactHistogramOfWrongFalsely : Prop := fnExactHistogramOfRow.holds Try.pinned (OpenSpec.ofChange fnExactHistogramOfWrong)

/-- 'laws.FnHistogramOf': WHATEVER THE INPUT: true; the input reads as it did. -/
def fnHistogramOfSpec : ChangeSpec := { name := "fnHistogramOf", fn := fun _ => fun
  | [d] => { results := [.lit (.bool true)], args := [d] }
  | _ => none }
def fnHistogramOfRow : OpenClaim := { program := "ytonolnojpejgnaa", sum := "258a1b0bb91149dd279032a39a5014f2d69ef4e0cd645a41f5efc738686b2334", func := "loop.example/pixelworks/laws.FnHistogramOf", spec := "fnHistogramOf", unfollowed := true, recurses := true, apart := false }
def FnHistogramOfSaid : Prop := fnHistogramOfRow.holds Try.pinned (OpenSpec.ofChange fnHistogramOfSpec)

/-- ITS FALSE NEIGHBOUR: 'it returns false'. Refute it at one input. -/
def fnHistogramOfWrong : ChangeSpec := { name := "fnHistogramOf", fn := fun _ => fun
  | [d] => { results := [.lit (.bool false)], args := [d] }
  | _ => none }
def FnHistogramOfWrongFalsely : Prop := fnHistogramOfRow.holds Try.pinned (OpenSpec.ofChange fnHistogramOfWrong)

/-- 'laws.FnHistogramTurn': WHATEVER THE INPUT: true; the input reads as it did. -/
def fnHistogramTurnSpec : ChangeSpec := { name := "fnHistogramTurn", fn := fun _ => fun
  | [d] => { results := [.lit (.bool true)], args := [d] }
  | _ => none }
def fnHistogramTurnRow : OpenClaim := { program := "ytonolnojpejgnaa", sum := "258a1b0bb91149dd279032a39a5014f2d69ef4e0cd645a41f5efc738686b2334", func := "loop.example/pixelworks/laws.FnHistogramTurn", spec := "fnHistogramTurn", unfollowed := true, recurses := true, apart := false }
def FnHistogramTurnSaid : Prop := fnHistogramTurnRow.holds Try.pinned (OpenSpec.ofChange fnHistogramTurnSpec)

/-- ITS FALSE NEIGHBOUR: 'it returns false'. Refute it at one input. -/
def fnHistogramTurnWrong : ChangeSpec := { name := "fnHistogramTurn", fn := fun _ => fun
  | [d] => { results := [.lit (.bool false)], args := [d] }
  | _ => none }
def FnHistogramTurnWrongFalsely : Prop := fnHistogramTurnRow.holds Try.pinned (OpenSpec.ofChange fnHistogramTurnWrong)

/-- 'laws.FnHistogramMap': WHATEVER THE INPUT: true; the input reads as it did. -/
def fnHistogramMapSpec : ChangeSpec := { name := "fnHistogramMap", fn := fun _ => fun
  | [d] => { results := [.lit (.bool true)], args := [d] }
  | _ => none }
def fnHistogramMapRow : OpenClaim := { program := "ytonolnojpejgnaa", sum := "258a1b0bb91149dd279032a39a5014f2d69ef4e0cd645a41f5efc738686b2334", func := "loop.example/pixelworks/laws.FnHistogramMap", spec := "fnHistogramMap", unfollowed := true, recurses := true, apart := false }
def FnHistogramMapSaid : Prop := fnHistogramMapRow.holds Try.pinned (OpenSpec.ofChange fnHistogramMapSpec)

/-- ITS FALSE NEIGHBOUR: 'it returns false'. Refute it at one input. -/
def fnHistogramMapWrong : ChangeSpec := { name := "fnHistogramMap", fn := fun _ => fun
  | [d] => { results := [.lit (.bool false)], args := [d] }
  | _ => none }
def FnHistogramMapWrongFalsely : Prop := fnHistogramMapRow.holds Try.pinned (OpenSpec.ofChange fnHistogramMapWrong)

/-- 'laws.FnExactMapImage': WHATEVER THE INPUT: true; the input reads as it did. -/
def fnExactMapImageSpec : ChangeSpec := { name := "fnExactMapImage", fn := fun _ => fun
  | [d1, d2] => { results := [.lit (.bool true)], args := [d1, d2] }
  | _ => none }
def fnExactMapImageRow : OpenClaim := { program := "ytonolnojpejgnaa", sum := "258a1b0bb91149dd279032a39a5014f2d69ef4e0cd645a41f5efc738686b2334", func := "loop.example/pixelworks/laws.FnExactMapImage", spec := "fnExactMapImage", unfollowed := true, recurses := true, apart := false }
def FnExactMapImageSaid : Prop := fnExactMapImageRow.holds Try.pinned (OpenSpec.ofChange fnExactMapImageSpec)

/-- ITS FALSE NEIGHBOUR: 'it returns false'. Refute it at one input. -/
def fnExactMapImageWrong : ChangeSpec := { name := "fnExactMapImage", fn := fun _ => fun
  | [d1, d2] => { results := [.lit (.bool false)], args := [d1, d2] }
  | _ => none }
def FnExactMapImageWrongFalsely : Prop := fnExactMapImageRow.holds Try.pinned (OpenSpec.ofChange fnExactMapImageWrong)

/-- 'laws.FnMapImage': WHATEVER THE INPUT: true; the input reads as it did. -/
def fnMapImageSpec : ChangeSpec := { name := "fnMapImage", fn := fun _ => fun
  | [d] => { results := [.lit (.bool true)], args := [d] }
  | _ => none }
def fnMapImageRow : OpenClaim := { program := "ytonolnojpejgnaa", sum := "258a1b0bb91149dd279032a39a5014f2d69ef4e0cd645a41f5efc738686b2334", func := "loop.example/pixelworks/laws.FnMapImage", spec := "fnMapImage", unfollowed := true, recurses := true, apart := false }
def FnMapImageSaid : Prop := fnMapImageRow.holds Try.pinned (OpenSpec.ofChange fnMapImageSpec)

/-- ITS FALSE NEIGHBOUR: 'it returns false'. Refute it at one input. -/
def fnMapImageWrong : ChangeSpec := { name := "fnMapImage", fn := fun _ => fun
  | [d] => { results := [.lit (.bool false)], args := [d] }
  | _ => none }
def FnMapImageWrongFalsely : Prop := fnMapImageRow.holds Try.pinned (OpenSpec.ofChange fnMapImageWrong)

/-- 'laws.FnMapImageInvert': WHATEVER THE INPUT: true; the input reads as it did. -/
def fnMapImageInvertSpec : ChangeSpec := { name := "fnMapImageInvert", fn := fun _ => fun
  | [d] => { results := [.lit (.bool true)], args := [d] }
  | _ => none }
def fnMapImageInvertRow : OpenClaim := { program := "ytonolnojpejgnaa", sum := "258a1b0bb91149dd279032a39a5014f2d69ef4e0cd645a41f5efc738686b2334", func := "loop.example/pixelworks/laws.FnMapImageInvert", spec := "fnMapImageInvert", unfollowed := true, recurses := true, apart := false }
def FnMapImageInvertSaid : Prop := fnMapImageInvertRow.holds Try.pinned (OpenSpec.ofChange fnMapImageInvertSpec)

/-- ITS FALSE NEIGHBOUR: 'it returns false'. Refute it at one input. -/
def fnMapImageInvertWrong : ChangeSpec := { name := "fnMapImageInvert", fn := fun _ => fun
  | [d] => { results := [.lit (.bool false)], args := [d] }
  | _ => none }
def FnMapImageInvertWrongFalsely : Prop := fnMapImageInvertRow.holds Try.pinned (OpenSpec.ofChange fnMapImageInvertWrong)

/-- 'laws.FnExactThresholdOf': WHATEVER THE INPUT: true; the input reads as it did. -/
def fnExactThresholdOfSpec : ChangeSpec := { name := "fnExactThresholdOf", fn := fun _ => fun
  | [d] => { results := [.lit (.bool true)], args := [d] }
  | _ => none }
def fnExactThresholdOfRow : OpenClaim := { program := "ytonolnojpejgnaa", sum := "258a1b0bb91149dd279032a39a5014f2d69ef4e0cd645a41f5efc738686b2334", func := "loop.example/pixelworks/laws.FnExactThresholdOf", spec := "fnExactThresholdOf", unfollowed := true, recurses := true, apart := false }
def FnExactThresholdOfSaid : Prop := fnExactThresholdOfRow.holds Try.pinned (OpenSpec.ofChange fnExactThresholdOfSpec)

/-- ITS FALSE NEIGHBOUR: 'it returns false'. Refute it at one input. -/
def fnExactThresholdOfWrong : ChangeSpec := { name := "fnExactThresholdOf", fn := fun _ => fun
  | [d] => { results := [.lit (.bool false)], args := [d] }
  | _ => none }
def FnExactThresholdOfWrongFalsely : Prop := fnExactThresholdOfRow.holds Try.pinned (OpenSpec.ofChange fnExactThresholdOfWrong)

/-- 'laws.FnThresholdOf': WHATEVER THE INPUT: true; the input reads as it did. -/
def fnThresholdOfSpec : ChangeSpec := { name := "fnThresholdOf", fn := fun _ => fun
  | [d] => { results := [.lit (.bool true)], args := [d] }
  | _ => none }
def fnThresholdOfRow : OpenClaim := { program := "ytonolnojpejgnaa", sum := "258a1b0bb91149dd279032a39a5014f2d69ef4e0cd645a41f5efc738686b2334", func := "loop.example/pixelworks/laws.FnThresholdOf", spec := "fnThresholdOf", unfollowed := true, recurses := true, apart := false }
def FnThresholdOfSaid : Prop := fnThresholdOfRow.holds Try.pinned (OpenSpec.ofChange fnThresholdOfSpec)

/-- ITS FALSE NEIGHBOUR: 'it returns false'. Refute it at one input. -/
def fnThresholdOfWrong : ChangeSpec := { name := "fnThresholdOf", fn := fun _ => fun
  | [d] => { results := [.lit (.bool false)], args := [d] }
  | _ => none }
def FnThresholdOfWrongFalsely : Prop := fnThresholdOfRow.holds Try.pinned (OpenSpec.ofChange fnThresholdOfWrong)

/-- 'laws.FnThresholdTwo': WHATEVER THE INPUT: true; the input reads as it did. -/
def fnThresholdTwoSpec : ChangeSpec := { name := "fnThresholdTwo", fn := fun _ => fun
  | [d] => { results := [.lit (.bool true)], args := [d] }
  | _ => none }
def fnThresholdTwoRow : OpenClaim := { program := "ytonolnojpejgnaa", sum := "258a1b0bb91149dd279032a39a5014f2d69ef4e0cd645a41f5efc738686b2334", func := "loop.example/pixelworks/laws.FnThresholdTwo", spec := "fnThresholdTwo", unfollowed := true, recurses := true, apart := false }
def FnThresholdTwoSaid : Prop := fnThresholdTwoRow.holds Try.pinned (OpenSpec.ofChange fnThresholdTwoSpec)

/-- ITS FALSE NEIGHBOUR: 'it returns false'. Refute it at one input. -/
def fnThresholdTwoWrong : ChangeSpec := { name := "fnThresholdTwo", fn := fun _ => fun
  | [d] => { results := [.lit (.bool false)], args := [d] }
  | _ => none }
def FnThresholdTwoWrongFalsely : Prop := fnThresholdTwoRow.holds Try.pinned (OpenSpec.ofChange fnThresholdTwoWrong)

/-- 'laws.FnExactEqualizeImage': WHATEVER THE INPUT: true; the input reads as it did. -/
def fnExactEqualizeImageSpec : ChangeSpec := { name := "fnExactEqualizeImage", fn := fun _ => fun
  | [d] => { results := [.lit (.bool true)], args := [d] }
  | _ => none }
def fnExactEqualizeImageRow : OpenClaim := { program := "ytonolnojpejgnaa", sum := "258a1b0bb91149dd279032a39a5014f2d69ef4e0cd645a41f5efc738686b2334", func := "loop.example/pixelworks/laws.FnExactEqualizeImage", spec := "fnExactEqualizeImage", unfollowed := true, recurses := true, apart := false }
def FnExactEqualizeImageSaid : Prop := fnExactEqualizeImageRow.holds Try.pinned (OpenSpec.ofChange fnExactEqualizeImageSpec)

/-- ITS FALSE NEIGHBOUR: 'it returns false'. Refute it at one input. -/
def fnExactEqualizeImageWrong : ChangeSpec := { name := "fnExactEqualizeImage", fn := fun _ => fun
  | [d] => { results := [.lit (.bool false)], args := [d] }
  | _ => none }
def FnExactEqualizeImageWrongFalsely : Prop := fnExactEqualizeImageRow.holds Try.pinned (OpenSpec.ofChange fnExactEqualizeImageWrong)

/-- 'laws.FnEqualizeImage': WHATEVER THE INPUT: true; the input reads as it did. -/
def fnEqualizeImageSpec : ChangeSpec := { name := "fnEqualizeImage", fn := fun _ => fun
  | [d] => { results := [.lit (.bool true)], args := [d] }
  | _ => none }
def fnEqualizeImageRow : OpenClaim := { program := "ytonolnojpejgnaa", sum := "258a1b0bb91149dd279032a39a5014f2d69ef4e0cd645a41f5efc738686b2334", func := "loop.example/pixelworks/laws.FnEqualizeImage", spec := "fnEqualizeImage", unfollowed := true, recurses := true, apart := false }
def FnEqualizeImageSaid : Prop := fnEqualizeImageRow.holds Try.pinned (OpenSpec.ofChange fnEqualizeImageSpec)

/-- ITS FALSE NEIGHBOUR: 'it returns false'. Refute it at one input. -/
def fnEqualizeImageWrong : ChangeSpec := { name := "fnEqualizeImage", fn := fun _ => fun
  | [d] => { results := [.lit (.bool false)], args := [d] }
  | _ => none }
def FnEqualizeImageWrongFalsely : Prop := fnEqualizeImageRow.holds Try.pinned (OpenSpec.ofChange fnEqualizeImageWrong)

/- THE SECOND FORM. 'bulk': how many values and letters a reading holds, each counted each time it is reached (what is shared counts as often as it is met; a slice's spare places count too). A statement '..UptoSaid' is the law's where the arguments, and the package variables that the reading takes, are together of bulk at most 1048576: NARROWER than '..Said'. Prove '..Said' where nothing that the law and all that it calls make is longer than what came in: it says more and counts as full. Else prove '..UptoSaid'. A law counts once. -/
mutual
def uptoBulk {H : Type} : DataW H → Nat
  | .lit (.string bytes) => bytes.length + 1
  | .lit _ => 1
  | .nil => 1
  | .ptr d => uptoBulk d + 1
  | .slice elems spare => uptoBulkAll elems + uptoBulkAll spare + 1
  | .agg parts => uptoBulkAll parts + 1
  | .iface _ d => uptoBulk d + 1
  | .map entries => uptoBulkEntries entries + 1
  | .held _ => 1
def uptoBulkAll {H : Type} : List (DataW H) → Nat
  | [] => 0
  | d :: r => uptoBulk d + uptoBulkAll r
def uptoBulkEntries {H : Type} : List (Lit × DataW H) → Nat
  | [] => 0
  | x :: r => uptoBulkEntry x + uptoBulkEntries r
def uptoBulkEntry {H : Type} : Lit × DataW H → Nat
  | (.string bytes, d) => bytes.length + uptoBulk d + 1
  | (_, d) => uptoBulk d + 1
 end
def uptoSmall : (H : Type) → List (DataW H) → Bool := fun _ ds => decide (uptoBulkAll ds ≤ 1048576)
def OpenSpec.upto (s : _root_.Go.ChangeSpec) : _root_.Go.OpenSpec := { _root_.Go.OpenSpec.ofChange s with cond := some uptoSmall }

/-- 'laws.FnExactHistogramOf', WHERE WHAT IT READS IS OF BULK AT MOST 1048576: true; the input reads as it did. -/
def fnExactHistogramOfUptoRow : OpenClaim := { program := "ytonolnojpejgnaa", sum := "258a1b0bb91149dd279032a39a5014f2d69ef4e0cd645a41f5efc738686b2334", func := "loop.example/pixelworks/laws.FnExactHistogramOf", spec := "fnExactHistogramOf", unfollowed := true, recurses := true, apart := false, narrowed := true }
def FnExactHistogramOfUptoSaid : Prop := fnExactHistogramOfUptoRow.holds Try.pinned (OpenSpec.upto fnExactHistogramOfSpec)

/-- 'laws.FnHistogramOf', WHERE WHAT IT READS IS OF BULK AT MOST 1048576: true; the input reads as it did. -/
def fnHistogramOfUptoRow : OpenClaim := { program := "ytonolnojpejgnaa", sum := "258a1b0bb91149dd279032a39a5014f2d69ef4e0cd645a41f5efc738686b2334", func := "loop.example/pixelworks/laws.FnHistogramOf", spec := "fnHistogramOf", unfollowed := true, recurses := true, apart := false, narrowed := true }
def FnHistogramOfUptoSaid : Prop := fnHistogramOfUptoRow.holds Try.pinned (OpenSpec.upto fnHistogramOfSpec)

/-- 'laws.FnHistogramTurn', WHERE WHAT IT READS IS OF BULK AT MOST 1048576: true; the input reads as it did. -/
def fnHistogramTurnUptoRow : OpenClaim := { program := "ytonolnojpejgnaa", sum := "258a1b0bb91149dd279032a39a5014f2d69ef4e0cd645a41f5efc738686b2334", func := "loop.example/pixelworks/laws.FnHistogramTurn", spec := "fnHistogramTurn", unfollowed := true, recurses := true, apart := false, narrowed := true }
def FnHistogramTurnUptoSaid : Prop := fnHistogramTurnUptoRow.holds Try.pinned (OpenSpec.upto fnHistogramTurnSpec)

/-- 'laws.FnHistogramMap', WHERE WHAT IT READS IS OF BULK AT MOST 1048576: true; the input reads as it did. -/
def fnHistogramMapUptoRow : OpenClaim := { program := "ytonolnojpejgnaa", sum := "258a1b0bb91149dd279032a39a5014f2d69ef4e0cd645a41f5efc738686b2334", func := "loop.example/pixelworks/laws.FnHistogramMap", spec := "fnHistogramMap", unfollowed := true, recurses := true, apart := false, narrowed := true }
def FnHistogramMapUptoSaid : Prop := fnHistogramMapUptoRow.holds Try.pinned (OpenSpec.upto fnHistogramMapSpec)

/-- 'laws.FnExactMapImage', WHERE WHAT IT READS IS OF BULK AT MOST 1048576: true; the input reads as it did. -/
def fnExactMapImageUptoRow : OpenClaim := { program := "ytonolnojpejgnaa", sum := "258a1b0bb91149dd279032a39a5014f2d69ef4e0cd645a41f5efc738686b2334", func := "loop.example/pixelworks/laws.FnExactMapImage", spec := "fnExactMapImage", unfollowed := true, recurses := true, apart := false, narrowed := true }
def FnExactMapImageUptoSaid : Prop := fnExactMapImageUptoRow.holds Try.pinned (OpenSpec.upto fnExactMapImageSpec)

/-- 'laws.FnMapImage', WHERE WHAT IT READS IS OF BULK AT MOST 1048576: true; the input reads as it did. -/
def fnMapImageUptoRow : OpenClaim := { program := "ytonolnojpejgnaa", sum := "258a1b0bb91149dd279032a39a5014f2d69ef4e0cd645a41f5efc738686b2334", func := "loop.example/pixelworks/laws.FnMapImage", spec := "fnMapImage", unfollowed := true, recurses := true, apart := false, narrowed := true }
def FnMapImageUptoSaid : Prop := fnMapImageUptoRow.holds Try.pinned (OpenSpec.upto fnMapImageSpec)

/-- 'laws.FnMapImageInvert', WHERE WHAT IT READS IS OF BULK AT MOST 1048576: true; the input reads as it did. -/
def fnMapImageInvertUptoRow : OpenClaim := { program := "ytonolnojpejgnaa", sum := "258a1b0bb91149dd279032a39a5014f2d69ef4e0cd645a41f5efc738686b2334", func := "loop.example/pixelworks/laws.FnMapImageInvert", spec := "fnMapImageInvert", unfollowed := true, recurses := true, apart := false, narrowed := true }
def FnMapImageInvertUptoSaid : Prop := fnMapImageInvertUptoRow.holds Try.pinned (OpenSpec.upto fnMapImageInvertSpec)

/-- 'laws.FnExactThresholdOf', WHERE WHAT IT READS IS OF BULK AT MOST 1048576: true; the input reads as it did. -/
def fnExactThresholdOfUptoRow : OpenClaim := { program := "ytonolnojpejgnaa", sum := "258a1b0bb91149dd279032a39a5014f2d69ef4e0cd645a41f5efc738686b2334", func := "loop.example/pixelworks/laws.FnExactThresholdOf", spec := "fnExactThresholdOf", unfollowed := true, recurses := true, apart := false, narrowed := true }
def FnExactThresholdOfUptoSaid : Prop := fnExactThresholdOfUptoRow.holds Try.pinned (OpenSpec.upto fnExactThresholdOfSpec)

/-- 'laws.FnThresholdOf', WHERE WHAT IT READS IS OF BULK AT MOST 1048576: true; the input reads as it did. -/
def fnThresholdOfUptoRow : OpenClaim := { program := "ytonolnojpejgnaa", sum := "258a1b0bb91149dd279032a39a5014f2d69ef4e0cd645a41f5efc738686b2334", func := "loop.example/pixelworks/laws.FnThresholdOf", spec := "fnThresholdOf", unfollowed := true, recurses := true, apart := false, narrowed := true }
def FnThresholdOfUptoSaid : Prop := fnThresholdOfUptoRow.holds Try.pinned (OpenSpec.upto fnThresholdOfSpec)

/-- 'laws.FnThresholdTwo', WHERE WHAT IT READS IS OF BULK AT MOST 1048576: true; the input reads as it did. -/
def fnThresholdTwoUptoRow : OpenClaim := { program := "ytonolnojpejgnaa", sum := "258a1b0bb91149dd279032a39a5014f2d69ef4e0cd645a41f5efc738686b2334", func := "loop.example/pixelworks/laws.FnThresholdTwo", spec := "fnThresholdTwo", unfollowed := true, recurses := true, apart := false, narrowed := true }
def FnThresholdTwoUptoSaid : Prop := fnThresholdTwoUptoRow.holds Try.pinned (OpenSpec.upto fnThresholdTwoSpec)

/-- 'laws.FnExactEqualizeImage', WHERE WHAT IT READS IS OF BULK AT MOST 1048576: true; the input reads as it did. -/
def fnExactEqualizeImageUptoRow : OpenClaim := { program := "ytonolnojpejgnaa", sum := "258a1b0bb91149dd279032a39a5014f2d69ef4e0cd645a41f5efc738686b2334", func := "loop.example/pixelworks/laws.FnExactEqualizeImage", spec := "fnExactEqualizeImage", unfollowed := true, recurses := true, apart := false, narrowed := true }
def FnExactEqualizeImageUptoSaid : Prop := fnExactEqualizeImageUptoRow.holds Try.pinned (OpenSpec.upto fnExactEqualizeImageSpec)

/-- 'laws.FnEqualizeImage', WHERE WHAT IT READS IS OF BULK AT MOST 1048576: true; the input reads as it did. -/
def fnEqualizeImageUptoRow : OpenClaim := { program := "ytonolnojpejgnaa", sum := "258a1b0bb91149dd279032a39a5014f2d69ef4e0cd645a41f5efc738686b2334", func := "loop.example/pixelworks/laws.FnEqualizeImage", spec := "fnEqualizeImage", unfollowed := true, recurses := true, apart := false, narrowed := true }
def FnEqualizeImageUptoSaid : Prop := fnEqualizeImageUptoRow.holds Try.pinned (OpenSpec.upto fnEqualizeImageSpec)

end Rows
end Go.Proofs.Ytonolnojpejgnaa
