/-
  No cell of these rows narrows 'for every input' (looked for: loops, veiled, ifaces, maps, wideKeys, modest, calm, conditions, laid).
  DERIVED. THE GIVEN ROWS OF THIS SEAT. 5 by the template 'for every input the law returns true; each argument reads behind the call as it read before'; 0 by the template 'total and deterministic' (their statements: YtpmogeekhkcfjaaTotals.lean).
  GIVEN WITH THE SEED: the statements are not yours to turn. If you find one false, say at which input.
  Laid BY PROGRAM, IN A SANDBOX (cutbox-rows.mjs): the forced cells as the released guide's own fill.sh prints them over the translation 893cb3869bd5e9a6… (all of the seat's roots in one cut). By AI agents, Wed Nov 11 2026. No macro, syntax, notation, axiom, sorry.
-/
import Derived.Test.YtpmogeekhkcfjaaChecked
import GoSem.Claim
import GoSem.ClaimJoined
import GoSem.ClaimMapViews
import Derived.JoinedTies
import Derived.KernelRfl
namespace Go.Proofs.Ytpmogeekhkcfjaa
/- THE CELL 'sum', in the pinned program and in every row, IS THE sha256 OF THE DUMP (.gsa) THAT YtpmogeekhkcfjaaProg.lean LOADS. Nothing in Lean hashes anything: it is a label: what it is worth is what the hold of that sum in a sandbox is worth. -/
noncomputable def Try.pinned : Pinned := { name := "ytpmogeekhkcfjaa", sum := "893cb3869bd5e9a6710b91c47fae6e8355d87b61b8e7d2b245b330a3ee0ad81b", checked := Try.checked }
namespace Rows
def none {H : Type} : Left H := { results := [], args := [] }

/-- 'laws.FnExactForwardPairs': WHATEVER THE INPUT: true; the input reads as it did. -/
def fnExactForwardPairsSpec : ChangeSpec := { name := "fnExactForwardPairs", fn := fun _ => fun
  | [d] => { results := [.lit (.bool true)], args := [d] }
  | _ => none }
def fnExactForwardPairsRow : OpenClaim := { program := "ytpmogeekhkcfjaa", sum := "893cb3869bd5e9a6710b91c47fae6e8355d87b61b8e7d2b245b330a3ee0ad81b", func := "loop.example/pixelworks/laws.FnExactForwardPairs", spec := "fnExactForwardPairs", unfollowed := true, recurses := true, apart := false }
def FnExactForwardPairsSaid : Prop := fnExactForwardPairsRow.holds Try.pinned (OpenSpec.ofChange fnExactForwardPairsSpec)

/-- ITS FALSE NEIGHBOUR: 'it returns false'. Refute it at one input. -/
def fnExactForwardPairsWrong : ChangeSpec := { name := "fnExactForwardPairs", fn := fun _ => fun
  | [d] => { results := [.lit (.bool false)], args := [d] }
  | _ => none }
def FnExactForwardPairsWrongFalsely : Prop := fnExactForwardPairsRow.holds Try.pinned (OpenSpec.ofChange fnExactForwardPairsWrong)

/-- 'laws.FnForwardPairsFlat': WHATEVER THE INPUT: true; the input reads as it did. -/
def fnForwardPairsFlatSpec : ChangeSpec := { name := "fnForwardPairsFlat", fn := fun _ => fun
  | [d] => { results := [.lit (.bool true)], args := [d] }
  | _ => none }
def fnForwardPairsFlatRow : OpenClaim := { program := "ytpmogeekhkcfjaa", sum := "893cb3869bd5e9a6710b91c47fae6e8355d87b61b8e7d2b245b330a3ee0ad81b", func := "loop.example/pixelworks/laws.FnForwardPairsFlat", spec := "fnForwardPairsFlat", unfollowed := true, recurses := true, apart := false }
def FnForwardPairsFlatSaid : Prop := fnForwardPairsFlatRow.holds Try.pinned (OpenSpec.ofChange fnForwardPairsFlatSpec)

/-- ITS FALSE NEIGHBOUR: 'it returns false'. Refute it at one input. -/
def fnForwardPairsFlatWrong : ChangeSpec := { name := "fnForwardPairsFlat", fn := fun _ => fun
  | [d] => { results := [.lit (.bool false)], args := [d] }
  | _ => none }
def FnForwardPairsFlatWrongFalsely : Prop := fnForwardPairsFlatRow.holds Try.pinned (OpenSpec.ofChange fnForwardPairsFlatWrong)

/-- 'laws.FnExactBackPairs': WHATEVER THE INPUT: true; the input reads as it did. -/
def fnExactBackPairsSpec : ChangeSpec := { name := "fnExactBackPairs", fn := fun _ => fun
  | [d] => { results := [.lit (.bool true)], args := [d] }
  | _ => none }
def fnExactBackPairsRow : OpenClaim := { program := "ytpmogeekhkcfjaa", sum := "893cb3869bd5e9a6710b91c47fae6e8355d87b61b8e7d2b245b330a3ee0ad81b", func := "loop.example/pixelworks/laws.FnExactBackPairs", spec := "fnExactBackPairs", unfollowed := true, recurses := true, apart := false }
def FnExactBackPairsSaid : Prop := fnExactBackPairsRow.holds Try.pinned (OpenSpec.ofChange fnExactBackPairsSpec)

/-- ITS FALSE NEIGHBOUR: 'it returns false'. Refute it at one input. -/
def fnExactBackPairsWrong : ChangeSpec := { name := "fnExactBackPairs", fn := fun _ => fun
  | [d] => { results := [.lit (.bool false)], args := [d] }
  | _ => none }
def FnExactBackPairsWrongFalsely : Prop := fnExactBackPairsRow.holds Try.pinned (OpenSpec.ofChange fnExactBackPairsWrong)

/-- 'laws.FnForwardPairs': WHATEVER THE INPUT: true; the input reads as it did. -/
def fnForwardPairsSpec : ChangeSpec := { name := "fnForwardPairs", fn := fun _ => fun
  | [d] => { results := [.lit (.bool true)], args := [d] }
  | _ => none }
def fnForwardPairsRow : OpenClaim := { program := "ytpmogeekhkcfjaa", sum := "893cb3869bd5e9a6710b91c47fae6e8355d87b61b8e7d2b245b330a3ee0ad81b", func := "loop.example/pixelworks/laws.FnForwardPairs", spec := "fnForwardPairs", unfollowed := true, recurses := true, apart := false }
def FnForwardPairsSaid : Prop := fnForwardPairsRow.holds Try.pinned (OpenSpec.ofChange fnForwardPairsSpec)

/-- ITS FALSE NEIGHBOUR: 'it returns false'. Refute it at one input. -/
def fnForwardPairsWrong : ChangeSpec := { name := "fnForwardPairs", fn := fun _ => fun
  | [d] => { results := [.lit (.bool false)], args := [d] }
  | _ => none }
def FnForwardPairsWrongFalsely : Prop := fnForwardPairsRow.holds Try.pinned (OpenSpec.ofChange fnForwardPairsWrong)

/-- 'laws.FnBackPairs': WHATEVER THE INPUT: true; the input reads as it did. -/
def fnBackPairsSpec : ChangeSpec := { name := "fnBackPairs", fn := fun _ => fun
  | [d] => { results := [.lit (.bool true)], args := [d] }
  | _ => none }
def fnBackPairsRow : OpenClaim := { program := "ytpmogeekhkcfjaa", sum := "893cb3869bd5e9a6710b91c47fae6e8355d87b61b8e7d2b245b330a3ee0ad81b", func := "loop.example/pixelworks/laws.FnBackPairs", spec := "fnBackPairs", unfollowed := true, recurses := true, apart := false }
def FnBackPairsSaid : Prop := fnBackPairsRow.holds Try.pinned (OpenSpec.ofChange fnBackPairsSpec)

/-- ITS FALSE NEIGHBOUR: 'it returns false'. Refute it at one input. -/
def fnBackPairsWrong : ChangeSpec := { name := "fnBackPairs", fn := fun _ => fun
  | [d] => { results := [.lit (.bool false)], args := [d] }
  | _ => none }
def FnBackPairsWrongFalsely : Prop := fnBackPairsRow.holds Try.pinned (OpenSpec.ofChange fnBackPairsWrong)

/- THE SECOND FORM. 'bulk': how many values and letters a reading holds, each counted each time it is reached (what is shared counts as often as it is met; a slice's spare places count too). A statement '..UptoSaid' is the law's where the arguments, and the package variables that the reading takes, are together of bulk at most 1048576: NARROWER than '..Said'. Prove '..Said' where nothing that the law and all that it calls make is longer than what came in: it says more and counts as full. Else prove '..UptoSaid'. A law counts once. -/
mutual
def uptoBulk {H : Type} : DataW H → Nat
  | .lit (.string bytes) => bytes.length + 1
  | .lit _ => 1
  | .nil => 1
  | .ptr d => uptoBulk d + 1
  | .slice elems spare => uptoBulkAll elems + uptoBulkAll spare + 1
  | .agg parts => uptoBulkAll parts + 1
  | .iface _ d => uptoBulk d + 1
  | .map entries => uptoBulkEntries entries + 1
  | .held _ => 1
def uptoBulkAll {H : Type} : List (DataW H) → Nat
  | [] => 0
  | d :: r => uptoBulk d + uptoBulkAll r
def uptoBulkEntries {H : Type} : List (Lit × DataW H) → Nat
  | [] => 0
  | x :: r => uptoBulkEntry x + uptoBulkEntries r
def uptoBulkEntry {H : Type} : Lit × DataW H → Nat
  | (.string bytes, d) => bytes.length + uptoBulk d + 1
  | (_, d) => uptoBulk d + 1
 end
def uptoSmall : (H : Type) → List (DataW H) → Bool := fun _ ds => decide (uptoBulkAll ds ≤ 1048576)
def OpenSpec.upto (s : _root_.Go.ChangeSpec) : _root_.Go.OpenSpec := { _root_.Go.OpenSpec.ofChange s with cond := some uptoSmall }

/-- 'laws.FnExactForwardPairs', WHERE WHAT IT READS IS OF BULK AT MOST 1048576: true; the input reads as it did. -/
def fnExactForwardPairsUptoRow : OpenClaim := { program := "ytpmogeekhkcfjaa", sum := "893cb3869bd5e9a6710b91c47fae6e8355d87b61b8e7d2b245b330a3ee0ad81b", func := "loop.example/pixelworks/laws.FnExactForwardPairs", spec := "fnExactForwardPairs", unfollowed := true, recurses := true, apart := false, narrowed := true }
def FnExactForwardPairsUptoSaid : Prop := fnExactForwardPairsUptoRow.holds Try.pinned (OpenSpec.upto fnExactForwardPairsSpec)

/-- 'laws.FnForwardPairsFlat', WHERE WHAT IT READS IS OF BULK AT MOST 1048576: true; the input reads as it did. -/
def fnForwardPairsFlatUptoRow : OpenClaim := { program := "ytpmogeekhkcfjaa", sum := "893cb3869bd5e9a6710b91c47fae6e8355d87b61b8e7d2b245b330a3ee0ad81b", func := "loop.example/pixelworks/laws.FnForwardPairsFlat", spec := "fnForwardPairsFlat", unfollowed := true, recurses := true, apart := false, narrowed := true }
def FnForwardPairsFlatUptoSaid : Prop := fnForwardPairsFlatUptoRow.holds Try.pinned (OpenSpec.upto fnForwardPairsFlatSpec)

/-- 'laws.FnExactBackPairs', WHERE WHAT IT READS IS OF BULK AT MOST 1048576: true; the input reads as it did. -/
def fnExactBackPairsUptoRow : OpenClaim := { program := "ytpmogeekhkcfjaa", sum := "893cb3869bd5e9a6710b91c47fae6e8355d87b61b8e7d2b245b330a3ee0ad81b", func := "loop.example/pixelworks/laws.FnExactBackPairs", spec := "fnExactBackPairs", unfollowed := true, recurses := true, apart := false, narrowed := true }
def FnExactBackPairsUptoSaid : Prop := fnExactBackPairsUptoRow.holds Try.pinned (OpenSpec.upto fnExactBackPairsSpec)

/-- 'laws.FnForwardPairs', WHERE WHAT IT READS IS OF BULK AT MOST 1048576: true; the input reads as it did. -/
def fnForwardPairsUptoRow : OpenClaim := { program := "ytpmogeekhkcfjaa", sum := "893cb3869bd5e9a6710b91c47fae6e8355d87b61b8e7d2b245b330a3ee0ad81b", func := "loop.example/pixelworks/laws.FnForwardPairs", spec := "fnForwardPairs", unfollowed := true, recurses := true, apart := false, narrowed := true }
def FnForwardPairsUptoSaid : Prop := fnForwardPairsUptoRow.holds Try.pinned (OpenSpec.upto fnForwardPairsSpec)

/-- 'laws.FnBackPairs', WHERE WHAT IT READS IS OF BULK AT MOST 1048576: true; the input reads as it did. -/
def fnBackPairsUptoRow : OpenClaim := { program := "ytpmogeekhkcfjaa", sum := "893cb3869bd5e9a6710b91c47fae6e8355d87b61b8e7d2b245b330a3ee0ad81b", func := "loop.example/pixelworks/laws.FnBackPairs", spec := "fnBackPairs", unfollowed := true, recurses := true, apart := false, narrowed := true }
def FnBackPairsUptoSaid : Prop := fnBackPairsUptoRow.holds Try.pinned (OpenSpec.upto fnBackPairsSpec)

end Rows
end Go.Proofs.Ytpmogeekhkcfjaa
