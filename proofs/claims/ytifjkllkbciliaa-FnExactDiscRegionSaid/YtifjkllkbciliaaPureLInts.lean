/- A part of this work's pure proofs. -/
import Derived.Test.YtifjkllkbciliaaPrint0
namespace Go.Proofs.Ytifjkllkbciliaa.Pure
open Go.RowKit Go.Proofs.Ytifjkllkbciliaa.Print Go.Proofs.YtifjkllkbciliaaW.PrintWords Go.Proofs.YtifjkllkbciliaaW.PrintLast Go.Proofs.YtifjkllkbciliaaW.PrintMore
set_option linter.unusedVariables false
set_option linter.unusedSimpArgs false
/-! ### Lists of numbers: reading, and loops over them -/
theorem rdN (l : List Int) (k : Nat) (h : k < l.length) : rd l (k : Int) = l[k] := by
  simp [rd, List.getD_eq_getElem?_getD, List.getElem?_eq_getElem h]
theorem drop_cons_ {α : Type} (l : List α) (k : Nat) (h : k < l.length) : l.drop k = l[k] :: l.drop (k + 1) := List.drop_eq_getElem_cons h
theorem take_snocN {α : Type} (l : List α) (k : Nat) (h : k < l.length) : l.take (k + 1) = l.take k ++ [l[k]] := by
  rw [List.take_succ_eq_append_getElem h]
theorem eq_of_getElem {α : Type} (a b : List α) (h : a.length = b.length) (hh : ∀ i (h1 : i < a.length) (h2 : i < b.length), a[i] = b[i]) : a = b := List.ext_getElem h hh
/-- Two lists of one length, from a place on. -/
theorem decide_drop_eq {α : Type} [DecidableEq α] (a b : List α) (i : Nat) (h1 : i < a.length) (h2 : i < b.length) : decide (a.drop i = b.drop i) = (decide (a[i] = b[i]) && decide (a.drop (i + 1) = b.drop (i + 1))) := by
  rw [drop_cons_ a i h1, drop_cons_ b i h2]
  rw [Bool.eq_iff_iff]
  simp only [decide_eq_true_eq, Bool.and_eq_true, List.cons.injEq]

end Go.Proofs.Ytifjkllkbciliaa.Pure
