-- laid by hp.py (a program of this work over the kit's print), with contracts by hand for what the print does not take
import Derived.Test.YtifjkllkbciliaaPrint0
namespace Go.Proofs.Ytifjkllkbciliaa.Print
open Go.RowKit Go.Proofs.YtifjkllkbciliaaW.PrintWords Go.Proofs.YtifjkllkbciliaaW.PrintLast Go.Proofs.YtifjkllkbciliaaW.PrintMore
attribute [local go_sem] max2_int min2_int max_two min_two max_three min_three max_four min_four   -- for this text's walks alone
set_option linter.unusedVariables false
set_option linter.unusedSimpArgs false

--SNIP hand_Disc
/-- The pixels of a disc. -/
def discB (x y r i j : Int) : Bool := decide ((i - x) * (i - x) + (j - y) * (j - y) ≤ r * r)
theorem sq_nonneg_ (c : Int) : 0 ≤ c * c := by
  rcases Int.le_total 0 c with h | h
  · exact Int.mul_nonneg h h
  · have := Int.mul_nonneg (a := -c) (b := -c) (by omega) (by omega)
    rwa [Int.neg_mul_neg] at this
theorem sq_bound (a b : Int) (h1 : 0 ≤ a) (h2 : a ≤ 16) (h3 : 0 ≤ b) (h4 : b ≤ 16) : 0 ≤ (a - b) * (a - b) ∧ (a - b) * (a - b) ≤ 256 := by
  have h5 : -16 ≤ a - b := by omega
  have h6 : a - b ≤ 16 := by omega
  generalize a - b = c at *
  constructor
  · exact sq_nonneg_ c
  · have h7 : 0 ≤ (16 - c) * (16 + c) := Int.mul_nonneg (by omega) (by omega)
    have h8 : (16 - c) * (16 + c) = 256 - c * c := by
      rw [Int.sub_mul, Int.mul_add, Int.mul_add, Int.mul_comm c 16]
      omega
    omega
def discOk (x y r : Int) : Prop := 0 ≤ x ∧ x < 16 ∧ 0 ≤ y ∧ y < 16 ∧ 0 ≤ r ∧ r ≤ 16
instance (x y r : Int) : Decidable (discOk x y r) := by unfold discOk; exact inferInstance
def discF (x y r : Int) (p : Nat) : Bool := discB x y r (p % 16 : Nat) (p / 16 : Nat)

end Go.Proofs.Ytifjkllkbciliaa.Print
