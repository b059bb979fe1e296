-- laid by hp.py (a program of this work over the kit's print), with contracts by hand for what the print does not take
import Derived.Test.YtifjkllkbciliaaPrint0
namespace Go.Proofs.Ytifjkllkbciliaa.Print
open Go.RowKit Go.Proofs.YtifjkllkbciliaaW.PrintWords Go.Proofs.YtifjkllkbciliaaW.PrintLast Go.Proofs.YtifjkllkbciliaaW.PrintMore
attribute [local go_sem] max2_int min2_int max_two min_two max_three min_three max_four min_four   -- for this text's walks alone
set_option linter.unusedVariables false
set_option linter.unusedSimpArgs false

--SNIP hand_Runs
/-! ### The runs of a grid, as plain mathematics. -/
def endAt (f : Nat → Bool) (y : Nat) : Nat → Nat
  | 0 => 16
  | d + 1 => if f (16 * y + (15 - d)) = true then endAt f y d else 15 - d
/-- Where the run that stands at column x of row y ends. -/
def endOf (f : Nat → Bool) (y x : Nat) : Nat := endAt f y (16 - x)
theorem endOf_out (f : Nat → Bool) (y x : Nat) (h : 16 ≤ x) : endOf f y x = 16 := by
  unfold endOf
  rw [show 16 - x = 0 by omega]
  rfl
theorem endOf_true (f : Nat → Bool) (y x : Nat) (h : x < 16) (hf : f (16 * y + x) = true) : endOf f y x = endOf f y (x + 1) := by
  unfold endOf
  obtain ⟨d, hd⟩ : ∃ d, 16 - x = d + 1 := ⟨15 - x, by omega⟩
  rw [hd, show 16 - (x + 1) = d by omega]
  simp only [endAt]
  rw [show 15 - d = x by omega, if_pos hf]
theorem endOf_false (f : Nat → Bool) (y x : Nat) (h : x < 16) (hf : f (16 * y + x) = false) : endOf f y x = x := by
  unfold endOf
  obtain ⟨d, hd⟩ : ∃ d, 16 - x = d + 1 := ⟨15 - x, by omega⟩
  rw [hd]
  simp only [endAt]
  rw [show 15 - d = x by omega, if_neg (by rw [hf]; simp)]
theorem endOf_facts (f : Nat → Bool) (y : Nat) (d : Nat) : ∀ x, x ≤ 16 → 16 - x = d → x ≤ endOf f y x ∧ endOf f y x ≤ 16 ∧ (∀ i, x ≤ i → i < endOf f y x → f (16 * y + i) = true) ∧ (endOf f y x < 16 → f (16 * y + endOf f y x) = false) := by
  induction d with
  | zero =>
    intro x hx hd
    rw [endOf_out f y x (by omega)]
    exact ⟨by omega, by omega, fun i h1 h2 => by omega, fun h => by omega⟩
  | succ d ih =>
    intro x hx hd
    cases hf : f (16 * y + x) with
    | true =>
      rw [endOf_true f y x (by omega) hf]
      obtain ⟨h1, h2, h3, h4⟩ := ih (x + 1) (by omega) (by omega)
      refine ⟨by omega, h2, fun i hi hi2 => ?_, h4⟩
      rcases Nat.eq_or_lt_of_le hi with h | h
      · subst h
        exact hf
      · exact h3 i h hi2
    | false =>
      rw [endOf_false f y x (by omega) hf]
      exact ⟨by omega, by omega, fun i h1 h2 => by omega, fun _ => hf⟩
theorem endOf_gt (f : Nat → Bool) (y x : Nat) (h : x < 16) (hf : f (16 * y + x) = true) : x < endOf f y x := by
  rw [endOf_true f y x h hf]
  have := (endOf_facts f y (16 - (x + 1)) (x + 1) (by omega) rfl).1
  omega
/-- Does a run begin at this place? -/
def startB (f : Nat → Bool) (i : Nat) : Bool := f i && (decide (i % 16 = 0) || !f (i - 1))
def runAt (f : Nat → Bool) (i : Nat) : Option S45 := if startB f i = true then some ⟨(i / 16 : Nat), (i % 16 : Nat), (endOf f (i / 16) (i % 16) : Nat)⟩ else none
/-- The runs that begin ahead of place n. -/
def runsUpto (f : Nat → Bool) (n : Nat) : List S45 := (List.range n).filterMap (runAt f)
/-- The runs of a grid. -/
def runsL (f : Nat → Bool) : List S45 := runsUpto f 256
theorem runsUpto_zero (f : Nat → Bool) : runsUpto f 0 = [] := rfl
theorem runsUpto_skip (f : Nat → Bool) (n : Nat) (h : startB f n = false) : runsUpto f (n + 1) = runsUpto f n := by
  unfold runsUpto
  rw [List.range_succ, List.filterMap_append]
  simp [runAt, h]
theorem runsUpto_hit (f : Nat → Bool) (n : Nat) (h : startB f n = true) : runsUpto f (n + 1) = runsUpto f n ++ [⟨(n / 16 : Nat), (n % 16 : Nat), (endOf f (n / 16) (n % 16) : Nat)⟩] := by
  unfold runsUpto
  rw [List.range_succ, List.filterMap_append]
  simp [runAt, h]
theorem runsUpto_false (f : Nat → Bool) (n : Nat) (h : f n = false) : runsUpto f (n + 1) = runsUpto f n := runsUpto_skip f n (by simp [startB, h])
theorem runsUpto_run (f : Nat → Bool) (y x : Nat) (hx : x < 16) (hf : f (16 * y + x) = true) (hs : x = 0 ∨ f (16 * y + x - 1) = false) :
    runsUpto f (16 * y + endOf f y x) = runsUpto f (16 * y + x) ++ [⟨(y : Int), (x : Int), (endOf f y x : Nat)⟩] := by
  have hst : startB f (16 * y + x) = true := by
    unfold startB
    rw [hf]
    rcases hs with h | h
    · simp [show (16 * y + x) % 16 = 0 by omega]
    · simp [h]
  have h0 : runsUpto f (16 * y + x + 1) = runsUpto f (16 * y + x) ++ [⟨(y : Int), (x : Int), (endOf f y x : Nat)⟩] := by
    rw [runsUpto_hit f _ hst, show (16 * y + x) / 16 = y by omega, show (16 * y + x) % 16 = x by omega]
  obtain ⟨h1, h2, h3, _⟩ := endOf_facts f y (16 - x) x (by omega) rfl
  have hgt := endOf_gt f y x hx hf
  have hd : ∀ d, x + 1 + d ≤ endOf f y x → runsUpto f (16 * y + x + 1 + d) = runsUpto f (16 * y + x + 1) := by
    intro d
    induction d with
    | zero => intro _; rfl
    | succ d ih =>
      intro hle
      rw [← ih (by omega), show 16 * y + x + 1 + (d + 1) = 16 * y + x + 1 + d + 1 by omega]
      refine runsUpto_skip f _ ?_
      have hp : f (16 * y + (x + d)) = true := h3 (x + d) (by omega) (by omega)
      unfold startB
      rw [show 16 * y + x + 1 + d - 1 = 16 * y + (x + d) by omega, hp]
      simp
      intro _
      omega
  have := hd (endOf f y x - (x + 1)) (by omega)
  rw [show 16 * y + x + 1 + (endOf f y x - (x + 1)) = 16 * y + endOf f y x by omega] at this
  rw [this, h0]
theorem runsUpto_length (f : Nat → Bool) (n : Nat) : (runsUpto f n).length ≤ n := by
  unfold runsUpto
  have := List.length_filterMap_le (runAt f) (List.range n)
  simpa using this

end Go.Proofs.Ytifjkllkbciliaa.Print
