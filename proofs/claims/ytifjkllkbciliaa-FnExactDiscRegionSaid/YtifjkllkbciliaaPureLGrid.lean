/- A part of this work's pure proofs. -/
import Derived.Test.YtifjkllkbciliaaPrintHhandRuns
namespace Go.Proofs.Ytifjkllkbciliaa.Pure
open Go.RowKit Go.Proofs.Ytifjkllkbciliaa.Print Go.Proofs.YtifjkllkbciliaaW.PrintWords Go.Proofs.YtifjkllkbciliaaW.PrintLast Go.Proofs.YtifjkllkbciliaaW.PrintMore
set_option linter.unusedVariables false
set_option linter.unusedSimpArgs false
/-! ### Grids as lists of 256 -/
def gl (f : Nat → Bool) : List Bool := (List.range 256).map f
theorem gl_length (f : Nat → Bool) : (gl f).length = 256 := by simp [gl]
theorem gl_rd (f : Nat → Bool) (i : Nat) (h : i < 256) : rdOf false (gl f) (i : Int) = f i := by
  simp [rdOf, gl, List.getD_eq_getElem?_getD, List.getElem?_map, List.getElem?_range h]
theorem gl_get (f : Nat → Bool) (j : Nat) (h : j < (gl f).length) : (gl f)[j] = f j := by simp [gl]
theorem gl_set (f : Nat → Bool) (i : Nat) (b : Bool) : (gl f).set i b = gl (fun j => if j = i then b else f j) := by
  apply List.ext_getElem
  · simp [gl]
  · intro j h1 h2
    simp only [List.getElem_set, gl, List.getElem_map, List.getElem_range]
    by_cases h : i = j
    · subst h; simp
    · rw [if_neg h, if_neg (fun e => h e.symm)]
theorem gl_congr {f g : Nat → Bool} (h : ∀ i, i < 256 → f i = g i) : gl f = gl g := by
  unfold gl
  exact List.map_congr_left fun i hi => h i (by simpa using hi)
theorem gl_false : List.replicate 256 false = gl (fun _ => false) := by
  apply List.ext_getElem
  · rw [List.length_replicate, gl_length]
  · intro j h1 h2
    rw [List.getElem_replicate, gl_get]
theorem runAt_congr {f g : Nat → Bool} (h : ∀ i, i < 256 → f i = g i) (i : Nat) (hi : i < 256) : runAt f i = runAt g i := by
  have he : ∀ y, y < 16 → ∀ d, d ≤ 16 → endAt f y d = endAt g y d := by
    intro y hy d
    induction d with
    | zero => intro _; rfl
    | succ d ih =>
      intro hd
      simp only [endAt]
      rw [h (16 * y + (15 - d)) (by omega), ih (by omega)]
  have hs : startB f i = startB g i := by
    unfold startB
    rw [h i hi, h (i - 1) (by omega)]
  unfold runAt endOf
  rw [hs, he (i / 16) (by omega) _ (by omega)]
theorem runsL_congr {f g : Nat → Bool} (h : ∀ i, i < 256 → f i = g i) : runsL f = runsL g := by
  unfold runsL runsUpto
  have : ∀ l : List Nat, (∀ i ∈ l, i < 256) → l.filterMap (runAt f) = l.filterMap (runAt g) := by
    intro l
    induction l with
    | nil => intro _; rfl
    | cons a t ih =>
      intro hl
      rw [List.filterMap_cons, List.filterMap_cons, runAt_congr h a (hl a (by simp)), ih (fun i hi => hl i (by simp [hi]))]
  exact this _ (fun i hi => by simpa using hi)

end Go.Proofs.Ytifjkllkbciliaa.Pure
