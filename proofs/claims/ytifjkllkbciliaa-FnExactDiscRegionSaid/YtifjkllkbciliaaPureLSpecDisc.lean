/- A part of this work's pure proofs. -/
import Derived.Test.YtifjkllkbciliaaPrintHhandRuns
import Derived.Test.YtifjkllkbciliaaPrintHhandWords
import Derived.Test.YtifjkllkbciliaaPrintHimplDiscRegion
import Derived.Test.YtifjkllkbciliaaPrintR0x0
import Derived.Test.YtifjkllkbciliaaPrintR0x1
import Derived.Test.YtifjkllkbciliaaPureLGrid
import Derived.Test.YtifjkllkbciliaaPureLRunsOf
namespace Go.Proofs.Ytifjkllkbciliaa.Pure
open Go.RowKit Go.Proofs.Ytifjkllkbciliaa.Print Go.Proofs.YtifjkllkbciliaaW.PrintWords Go.Proofs.YtifjkllkbciliaaW.PrintLast Go.Proofs.YtifjkllkbciliaaW.PrintMore
set_option linter.unusedVariables false
set_option linter.unusedSimpArgs false
theorem inRange_val (a lo hi : Int) : spec_inRange.f a lo hi = some (decide (lo ≤ a ∧ a ≤ hi)) := by
  unfold spec_inRange.f
  split
  · rename_i h; simp [h]
  · rename_i h; simp [h]
theorem onGrid_val (a b : Int) : spec_onGrid.f a b = some (decide ((0 ≤ a ∧ a ≤ 15) ∧ (0 ≤ b ∧ b ≤ 15))) := by
  unfold spec_onGrid.f
  rw [inRange_val, inRange_val]
  simp only [Option.bind_some]
  by_cases h : 0 ≤ a ∧ a ≤ 15
  · simp [h]
  · simp [h]
theorem spec_DiscRegion.ev_l0 (x y r : Int) (hk : discOk x y r) (d : Nat) : ∀ p, p ≤ 256 → 256 - p = d →
    Ev (fun k => spec_DiscRegion.l0 k x y r (gl fun j => decide (j < p) && discF x y r j) (p : Int)) (runsL (discF x y r)) := by
  obtain ⟨h1, h2, h3, h4, h5, h6⟩ := hk
  induction d with
  | zero =>
    intro p hp hd
    obtain rfl : p = 256 := by omega
    refine Ev.step (fun k => by simp only [spec_DiscRegion.l0]; rfl) (evNeg (by rw [gl_length]; omega) ?_)
    rw [gl_congr (g := discF x y r) (fun i hi => by rw [decide_eq_true hi, Bool.true_and])]
    exact evBind (spec_runsOf.ev _) (evRet rfl)
  | succ d ih =>
    intro p hp hd
    have hw : wrap64 ((p : Int) + 1) = ((p + 1 : Nat) : Int) := wrapSucc p (by omega)
    have ht : Int.tmod (p : Int) 16 = ((p % 16 : Nat) : Int) := by rw [Int.tmod_eq_emod_of_nonneg (by omega)]; omega
    have hq : Int.tdiv (p : Int) 16 = ((p / 16 : Nat) : Int) := by rw [Int.tdiv_eq_ediv_of_nonneg (by omega)]; omega
    have q1 := sq_bound ((p % 16 : Nat) : Int) x (by omega) (by omega) h1 (by omega)
    have q2 := sq_bound ((p / 16 : Nat) : Int) y (by omega) (by omega) h3 (by omega)
    have q3 := sq_bound r 0 h5 h6 (by omega) (by omega)
    rw [Int.sub_zero] at q3
    have := ih (p + 1) (by omega) (by omega)
    refine Ev.step (f := fun k => spec_DiscRegion.l0 k x y r (gl fun j => decide (j < p + 1) && discF x y r j) ((p + 1 : Nat) : Int)) (fun k => ?_) this
    simp only [spec_DiscRegion.l0, hw, ht, hq]
    rw [if_pos (by rw [gl_length]; omega), if_pos (by omega), wrapIn (x := ((p / 16 : Nat) : Int)) (by omega) (by omega), wrapIn (x := ((p % 16 : Nat) : Int) - x) (by omega) (by omega), wrapIn (x := ((p / 16 : Nat) : Int) - y) (by omega) (by omega)]
    rw [wrapIn (x := (((p % 16 : Nat) : Int) - x) * (((p % 16 : Nat) : Int) - x)) (by omega) (by omega), wrapIn (x := (((p / 16 : Nat) : Int) - y) * (((p / 16 : Nat) : Int) - y)) (by omega) (by omega), wrapIn (x := r * r) (by omega) (by omega)]
    rw [wrapIn (x := (((p % 16 : Nat) : Int) - x) * (((p % 16 : Nat) : Int) - x) + (((p / 16 : Nat) : Int) - y) * (((p / 16 : Nat) : Int) - y)) (by omega) (by omega)]
    rw [Int.toNat_natCast, gl_set]
    congr 1
    refine gl_congr fun i hi => ?_
    by_cases e : i = p
    · subst e
      rw [if_pos rfl, decide_eq_true (show i < i + 1 by omega), Bool.true_and]
      rfl
    · rw [if_neg e]
      congr 1
      exact decide_eq_decide.mpr (by omega)
theorem spec_DiscRegion.ev (x y r : Int) : Ev (fun k => spec_DiscRegion.f k x y r) (if discOk x y r then runsL (discF x y r) else []) := by
  have hno : ¬ discOk x y r → Ev (fun k => spec_DiscRegion.j0 k x y r true) (if discOk x y r then runsL (discF x y r) else []) := fun h => by
    rw [if_neg h]
    exact Ev.step (fun k => by simp only [spec_DiscRegion.j0]; rfl) (evPos (by trivial) (evRet rfl))
  unfold spec_DiscRegion.f
  refine evFix (onGrid_val x y) (evIf (fun h => ?_) (fun h => ?_))
  · rw [decide_eq_true_eq] at h
    refine evFix (inRange_val r 0 16) ?_
    by_cases h2 : 0 ≤ r ∧ r ≤ 16
    · have hk : discOk x y r := ⟨h.1.1, by omega, h.2.1, by omega, h2.1, h2.2⟩
      rw [decide_eq_true h2, if_pos hk]
      refine Ev.step (fun k => by simp only [spec_DiscRegion.j0]; rfl) ?_
      refine evNeg (by simp) (evPos (by omega) ?_)
      rw [gl_false]
      have := spec_DiscRegion.ev_l0 x y r hk 256 0 (by omega) (by omega)
      rw [gl_congr (g := fun _ => false) (fun i hi => by rw [decide_eq_false (by omega)]; rfl)] at this
      exact this
    · rw [decide_eq_false h2]
      exact hno fun hk => h2 ⟨hk.2.2.2.2.1, hk.2.2.2.2.2⟩
  · rw [decide_eq_true_eq] at h
    exact hno fun hk => h ⟨⟨hk.1, by have := hk.2.1; omega⟩, hk.2.2.1, by have := hk.2.2.2.1; omega⟩
theorem runsL_length (f : Nat → Bool) : (runsL f).length ≤ 256 := runsUpto_length f 256

end Go.Proofs.Ytifjkllkbciliaa.Pure
