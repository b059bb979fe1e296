-- laid by hp.py (a program of this work over the kit's print), with contracts by hand for what the print does not take
import Derived.Test.YtllodpaghkohbaaPrint0
import Derived.Test.YtllodpaghkohbaaPrintHhandGrid
namespace Go.Proofs.Ytllodpaghkohbaa.Print
open Go.RowKit Go.Proofs.YtllodpaghkohbaaW.PrintWords Go.Proofs.YtllodpaghkohbaaW.PrintLast Go.Proofs.YtllodpaghkohbaaW.PrintMore
attribute [local go_sem] max2_int min2_int max_two min_two max_three min_three max_four min_four   -- for this text's walks alone
set_option linter.unusedVariables false
set_option linter.unusedSimpArgs false

--SNIP impl_grid_has
/-- Is the pixel, which may be anywhere, in the grid? -/
def hasF (f : Nat → Bool) (x y : Int) : Bool := decide (0 ≤ x) && decide (x < 16) && decide (0 ≤ y) && decide (y < 16) && f (16 * y.toNat + x.toNat)
theorem hasF_in (f : Nat → Bool) (x y : Nat) (hx : x < 16) (hy : y < 16) : hasF f x y = f (16 * y + x) := by
  unfold hasF
  rw [decide_eq_true (show (0 : Int) ≤ x by omega), decide_eq_true (show (x : Int) < 16 by omega), decide_eq_true (show (0 : Int) ≤ y by omega), decide_eq_true (show (y : Int) < 16 by omega)]
  rfl
theorem hasF_out (f : Nat → Bool) (x y : Int) (h : x < 0 ∨ 16 ≤ x ∨ y < 0 ∨ 16 ≤ y) : hasF f x y = false := by
  unfold hasF
  rcases h with h | h | h | h
  · rw [decide_eq_false (show ¬ 0 ≤ x by omega)]; rfl
  · rw [decide_eq_false (show ¬ x < 16 by omega)]; simp
  · rw [decide_eq_false (show ¬ 0 ≤ y by omega)]; simp
  · rw [decide_eq_false (show ¬ y < 16 by omega)]; simp
set_option maxHeartbeats 8000000 in
set_option maxRecDepth 100000 in
theorem impl_grid_has.any (f : Nat → Bool) (x y : Int) (w : World) :
    Calls Try.prog 51 #[.agg (gcells f), .int .i64 x, .int .i64 y] w fun e w' => e = .returned (.bool (hasF f x y)) ∧ Below w.heap.size w w' := by
  have HB := Aside0.mk (below_alloc (Below.refl w.heap.size w) (.cells (gcells f) 55))
  have HG := IsGrid.new w f
  by_cases h1 : 0 ≤ x
  · have d1 : decide (0 ≤ x) = true := decide_eq_true h1
    by_cases h2 : x < 16
    · have d2 : decide (x < 16) = true := decide_eq_true h2
      by_cases h3 : 0 ≤ y
      · have d3 : decide (0 ≤ y) = true := decide_eq_true h3
        by_cases h4 : y < 16
        · have d4 : decide (y < 16) = true := decide_eq_true h4
          obtain ⟨n, rfl⟩ := Int.eq_ofNat_of_zero_le h1
          obtain ⟨m, rfl⟩ := Int.eq_ofNat_of_zero_le h3
          have hi1 := run_index_grid w.heap.size m (by omega)
          have hi2 := run_index_line w.heap.size (m * 16) n (by omega)
          have hc : (w.alloc (.cells (gcells f) 55)).cell? ⟨w.heap.size, m * 16 + n, none⟩ = some (.bool (f (16 * m + n))) := by rw [HG.cell _ (by omega), Nat.mul_comm]
          have HF := Aside0.mk (hasF_in f n m (by omega) (by omega))
          go_enter Try.func51, Try.ntmps51
          go_wp2_with (refine wpList_box_grid rfl _ rfl f rfl ?_)
          go_ret
          exact ⟨by rw [HF.out]; rfl, HB.out⟩
        · have d4 : decide (y < 16) = false := decide_eq_false h4
          have HF := Aside0.mk (hasF_out f x y (by omega))
          go_enter Try.func51, Try.ntmps51
          go_wp2_with (refine wpList_box_grid rfl _ rfl f rfl ?_)
          go_ret
          exact ⟨by rw [HF.out]; rfl, HB.out⟩
      · have d3 : decide (0 ≤ y) = false := decide_eq_false h3
        have HF := Aside0.mk (hasF_out f x y (by omega))
        go_enter Try.func51, Try.ntmps51
        go_wp2_with (refine wpList_box_grid rfl _ rfl f rfl ?_)
        go_ret
        exact ⟨by rw [HF.out]; rfl, HB.out⟩
    · have d2 : decide (x < 16) = false := decide_eq_false h2
      have HF := Aside0.mk (hasF_out f x y (by omega))
      go_enter Try.func51, Try.ntmps51
      go_wp2_with (refine wpList_box_grid rfl _ rfl f rfl ?_)
      go_ret
      exact ⟨by rw [HF.out]; rfl, HB.out⟩
  · have d1 : decide (0 ≤ x) = false := decide_eq_false h1
    have HF := Aside0.mk (hasF_out f x y (by omega))
    go_enter Try.func51, Try.ntmps51
    go_wp2_with (refine wpList_box_grid rfl _ rfl f rfl ?_)
    go_ret
    exact ⟨by rw [HF.out]; rfl, HB.out⟩

end Go.Proofs.Ytllodpaghkohbaa.Print
