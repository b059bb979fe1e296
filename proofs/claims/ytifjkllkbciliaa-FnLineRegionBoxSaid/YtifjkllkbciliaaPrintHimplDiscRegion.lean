-- laid by hp.py (a program of this work over the kit's print), with contracts by hand for what the print does not take
import Derived.Test.YtifjkllkbciliaaPrint0
import Derived.Test.YtifjkllkbciliaaPrintHhandRuns
import Derived.Test.YtifjkllkbciliaaPrintHimplgridBy
import Derived.Test.YtifjkllkbciliaaPrintHimplgridruns
namespace Go.Proofs.Ytifjkllkbciliaa.Print
open Go.RowKit Go.Proofs.YtifjkllkbciliaaW.PrintWords Go.Proofs.YtifjkllkbciliaaW.PrintLast Go.Proofs.YtifjkllkbciliaaW.PrintMore
attribute [local go_sem] max2_int min2_int max_two min_two max_three min_three max_four min_four   -- for this text's walks alone
set_option linter.unusedVariables false
set_option linter.unusedSimpArgs false

--SNIP impl_DiscRegion
/-! ### impl_DiscRegion: function 15, by hand -/
/-- The pixels of a disc. -/
def discB (x y r i j : Int) : Bool := decide ((i - x) * (i - x) + (j - y) * (j - y) ≤ r * r)
theorem sq_nonneg_ (c : Int) : 0 ≤ c * c := by
  rcases Int.le_total 0 c with h | h
  · exact Int.mul_nonneg h h
  · have := Int.mul_nonneg (a := -c) (b := -c) (by omega) (by omega)
    rwa [Int.neg_mul_neg] at this
theorem sq_bound (a b : Int) (h1 : 0 ≤ a) (h2 : a ≤ 16) (h3 : 0 ≤ b) (h4 : b ≤ 16) : 0 ≤ (a - b) * (a - b) ∧ (a - b) * (a - b) ≤ 256 := by
  have h5 : -16 ≤ a - b := by omega
  have h6 : a - b ≤ 16 := by omega
  generalize a - b = c at *
  constructor
  · exact sq_nonneg_ c
  · have h7 : 0 ≤ (16 - c) * (16 + c) := Int.mul_nonneg (by omega) (by omega)
    have h8 : (16 - c) * (16 + c) = 256 - c * c := by
      rw [Int.sub_mul, Int.mul_add, Int.mul_add, Int.mul_comm c 16]
      omega
    omega
set_option maxHeartbeats 8000000 in
set_option maxRecDepth 100000 in
theorem impl_DiscRegion_1.any (i j : Nat) (x y r : Int) (hi : i < 16) (hj : j < 16) (hx0 : 0 ≤ x) (hx1 : x < 16) (hy0 : 0 ≤ y) (hy1 : y < 16) (hr0 : 0 ≤ r) (hr1 : r ≤ 16) (b0 b1 b2 : Nat) (w : World)
    (h0 : w.cell? ⟨b0, 0, none⟩ = some (.int .i64 x)) (h1 : w.cell? ⟨b1, 0, none⟩ = some (.int .i64 y)) (h2 : w.cell? ⟨b2, 0, none⟩ = some (.int .i64 r)) :
    Calls Try.prog 45 #[.int .i64 i, .int .i64 j, .pointer (some ⟨b0, 0, none⟩), .pointer (some ⟨b1, 0, none⟩), .pointer (some ⟨b2, 0, none⟩)] w fun e w' => e = .returned (.bool (discB x y r i j)) ∧ Below w.heap.size w w' := by
  have q1 := (sq_bound (i : Int) x (by omega) (by omega) hx0 (by omega)).1
  have q2 := (sq_bound (i : Int) x (by omega) (by omega) hx0 (by omega)).2
  have q3 := (sq_bound (j : Int) y (by omega) (by omega) hy0 (by omega)).1
  have q4 := (sq_bound (j : Int) y (by omega) (by omega) hy0 (by omega)).2
  have q5 : 0 ≤ r * r := sq_nonneg_ r
  have q6 : r * r ≤ 256 := by have := (sq_bound r 0 hr0 hr1 (by omega) (by omega)).2; rw [Int.sub_zero] at this; exact this
  go_enter Try.func45, Try.ntmps45
  go_wp2
  go_ret
  exact ⟨rfl, Below.refl _ _⟩
def discOk (x y r : Int) : Prop := 0 ≤ x ∧ x < 16 ∧ 0 ≤ y ∧ y < 16 ∧ 0 ≤ r ∧ r ≤ 16
instance (x y r : Int) : Decidable (discOk x y r) := by unfold discOk; exact inferInstance
def discF (x y r : Int) (p : Nat) : Bool := discB x y r (p % 16 : Nat) (p / 16 : Nat)
def impl_DiscRegion.f (a0 a1 a2 : Int) : Option (List S45) := some (if discOk a0 a1 a2 then runsL (discF a0 a1 a2) else [])
set_option maxHeartbeats 8000000 in
set_option maxRecDepth 100000 in
theorem impl_DiscRegion.no (a0 a1 a2 : Int) (w : World) (h : ¬ discOk a0 a1 a2) :
    Calls Try.prog 15 #[.int .i64 a0, .int .i64 a1, .int .i64 a2] w fun e w' => e = .returned (.slice none 0 0) ∧ Below w.heap.size w w' := by
  have HB : Aside0 (Below w.heap.size w (((w.alloc (.cells #[.int .i64 a0] 3)).alloc (.cells #[.int .i64 a1] 3)).alloc (.cells #[.int .i64 a2] 3))) := ⟨below_alloc (below_alloc (below_alloc (Below.refl w.heap.size w) _) _) _⟩
  unfold discOk at h
  by_cases h1 : a0 < 0
  · have d1 : decide (a0 < 0) = true := decide_eq_true h1
    clear h
    go_enter Try.func15, Try.ntmps15
    go_wp2
    go_ret
    exact ⟨rfl, HB.out⟩
  have d1 : decide (a0 < 0) = false := decide_eq_false h1
  by_cases h2 : 16 ≤ a0
  · have d2 : decide (16 ≤ a0) = true := decide_eq_true h2
    clear h
    go_enter Try.func15, Try.ntmps15
    go_wp2
    go_ret
    exact ⟨rfl, HB.out⟩
  have d2 : decide (16 ≤ a0) = false := decide_eq_false h2
  by_cases h3 : a1 < 0
  · have d3 : decide (a1 < 0) = true := decide_eq_true h3
    clear h
    go_enter Try.func15, Try.ntmps15
    go_wp2
    go_ret
    exact ⟨rfl, HB.out⟩
  have d3 : decide (a1 < 0) = false := decide_eq_false h3
  by_cases h4 : 16 ≤ a1
  · have d4 : decide (16 ≤ a1) = true := decide_eq_true h4
    clear h
    go_enter Try.func15, Try.ntmps15
    go_wp2
    go_ret
    exact ⟨rfl, HB.out⟩
  have d4 : decide (16 ≤ a1) = false := decide_eq_false h4
  by_cases h5 : a2 < 0
  · have d5 : decide (a2 < 0) = true := decide_eq_true h5
    clear h
    go_enter Try.func15, Try.ntmps15
    go_wp2
    go_ret
    exact ⟨rfl, HB.out⟩
  have d5 : decide (a2 < 0) = false := decide_eq_false h5
  have h6 : 16 < a2 := by omega
  have d6 : decide (16 < a2) = true := decide_eq_true h6
  clear h
  go_enter Try.func15, Try.ntmps15
  go_wp2
  go_ret
  exact ⟨rfl, HB.out⟩
set_option maxHeartbeats 8000000 in
set_option maxRecDepth 100000 in
theorem impl_DiscRegion.yes (a0 a1 a2 : Int) (w : World) (h : discOk a0 a1 a2) :
    Calls Try.prog 15 #[.int .i64 a0, .int .i64 a1, .int .i64 a2] w fun e w' => ∃ v0_ : Value, e = .returned v0_ ∧ Kd.R k45 45 w' w.heap.size (fun _ => True) v0_ (runsL (discF a0 a1 a2)) ∧ Below w.heap.size w w' := by
  obtain ⟨W, hW⟩ : ∃ W : World, W = (((w.alloc (.cells #[.int .i64 a0] 3)).alloc (.cells #[.int .i64 a1] 3)).alloc (.cells #[.int .i64 a2] 3)) := ⟨_, rfl⟩
  have HB : Aside0 (Below w.heap.size w W) := ⟨by rw [hW]; exact below_alloc (below_alloc (below_alloc (Below.refl w.heap.size w) _) _) _⟩
  have hs : W.heap.size = w.heap.size + 3 := by rw [hW]; simp
  have hc0 : W.cell? ⟨w.heap.size, 0, none⟩ = some (.int .i64 a0) := by rw [hW]; go_simp
  have hc1 : W.cell? ⟨w.heap.size + 1, 0, none⟩ = some (.int .i64 a1) := by rw [hW]; go_simp
  have hc2 : W.cell? ⟨w.heap.size + 2, 0, none⟩ = some (.int .i64 a2) := by rw [hW]; go_simp
  obtain ⟨h1, h2, h3, h4, h5, h6⟩ := h
  have HC := Aside0.mk (impl_gridBy.any 45 _ #[.pointer (some ⟨w.heap.size, 0, none⟩), .pointer (some ⟨w.heap.size + 1, 0, none⟩), .pointer (some ⟨w.heap.size + 2, 0, none⟩)] (discB a0 a1 a2) Try.func45 (by kernel_rfl) rfl W
    (fun i j w' hi hj hb => impl_DiscRegion_1.any i j a0 a1 a2 hi hj h1 h2 h3 h4 h5 h6 _ _ _ w' (pw_cell_below hb hc0) (pw_cell_below hb hc1) (pw_cell_below hb hc2)))
  have d1 : decide (a0 < 0) = false := decide_eq_false (by omega)
  have d2 : decide (16 ≤ a0) = false := decide_eq_false (by omega)
  have d3 : decide (a1 < 0) = false := decide_eq_false (by omega)
  have d4 : decide (16 ≤ a1) = false := decide_eq_false (by omega)
  have d5 : decide (a2 < 0) = false := decide_eq_false (by omega)
  have d6 : decide (16 < a2) = false := decide_eq_false (by omega)
  clear hc0 hc1 hc2
  subst hW
  clear hs
  go_enter Try.func15, Try.ntmps15
  go_wp2_with (first | (go_at_call 44; refine HC.out.mono ?_; rintro e w1 ⟨rfl, hb1⟩; have HB1 := Aside0.mk (below_step HB.out hb1); clear hb1) | (go_at_call 46; refine (impl_grid_runs.any _ _).mono ?_; rintro e w2 ⟨v0, rfl, ho, hb2⟩; have HO := Aside0.mk (Kd.R_lower ho (below_size HB1.out)); have HB2 := Aside0.mk (below_step HB1.out hb2); clear hb2 ho))
  go_ret
  exact ⟨_, rfl, HO.out, HB2.out⟩
theorem impl_DiscRegion.calls (a0 a1 a2 : Int) (r : List S45) (w : World) (h : impl_DiscRegion.f a0 a1 a2 = some r) :
    Calls Try.prog 15 #[.int .i64 a0, .int .i64 a1, .int .i64 a2] w fun e w' => ∃ v0_ : Value, e = .returned v0_ ∧ Kd.R k45 45 w' w.heap.size (fun _ => True) v0_ r ∧ Below w.heap.size w w' := by
  obtain rfl := Option.some.inj h
  by_cases hk : discOk a0 a1 a2
  · rw [if_pos hk]
    exact impl_DiscRegion.yes a0 a1 a2 w hk
  · rw [if_neg hk]
    refine (impl_DiscRegion.no a0 a1 a2 w hk).mono ?_
    rintro e w1 ⟨rfl, hb⟩
    exact ⟨_, rfl, Kd.R_nil _ _ _ _ _, hb⟩

end Go.Proofs.Ytifjkllkbciliaa.Print
