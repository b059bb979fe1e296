-- laid by hp.py (a program of this work over the kit's print), with contracts by hand for what the print does not take
import Derived.Test.YtifjkllkbciliaaPrint0
import Derived.Test.YtifjkllkbciliaaPrintHhandRuns
import Derived.Test.YtifjkllkbciliaaPrintHimplgridBy
import Derived.Test.YtifjkllkbciliaaPrintHimplgridruns
namespace Go.Proofs.Ytifjkllkbciliaa.Print
open Go.RowKit Go.Proofs.YtifjkllkbciliaaW.PrintWords Go.Proofs.YtifjkllkbciliaaW.PrintLast Go.Proofs.YtifjkllkbciliaaW.PrintMore
attribute [local go_sem] max2_int min2_int max_two min_two max_three min_three max_four min_four   -- for this text's walks alone
set_option linter.unusedVariables false
set_option linter.unusedSimpArgs false

--SNIP impl_BoxRegion
/-! ### impl_BoxRegion: function 40, by hand -/
def boxB (X Y W H x y : Int) : Bool := decide (X ≤ x) && decide (x < X + W) && decide (Y ≤ y) && decide (y < Y + H)
set_option maxHeartbeats 8000000 in
set_option maxRecDepth 100000 in
theorem impl_Box_has.any (X Y W H x y : Int) (hX0 : 0 ≤ X) (hX1 : X ≤ 16) (hY0 : 0 ≤ Y) (hY1 : Y ≤ 16) (hW0 : 0 ≤ W) (hW1 : W ≤ 16) (hH0 : 0 ≤ H) (hH1 : H ≤ 16) (w : World) :
    Calls Try.prog 66 #[.agg #[.int .i64 X, .int .i64 Y, .int .i64 W, .int .i64 H], .int .i64 x, .int .i64 y] w fun e w' => e = .returned (.bool (boxB X Y W H x y)) ∧ Below w.heap.size w w' := by
  have HB : Aside0 (Below w.heap.size w (w.alloc (.cells #[.int .i64 X, .int .i64 Y, .int .i64 W, .int .i64 H] 40))) := ⟨below_alloc (Below.refl w.heap.size w) _⟩
  by_cases h0_ : X ≤ x
  · have d0_ : decide (X ≤ x) = true := decide_eq_true h0_
    by_cases h1_ : x < X + W
    · have d1_ : decide (x < X + W) = true := decide_eq_true h1_
      by_cases h2_ : Y ≤ y
      · have d2_ : decide (Y ≤ y) = true := decide_eq_true h2_
        by_cases h3_ : y < Y + H
        · have d3_ : decide (y < Y + H) = true := decide_eq_true h3_
          go_enter Try.func66, Try.ntmps66
          go_wp2
          go_ret
          exact ⟨by simp [boxB, *], HB.out⟩
        · have d3_ : decide (y < Y + H) = false := decide_eq_false h3_
          go_enter Try.func66, Try.ntmps66
          go_wp2
          go_ret
          exact ⟨by simp [boxB, *], HB.out⟩
      · have d2_ : decide (Y ≤ y) = false := decide_eq_false h2_
        go_enter Try.func66, Try.ntmps66
        go_wp2
        go_ret
        exact ⟨by simp [boxB, *], HB.out⟩
    · have d1_ : decide (x < X + W) = false := decide_eq_false h1_
      go_enter Try.func66, Try.ntmps66
      go_wp2
      go_ret
      exact ⟨by simp [boxB, *], HB.out⟩
  · have d0_ : decide (X ≤ x) = false := decide_eq_false h0_
    go_enter Try.func66, Try.ntmps66
    go_wp2
    go_ret
    exact ⟨by simp [boxB, *], HB.out⟩
set_option maxHeartbeats 8000000 in
set_option maxRecDepth 100000 in
theorem impl_BoxRegion_1.any (X Y W H : Int) (x y : Nat) (hX0 : 0 ≤ X) (hX1 : X ≤ 16) (hY0 : 0 ≤ Y) (hY1 : Y ≤ 16) (hW0 : 0 ≤ W) (hW1 : W ≤ 16) (hH0 : 0 ≤ H) (hH1 : H ≤ 16) (b : Nat) (w : World)
    (h0 : w.cell? ⟨b, 0, none⟩ = some (.int .i64 X)) (h1 : w.cell? ⟨b, 1, none⟩ = some (.int .i64 Y)) (h2 : w.cell? ⟨b, 2, none⟩ = some (.int .i64 W)) (h3 : w.cell? ⟨b, 3, none⟩ = some (.int .i64 H)) :
    Calls Try.prog 65 #[.int .i64 x, .int .i64 y, .pointer (some ⟨b, 0, none⟩)] w fun e w' => e = .returned (.bool (boxB X Y W H x y)) ∧ Below w.heap.size w w' := by
  have hu40 := Try.underlying40
  have HC := Aside0.mk (fun W_ : World => impl_Box_has.any X Y W H (x : Int) (y : Int) hX0 hX1 hY0 hY1 hW0 hW1 hH0 hH1 W_)
  go_enter Try.func65, Try.ntmps65
  go_wp2_with (go_at_call 66; refine (HC.out _).mono ?_; rintro e w1 ⟨rfl, hb1⟩; have HB1 := Aside0.mk hb1; clear hb1)
  go_ret
  exact ⟨rfl, HB1.out⟩
def boxOk (X Y W H : Int) : Prop := 0 ≤ X ∧ X < 16 ∧ 0 ≤ Y ∧ Y < 16 ∧ 1 ≤ W ∧ W ≤ 16 - X ∧ 1 ≤ H ∧ H ≤ 16 - Y
instance (X Y W H : Int) : Decidable (boxOk X Y W H) := by unfold boxOk; exact inferInstance
def boxF (X Y W H : Int) (i : Nat) : Bool := boxB X Y W H (i % 16 : Nat) (i / 16 : Nat)
def impl_BoxRegion.f (a0 a1 a2 a3 : Int) : Option (List S45 × Bool) := some (if boxOk a0 a1 a2 a3 then (runsL (boxF a0 a1 a2 a3), true) else ([], false))
set_option maxHeartbeats 8000000 in
set_option maxRecDepth 100000 in
theorem impl_BoxRegion.no (X Y W H : Int) (w : World) (h : ¬ boxOk X Y W H) :
    Calls Try.prog 40 #[.agg #[.int .i64 X, .int .i64 Y, .int .i64 W, .int .i64 H]] w fun e w' => e = .returned (.tuple #[.slice none 0 0, .bool false]) ∧ Below w.heap.size w w' := by
  have hu40 := Try.underlying40
  have HB : Aside0 (Below w.heap.size w (w.alloc (.cells #[.int .i64 X, .int .i64 Y, .int .i64 W, .int .i64 H] 40))) := ⟨below_alloc (Below.refl w.heap.size w) _⟩
  unfold boxOk at h
  by_cases h0_ : X < 0
  · have d0_ : decide (X < 0) = true := decide_eq_true h0_
    clear h
    go_enter Try.func40, Try.ntmps40
    go_wp2
    go_ret2
    exact ⟨rfl, HB.out⟩
  have d0_ : decide (X < 0) = false := decide_eq_false h0_
  by_cases h1_ : 16 ≤ X
  · have d1_ : decide (16 ≤ X) = true := decide_eq_true h1_
    clear h
    go_enter Try.func40, Try.ntmps40
    go_wp2
    go_ret2
    exact ⟨rfl, HB.out⟩
  have d1_ : decide (16 ≤ X) = false := decide_eq_false h1_
  by_cases h2_ : Y < 0
  · have d2_ : decide (Y < 0) = true := decide_eq_true h2_
    clear h
    go_enter Try.func40, Try.ntmps40
    go_wp2
    go_ret2
    exact ⟨rfl, HB.out⟩
  have d2_ : decide (Y < 0) = false := decide_eq_false h2_
  by_cases h3_ : 16 ≤ Y
  · have d3_ : decide (16 ≤ Y) = true := decide_eq_true h3_
    clear h
    go_enter Try.func40, Try.ntmps40
    go_wp2
    go_ret2
    exact ⟨rfl, HB.out⟩
  have d3_ : decide (16 ≤ Y) = false := decide_eq_false h3_
  by_cases h4_ : W < 1
  · have d4_ : decide (W < 1) = true := decide_eq_true h4_
    clear h
    go_enter Try.func40, Try.ntmps40
    go_wp2
    go_ret2
    exact ⟨rfl, HB.out⟩
  have d4_ : decide (W < 1) = false := decide_eq_false h4_
  by_cases h5_ : 16 - X < W
  · have d5_ : decide (16 - X < W) = true := decide_eq_true h5_
    clear h
    go_enter Try.func40, Try.ntmps40
    go_wp2
    go_ret2
    exact ⟨rfl, HB.out⟩
  have d5_ : decide (16 - X < W) = false := decide_eq_false h5_
  by_cases h6_ : H < 1
  · have d6_ : decide (H < 1) = true := decide_eq_true h6_
    clear h
    go_enter Try.func40, Try.ntmps40
    go_wp2
    go_ret2
    exact ⟨rfl, HB.out⟩
  have d6_ : decide (H < 1) = false := decide_eq_false h6_
  by_cases h7_ : 16 - Y < H
  · have d7_ : decide (16 - Y < H) = true := decide_eq_true h7_
    clear h
    go_enter Try.func40, Try.ntmps40
    go_wp2
    go_ret2
    exact ⟨rfl, HB.out⟩
  have d7_ : decide (16 - Y < H) = false := decide_eq_false h7_
  exact absurd (by omega) h
set_option maxHeartbeats 8000000 in
set_option maxRecDepth 100000 in
theorem impl_BoxRegion.yes (X Y W H : Int) (w : World) (h : boxOk X Y W H) :
    Calls Try.prog 40 #[.agg #[.int .i64 X, .int .i64 Y, .int .i64 W, .int .i64 H]] w fun e w' => ∃ v0_ : Value, e = .returned (.tuple #[v0_, .bool true]) ∧ Kd.R k45 45 w' w.heap.size (fun _ => True) v0_ (runsL (boxF X Y W H)) ∧ Below w.heap.size w w' := by
  have hu40 := Try.underlying40
  obtain ⟨W0, hW⟩ : ∃ W0 : World, W0 = w.alloc (.cells #[.int .i64 X, .int .i64 Y, .int .i64 W, .int .i64 H] 40) := ⟨_, rfl⟩
  have HB : Aside0 (Below w.heap.size w W0) := ⟨by rw [hW]; exact below_alloc (Below.refl w.heap.size w) _⟩
  have hc0 : W0.cell? ⟨w.heap.size, 0, none⟩ = some (.int .i64 X) := by rw [hW]; go_simp
  have hc1 : W0.cell? ⟨w.heap.size, 1, none⟩ = some (.int .i64 Y) := by rw [hW]; go_simp
  have hc2 : W0.cell? ⟨w.heap.size, 2, none⟩ = some (.int .i64 W) := by rw [hW]; go_simp
  have hc3 : W0.cell? ⟨w.heap.size, 3, none⟩ = some (.int .i64 H) := by rw [hW]; go_simp
  obtain ⟨h1, h2, h3, h4, h5, h6, h7, h8⟩ := h
  have HC := Aside0.mk (impl_gridBy.any 65 _ #[.pointer (some ⟨w.heap.size, 0, none⟩)] (boxB X Y W H) Try.func65 (by kernel_rfl) rfl W0
    (fun i j w' hi hj hb => impl_BoxRegion_1.any X Y W H i j h1 (by omega) h3 (by omega) (by omega) (by omega) (by omega) (by omega) _ w' (pw_cell_below hb hc0) (pw_cell_below hb hc1) (pw_cell_below hb hc2) (pw_cell_below hb hc3)))
  clear hc0 hc1 hc2 hc3
  subst hW
  have d0_ : decide (X < 0) = false := decide_eq_false (by omega)
  have d1_ : decide (16 ≤ X) = false := decide_eq_false (by omega)
  have d2_ : decide (Y < 0) = false := decide_eq_false (by omega)
  have d3_ : decide (16 ≤ Y) = false := decide_eq_false (by omega)
  have d4_ : decide (W < 1) = false := decide_eq_false (by omega)
  have d5_ : decide (16 - X < W) = false := decide_eq_false (by omega)
  have d6_ : decide (H < 1) = false := decide_eq_false (by omega)
  have d7_ : decide (16 - Y < H) = false := decide_eq_false (by omega)
  go_enter Try.func40, Try.ntmps40
  go_wp2_with (first | (go_at_call 44; refine HC.out.mono ?_; rintro e w1 ⟨rfl, hb1⟩; have HB1 := Aside0.mk (below_step HB.out hb1); clear hb1) | (go_at_call 46; refine (impl_grid_runs.any _ _).mono ?_; rintro e w2 ⟨v0, rfl, ho, hb2⟩; have HO := Aside0.mk (Kd.R_lower ho (below_size HB1.out)); have HB2 := Aside0.mk (below_step HB1.out hb2); clear hb2 ho))
  go_ret2
  exact ⟨_, rfl, HO.out, HB2.out⟩
theorem impl_BoxRegion.calls (a0_0 a0_1 a0_2 a0_3 : Int) (r1 : List S45) (r2 : Bool) (w : World) (h : impl_BoxRegion.f a0_0 a0_1 a0_2 a0_3 = some (r1, r2)) :
    Calls Try.prog 40 #[.agg #[.int .i64 a0_0, .int .i64 a0_1, .int .i64 a0_2, .int .i64 a0_3]] w fun e w' => ∃ v0_ : Value, e = .returned (.tuple #[v0_, .bool r2]) ∧ Kd.R k45 45 w' w.heap.size (fun _ => True) v0_ r1 ∧ Below w.heap.size w w' := by
  unfold impl_BoxRegion.f at h
  by_cases hk : boxOk a0_0 a0_1 a0_2 a0_3
  · rw [if_pos hk] at h
    obtain ⟨rfl, rfl⟩ := Prod.mk.inj (Option.some.inj h)
    exact impl_BoxRegion.yes _ _ _ _ w hk
  · rw [if_neg hk] at h
    obtain ⟨rfl, rfl⟩ := Prod.mk.inj (Option.some.inj h)
    refine (impl_BoxRegion.no _ _ _ _ w hk).mono ?_
    rintro e w1 ⟨rfl, hb⟩
    exact ⟨_, rfl, Kd.R_nil _ _ _ _ _, hb⟩

end Go.Proofs.Ytifjkllkbciliaa.Print
