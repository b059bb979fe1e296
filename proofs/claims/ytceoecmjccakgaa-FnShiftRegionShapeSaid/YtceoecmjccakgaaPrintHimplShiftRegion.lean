-- laid by hp.py (a program of this work over the kit's print), with contracts by hand for what the print does not take
import Derived.Test.YtceoecmjccakgaaPrint0
import Derived.Test.YtceoecmjccakgaaPrintHx0
import Derived.Test.YtceoecmjccakgaaPrintHx2
namespace Go.Proofs.Ytceoecmjccakgaa.Print
open Go.RowKit Go.Proofs.YtceoecmjccakgaaW.PrintWords Go.Proofs.YtceoecmjccakgaaW.PrintLast Go.Proofs.YtceoecmjccakgaaW.PrintMore
attribute [local go_sem] max2_int min2_int max_two min_two max_three min_three max_four min_four   -- for this text's walks alone
set_option linter.unusedVariables false
set_option linter.unusedSimpArgs false

--SNIP impl_ShiftRegion
/-! ### impl_ShiftRegion: function 16, by hand -/
/-- A grid, moved. -/
def shiftF (f : Nat → Bool) (x y : Int) (p : Nat) : Bool := hasF f (((p % 16 : Nat) : Int) - x) (((p / 16 : Nat) : Int) - y)
def shiftOk (l0 : List S45) (x y : Int) : Prop := Valid l0 ∧ -16 ≤ x ∧ x ≤ 16 ∧ -16 ≤ y ∧ y ≤ 16
instance (l0 : List S45) (x y : Int) : Decidable (shiftOk l0 x y) := by unfold shiftOk; exact inferInstance
def impl_ShiftRegion.f (l0 : List S45) (a1 : Int) (a2 : Int) : Option (List S45) := some (if shiftOk l0 a1 a2 then runsL (shiftF (gridF l0) a1 a2) else [])
set_option maxHeartbeats 8000000 in
set_option maxRecDepth 100000 in
theorem impl_ShiftRegion_1.any (f : Nat → Bool) (x y : Int) (i j : Nat) (hi : i < 16) (hj : j < 16) (hx0 : -16 ≤ x) (hx1 : x ≤ 16) (hy0 : -16 ≤ y) (hy1 : y ≤ 16) (b0 b1 b2 : Nat) (w : World)
    (hg : IsGrid w b0 f) (h1 : w.cell? ⟨b1, 0, none⟩ = some (.int .i64 x)) (h2 : w.cell? ⟨b2, 0, none⟩ = some (.int .i64 y)) :
    Calls Try.prog 35 #[.int .i64 i, .int .i64 j, .pointer (some ⟨b0, 0, none⟩), .pointer (some ⟨b1, 0, none⟩), .pointer (some ⟨b2, 0, none⟩)] w fun e w' => e = .returned (.bool (shiftF f x y (16 * j + i))) ∧ Below w.heap.size w w' := by
  have HG := Aside0.mk hg
  have HS : Aside0 (shiftF f x y (16 * j + i) = hasF f ((i : Int) - x) ((j : Int) - y)) := ⟨by
    unfold shiftF
    rw [show (16 * j + i) % 16 = i by omega, show (16 * j + i) / 16 = j by omega]⟩
  clear hg
  go_enter Try.func35, Try.ntmps35
  go_wp2_with (first
    | (refine wpList_load_grid rfl _ rfl b0 _ rfl HG.out ?_)
    | (go_at_call 36; refine (impl_grid_has.any _ _ _ _).mono ?_; rintro e w1 ⟨rfl, hb1⟩; have HB1 := Aside0.mk hb1; clear hb1))
  go_ret
  exact ⟨by rw [HS.out]; rfl, HB1.out⟩
set_option maxHeartbeats 8000000 in
set_option maxRecDepth 100000 in
theorem impl_ShiftRegion.no (A0 : Option Addr) (c0 : Nat) (l0 : List S45) (a1 a2 : Int) (w : World) (hr0 : Kd.C k45 w A0 l0.length l0) (hc0 : l0.length ≤ c0) (h : ¬ Valid l0) :
    Calls Try.prog 16 #[.slice A0 l0.length c0, .int .i64 a1, .int .i64 a2] w fun e w' => e = .returned (.slice none 0 0) ∧ Below w.heap.size w w' := by
  have HB0 : Aside0 (Below w.heap.size w ((w.alloc (.cells #[.int .i64 a1] 3)).alloc (.cells #[.int .i64 a2] 3))) := ⟨below_alloc (below_alloc (Below.refl w.heap.size w) _) _⟩
  have HK0 : Aside0 (((w.alloc (.cells #[.int .i64 a1] 3)).alloc (.cells #[.int .i64 a2] 3)).cell? ⟨w.heap.size, 0, none⟩ = some (.int .i64 a1)) := ⟨by go_simp⟩
  have HK1 : Aside0 (((w.alloc (.cells #[.int .i64 a1] 3)).alloc (.cells #[.int .i64 a2] 3)).cell? ⟨w.heap.size + 1, 0, none⟩ = some (.int .i64 a2)) := ⟨by go_simp⟩
  have HV : Aside0 (∀ W : World, Below w.heap.size w W → Calls Try.prog 25 #[.slice A0 l0.length c0] W fun e w' => e = .returned (.bool false) ∧ Below W.heap.size W w') := ⟨fun W hb => by
    have h1 := isRegion_calls A0 c0 l0 W (Kd.C_below hr0 hb) hc0
    rw [decide_eq_false h] at h1
    exact h1⟩
  clear hr0 hc0 h
  go_enter Try.func16, Try.ntmps16
  go_wp2_with (go_at_call 25; refine (HV.out _ HB0.out).mono ?_; rintro e w1 ⟨rfl, hb1⟩; have HB1 := Aside0.mk (below_step HB0.out hb1); have hk0 := pw_cell_below hb1 HK0.out; have hk1 := pw_cell_below hb1 HK1.out; clear hb1)
  go_ret
  exact ⟨rfl, HB1.out⟩
set_option maxHeartbeats 8000000 in
set_option maxRecDepth 100000 in
theorem impl_ShiftRegion.xlow (A0 : Option Addr) (c0 : Nat) (l0 : List S45) (a1 a2 : Int) (w : World) (hr0 : Kd.C k45 w A0 l0.length l0) (hc0 : l0.length ≤ c0) (h : Valid l0) (hn : a1 < -16) :
    Calls Try.prog 16 #[.slice A0 l0.length c0, .int .i64 a1, .int .i64 a2] w fun e w' => e = .returned (.slice none 0 0) ∧ Below w.heap.size w w' := by
  have HB0 : Aside0 (Below w.heap.size w ((w.alloc (.cells #[.int .i64 a1] 3)).alloc (.cells #[.int .i64 a2] 3))) := ⟨below_alloc (below_alloc (Below.refl w.heap.size w) _) _⟩
  have HK0 : Aside0 (((w.alloc (.cells #[.int .i64 a1] 3)).alloc (.cells #[.int .i64 a2] 3)).cell? ⟨w.heap.size, 0, none⟩ = some (.int .i64 a1)) := ⟨by go_simp⟩
  have HK1 : Aside0 (((w.alloc (.cells #[.int .i64 a1] 3)).alloc (.cells #[.int .i64 a2] 3)).cell? ⟨w.heap.size + 1, 0, none⟩ = some (.int .i64 a2)) := ⟨by go_simp⟩
  have HV : Aside0 (∀ W : World, Below w.heap.size w W → Calls Try.prog 25 #[.slice A0 l0.length c0] W fun e w' => e = .returned (.bool true) ∧ Below W.heap.size W w') := ⟨fun W hb => by
    have h1 := isRegion_calls A0 c0 l0 W (Kd.C_below hr0 hb) hc0
    rw [decide_eq_true h] at h1
    exact h1⟩
  have d0 : decide (a1 < -16) = true := decide_eq_true hn
  clear hr0 hc0 h
  go_enter Try.func16, Try.ntmps16
  go_wp2_with (go_at_call 25; refine (HV.out _ HB0.out).mono ?_; rintro e w1 ⟨rfl, hb1⟩; have HB1 := Aside0.mk (below_step HB0.out hb1); have hk0 := pw_cell_below hb1 HK0.out; have hk1 := pw_cell_below hb1 HK1.out; clear hb1)
  go_ret
  exact ⟨rfl, HB1.out⟩
set_option maxHeartbeats 8000000 in
set_option maxRecDepth 100000 in
theorem impl_ShiftRegion.xhigh (A0 : Option Addr) (c0 : Nat) (l0 : List S45) (a1 a2 : Int) (w : World) (hr0 : Kd.C k45 w A0 l0.length l0) (hc0 : l0.length ≤ c0) (h : Valid l0) (hn : 16 < a1) :
    Calls Try.prog 16 #[.slice A0 l0.length c0, .int .i64 a1, .int .i64 a2] w fun e w' => e = .returned (.slice none 0 0) ∧ Below w.heap.size w w' := by
  have HB0 : Aside0 (Below w.heap.size w ((w.alloc (.cells #[.int .i64 a1] 3)).alloc (.cells #[.int .i64 a2] 3))) := ⟨below_alloc (below_alloc (Below.refl w.heap.size w) _) _⟩
  have HK0 : Aside0 (((w.alloc (.cells #[.int .i64 a1] 3)).alloc (.cells #[.int .i64 a2] 3)).cell? ⟨w.heap.size, 0, none⟩ = some (.int .i64 a1)) := ⟨by go_simp⟩
  have HK1 : Aside0 (((w.alloc (.cells #[.int .i64 a1] 3)).alloc (.cells #[.int .i64 a2] 3)).cell? ⟨w.heap.size + 1, 0, none⟩ = some (.int .i64 a2)) := ⟨by go_simp⟩
  have HV : Aside0 (∀ W : World, Below w.heap.size w W → Calls Try.prog 25 #[.slice A0 l0.length c0] W fun e w' => e = .returned (.bool true) ∧ Below W.heap.size W w') := ⟨fun W hb => by
    have h1 := isRegion_calls A0 c0 l0 W (Kd.C_below hr0 hb) hc0
    rw [decide_eq_true h] at h1
    exact h1⟩
  have d0 : decide (a1 < -16) = false := decide_eq_false (by omega)
  have d1 : decide (16 < a1) = true := decide_eq_true hn
  clear hr0 hc0 h
  go_enter Try.func16, Try.ntmps16
  go_wp2_with (go_at_call 25; refine (HV.out _ HB0.out).mono ?_; rintro e w1 ⟨rfl, hb1⟩; have HB1 := Aside0.mk (below_step HB0.out hb1); have hk0 := pw_cell_below hb1 HK0.out; have hk1 := pw_cell_below hb1 HK1.out; clear hb1)
  go_ret
  exact ⟨rfl, HB1.out⟩
set_option maxHeartbeats 8000000 in
set_option maxRecDepth 100000 in
theorem impl_ShiftRegion.ylow (A0 : Option Addr) (c0 : Nat) (l0 : List S45) (a1 a2 : Int) (w : World) (hr0 : Kd.C k45 w A0 l0.length l0) (hc0 : l0.length ≤ c0) (h : Valid l0) (h0 : -16 ≤ a1) (h1 : a1 ≤ 16) (hn : a2 < -16) :
    Calls Try.prog 16 #[.slice A0 l0.length c0, .int .i64 a1, .int .i64 a2] w fun e w' => e = .returned (.slice none 0 0) ∧ Below w.heap.size w w' := by
  have HB0 : Aside0 (Below w.heap.size w ((w.alloc (.cells #[.int .i64 a1] 3)).alloc (.cells #[.int .i64 a2] 3))) := ⟨below_alloc (below_alloc (Below.refl w.heap.size w) _) _⟩
  have HK0 : Aside0 (((w.alloc (.cells #[.int .i64 a1] 3)).alloc (.cells #[.int .i64 a2] 3)).cell? ⟨w.heap.size, 0, none⟩ = some (.int .i64 a1)) := ⟨by go_simp⟩
  have HK1 : Aside0 (((w.alloc (.cells #[.int .i64 a1] 3)).alloc (.cells #[.int .i64 a2] 3)).cell? ⟨w.heap.size + 1, 0, none⟩ = some (.int .i64 a2)) := ⟨by go_simp⟩
  have HV : Aside0 (∀ W : World, Below w.heap.size w W → Calls Try.prog 25 #[.slice A0 l0.length c0] W fun e w' => e = .returned (.bool true) ∧ Below W.heap.size W w') := ⟨fun W hb => by
    have h1 := isRegion_calls A0 c0 l0 W (Kd.C_below hr0 hb) hc0
    rw [decide_eq_true h] at h1
    exact h1⟩
  have d0 : decide (a1 < -16) = false := decide_eq_false (by omega)
  have d1 : decide (16 < a1) = false := decide_eq_false (by omega)
  have d2 : decide (a2 < -16) = true := decide_eq_true hn
  clear hr0 hc0 h
  go_enter Try.func16, Try.ntmps16
  go_wp2_with (go_at_call 25; refine (HV.out _ HB0.out).mono ?_; rintro e w1 ⟨rfl, hb1⟩; have HB1 := Aside0.mk (below_step HB0.out hb1); have hk0 := pw_cell_below hb1 HK0.out; have hk1 := pw_cell_below hb1 HK1.out; clear hb1)
  go_ret
  exact ⟨rfl, HB1.out⟩
set_option maxHeartbeats 8000000 in
set_option maxRecDepth 100000 in
theorem impl_ShiftRegion.yhigh (A0 : Option Addr) (c0 : Nat) (l0 : List S45) (a1 a2 : Int) (w : World) (hr0 : Kd.C k45 w A0 l0.length l0) (hc0 : l0.length ≤ c0) (h : Valid l0) (h0 : -16 ≤ a1) (h1 : a1 ≤ 16) (hn : 16 < a2) :
    Calls Try.prog 16 #[.slice A0 l0.length c0, .int .i64 a1, .int .i64 a2] w fun e w' => e = .returned (.slice none 0 0) ∧ Below w.heap.size w w' := by
  have HB0 : Aside0 (Below w.heap.size w ((w.alloc (.cells #[.int .i64 a1] 3)).alloc (.cells #[.int .i64 a2] 3))) := ⟨below_alloc (below_alloc (Below.refl w.heap.size w) _) _⟩
  have HK0 : Aside0 (((w.alloc (.cells #[.int .i64 a1] 3)).alloc (.cells #[.int .i64 a2] 3)).cell? ⟨w.heap.size, 0, none⟩ = some (.int .i64 a1)) := ⟨by go_simp⟩
  have HK1 : Aside0 (((w.alloc (.cells #[.int .i64 a1] 3)).alloc (.cells #[.int .i64 a2] 3)).cell? ⟨w.heap.size + 1, 0, none⟩ = some (.int .i64 a2)) := ⟨by go_simp⟩
  have HV : Aside0 (∀ W : World, Below w.heap.size w W → Calls Try.prog 25 #[.slice A0 l0.length c0] W fun e w' => e = .returned (.bool true) ∧ Below W.heap.size W w') := ⟨fun W hb => by
    have h1 := isRegion_calls A0 c0 l0 W (Kd.C_below hr0 hb) hc0
    rw [decide_eq_true h] at h1
    exact h1⟩
  have d0 : decide (a1 < -16) = false := decide_eq_false (by omega)
  have d1 : decide (16 < a1) = false := decide_eq_false (by omega)
  have d2 : decide (a2 < -16) = false := decide_eq_false (by omega)
  have d3 : decide (16 < a2) = true := decide_eq_true hn
  clear hr0 hc0 h
  go_enter Try.func16, Try.ntmps16
  go_wp2_with (go_at_call 25; refine (HV.out _ HB0.out).mono ?_; rintro e w1 ⟨rfl, hb1⟩; have HB1 := Aside0.mk (below_step HB0.out hb1); have hk0 := pw_cell_below hb1 HK0.out; have hk1 := pw_cell_below hb1 HK1.out; clear hb1)
  go_ret
  exact ⟨rfl, HB1.out⟩
set_option maxHeartbeats 8000000 in
set_option maxRecDepth 100000 in
theorem impl_ShiftRegion.yes (A0 : Option Addr) (c0 : Nat) (l0 : List S45) (a1 a2 : Int) (w : World) (hr0 : Kd.C k45 w A0 l0.length l0) (hc0 : l0.length ≤ c0) (h : Valid l0) (h0 : -16 ≤ a1) (h1 : a1 ≤ 16) (h2 : -16 ≤ a2) (h3 : a2 ≤ 16) :
    Calls Try.prog 16 #[.slice A0 l0.length c0, .int .i64 a1, .int .i64 a2] w fun e w' => ∃ v0_ : Value, e = .returned v0_ ∧ Kd.R k45 45 w' w.heap.size (fun _ => True) v0_ (runsL (shiftF (gridF l0) a1 a2)) ∧ Below w.heap.size w w' := by
  have HB0 : Aside0 (Below w.heap.size w ((w.alloc (.cells #[.int .i64 a1] 3)).alloc (.cells #[.int .i64 a2] 3))) := ⟨below_alloc (below_alloc (Below.refl w.heap.size w) _) _⟩
  have HK0 : Aside0 (((w.alloc (.cells #[.int .i64 a1] 3)).alloc (.cells #[.int .i64 a2] 3)).cell? ⟨w.heap.size, 0, none⟩ = some (.int .i64 a1)) := ⟨by go_simp⟩
  have HK1 : Aside0 (((w.alloc (.cells #[.int .i64 a1] 3)).alloc (.cells #[.int .i64 a2] 3)).cell? ⟨w.heap.size + 1, 0, none⟩ = some (.int .i64 a2)) := ⟨by go_simp⟩
  have HV : Aside0 (∀ W : World, Below w.heap.size w W → Calls Try.prog 25 #[.slice A0 l0.length c0] W fun e w' => e = .returned (.bool true) ∧ Below W.heap.size W w') := ⟨fun W hb => by
    have h1 := isRegion_calls A0 c0 l0 W (Kd.C_below hr0 hb) hc0
    rw [decide_eq_true h] at h1
    exact h1⟩
  have d0 : decide (a1 < -16) = false := decide_eq_false (by omega)
  have d1 : decide (16 < a1) = false := decide_eq_false (by omega)
  have d2 : decide (a2 < -16) = false := decide_eq_false (by omega)
  have d3 : decide (16 < a2) = false := decide_eq_false (by omega)
  have HGO : Aside0 (∀ W : World, Below w.heap.size w W → Calls Try.prog 30 #[.slice A0 l0.length c0] W fun e w' => e = .returned (.agg (gcells (gridF l0))) ∧ Below W.heap.size W w') := ⟨fun W hb => impl_gridOf.any A0 c0 l0 W (Kd.C_below hr0 hb) hr0.2.1 h.runsOk⟩
  have HCL : Aside0 (∀ (b0 b1 b2 : Nat) (W : World), IsGrid W b0 (gridF l0) → W.cell? ⟨b1, 0, none⟩ = some (.int .i64 a1) → W.cell? ⟨b2, 0, none⟩ = some (.int .i64 a2) →
      Calls Try.prog 34 #[.func (.func 35) #[] #[.pointer (some ⟨b0, 0, none⟩), .pointer (some ⟨b1, 0, none⟩), .pointer (some ⟨b2, 0, none⟩)]] W fun e w' => e = .returned (.agg (gcells (shiftF (gridF l0) a1 a2))) ∧ Below W.heap.size W w') :=
    ⟨fun b0 b1 b2 W g0 g1 g2 => impl_gridBy.at_ 35 _ _ (shiftF (gridF l0) a1 a2) Try.func35 (by kernel_rfl) rfl W (fun x y w' hx hy hb => impl_ShiftRegion_1.any (gridF l0) a1 a2 x y hx hy h0 h1 h2 h3 _ _ _ w' (g0.below hb g0.lt) (pw_cell_below hb g1) (pw_cell_below hb g2))⟩
  clear hr0 hc0 h h0 h1 h2 h3
  go_enter Try.func16, Try.ntmps16
  go_wp2_with (first
    | (go_at_call 25; refine (HV.out _ HB0.out).mono ?_; rintro e w1 ⟨rfl, hb1⟩; have HB1 := Aside0.mk (below_step HB0.out hb1); have hk0 := pw_cell_below hb1 HK0.out; have hk1 := pw_cell_below hb1 HK1.out; clear hb1)
    | (go_at_call 30; refine (HGO.out _ HB1.out).mono ?_; rintro e w2 ⟨rfl, hb2⟩; have HB2 := Aside0.mk (below_step HB1.out hb2); have hl0 := pw_cell_below hb2 hk0; have hl1 := pw_cell_below hb2 hk1; clear hb2)
    | (refine wpList_alloc_grid rfl rfl ?_; (try simp only [gsize_alloc]))
    | (refine wpList_store_grid rfl _ _ rfl w2.heap.size (gridF l0) (fun _ => false) rfl rfl (IsGrid.new w2 _) ?_)
    | (go_at_call 34; have hS := below_setRow (below_alloc (Below.refl w2.heap.size w2) (.cells (gcells fun _ => false) 50)) w2.heap.size (gcells (gridF l0)) (Nat.le_refl _); refine (HCL.out _ _ _ _ ((IsGrid.new w2 (fun _ => false)).setRow (gridF l0)) (pw_cell_below hS hl0) (pw_cell_below hS hl1)).mono ?_; rintro e w3 ⟨rfl, hb3⟩; have HB3 := Aside0.mk (below_step (below_step HB2.out hS) hb3); clear hb3 hS)
    | (go_at_call 32; refine (impl_grid_runs.any _ _).mono ?_; rintro e w4 ⟨v0, rfl, ho, hb4⟩; have HO := Aside0.mk (Kd.R_lower ho (below_size HB3.out)); have HB4 := Aside0.mk (below_step HB3.out hb4); clear hb4 ho))
  go_ret
  exact ⟨_, rfl, HO.out, HB4.out⟩
theorem impl_ShiftRegion.calls (A0 : Option Addr) (c0 : Nat) (l0 : List S45) (a1 : Int) (a2 : Int) (r : List S45) (w : World) (hr0 : Kd.C k45 w A0 l0.length l0) (hc0 : l0.length ≤ c0) (h : impl_ShiftRegion.f l0 a1 a2 = some r) :
    Calls Try.prog 16 #[.slice A0 l0.length c0, .int .i64 a1, .int .i64 a2] w fun e w' => ∃ v0_ : Value, e = .returned v0_ ∧ Kd.R k45 45 w' w.heap.size (fun _ => True) v0_ r ∧ Below w.heap.size w w' := by
  obtain rfl := Option.some.inj h
  clear h
  by_cases hk : shiftOk l0 a1 a2
  · rw [if_pos hk]
    exact impl_ShiftRegion.yes A0 c0 l0 a1 a2 w hr0 hc0 hk.1 hk.2.1 hk.2.2.1 hk.2.2.2.1 hk.2.2.2.2
  · rw [if_neg hk]
    have hd : Calls Try.prog 16 #[.slice A0 l0.length c0, .int .i64 a1, .int .i64 a2] w fun e w' => e = .returned (.slice none 0 0) ∧ Below w.heap.size w w' := by
      by_cases hv : Valid l0
      · by_cases h0 : a1 < -16
        · exact impl_ShiftRegion.xlow A0 c0 l0 a1 a2 w hr0 hc0 hv h0
        · by_cases h1 : 16 < a1
          · exact impl_ShiftRegion.xhigh A0 c0 l0 a1 a2 w hr0 hc0 hv h1
          · by_cases h2 : a2 < -16
            · exact impl_ShiftRegion.ylow A0 c0 l0 a1 a2 w hr0 hc0 hv (by omega) (by omega) h2
            · by_cases h3 : 16 < a2
              · exact impl_ShiftRegion.yhigh A0 c0 l0 a1 a2 w hr0 hc0 hv (by omega) (by omega) h3
              · exact absurd ⟨hv, by omega, by omega, by omega, by omega⟩ hk
      · exact impl_ShiftRegion.no A0 c0 l0 a1 a2 w hr0 hc0 hv
    refine hd.mono ?_
    rintro e w1 ⟨rfl, hb⟩
    exact ⟨_, rfl, Kd.R_nil _ _ _ _ _, hb⟩

end Go.Proofs.Ytceoecmjccakgaa.Print
