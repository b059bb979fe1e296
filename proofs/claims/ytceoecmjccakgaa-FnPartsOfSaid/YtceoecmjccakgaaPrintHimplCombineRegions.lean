-- laid by hp.py (a program of this work over the kit's print), with contracts by hand for what the print does not take
import Derived.Test.YtceoecmjccakgaaPrint0
import Derived.Test.YtceoecmjccakgaaPrintHx0
import Derived.Test.YtceoecmjccakgaaPrintHx2
namespace Go.Proofs.Ytceoecmjccakgaa.Print
open Go.RowKit Go.Proofs.YtceoecmjccakgaaW.PrintWords Go.Proofs.YtceoecmjccakgaaW.PrintLast Go.Proofs.YtceoecmjccakgaaW.PrintMore
attribute [local go_sem] max2_int min2_int max_two min_two max_three min_three max_four min_four   -- for this text's walks alone
set_option linter.unusedVariables false
set_option linter.unusedSimpArgs false

--SNIP impl_CombineRegions
/-! ### impl_CombineRegions: function 29, by hand -/
def combB (k : Int) (p q : Bool) : Bool := if k = 0 then p || q else if k = 1 then p && q else if k = 2 then p && !q else p != q
def combF (k : Int) (f g : Nat → Bool) (i : Nat) : Bool := combB k (f i) (g i)
set_option maxHeartbeats 8000000 in
set_option maxRecDepth 100000 in
theorem impl_CombineRegions_1.any (f g : Nat → Bool) (k : Int) (x y : Nat) (hx : x < 16) (hy : y < 16) (hk0 : 0 ≤ k) (hk3 : k ≤ 3) (b0 b1 b2 : Nat) (w : World)
    (hf : IsGrid w b0 f) (hg : IsGrid w b1 g) (h2 : w.cell? ⟨b2, 0, none⟩ = some (.int .i64 k)) :
    Calls Try.prog 47 #[.int .i64 x, .int .i64 y, .pointer (some ⟨b0, 0, none⟩), .pointer (some ⟨b1, 0, none⟩), .pointer (some ⟨b2, 0, none⟩)] w fun e w' => e = .returned (.bool (combF k f g (16 * y + x))) ∧ Below w.heap.size w w' := by
  have hi1 := run_index_grid b0 y hy
  have hi2 := run_index_line b0 (y * 16) x hx
  have hj1 := run_index_grid b1 y hy
  have hj2 := run_index_line b1 (y * 16) x hx
  have hc := hf.cell (y * 16 + x) (by omega)
  have hd := hg.cell (y * 16 + x) (by omega)
  clear hf hg
  have e16 : 16 * y + x = y * 16 + x := by omega
  rw [e16]
  clear e16
  unfold combF
  generalize f (y * 16 + x) = p at *
  generalize g (y * 16 + x) = q at *
  have HB : ∀ n, Aside0 (Below w.heap.size w (w.drewN n)) := fun n => ⟨pw_below_drewN (Below.refl _ _) n⟩
  rcases (show k = 0 ∨ k = 1 ∨ k = 2 ∨ k = 3 by omega) with rfl | rfl | rfl | rfl
  all_goals
    cases p <;> cases q
    all_goals
      go_enter Try.func47, Try.ntmps47
      go_wp2
      go_quiet (fail)
      go_wp2
      go_ret
      exact ⟨rfl, (HB _).out⟩
theorem two_grids (w : World) (f g : Nat → Bool) :
    IsGrid ((((w.alloc (.cells (gcells fun _ => false) 50)).alloc (.cells (gcells fun _ => false) 50)).setRow w.heap.size (gcells f)).setRow (w.heap.size + 1) (gcells g)) w.heap.size f ∧
    IsGrid ((((w.alloc (.cells (gcells fun _ => false) 50)).alloc (.cells (gcells fun _ => false) 50)).setRow w.heap.size (gcells f)).setRow (w.heap.size + 1) (gcells g)) (w.heap.size + 1) g ∧
    Below w.heap.size w ((((w.alloc (.cells (gcells fun _ => false) 50)).alloc (.cells (gcells fun _ => false) 50)).setRow w.heap.size (gcells f)).setRow (w.heap.size + 1) (gcells g)) := by
  refine ⟨⟨?_⟩, ⟨?_⟩, ?_⟩
  · rw [setRow_other _ _ _ _ (by omega)]
    exact setRow_heap _ _ _ _ _ _ (heap_alloc2_old w _ _)
  · exact setRow_heap _ _ _ _ _ _ ((setRow_other _ _ _ _ (by omega)).trans (heap_alloc2_new w _ _))
  · exact below_setRow (below_setRow (below_alloc (below_alloc (Below.refl w.heap.size w) _) _) _ _ (Nat.le_refl _)) _ _ (by omega)
def combOk (a b : List S45) (k : Int) : Prop := Valid a ∧ Valid b ∧ 0 ≤ k ∧ k ≤ 3
instance (a b : List S45) (k : Int) : Decidable (combOk a b k) := by unfold combOk; exact inferInstance
def impl_CombineRegions.f (l0 l1 : List S45) (a2 : Int) : Option (List S45 × Bool) := some (if combOk l0 l1 a2 then (runsL (combF a2 (gridF l0) (gridF l1)), true) else ([], false))
set_option maxHeartbeats 8000000 in
set_option maxRecDepth 100000 in
theorem impl_CombineRegions.no (A0 : Option Addr) (c0 : Nat) (l0 : List S45) (A1 : Option Addr) (c1 : Nat) (l1 : List S45) (a2 : Int) (w : World) (hr0 : Kd.C k45 w A0 l0.length l0) (hc0 : l0.length ≤ c0) (hr1 : Kd.C k45 w A1 l1.length l1) (hc1 : l1.length ≤ c1) (h : ¬ combOk l0 l1 a2) :
    Calls Try.prog 29 #[.slice A0 l0.length c0, .slice A1 l1.length c1, .int .i64 a2] w fun e w' => e = .returned (.tuple #[.slice none 0 0, .bool false]) ∧ Below w.heap.size w w' := by
  unfold combOk at h
  have HB0 : Aside0 (Below w.heap.size w (w.alloc (.cells #[.int .i64 a2] 3))) := ⟨below_alloc (Below.refl w.heap.size w) _⟩
  have HV := Aside0.mk (isRegion_calls A0 c0 l0 _ (Kd.C_below hr0 HB0.out) hc0)
  have hk : (w.alloc (.cells #[.int .i64 a2] 3)).cell? ⟨w.heap.size, 0, none⟩ = some (.int .i64 a2) := by go_simp
  have HK := Aside0.mk hk
  clear hk
  have HU : Aside0 (∀ w1, Below w.heap.size w w1 → Calls Try.prog 25 #[.slice A1 l1.length c1] w1 fun e w' => e = .returned (.bool (decide (Valid l1))) ∧ Below w1.heap.size w1 w') := ⟨fun w1 hb => isRegion_calls A1 c1 l1 w1 (Kd.C_below hr1 hb) hc1⟩
  clear hr0 hc0 hr1 hc1
  by_cases h0 : Valid l0
  · have HD := Aside0.mk (decide_eq_true h0)
    by_cases h1 : Valid l1
    · have HE := Aside0.mk (decide_eq_true h1)
      by_cases h2 : a2 < 0
      · have d2 : decide (a2 < 0) = true := decide_eq_true h2
        clear h h0 h1
        go_enter Try.func29, Try.ntmps29
        go_wp2_with (first | (go_at_call_of 25 (Value.slice A0 l0.length c0); rw [HD.out] at HV; refine HV.out.mono ?_; rintro e w1 ⟨rfl, hb1⟩; have HB1 := Aside0.mk (below_step HB0.out hb1); have hk1 := pw_cell_below hb1 HK.out; clear hb1) | (go_at_call_of 25 (Value.slice A1 l1.length c1); rw [HE.out] at HU; refine (HU.out _ HB1.out).mono ?_; rintro e w2 ⟨rfl, hb2⟩; have HB2 := Aside0.mk (below_step HB1.out hb2); have hk2 := pw_cell_below hb2 hk1; clear hb2))
        go_ret2
        exact ⟨rfl, HB2.out⟩
      · have d2 : decide (a2 < 0) = false := decide_eq_false h2
        have d3 : decide (3 < a2) = true := decide_eq_true (Classical.byContradiction fun h' => h ⟨h0, h1, by omega, by omega⟩)
        clear h h0 h1
        go_enter Try.func29, Try.ntmps29
        go_wp2_with (first | (go_at_call_of 25 (Value.slice A0 l0.length c0); rw [HD.out] at HV; refine HV.out.mono ?_; rintro e w1 ⟨rfl, hb1⟩; have HB1 := Aside0.mk (below_step HB0.out hb1); have hk1 := pw_cell_below hb1 HK.out; clear hb1) | (go_at_call_of 25 (Value.slice A1 l1.length c1); rw [HE.out] at HU; refine (HU.out _ HB1.out).mono ?_; rintro e w2 ⟨rfl, hb2⟩; have HB2 := Aside0.mk (below_step HB1.out hb2); have hk2 := pw_cell_below hb2 hk1; clear hb2))
        go_ret2
        exact ⟨rfl, HB2.out⟩
    · have HE := Aside0.mk (decide_eq_false h1)
      clear h h0 h1
      go_enter Try.func29, Try.ntmps29
      go_wp2_with (first | (go_at_call_of 25 (Value.slice A0 l0.length c0); rw [HD.out] at HV; refine HV.out.mono ?_; rintro e w1 ⟨rfl, hb1⟩; have HB1 := Aside0.mk (below_step HB0.out hb1); clear hb1) | (go_at_call_of 25 (Value.slice A1 l1.length c1); rw [HE.out] at HU; refine (HU.out _ HB1.out).mono ?_; rintro e w2 ⟨rfl, hb2⟩; have HB2 := Aside0.mk (below_step HB1.out hb2); clear hb2))
      go_ret2
      exact ⟨rfl, HB2.out⟩
  · have HD := Aside0.mk (decide_eq_false h0)
    clear h h0
    go_enter Try.func29, Try.ntmps29
    go_wp2_with (go_at_call_of 25 (Value.slice A0 l0.length c0); rw [HD.out] at HV; refine HV.out.mono ?_; rintro e w1 ⟨rfl, hb1⟩; have HB1 := Aside0.mk (below_step HB0.out hb1); clear hb1)
    go_ret2
    exact ⟨rfl, HB1.out⟩
set_option maxHeartbeats 8000000 in
set_option maxRecDepth 100000 in
theorem impl_CombineRegions.yes (A0 : Option Addr) (c0 : Nat) (l0 : List S45) (A1 : Option Addr) (c1 : Nat) (l1 : List S45) (a2 : Int) (w : World) (hr0 : Kd.C k45 w A0 l0.length l0) (hc0 : l0.length ≤ c0) (hr1 : Kd.C k45 w A1 l1.length l1) (hc1 : l1.length ≤ c1) (h : combOk l0 l1 a2) :
    Calls Try.prog 29 #[.slice A0 l0.length c0, .slice A1 l1.length c1, .int .i64 a2] w fun e w' => ∃ v0_ : Value, e = .returned (.tuple #[v0_, .bool true]) ∧ Kd.R k45 45 w' w.heap.size (fun _ => True) v0_ (runsL (combF a2 (gridF l0) (gridF l1))) ∧ Below w.heap.size w w' := by
  obtain ⟨h0, h1, h2, h3⟩ := h
  have HB0 : Aside0 (Below w.heap.size w (w.alloc (.cells #[.int .i64 a2] 3))) := ⟨below_alloc (Below.refl w.heap.size w) _⟩
  have HV := Aside0.mk (isRegion_calls A0 c0 l0 _ (Kd.C_below hr0 HB0.out) hc0)
  have hk : (w.alloc (.cells #[.int .i64 a2] 3)).cell? ⟨w.heap.size, 0, none⟩ = some (.int .i64 a2) := by go_simp
  have HK := Aside0.mk hk
  clear hk
  have HU : Aside0 (∀ w1, Below w.heap.size w w1 → Calls Try.prog 25 #[.slice A1 l1.length c1] w1 fun e w' => e = .returned (.bool (decide (Valid l1))) ∧ Below w1.heap.size w1 w') := ⟨fun w1 hb => isRegion_calls A1 c1 l1 w1 (Kd.C_below hr1 hb) hc1⟩
  have HGa : Aside0 (∀ w1, Below w.heap.size w w1 → Calls Try.prog 30 #[.slice A0 l0.length c0] w1 fun e w' => e = .returned (.agg (gcells (gridF l0))) ∧ Below w1.heap.size w1 w') := ⟨fun w1 hb => impl_gridOf.any A0 c0 l0 w1 (Kd.C_below hr0 hb) hr0.2.1 h0.runsOk⟩
  have HGb : Aside0 (∀ w1, Below w.heap.size w w1 → Calls Try.prog 30 #[.slice A1 l1.length c1] w1 fun e w' => e = .returned (.agg (gcells (gridF l1))) ∧ Below w1.heap.size w1 w') := ⟨fun w1 hb => impl_gridOf.any A1 c1 l1 w1 (Kd.C_below hr1 hb) hr1.2.1 h1.runsOk⟩
  have HD := Aside0.mk (decide_eq_true h0)
  have HE := Aside0.mk (decide_eq_true h1)
  have d2 : decide (a2 < 0) = false := decide_eq_false (by omega)
  have d3 : decide (3 < a2) = false := decide_eq_false (by omega)
  have HCL : Aside0 (∀ (b0 b1 b2 : Nat) (W : World), IsGrid W b0 (gridF l0) → IsGrid W b1 (gridF l1) → W.cell? ⟨b2, 0, none⟩ = some (.int .i64 a2) →
      Calls Try.prog 34 #[.func (.func 47) #[] #[.pointer (some ⟨b0, 0, none⟩), .pointer (some ⟨b1, 0, none⟩), .pointer (some ⟨b2, 0, none⟩)]] W fun e w' => e = .returned (.agg (gcells (combF a2 (gridF l0) (gridF l1)))) ∧ Below W.heap.size W w') :=
    ⟨fun b0 b1 b2 W g0 g1 g2 => impl_gridBy.at_ 47 _ _ (combF a2 (gridF l0) (gridF l1)) Try.func47 (by kernel_rfl) rfl W (fun x y w' hx hy hb => impl_CombineRegions_1.any _ _ a2 x y hx hy h2 h3 _ _ _ w' (g0.below hb g0.lt) (g1.below hb g1.lt) (pw_cell_below hb g2))⟩
  clear hr0 hc0 hr1 hc1 h0 h1
  go_enter Try.func29, Try.ntmps29
  go_wp2_with (first
    | (go_at_call_of 25 (Value.slice A0 l0.length c0); rw [HD.out] at HV; refine HV.out.mono ?_; rintro e w1 ⟨rfl, hb1⟩; have HB1 := Aside0.mk (below_step HB0.out hb1); have hk1 := pw_cell_below hb1 HK.out; clear hb1)
    | (go_at_call_of 25 (Value.slice A1 l1.length c1); rw [HE.out] at HU; refine (HU.out _ HB1.out).mono ?_; rintro e w2 ⟨rfl, hb2⟩; have HB2 := Aside0.mk (below_step HB1.out hb2); have hk2 := pw_cell_below hb2 hk1; clear hb2)
    | (go_at_call_of 30 (Value.slice A0 l0.length c0); refine (HGa.out _ HB2.out).mono ?_; rintro e w3 ⟨rfl, hb3⟩; have HB3 := Aside0.mk (below_step HB2.out hb3); have hk3 := pw_cell_below hb3 hk2; clear hb3)
    | (go_at_call_of 30 (Value.slice A1 l1.length c1); refine (HGb.out _ HB3.out).mono ?_; rintro e w4 ⟨rfl, hb4⟩; have HB4 := Aside0.mk (below_step HB3.out hb4); have HK4 := Aside0.mk (pw_cell_below hb4 hk3); clear hb4)
    | (refine wpList_alloc_grid rfl rfl ?_; (try simp only [gsize_alloc]))
    | (refine wpList_store_grid rfl _ _ rfl w4.heap.size (gridF l0) (fun _ => false) rfl rfl ⟨heap_alloc2_old w4 _ _⟩ ?_)
    | (refine wpList_store_grid rfl _ _ rfl (w4.heap.size + 1) (gridF l1) (fun _ => false) rfl rfl ⟨(setRow_other _ _ _ _ (by omega)).trans (heap_alloc2_new w4 _ _)⟩ ?_)
    | (go_at_call 34; have HT := Aside0.mk (two_grids w4 (gridF l0) (gridF l1)); refine (HCL.out _ _ _ _ HT.out.1 HT.out.2.1 (pw_cell_below HT.out.2.2 HK4.out)).mono ?_; rintro e w5 ⟨rfl, hb5⟩; have HB5 := Aside0.mk (below_step (below_step HB4.out HT.out.2.2) hb5); clear hb5)
    | (go_at_call 32; refine (impl_grid_runs.any _ _).mono ?_; rintro e w6 ⟨v0, rfl, ho, hb6⟩; have HO := Aside0.mk (Kd.R_lower ho (below_size HB5.out)); have HB6 := Aside0.mk (below_step HB5.out hb6); clear hb6 ho))
  go_ret2
  exact ⟨_, rfl, HO.out, HB6.out⟩
theorem impl_CombineRegions.calls (A0 : Option Addr) (c0 : Nat) (l0 : List S45) (A1 : Option Addr) (c1 : Nat) (l1 : List S45) (a2 : Int) (r1 : List S45) (r2 : Bool) (w : World) (hr0 : Kd.C k45 w A0 l0.length l0) (hc0 : l0.length ≤ c0) (hr1 : Kd.C k45 w A1 l1.length l1) (hc1 : l1.length ≤ c1) (h : impl_CombineRegions.f l0 l1 a2 = some (r1, r2)) :
    Calls Try.prog 29 #[.slice A0 l0.length c0, .slice A1 l1.length c1, .int .i64 a2] w fun e w' => ∃ v0_ : Value, e = .returned (.tuple #[v0_, .bool r2]) ∧ Kd.R k45 45 w' w.heap.size (fun _ => True) v0_ r1 ∧ Below w.heap.size w w' := by
  unfold impl_CombineRegions.f at h
  by_cases hk : combOk l0 l1 a2
  · rw [if_pos hk] at h
    obtain ⟨rfl, rfl⟩ := Prod.mk.inj (Option.some.inj h)
    exact impl_CombineRegions.yes A0 c0 l0 A1 c1 l1 a2 w hr0 hc0 hr1 hc1 hk
  · rw [if_neg hk] at h
    obtain ⟨rfl, rfl⟩ := Prod.mk.inj (Option.some.inj h)
    refine (impl_CombineRegions.no A0 c0 l0 A1 c1 l1 a2 w hr0 hc0 hr1 hc1 hk).mono ?_
    rintro e w1 ⟨rfl, hb⟩
    exact ⟨_, rfl, Kd.R_nil _ _ _ _ _, hb⟩

end Go.Proofs.Ytceoecmjccakgaa.Print
