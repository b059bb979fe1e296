-- laid by hp.py (a program of this work over the kit's print), with contracts by hand for what the print does not take
import Derived.Test.YtceoecmjccakgaaPrint0
import Derived.Test.YtceoecmjccakgaaPrintHx0
namespace Go.Proofs.Ytceoecmjccakgaa.Print
open Go.RowKit Go.Proofs.YtceoecmjccakgaaW.PrintWords Go.Proofs.YtceoecmjccakgaaW.PrintLast Go.Proofs.YtceoecmjccakgaaW.PrintMore
attribute [local go_sem] max2_int min2_int max_two min_two max_three min_three max_four min_four   -- for this text's walks alone
set_option linter.unusedVariables false
set_option linter.unusedSimpArgs false

--SNIP impl_grid_grown
/-- A grid with the neighbours of its pixels. -/
def grownF (f : Nat → Bool) (p : Nat) : Bool := f p || (hasF f (((p % 16 : Nat) : Int) - 1) (p / 16 : Nat) || hasF f (((p % 16 : Nat) : Int) + 1) (p / 16 : Nat) || hasF f (p % 16 : Nat) (((p / 16 : Nat) : Int) - 1) || hasF f (p % 16 : Nat) (((p / 16 : Nat) : Int) + 1))
def growN (f : Nat → Bool) : Nat → Nat → Bool
  | 0 => f
  | n + 1 => grownF (growN f n)
theorem grownF_at (f : Nat → Bool) (x y : Nat) (hx : x < 16) : grownF f (16 * y + x) = (f (16 * y + x) || (hasF f ((x : Int) - 1) y || hasF f ((x : Int) + 1) y || hasF f x ((y : Int) - 1) || hasF f x ((y : Int) + 1))) := by
  unfold grownF
  rw [show (16 * y + x) % 16 = x by omega, show (16 * y + x) / 16 = y by omega]
set_option maxHeartbeats 8000000 in
set_option maxRecDepth 100000 in
theorem impl_grid_grown_1.any (f : Nat → Bool) (x y : Nat) (hx : x < 16) (hy : y < 16) (b : Nat) (w : World) (hg : IsGrid w b f) :
    Calls Try.prog 48 #[.int .i64 x, .int .i64 y, .pointer (some ⟨b, 0, none⟩)] w fun e w' => e = .returned (.bool (grownF f (16 * y + x))) ∧ Below w.heap.size w w' := by
  have hi1 := run_index_grid b y hy
  have hi2 := run_index_line b (y * 16) x hx
  have hc := hg.cell (y * 16 + x) (by omega)
  have HG := Aside0.mk hg
  have HE : Aside0 (grownF f (16 * y + x) = (f (y * 16 + x) || (hasF f ((x : Int) - 1) y || hasF f ((x : Int) + 1) y || hasF f x ((y : Int) - 1) || hasF f x ((y : Int) + 1)))) := ⟨by rw [grownF_at f x y hx, show 16 * y + x = y * 16 + x by omega]⟩
  clear hg
  cases hf : f (y * 16 + x) with
  | true =>
    rw [hf] at hc
    have HF := Aside0.mk hf
    clear hf
    go_enter Try.func48, Try.ntmps48
    go_wp2
    go_ret
    exact ⟨by rw [HE.out, HF.out]; rfl, Below.refl _ _⟩
  | false =>
    rw [hf] at hc
    have HF := Aside0.mk hf
    clear hf
    have HN := Aside0.mk (impl_neighbours.any x y hx hy)
    have hxx := fun W => nb_index (.int .i64 ((x : Int) - 1)) (.int .i64 y) (.int .i64 ((x : Int) + 1)) (.int .i64 y) (.int .i64 x) (.int .i64 ((y : Int) - 1)) (.int .i64 x) (.int .i64 ((y : Int) + 1)) W
    have hx0 := fun W => (hxx W).1
    have hx1 := fun W => (hxx W).2.1
    have hx2 := fun W => (hxx W).2.2.1
    have hx3 := fun W => (hxx W).2.2.2
    clear hxx
    cases e0 : hasF f ((x : Int) - 1) (y : Int) with
    | true =>
      have E0 := Aside0.mk e0
      have H0 : Aside0 (∀ (W : World), Calls Try.prog 36 #[.agg (gcells f), .int .i64 ((x : Int) - 1), .int .i64 (y : Int)] W fun e w' => e = .returned (.bool true) ∧ Below W.heap.size W w') := ⟨fun W => by have h := impl_grid_has.any f ((x : Int) - 1) (y : Int) W; rw [e0] at h; exact h⟩
      clear e0
      go_enter Try.func48, Try.ntmps48
      go_wp2_with (go_at_call 49; refine (HN.out _).mono ?_; rintro e w1 ⟨rfl, hb1⟩; have HG1 := HG.out.below hb1 HG.out.lt; have HB1 := Aside0.mk hb1; clear hb1)
      refine wp_loop_rounds 1 ?_
      rw [rounds_succ]
      go_wp2_with (first | (refine wpList_load_grid rfl _ rfl b _ rfl (HG1.alloc _) ?_) | (go_at_call 36; refine (H0.out _).mono ?_; rintro e w2 ⟨rfl, hb2⟩; have HG2 := (HG1.alloc _).below hb2 (HG1.alloc _).lt; have HB2 := Aside0.mk (below_step (below_alloc HB1.out _) hb2); clear hb2))
      go_ret
      exact ⟨by rw [HE.out]; simp [HF.out, E0.out], HB2.out⟩
    | false =>
      have E0 := Aside0.mk e0
      have H0 : Aside0 (∀ (W : World), Calls Try.prog 36 #[.agg (gcells f), .int .i64 ((x : Int) - 1), .int .i64 (y : Int)] W fun e w' => e = .returned (.bool false) ∧ Below W.heap.size W w') := ⟨fun W => by have h := impl_grid_has.any f ((x : Int) - 1) (y : Int) W; rw [e0] at h; exact h⟩
      clear e0
      cases e1 : hasF f ((x : Int) + 1) (y : Int) with
      | true =>
        have E1 := Aside0.mk e1
        have H1 : Aside0 (∀ (W : World), Calls Try.prog 36 #[.agg (gcells f), .int .i64 ((x : Int) + 1), .int .i64 (y : Int)] W fun e w' => e = .returned (.bool true) ∧ Below W.heap.size W w') := ⟨fun W => by have h := impl_grid_has.any f ((x : Int) + 1) (y : Int) W; rw [e1] at h; exact h⟩
        clear e1
        go_enter Try.func48, Try.ntmps48
        go_wp2_with (go_at_call 49; refine (HN.out _).mono ?_; rintro e w1 ⟨rfl, hb1⟩; have HG1 := HG.out.below hb1 HG.out.lt; have HB1 := Aside0.mk hb1; clear hb1)
        refine wp_loop_rounds 2 ?_
        rw [rounds_succ]
        go_wp2_with (first | (refine wpList_load_grid rfl _ rfl b _ rfl (HG1.alloc _) ?_) | (go_at_call 36; refine (H0.out _).mono ?_; rintro e w2 ⟨rfl, hb2⟩; have HG2 := (HG1.alloc _).below hb2 (HG1.alloc _).lt; have HB2 := Aside0.mk (below_step (below_alloc HB1.out _) hb2); clear hb2))
        rw [rounds_succ]
        go_wp2_with (first | (refine wpList_load_grid rfl _ rfl b _ rfl (HG2.alloc _) ?_) | (go_at_call 36; refine (H1.out _).mono ?_; rintro e w3 ⟨rfl, hb3⟩; have HG3 := (HG2.alloc _).below hb3 (HG2.alloc _).lt; have HB3 := Aside0.mk (below_step (below_alloc HB2.out _) hb3); clear hb3))
        go_ret
        exact ⟨by rw [HE.out]; simp [HF.out, E0.out, E1.out], HB3.out⟩
      | false =>
        have E1 := Aside0.mk e1
        have H1 : Aside0 (∀ (W : World), Calls Try.prog 36 #[.agg (gcells f), .int .i64 ((x : Int) + 1), .int .i64 (y : Int)] W fun e w' => e = .returned (.bool false) ∧ Below W.heap.size W w') := ⟨fun W => by have h := impl_grid_has.any f ((x : Int) + 1) (y : Int) W; rw [e1] at h; exact h⟩
        clear e1
        cases e2 : hasF f (x : Int) ((y : Int) - 1) with
        | true =>
          have E2 := Aside0.mk e2
          have H2 : Aside0 (∀ (W : World), Calls Try.prog 36 #[.agg (gcells f), .int .i64 (x : Int), .int .i64 ((y : Int) - 1)] W fun e w' => e = .returned (.bool true) ∧ Below W.heap.size W w') := ⟨fun W => by have h := impl_grid_has.any f (x : Int) ((y : Int) - 1) W; rw [e2] at h; exact h⟩
          clear e2
          go_enter Try.func48, Try.ntmps48
          go_wp2_with (go_at_call 49; refine (HN.out _).mono ?_; rintro e w1 ⟨rfl, hb1⟩; have HG1 := HG.out.below hb1 HG.out.lt; have HB1 := Aside0.mk hb1; clear hb1)
          refine wp_loop_rounds 3 ?_
          rw [rounds_succ]
          go_wp2_with (first | (refine wpList_load_grid rfl _ rfl b _ rfl (HG1.alloc _) ?_) | (go_at_call 36; refine (H0.out _).mono ?_; rintro e w2 ⟨rfl, hb2⟩; have HG2 := (HG1.alloc _).below hb2 (HG1.alloc _).lt; have HB2 := Aside0.mk (below_step (below_alloc HB1.out _) hb2); clear hb2))
          rw [rounds_succ]
          go_wp2_with (first | (refine wpList_load_grid rfl _ rfl b _ rfl (HG2.alloc _) ?_) | (go_at_call 36; refine (H1.out _).mono ?_; rintro e w3 ⟨rfl, hb3⟩; have HG3 := (HG2.alloc _).below hb3 (HG2.alloc _).lt; have HB3 := Aside0.mk (below_step (below_alloc HB2.out _) hb3); clear hb3))
          rw [rounds_succ]
          go_wp2_with (first | (refine wpList_load_grid rfl _ rfl b _ rfl (HG3.alloc _) ?_) | (go_at_call 36; refine (H2.out _).mono ?_; rintro e w4 ⟨rfl, hb4⟩; have HG4 := (HG3.alloc _).below hb4 (HG3.alloc _).lt; have HB4 := Aside0.mk (below_step (below_alloc HB3.out _) hb4); clear hb4))
          go_ret
          exact ⟨by rw [HE.out]; simp [HF.out, E0.out, E1.out, E2.out], HB4.out⟩
        | false =>
          have E2 := Aside0.mk e2
          have H2 : Aside0 (∀ (W : World), Calls Try.prog 36 #[.agg (gcells f), .int .i64 (x : Int), .int .i64 ((y : Int) - 1)] W fun e w' => e = .returned (.bool false) ∧ Below W.heap.size W w') := ⟨fun W => by have h := impl_grid_has.any f (x : Int) ((y : Int) - 1) W; rw [e2] at h; exact h⟩
          clear e2
          cases e3 : hasF f (x : Int) ((y : Int) + 1) with
          | true =>
            have E3 := Aside0.mk e3
            have H3 : Aside0 (∀ (W : World), Calls Try.prog 36 #[.agg (gcells f), .int .i64 (x : Int), .int .i64 ((y : Int) + 1)] W fun e w' => e = .returned (.bool true) ∧ Below W.heap.size W w') := ⟨fun W => by have h := impl_grid_has.any f (x : Int) ((y : Int) + 1) W; rw [e3] at h; exact h⟩
            clear e3
            go_enter Try.func48, Try.ntmps48
            go_wp2_with (go_at_call 49; refine (HN.out _).mono ?_; rintro e w1 ⟨rfl, hb1⟩; have HG1 := HG.out.below hb1 HG.out.lt; have HB1 := Aside0.mk hb1; clear hb1)
            refine wp_loop_rounds 4 ?_
            rw [rounds_succ]
            go_wp2_with (first | (refine wpList_load_grid rfl _ rfl b _ rfl (HG1.alloc _) ?_) | (go_at_call 36; refine (H0.out _).mono ?_; rintro e w2 ⟨rfl, hb2⟩; have HG2 := (HG1.alloc _).below hb2 (HG1.alloc _).lt; have HB2 := Aside0.mk (below_step (below_alloc HB1.out _) hb2); clear hb2))
            rw [rounds_succ]
            go_wp2_with (first | (refine wpList_load_grid rfl _ rfl b _ rfl (HG2.alloc _) ?_) | (go_at_call 36; refine (H1.out _).mono ?_; rintro e w3 ⟨rfl, hb3⟩; have HG3 := (HG2.alloc _).below hb3 (HG2.alloc _).lt; have HB3 := Aside0.mk (below_step (below_alloc HB2.out _) hb3); clear hb3))
            rw [rounds_succ]
            go_wp2_with (first | (refine wpList_load_grid rfl _ rfl b _ rfl (HG3.alloc _) ?_) | (go_at_call 36; refine (H2.out _).mono ?_; rintro e w4 ⟨rfl, hb4⟩; have HG4 := (HG3.alloc _).below hb4 (HG3.alloc _).lt; have HB4 := Aside0.mk (below_step (below_alloc HB3.out _) hb4); clear hb4))
            rw [rounds_succ]
            go_wp2_with (first | (refine wpList_load_grid rfl _ rfl b _ rfl (HG4.alloc _) ?_) | (go_at_call 36; refine (H3.out _).mono ?_; rintro e w5 ⟨rfl, hb5⟩; have HG5 := (HG4.alloc _).below hb5 (HG4.alloc _).lt; have HB5 := Aside0.mk (below_step (below_alloc HB4.out _) hb5); clear hb5))
            go_ret
            exact ⟨by rw [HE.out]; simp [HF.out, E0.out, E1.out, E2.out, E3.out], HB5.out⟩
          | false =>
            have E3 := Aside0.mk e3
            have H3 : Aside0 (∀ (W : World), Calls Try.prog 36 #[.agg (gcells f), .int .i64 (x : Int), .int .i64 ((y : Int) + 1)] W fun e w' => e = .returned (.bool false) ∧ Below W.heap.size W w') := ⟨fun W => by have h := impl_grid_has.any f (x : Int) ((y : Int) + 1) W; rw [e3] at h; exact h⟩
            clear e3
            go_enter Try.func48, Try.ntmps48
            go_wp2_with (go_at_call 49; refine (HN.out _).mono ?_; rintro e w1 ⟨rfl, hb1⟩; have HG1 := HG.out.below hb1 HG.out.lt; have HB1 := Aside0.mk hb1; clear hb1)
            refine wp_loop_rounds 5 ?_
            rw [rounds_succ]
            go_wp2_with (first | (refine wpList_load_grid rfl _ rfl b _ rfl (HG1.alloc _) ?_) | (go_at_call 36; refine (H0.out _).mono ?_; rintro e w2 ⟨rfl, hb2⟩; have HG2 := (HG1.alloc _).below hb2 (HG1.alloc _).lt; have HB2 := Aside0.mk (below_step (below_alloc HB1.out _) hb2); clear hb2))
            rw [rounds_succ]
            go_wp2_with (first | (refine wpList_load_grid rfl _ rfl b _ rfl (HG2.alloc _) ?_) | (go_at_call 36; refine (H1.out _).mono ?_; rintro e w3 ⟨rfl, hb3⟩; have HG3 := (HG2.alloc _).below hb3 (HG2.alloc _).lt; have HB3 := Aside0.mk (below_step (below_alloc HB2.out _) hb3); clear hb3))
            rw [rounds_succ]
            go_wp2_with (first | (refine wpList_load_grid rfl _ rfl b _ rfl (HG3.alloc _) ?_) | (go_at_call 36; refine (H2.out _).mono ?_; rintro e w4 ⟨rfl, hb4⟩; have HG4 := (HG3.alloc _).below hb4 (HG3.alloc _).lt; have HB4 := Aside0.mk (below_step (below_alloc HB3.out _) hb4); clear hb4))
            rw [rounds_succ]
            go_wp2_with (first | (refine wpList_load_grid rfl _ rfl b _ rfl (HG4.alloc _) ?_) | (go_at_call 36; refine (H3.out _).mono ?_; rintro e w5 ⟨rfl, hb5⟩; have HG5 := (HG4.alloc _).below hb5 (HG4.alloc _).lt; have HB5 := Aside0.mk (below_step (below_alloc HB4.out _) hb5); clear hb5))
            rw [rounds_succ]
            go_wp2
            go_ret
            exact ⟨by rw [HE.out]; simp [HF.out, E0.out, E1.out, E2.out, E3.out], HB5.out⟩
set_option maxHeartbeats 8000000 in
set_option maxRecDepth 100000 in
theorem impl_grid_grown.any (f : Nat → Bool) (n : Nat) (hn : n ≤ 16) (w : World) :
    Calls Try.prog 31 #[.agg (gcells f), .int .i64 n] w fun e w' => e = .returned (.agg (gcells (growN f n))) ∧ Below w.heap.size w w' := by
  have HCL : Aside0 (∀ (g : Nat → Bool) (b0 : Nat) (W : World), IsGrid W b0 g → Calls Try.prog 34 #[.func (.func 48) #[] #[.pointer (some ⟨b0, 0, none⟩)]] W fun e w' => e = .returned (.agg (gcells (grownF g))) ∧ Below W.heap.size W w') :=
    ⟨fun g b0 W g0 => impl_gridBy.at_ 48 _ _ (grownF g) Try.func48 (by kernel_rfl) rfl W (fun x y w' hx hy hb => impl_grid_grown_1.any g x y hx hy _ w' (g0.below hb g0.lt))⟩
  have hO := @IsGrid.otherRow
  clear hO
  go_enter Try.func31, Try.ntmps31
  go_wp2_with (first | (refine wpList_box_grid rfl _ rfl f rfl ?_; (try simp only [gsize_alloc])) | (refine wpList_alloc_grid rfl rfl ?_; (try simp only [gsize_alloc])))
  go_loopw [7] (fun i wr => ∃ k : Nat, k ≤ n ∧ i = .int .i64 k ∧ IsGrid wr w.heap.size (growN f k) ∧ IsGrid wr (w.heap.size + 1) (fun _ => false) ∧ Aside0 (Below w.heap.size w wr)) (fun i _ => n - (intOf i).toNat)
  case atStart => exact ⟨0, by omega, rfl, ⟨heap_alloc2_old w _ _⟩, ⟨heap_alloc2_new w _ _⟩, ⟨below_alloc (below_alloc (Below.refl w.heap.size w) _) _⟩⟩
  case round =>
    obtain ⟨k, hk, rfl, HG, HZ, HB⟩ := hrel
    by_cases hlt : k < n
    · obtain ⟨wo, rfl⟩ : ∃ wo : World, wo = wr := ⟨_, rfl⟩
      have hdk : decide ((k : Int) < (n : Int)) = true := decide_eq_true (by omega)
      have hne1 : w.heap.size ≠ wo.heap.size := by have := HG.lt; omega
      have hne2 : w.heap.size + 1 ≠ wo.heap.size := by have := HZ.lt; omega
      go_wp2_with (first
        | (refine wpList_load_grid rfl _ rfl w.heap.size _ rfl HG ?_)
        | (refine wpList_alloc_grid rfl rfl ?_; (try simp only [gsize_alloc]))
        | (refine wpList_store_grid rfl _ _ rfl wo.heap.size (growN f k) (fun _ => false) rfl rfl (IsGrid.new wo _) ?_)
        | (go_at_call 34; refine (HCL.out _ _ _ ((IsGrid.new wo (fun _ => false)).setRow (growN f k))).mono ?_; rintro e w1 ⟨rfl, hb1⟩; have HG1 := ((HG.alloc _).otherRow wo.heap.size (gcells (growN f k)) hne1).below hb1 ((HG.alloc _).otherRow wo.heap.size (gcells (growN f k)) hne1).lt; have HZ1 := ((HZ.alloc _).otherRow wo.heap.size (gcells (growN f k)) hne2).below hb1 ((HZ.alloc _).otherRow wo.heap.size (gcells (growN f k)) hne2).lt; have HB1 := Aside0.mk (below_step (below_setRow (below_alloc HB.out _) wo.heap.size (gcells (growN f k)) HB.out.size) hb1); clear hb1)
        | (refine wpList_store_grid rfl _ _ rfl w.heap.size _ _ rfl rfl HG1 ?_))
      go_roundw
      case rel => exact ⟨k + 1, by omega, by go_num, HG1.setRow _, HZ1.otherRow _ _ (by omega), ⟨below_setRow HB1.out _ _ (Nat.le_refl _)⟩⟩
      case measure => simp [intOf]; omega
    · have hk' : k = n := by omega
      subst hk'
      have hdk : decide ((k : Int) < (k : Int)) = false := decide_eq_false (by omega)
      go_wp2_with (first | (refine wpList_load_grid rfl _ rfl w.heap.size _ rfl HG ?_) | (refine wpList_store_grid rfl _ _ rfl (w.heap.size + 1) _ _ rfl rfl HZ ?_))
      refine bodyPost_ret (results_cell_row rfl _ _ (w.heap.size + 1) _ _ _ _ rfl (HZ.setRow _).out Try.underlying50 rfl (by rw [gcells_size]; exact grid_size)) rfl ⟨rfl, ?_⟩
      exact below_setRow HB.out _ _ (Nat.le_succ _)

end Go.Proofs.Ytceoecmjccakgaa.Print
