-- laid by hp.py (a program of this work over the kit's print), with contracts by hand for what the print does not take
import Derived.Test.YtmaiifghplcjeaaPrint0
import Derived.Test.YtmaiifghplcjeaaPrintHx0
import Derived.Test.YtmaiifghplcjeaaPrintR0x0
namespace Go.Proofs.Ytmaiifghplcjeaa.Print
open Go.RowKit Go.Proofs.YtmaiifghplcjeaaW.PrintWords Go.Proofs.YtmaiifghplcjeaaW.PrintLast Go.Proofs.YtmaiifghplcjeaaW.PrintMore
attribute [local go_sem] max2_int min2_int max_two min_two max_three min_three max_four min_four   -- for this text's walks alone
set_option linter.unusedVariables false
set_option linter.unusedSimpArgs false

/-! ### impl_FillImage: function 26 -/
mutual
def impl_FillImage.j0 : Nat → Int → Int → List Int → Bool → Int → Int → Int → Option (Int × Int × Int × List Int)
 | 0, _, _, _, _, _, _, _ => none
 | k + 1, x0, x1, x2, x35, x103000, x103001, x103002 => if x35 = true then (some (0, 0, 0, ([] : List Int))) else (impl_FillImage.l0 k x2 (wrap64 (x0 * x1)) 0 x103000 x103001 x103002 ([] : List Int))
def impl_FillImage.l0 : Nat → List Int → Int → Int → Int → Int → Int → List Int → Option (Int × Int × Int × List Int)
 | 0, _, _, _, _, _, _, _ => none
 | k + 1, x2, x39, x40, x103000, x103001, x103002, x103003 => if x40 < x39 then (if x103003.length + x2.length < 17592186044416 then (impl_FillImage.l0 k x2 x39 (wrap64 (x40 + 1)) x103000 x103001 x103002 (x103003 ++ x2)) else (none)) else (some (x103000, x103001, x103002, x103003))
end
def impl_FillImage.f (k : Nat) (a0 : Int) (a1 : Int) (l2 : List Int) : Option (Int × Int × Int × List Int) := (impl_isSide.f a0).bind fun t103 => (if t103 = true then ((impl_isSide.f a1).bind fun t104 => (if t104 = true then (if (l2.length : Int) < 1 then (impl_FillImage.j0 k a0 a1 l2 true a0 a1 (l2.length : Int)) else (if (l2.length : Int) > 4 then (impl_FillImage.j0 k a0 a1 l2 true a0 a1 (l2.length : Int)) else ((impl_areBytes.f l2).bind fun t105 => (impl_FillImage.j0 k a0 a1 l2 (!t105) a0 a1 (l2.length : Int))))) else (impl_FillImage.j0 k a0 a1 l2 true a0 a1 (l2.length : Int)))) else (impl_FillImage.j0 k a0 a1 l2 true a0 a1 (l2.length : Int)))
theorem impl_FillImage.mono_l : ∀ k, (∀ y0 y1 y2 y3 y4 y5 y6, LeO (impl_FillImage.j0 k y0 y1 y2 y3 y4 y5 y6) (impl_FillImage.j0 (k + 1) y0 y1 y2 y3 y4 y5 y6)) ∧ (∀ y0 y1 y2 y3 y4 y5 y6, LeO (impl_FillImage.l0 k y0 y1 y2 y3 y4 y5 y6) (impl_FillImage.l0 (k + 1) y0 y1 y2 y3 y4 y5 y6))
 | 0 => ⟨fun _ _ _ _ _ _ _ r h => by simp [impl_FillImage.j0] at h, fun _ _ _ _ _ _ _ r h => by simp [impl_FillImage.l0] at h⟩
 | k + 1 => by
  obtain ⟨ih0, ih1⟩ := impl_FillImage.mono_l k
  refine ⟨?_, ?_⟩
  ·
   intro y0 y1 y2 y3 y4 y5 y6
   unfold impl_FillImage.j0
   repeat' first
   | (with_reducible exact ih0 _ _ _ _ _ _ _)
   | (with_reducible exact ih1 _ _ _ _ _ _ _)
   | (with_reducible exact LeO.refl _)
   | (with_reducible exact LeO.none _)
   | (with_reducible refine LeO.ite ?_ ?_)
   | (with_reducible refine LeO.bind ?_ (fun _ => ?_))
   | exact ih0 _ _ _ _ _ _ _
   | exact ih1 _ _ _ _ _ _ _
   | exact LeO.none _
   | refine LeO.ite ?_ ?_
   | refine LeO.bind ?_ (fun _ => ?_)
  intro y0 y1 y2 y3 y4 y5 y6
  unfold impl_FillImage.l0
  repeat' first
  | (with_reducible exact ih0 _ _ _ _ _ _ _)
  | (with_reducible exact ih1 _ _ _ _ _ _ _)
  | (with_reducible exact LeO.refl _)
  | (with_reducible exact LeO.none _)
  | (with_reducible refine LeO.ite ?_ ?_)
  | (with_reducible refine LeO.bind ?_ (fun _ => ?_))
  | exact ih0 _ _ _ _ _ _ _
  | exact ih1 _ _ _ _ _ _ _
  | exact LeO.none _
  | refine LeO.ite ?_ ?_
  | refine LeO.bind ?_ (fun _ => ?_)
theorem impl_FillImage.mono : ∀ a0 a1 a2 k, LeO (impl_FillImage.f k a0 a1 a2) (impl_FillImage.f (k + 1) a0 a1 a2) := by
 intro a0 a1 a2 k
 obtain ⟨ih0, ih1⟩ := impl_FillImage.mono_l k
 unfold impl_FillImage.f
 repeat' first
   | (with_reducible exact ih0 _ _ _ _ _ _ _)
   | (with_reducible exact ih1 _ _ _ _ _ _ _)
   | (with_reducible exact LeO.refl _)
   | (with_reducible exact LeO.none _)
   | (with_reducible refine LeO.ite ?_ ?_)
   | (with_reducible refine LeO.bind ?_ (fun _ => ?_))
   | exact ih0 _ _ _ _ _ _ _
   | exact ih1 _ _ _ _ _ _ _
   | exact LeO.none _
   | refine LeO.ite ?_ ?_
   | refine LeO.bind ?_ (fun _ => ?_)
set_option maxHeartbeats 8000000 in
set_option maxRecDepth 100000 in
theorem impl_FillImage.calls (k : Nat) (a0 : Int) (a1 : Int) (A2 : Option Addr) (c2 : Nat) (l2 : List Int) (r1 : Int) (r2 : Int) (r3 : Int) (r4 : List Int) (w : World) (hr2 : Kd.C (Kd.int .i64) w A2 l2.length l2) (hc2 : l2.length ≤ c2) (h : impl_FillImage.f k a0 a1 l2 = some (r1, r2, r3, r4)) :
  Calls Try.prog 26 #[.int .i64 a0, .int .i64 a1, .slice A2 l2.length c2] w fun e w' => ∃ v3_ : Value, e = .returned (.agg #[.int .i64 r1, .int .i64 r2, .int .i64 r3, v3_]) ∧ Kd.R (Kd.int .i64) 3 w' w.heap.size (fun _ => True) v3_ r4 ∧ Below w.heap.size w w' := by
 have hu26 := Try.underlying26
 have HR2 := Aside0.mk hr2
 have HC2 := Aside0.mk hc2
 clear hr2 hc2
 have HB := Aside0.mk (Below.refl w.heap.size w)
 have H : ((impl_isSide.f a0).bind fun t103 => (if t103 = true then ((impl_isSide.f a1).bind fun t104 => (if t104 = true then (if (l2.length : Int) < 1 then (impl_FillImage.j0 k a0 a1 l2 true a0 a1 (l2.length : Int)) else (if (l2.length : Int) > 4 then (impl_FillImage.j0 k a0 a1 l2 true a0 a1 (l2.length : Int)) else ((impl_areBytes.f l2).bind fun t105 => (impl_FillImage.j0 k a0 a1 l2 (!t105) a0 a1 (l2.length : Int))))) else (impl_FillImage.j0 k a0 a1 l2 true a0 a1 (l2.length : Int)))) else (impl_FillImage.j0 k a0 a1 l2 true a0 a1 (l2.length : Int)))) = some (r1, r2, r3, r4) := h
 clear h
 have HC4 := Aside0.mk H
 clear H
 go_enter Try.func26, Try.ntmps26
 go_upto_region 2 with (first | ((with_reducible refine gate_dst (N := 6) rfl ?_); (try (refine gate_guard (by rfl) ?_; dsimp only)); refine box_event ?hg (N := 6) ?hd (cs := #[.int .i64 0, .int .i64 0, .int .i64 0, .slice none 0 0]) (t := 26) ?hr ?_; (case hd => rfl); (case hg => rfl); (case hr => first | (go_simp; done) | (go_simp; rfl)); intro gb101 hg w5 hbox hb; have BK101 := am_ (hbox); have GW101 := am_ ((by rw [hg]; exact (below_size (by repeat (first | (with_reducible first | exact HB.out | apply below_alloc | apply pw_below_drewN | apply below_drew1) | exact HB.out))) : w.heap.size ≤ gb101)); have GE101 := GW101; replace HB := am_ (below_step (by repeat (first | (with_reducible first | exact HB.out | apply below_alloc | apply pw_below_drewN | apply below_drew1) | exact HB.out)) hb); clear hb hbox hg) | ((with_reducible refine gate_dst (N := 7) rfl ?_); (try (refine gate_guard (by rfl) ?_; dsimp only)); refine box_event ?hg (N := 7) ?hd (cs := #[.int .i64 0, .int .i64 0, .int .i64 0, .slice none 0 0]) (t := 26) ?hr ?_; (case hd => rfl); (case hg => rfl); (case hr => first | (go_simp; done) | (go_simp; rfl)); intro gb102 hg w6 hbox hb; have BK102 := am_ (hbox); have GW102 := am_ ((by rw [hg]; exact (below_size (by repeat (first | (with_reducible first | exact HB.out | apply below_alloc | apply pw_below_drewN | apply below_drew1 | refine below_set ?_ GE101.out) | exact HB.out))) : w.heap.size ≤ gb102)); have GE102 := GW102; replace HB := am_ (below_step (by repeat (first | (with_reducible first | exact HB.out | apply below_alloc | apply pw_below_drewN | apply below_drew1 | refine below_set ?_ GE101.out) | exact HB.out)) hb); have NB101_102 := am_ ((by rw [hg]; exact Nat.ne_of_lt (blk_lt (by exact BK101.out)) : gb101 ≠ gb102)); have NB102_101 := am_ ((by rw [hg]; exact Nat.ne_of_gt (blk_lt (by exact BK101.out)) : gb102 ≠ gb101)); replace BK101 := am_ (blk_below (by exact BK101.out) hb); clear hb hbox hg; have hnb7 := NB102_101.out; have hnc7 := NB101_102.out; obtain ⟨hcz8_0, hcz8_1, hcz8_2, hcz8_3, hfz8_0, hfz8_1, hfz8_2, hfz8_3⟩ := blk4_ BK102.out))
 (try simp only [Act.put, List.setIfInBounds_toArray, List.set_cons_zero, List.set_cons_succ])
 go_cut [35] (fun v35 wc => ∃ (kq : Nat) (x35_3 : Bool), v35 = .bool x35_3 ∧ Aside0 (impl_FillImage.j0 kq a0 a1 l2 x35_3 a0 a1 (l2.length : Int) = some (r1, r2, r3, r4)) ∧ Aside0 (kq ≤ k) ∧ Aside0 (wc.heap[gb101]? = some (.cells #[.int .i64 0, .int .i64 0, .int .i64 0, (.slice none 0 0)] 26 (0, 0))) ∧ Aside0 (wc.heap[gb102]? = some (.cells #[.int .i64 a0, .int .i64 a1, .int .i64 (l2.length : Int), (.slice none 0 0)] 26 (0, 0))) ∧ Aside0 (Below w.heap.size w wc))
 case first =>
  have H := HC4.out
  clear HC4
  replace H := Option.bind_eq_some_iff.mp H
  obtain ⟨t103, A90, H⟩ := H
  replace H : (if t103 = true then ((impl_isSide.f a1).bind fun t104 => (if t104 = true then (if (l2.length : Int) < 1 then (impl_FillImage.j0 k a0 a1 l2 true a0 a1 (l2.length : Int)) else (if (l2.length : Int) > 4 then (impl_FillImage.j0 k a0 a1 l2 true a0 a1 (l2.length : Int)) else ((impl_areBytes.f l2).bind fun t105 => (impl_FillImage.j0 k a0 a1 l2 (!t105) a0 a1 (l2.length : Int))))) else (impl_FillImage.j0 k a0 a1 l2 true a0 a1 (l2.length : Int)))) else (impl_FillImage.j0 k a0 a1 l2 true a0 a1 (l2.length : Int))) = some (r1, r2, r3, r4) := H
  have A9 := Aside0.mk A90
  clear A90
  by_cases c10 : t103 = true
  rotate_left
  ·
   replace c10 := Bool.eq_false_iff.mpr c10
   subst c10
   have H1 : (impl_FillImage.j0 k a0 a1 l2 true a0 a1 (l2.length : Int)) = some (r1, r2, r3, r4) := by rw [if_neg (show ¬ (false = true) by decide)] at H; exact H
   clear H
   have H := H1
   clear H1
   have H' := Aside0.mk H
   clear H
   go_wp2_with (first | ((with_reducible refine gate_callee (f := 53) rfl ?_); refine goesL_ (some 14) rfl rfl Try.func53 (by kernel_rfl) rfl #[.int .i64 a0] rfl (by simp only [List.map_toArray, List.map_cons, List.map_nil]; rfl) ?_; (with_reducible refine (impl_isSide.calls a0 false _ A9.out).mono ?_); rintro e w' ⟨rfl, ⟨nd, rfl⟩⟩; refine ⟨_, rfl, ?_⟩))
   go_meet
   case rel => exact ⟨_, (true), (by first | rfl | (simp; done) | (simp [*]; done)), H', ⟨by first | omega | exact Nat.le_refl _⟩, ⟨by exact far4_ BK101.out NB101_102.out _ _ _ _⟩, ⟨by exact put4_ BK102.out _ _ _ _⟩, ⟨by repeat (first | (with_reducible first | exact HB.out | apply below_alloc | apply pw_below_drewN | apply below_drew1 | refine below_set ?_ GE101.out | refine below_set ?_ GE102.out) | exact HB.out)⟩⟩
  subst c10
  have H1 : ((impl_isSide.f a1).bind fun t104 => (if t104 = true then (if (l2.length : Int) < 1 then (impl_FillImage.j0 k a0 a1 l2 true a0 a1 (l2.length : Int)) else (if (l2.length : Int) > 4 then (impl_FillImage.j0 k a0 a1 l2 true a0 a1 (l2.length : Int)) else ((impl_areBytes.f l2).bind fun t105 => (impl_FillImage.j0 k a0 a1 l2 (!t105) a0 a1 (l2.length : Int))))) else (impl_FillImage.j0 k a0 a1 l2 true a0 a1 (l2.length : Int)))) = some (r1, r2, r3, r4) := by rw [if_pos rfl] at H; exact H
  clear H
  have H := H1
  clear H1
  replace H := Option.bind_eq_some_iff.mp H
  obtain ⟨t104, A110, H⟩ := H
  replace H : (if t104 = true then (if (l2.length : Int) < 1 then (impl_FillImage.j0 k a0 a1 l2 true a0 a1 (l2.length : Int)) else (if (l2.length : Int) > 4 then (impl_FillImage.j0 k a0 a1 l2 true a0 a1 (l2.length : Int)) else ((impl_areBytes.f l2).bind fun t105 => (impl_FillImage.j0 k a0 a1 l2 (!t105) a0 a1 (l2.length : Int))))) else (impl_FillImage.j0 k a0 a1 l2 true a0 a1 (l2.length : Int))) = some (r1, r2, r3, r4) := H
  have A11 := Aside0.mk A110
  clear A110
  by_cases c12 : t104 = true
  rotate_left
  ·
   replace c12 := Bool.eq_false_iff.mpr c12
   subst c12
   have H1 : (impl_FillImage.j0 k a0 a1 l2 true a0 a1 (l2.length : Int)) = some (r1, r2, r3, r4) := by rw [if_neg (show ¬ (false = true) by decide)] at H; exact H
   clear H
   have H := H1
   clear H1
   have H' := Aside0.mk H
   clear H
   go_wp2_with (first | ((with_reducible refine gate_callee (f := 53) rfl ?_); refine goesL_ (some 14) rfl rfl Try.func53 (by kernel_rfl) rfl #[.int .i64 a0] rfl (by simp only [List.map_toArray, List.map_cons, List.map_nil]; rfl) ?_; (with_reducible refine (impl_isSide.calls a0 true _ A9.out).mono ?_); rintro e w' ⟨rfl, ⟨nd, rfl⟩⟩; refine ⟨_, rfl, ?_⟩) | (go_at_call 53; (with_reducible refine (impl_isSide.calls a1 false _ A11.out).mono ?_); rintro e w' ⟨rfl, ⟨nd, rfl⟩⟩))
   go_meet
   case rel => exact ⟨_, (true), (by first | rfl | (simp; done) | (simp [*]; done)), H', ⟨by first | omega | exact Nat.le_refl _⟩, ⟨by exact far4_ BK101.out NB101_102.out _ _ _ _⟩, ⟨by exact put4_ BK102.out _ _ _ _⟩, ⟨by repeat (first | (with_reducible first | exact HB.out | apply below_alloc | apply pw_below_drewN | apply below_drew1 | refine below_set ?_ GE101.out | refine below_set ?_ GE102.out) | exact HB.out)⟩⟩
  subst c12
  have H1 : (if (l2.length : Int) < 1 then (impl_FillImage.j0 k a0 a1 l2 true a0 a1 (l2.length : Int)) else (if (l2.length : Int) > 4 then (impl_FillImage.j0 k a0 a1 l2 true a0 a1 (l2.length : Int)) else ((impl_areBytes.f l2).bind fun t105 => (impl_FillImage.j0 k a0 a1 l2 (!t105) a0 a1 (l2.length : Int))))) = some (r1, r2, r3, r4) := by rw [if_pos rfl] at H; exact H
  clear H
  have H := H1
  clear H1
  by_cases c13 : (l2.length : Int) < 1
  ·
   rw [if_pos c13] at H
   have c13b0 : decide ((l2.length : Int) < 1) = true := decide_eq_true c13
   have c13b1 : decide (l2.length < 1) = true := decide_eq_true (by omega)
   clear c13
   (first | rw [c13b0] | (simp only [i64_w, i32_w]; rw [c13b0]) | skip)
   have H' := Aside0.mk H
   clear H
   go_wp2_with (first | ((with_reducible refine gate_callee (f := 53) rfl ?_); refine goesL_ (some 14) rfl rfl Try.func53 (by kernel_rfl) rfl #[.int .i64 a0] rfl (by simp only [List.map_toArray, List.map_cons, List.map_nil]; rfl) ?_; (with_reducible refine (impl_isSide.calls a0 true _ A9.out).mono ?_); rintro e w' ⟨rfl, ⟨nd, rfl⟩⟩; refine ⟨_, rfl, ?_⟩) | (go_at_call 53; (with_reducible refine (impl_isSide.calls a1 true _ A11.out).mono ?_); rintro e w' ⟨rfl, ⟨nd, rfl⟩⟩))
   go_meet
   case rel => exact ⟨_, (true), (by first | rfl | (simp; done) | (simp [*]; done)), H', ⟨by first | omega | exact Nat.le_refl _⟩, ⟨by exact far4_ BK101.out NB101_102.out _ _ _ _⟩, ⟨by exact put4_ BK102.out _ _ _ _⟩, ⟨by repeat (first | (with_reducible first | exact HB.out | apply below_alloc | apply pw_below_drewN | apply below_drew1 | refine below_set ?_ GE101.out | refine below_set ?_ GE102.out) | exact HB.out)⟩⟩
  rw [if_neg c13] at H
  have c13b0 : decide ((l2.length : Int) < 1) = false := decide_eq_false c13
  have c13b1 : decide (l2.length < 1) = false := decide_eq_false (by omega)
  clear c13
  (first | rw [c13b0] | (simp only [i64_w, i32_w]; rw [c13b0]) | skip)
  by_cases c14 : (l2.length : Int) > 4
  ·
   rw [if_pos c14] at H
   have c14b0 : decide (4 < (l2.length : Int)) = true := decide_eq_true c14
   have c14b1 : decide (4 < l2.length) = true := decide_eq_true (by omega)
   clear c14
   have H' := Aside0.mk H
   clear H
   go_wp2_with (first | ((with_reducible refine gate_callee (f := 53) rfl ?_); refine goesL_ (some 14) rfl rfl Try.func53 (by kernel_rfl) rfl #[.int .i64 a0] rfl (by simp only [List.map_toArray, List.map_cons, List.map_nil]; rfl) ?_; (with_reducible refine (impl_isSide.calls a0 true _ A9.out).mono ?_); rintro e w' ⟨rfl, ⟨nd, rfl⟩⟩; refine ⟨_, rfl, ?_⟩) | (go_at_call 53; (with_reducible refine (impl_isSide.calls a1 true _ A11.out).mono ?_); rintro e w' ⟨rfl, ⟨nd, rfl⟩⟩))
   go_meet
   case rel => exact ⟨_, (true), (by first | rfl | (simp; done) | (simp [*]; done)), H', ⟨by first | omega | exact Nat.le_refl _⟩, ⟨by exact far4_ BK101.out NB101_102.out _ _ _ _⟩, ⟨by exact put4_ BK102.out _ _ _ _⟩, ⟨by repeat (first | (with_reducible first | exact HB.out | apply below_alloc | apply pw_below_drewN | apply below_drew1 | refine below_set ?_ GE101.out | refine below_set ?_ GE102.out) | exact HB.out)⟩⟩
  rw [if_neg c14] at H
  have c14b0 : decide (4 < (l2.length : Int)) = false := decide_eq_false c14
  have c14b1 : decide (4 < l2.length) = false := decide_eq_false (by omega)
  clear c14
  replace H := Option.bind_eq_some_iff.mp H
  obtain ⟨t105, A150, H⟩ := H
  replace H : (impl_FillImage.j0 k a0 a1 l2 (!t105) a0 a1 (l2.length : Int)) = some (r1, r2, r3, r4) := H
  have A15 := Aside0.mk A150
  clear A150
  have H' := Aside0.mk H
  clear H
  go_wp2_with (first | ((with_reducible refine gate_callee (f := 53) rfl ?_); refine goesL_ (some 14) rfl rfl Try.func53 (by kernel_rfl) rfl #[.int .i64 a0] rfl (by simp only [List.map_toArray, List.map_cons, List.map_nil]; rfl) ?_; (with_reducible refine (impl_isSide.calls a0 true _ A9.out).mono ?_); rintro e w' ⟨rfl, ⟨nd, rfl⟩⟩; refine ⟨_, rfl, ?_⟩) | (go_at_call 53; (with_reducible refine (impl_isSide.calls a1 true _ A11.out).mono ?_); rintro e w' ⟨rfl, ⟨nd, rfl⟩⟩) | (go_at_call 67; (with_reducible refine (impl_areBytes.calls _ _ l2 t105 _ ?side1 ?side2 A15.out).mono ?_); (case side1 => exact Kd.C_below HR2.out (by repeat (first | (with_reducible first | exact HB.out | apply below_alloc | apply pw_below_drewN | apply below_drew1 | refine below_set ?_ GE101.out | refine below_set ?_ GE102.out) | exact HB.out))); (case side2 => exact HC2.out); rintro e w' ⟨rfl, ⟨nd, rfl⟩⟩))
  go_meet
  case rel => exact ⟨_, (!t105), (by first | rfl | (simp; done) | (simp [*]; done)), H', ⟨by first | omega | exact Nat.le_refl _⟩, ⟨by exact far4_ BK101.out NB101_102.out _ _ _ _⟩, ⟨by exact put4_ BK102.out _ _ _ _⟩, ⟨by repeat (first | (with_reducible first | exact HB.out | apply below_alloc | apply pw_below_drewN | apply below_drew1 | refine below_set ?_ GE101.out | refine below_set ?_ GE102.out) | exact HB.out)⟩⟩
 case rest =>
  clear HC4
  try clear c1
  try clear c2
  try clear p2
  try clear c5
  try clear c7
  try clear c10
  try clear c12
  try clear c13
  try clear c13b0
  try clear c13b1
  try clear c14
  try clear c14b0
  try clear c14b1
  try clear hcz8_0
  try clear hcz8_1
  try clear hcz8_2
  try clear hcz8_3
  try clear hfz8_0
  try clear hfz8_1
  try clear hfz8_2
  try clear hfz8_3
  obtain ⟨kq, x35_3, rfl, HA, HJ3, BK101, BK102, HB⟩ := hcut
  cases kq with
  | zero => exact absurd HA.out (by simp [impl_FillImage.j0])
  | succ kj3 =>
   have H := HA.out
   clear HA
   simp only [impl_FillImage.j0] at H
   by_cases c16 : x35_3 = true
   ·
    subst c16
    have H1 : (some (0, 0, 0, ([] : List Int))) = some (r1, r2, r3, r4) := by rw [if_pos rfl] at H; exact H
    clear H
    have H := H1
    clear H1
    simp only [Option.some.injEq, Prod.mk.injEq] at H
    obtain ⟨rfl, rfl, rfl, rfl⟩ := H
    have hnb17 := NB101_102.out
    have hnc17 := NB102_101.out
    obtain ⟨hcz18_0, hcz18_1, hcz18_2, hcz18_3, hfz18_0, hfz18_1, hfz18_2, hfz18_3⟩ := blk4_ BK101.out
    go_wp2
    refine bodyPost_ret (results_cell_row rfl _ _ gb101 26 #[.int .i64 0, .int .i64 0, .int .i64 0, .slice none 0 0] (0, 0) _ rfl (by exact put4_ BK101.out _ _ _ _) Try.underlying26 rfl (by kernel_rfl)) rfl ?_
    exact ⟨_, by first | rfl | (simp [errW_none, errW_some] <;> rfl) | (simp [*, errW_none, errW_some] <;> rfl), by first | exact Kd.R_nil _ _ _ _ _ | exact Kd.N_nil _ _ _ _ _ | exact Kd.V_nil _ _ _ _ _ | exact Kd.Q_nil _ _ _ _ _ | exact Kd.S_nil _ _ _ _ _, by repeat (first | (with_reducible first | exact HB.out | apply below_alloc | apply pw_below_drewN | apply below_drew1 | refine below_set ?_ GE101.out | refine below_set ?_ GE102.out) | exact HB.out)⟩
   replace c16 := Bool.eq_false_iff.mpr c16
   subst c16
   have H1 : (impl_FillImage.l0 kj3 l2 (wrap64 (a0 * a1)) 0 a0 a1 (l2.length : Int) ([] : List Int)) = some (r1, r2, r3, r4) := by rw [if_neg (show ¬ (false = true) by decide)] at H; exact H
   clear H
   have H := H1
   clear H1
   have H' := Aside0.mk H
   clear H
   go_wp2
   go_loopg [40] kj3 (fun kq v40 w' => ∃ (x40_2 : Int) (x103003_2 : List Int) (u103003 : Value), v40 = .int .i64 x40_2 ∧ Aside0 (impl_FillImage.l0 kq l2 (wrap64 (a0 * a1)) x40_2 a0 a1 (l2.length : Int) x103003_2 = some (r1, r2, r3, r4)) ∧ Aside0 (kq ≤ kj3) ∧ Aside0 (Kd.R (Kd.int .i64) 3 w' w.heap.size (fun _ => True) u103003 x103003_2) ∧ Aside0 (w'.heap[gb101]? = some (.cells #[.int .i64 0, .int .i64 0, .int .i64 0, (.slice none 0 0)] 26 (0, 0))) ∧ Aside0 (w'.heap[gb102]? = some (.cells #[.int .i64 a0, .int .i64 a1, .int .i64 (l2.length : Int), u103003] 26 (0, 0))) ∧ Aside0 (Below w.heap.size w w'))
   case atStart => exact ⟨(0), (([] : List Int)), (.slice none 0 0), (by first | rfl | (simp; done) | (simp [*]; done)), H', ⟨Nat.le_refl _⟩, ⟨by first | exact Kd.R_nil _ _ _ _ _ | exact Kd.N_nil _ _ _ _ _ | exact Kd.V_nil _ _ _ _ _ | exact Kd.Q_nil _ _ _ _ _ | exact Kd.S_nil _ _ _ _ _⟩, ⟨by exact BK101.out⟩, ⟨by exact BK102.out⟩, ⟨by repeat (first | (with_reducible first | exact HB.out | apply below_alloc | apply pw_below_drewN | apply below_drew1 | refine below_set ?_ GE101.out | refine below_set ?_ GE102.out) | exact HB.out)⟩⟩
   case round =>
    clear H'
    try clear c1
    try clear c2
    try clear p2
    try clear c5
    try clear p6
    try clear c7
    try clear c10
    try clear c12
    try clear c13
    try clear c13b0
    try clear c13b1
    try clear c14
    try clear c14b0
    try clear c14b1
    try clear c16
    try clear c17
    try clear hcz18_0
    try clear hcz18_1
    try clear hcz18_2
    try clear hcz18_3
    try clear hcz8_0
    try clear hcz8_1
    try clear hcz8_2
    try clear hcz8_3
    try clear hfz18_0
    try clear hfz18_1
    try clear hfz18_2
    try clear hfz18_3
    try clear hfz8_0
    try clear hfz8_1
    try clear hfz8_2
    try clear hfz8_3
    try clear p2
    obtain ⟨x40_2, x103003_2, u103003, rfl, HA, HK2, HO_103003, BK101, BK102, HB⟩ := hrel
    cases gk with
    | zero => exact absurd HA.out (by simp [impl_FillImage.l0])
    | succ k2 =>
     have H := HA.out
     clear HA
     simp only [impl_FillImage.l0] at H
     by_cases c19 : x40_2 < (wrap64 (a0 * a1))
     ·
      rw [if_pos c19] at H
      have c19b0 : decide (x40_2 < (wrap64 (a0 * a1))) = true := decide_eq_true c19
      clear c19
      by_cases c20 : x103003_2.length + l2.length < 17592186044416
      rotate_left
      ·
       rw [if_neg c20] at H
       exact absurd H (by simp)
      rw [if_pos c20] at H
      have LMc20 := Aside0.mk c20
      clear c20
      obtain ⟨y106, hy106⟩ : ∃ y_ : List Int, y_ = (x103003_2 ++ l2) := ⟨_, rfl⟩
      replace H : (impl_FillImage.l0 k2 l2 (wrap64 (a0 * a1)) (wrap64 (x40_2 + 1)) a0 a1 (l2.length : Int) y106) = some (r1, r2, r3, r4) := by first | (rw [hy106]; with_reducible exact H) | (have H2_ := (Option.bind_some _ _).symm.trans H; rw [hy106]; with_reducible exact H2_) | (have H2_ := (Option.bind_some _ _).symm.trans H; with_reducible exact H2_) | with_reducible exact H | (rw [hy106]; exact H) | exact H
      have Ny106 := Aside0.mk hy106
      clear hy106
      have H' := Aside0.mk H
      clear H
      have hnb21 := NB102_101.out
      have hnc21 := NB101_102.out
      obtain ⟨hcz22_0, hcz22_1, hcz22_2, hcz22_3, hfz22_0, hfz22_1, hfz22_2, hfz22_3⟩ := blk4_ BK102.out
      go_wp2_with (first | ((with_reducible refine gate_builtin (b := .append) (xs := #[.tmp 43, .tmp 44]) rfl ?_); (try (refine gate_guard (by rfl) ?_; dsimp only)); at_builtin; refine Kd.R_append_rows (Kd.int .i64) (w0 := w) w.heap.size rfl (.tmp 43) (.tmp 44) 22 3 (.int .i64 0) 8 rfl Try.underlying22 info3 rfl (by decide) (by omega) u103003 x103003_2 l2 _ _ _ (fun _ => True) (fun _ => False) rfl rfl ?aO ?aR (fun _ _ h => h) (fun _ h => h.elim) ?aF ?aB ?aS ?aL ?_; (case aR => repeat (first | exact (Kd.C_below HR2.out HB.out) | (with_reducible refine Kd.C_alloc ?_ _) | (with_reducible refine Kd.C_drewN ?_ _) | (with_reducible refine Kd.C_drew ?_))); (case aB => exact (by repeat (first | (with_reducible first | exact HB.out | apply below_alloc | apply pw_below_drewN | apply below_drew1 | refine below_set ?_ GE101.out | refine below_set ?_ GE102.out) | exact HB.out))); (case aF => exact (fun _ _ => trivial)); (case aO => exact (by exact HO_103003.out)); (case aS => exact (below_size (by repeat (first | (with_reducible first | exact HB.out | apply below_alloc | apply pw_below_drewN | apply below_drew1 | refine below_set ?_ GE101.out | refine below_set ?_ GE102.out) | exact HB.out)))); (case aL => have := LMc20.out; omega); intro v107 w23 ho hb hg hat; rw [← Ny106.out] at ho; replace BK101 := am_ (blk_grown (by exact BK101.out) hg (Kd.R_ne HO_103003.out BK101.out (by decide))); replace BK102 := am_ (blk_grown (by exact BK102.out) hg (Kd.R_ne HO_103003.out BK102.out (by decide))); replace HB := am_ (hb); have HO108 := am_ (ho); clear HO_103003; clear ho hb hg hat; obtain ⟨Ao24, co24, eo24⟩ := Kd.R_slice HO108.out; subst eo24; obtain ⟨hcz25_0, hcz25_1, hcz25_2, hcz25_3, hfz25_0, hfz25_1, hfz25_2, hfz25_3⟩ := blk4_ BK102.out))
      go_roundg k2
      case measure => have := HJ3.out; have := HK2.out; omega
      case rel => exact ⟨(wrap64 (x40_2 + 1)), (y106), (.slice Ao24 y106.length co24), (by first | rfl | (simp; done) | (simp [*]; done)), H', ⟨by have := HJ3.out; have := HK2.out; omega⟩, ⟨by exact Kd.R_mono (Kd.R_far (p := ⟨gb102, 3, none⟩) (Kd.R_types HO108.out BK102.out (by decide)) (fun _ hk => hk.2) (.slice Ao24 y106.length co24)) (fun _ hk => trivial)⟩, ⟨by exact blk_far BK101.out NB101_102.out _⟩, ⟨by (with_reducible repeat (first | refine blk_drewN ?_ _ | refine blk_drew ?_ | refine blk_alloc ?_ _)); refine blk_put (cs := #[.int .i64 a0, .int .i64 a1, .int .i64 (l2.length : Int), u103003]) ?_ 3 _ rfl; (with_reducible repeat (first | refine blk_drewN ?_ _ | refine blk_drew ?_ | refine blk_alloc ?_ _)); exact BK102.out⟩, ⟨by repeat (first | (with_reducible first | exact HB.out | apply below_alloc | apply pw_below_drewN | apply below_drew1 | refine below_set ?_ GE101.out | refine below_set ?_ GE102.out) | exact HB.out)⟩⟩
     rw [if_neg c19] at H
     have c19b0 : decide (x40_2 < (wrap64 (a0 * a1))) = false := decide_eq_false c19
     clear c19
     simp only [Option.some.injEq, Prod.mk.injEq] at H
     obtain ⟨rfl, rfl, rfl, rfl⟩ := H
     have hnb26 := NB102_101.out
     have hnc26 := NB101_102.out
     obtain ⟨hcz27_0, hcz27_1, hcz27_2, hcz27_3, hfz27_0, hfz27_1, hfz27_2, hfz27_3⟩ := blk4_ BK102.out
     obtain ⟨hcz28_0, hcz28_1, hcz28_2, hcz28_3, hfz28_0, hfz28_1, hfz28_2, hfz28_3⟩ := blk4_ BK101.out
     obtain ⟨Ao29, co29, eo29⟩ := Kd.R_slice HO_103003.out
     subst eo29
     go_wp2
     refine bodyPost_ret (results_cell_row rfl _ _ gb101 26 #[.int .i64 a0, .int .i64 a1, .int .i64 (l2.length : Int), .slice Ao29 x103003_2.length co29] (0, 0) _ rfl (by exact put4_ BK101.out _ _ _ _) Try.underlying26 rfl (by kernel_rfl)) rfl ?_
     exact ⟨_, by first | rfl | (simp [errW_none, errW_some] <;> rfl) | (simp [*, errW_none, errW_some] <;> rfl), by exact Kd.R_mono (Kd.R_far (p := ⟨gb101, 3, none⟩) (Kd.R_far (p := ⟨gb101, 2, none⟩) (Kd.R_far (p := ⟨gb101, 1, none⟩) (Kd.R_far (p := ⟨gb101, 0, none⟩) (Kd.R_types HO_103003.out BK101.out (by decide)) (fun _ hk => hk.2) (.int .i64 a0)) (fun _ hk => hk.2) (.int .i64 a1)) (fun _ hk => hk.2) (.int .i64 (l2.length : Int))) (fun _ hk => hk.2) (.slice Ao29 x103003_2.length co29)) (fun _ hk => trivial), by repeat (first | (with_reducible first | exact HB.out | apply below_alloc | apply pw_below_drewN | apply below_drew1 | refine below_set ?_ GE101.out | refine below_set ?_ GE102.out) | exact HB.out)⟩

end Go.Proofs.Ytmaiifghplcjeaa.Print
