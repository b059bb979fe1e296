-- laid by hp.py (a program of this work over the kit's print), with contracts by hand for what the print does not take
import Derived.Test.YtbciflelcmmldaaPrint0
import Derived.Test.YtbciflelcmmldaaPrintHx0
import Derived.Test.YtbciflelcmmldaaPrintR0x0
import Derived.Test.YtbciflelcmmldaaPrintR1x0
import Derived.Test.YtbciflelcmmldaaPrintR1x1
namespace Go.Proofs.Ytbciflelcmmldaa.Print
open Go.RowKit Go.Proofs.YtbciflelcmmldaaW.PrintWords Go.Proofs.YtbciflelcmmldaaW.PrintLast Go.Proofs.YtbciflelcmmldaaW.PrintMore
attribute [local go_sem] max2_int min2_int max_two min_two max_three min_three max_four min_four   -- for this text's walks alone
set_option linter.unusedVariables false
set_option linter.unusedSimpArgs false

/-! ### spec_FillRegion: function 27 -/
mutual
def spec_FillRegion.j0 : Nat → List (S96) → List Int → Bool → Int → Int → Int → List Int → Option (Int × Int × Int × List Int × Bool)
 | 0, _, _, _, _, _, _, _ => none
 | k + 1, x1, x2, x30, x102000, x102001, x102002, x102003 => if x30 = true then (some (0, 0, 0, ([] : List Int), false)) else ((spec_copyImage.f x102000 x102001 x102002 x102003).bind fun bt106 => (spec_FillRegion.l0 k x1 x2 0 x102000 x102001 x102002 x102003 bt106.1 bt106.2.1 bt106.2.2.1 bt106.2.2.2))
def spec_FillRegion.l0 : Nat → List (S96) → List Int → Int → Int → Int → Int → List Int → Int → Int → Int → List Int → Option (Int × Int × Int × List Int × Bool)
 | 0, _, _, _, _, _, _, _, _, _, _, _ => none
 | k + 1, x1, x2, x9, x102000, x102001, x102002, x102003, x113000, x113001, x113002, x113003 => if x9 < (x1.length : Int) then (if 0 ≤ x9 then (spec_FillRegion.l1 k x1 x2 x9 ((rd_T96 x1 x9).f1) x102000 x102001 x102002 x102003 x113000 x113001 x113002 x113003) else (none)) else (some (x113000, x113001, x113002, x113003, true))
def spec_FillRegion.l1 : Nat → List (S96) → List Int → Int → Int → Int → Int → Int → List Int → Int → Int → Int → List Int → Option (Int × Int × Int × List Int × Bool)
 | 0, _, _, _, _, _, _, _, _, _, _, _, _ => none
 | k + 1, x1, x2, x9, x10, x102000, x102001, x102002, x102003, x113000, x113001, x113002, x113003 => if 0 ≤ x9 then (if x9 < (x1.length : Int) then (if x10 < ((rd_T96 x1 x9).f2) then ((spec_onImage.f x102000 x102001 x102002 x102003 x10 ((rd_T96 x1 x9).f0)).bind fun t116 => (if t116 = true then ((spec_setPixel.f k x113000 x113001 x113002 x113003 x10 ((rd_T96 x1 x9).f0) x2).bind fun t118 => (spec_FillRegion.l1 k x1 x2 x9 (wrap64 (x10 + 1)) x102000 x102001 x102002 x102003 x113000 x113001 x113002 t118)) else (spec_FillRegion.l1 k x1 x2 x9 (wrap64 (x10 + 1)) x102000 x102001 x102002 x102003 x113000 x113001 x113002 x113003))) else (spec_FillRegion.l0 k x1 x2 (wrap64 (x9 + 1)) x102000 x102001 x102002 x102003 x113000 x113001 x113002 x113003)) else (none)) else (none)
end
def spec_FillRegion.f (k : Nat) (a0_0 : Int) (a0_1 : Int) (a0_2 : Int) (l0_3 : List Int) (l1 : List (S96)) (l2 : List Int) : Option (Int × Int × Int × List Int × Bool) := (spec_validImage.f k a0_0 a0_1 a0_2 l0_3).bind fun t103 => (if t103 = true then ((spec_validRuns.f k l1).bind fun t104 => (if t104 = true then (if (l2.length : Int) = a0_2 then ((spec_allIn.f k l2 0 255).bind fun t105 => (spec_FillRegion.j0 k l1 l2 (!t105) a0_0 a0_1 a0_2 l0_3)) else (spec_FillRegion.j0 k l1 l2 true a0_0 a0_1 a0_2 l0_3)) else (spec_FillRegion.j0 k l1 l2 true a0_0 a0_1 a0_2 l0_3))) else (spec_FillRegion.j0 k l1 l2 true a0_0 a0_1 a0_2 l0_3))
theorem spec_FillRegion.mono_l : ∀ k, (∀ y0 y1 y2 y3 y4 y5 y6, LeO (spec_FillRegion.j0 k y0 y1 y2 y3 y4 y5 y6) (spec_FillRegion.j0 (k + 1) y0 y1 y2 y3 y4 y5 y6)) ∧ (∀ y0 y1 y2 y3 y4 y5 y6 y7 y8 y9 y10, LeO (spec_FillRegion.l0 k y0 y1 y2 y3 y4 y5 y6 y7 y8 y9 y10) (spec_FillRegion.l0 (k + 1) y0 y1 y2 y3 y4 y5 y6 y7 y8 y9 y10)) ∧ (∀ y0 y1 y2 y3 y4 y5 y6 y7 y8 y9 y10 y11, LeO (spec_FillRegion.l1 k y0 y1 y2 y3 y4 y5 y6 y7 y8 y9 y10 y11) (spec_FillRegion.l1 (k + 1) y0 y1 y2 y3 y4 y5 y6 y7 y8 y9 y10 y11))
 | 0 => ⟨fun _ _ _ _ _ _ _ r h => by simp [spec_FillRegion.j0] at h, fun _ _ _ _ _ _ _ _ _ _ _ r h => by simp [spec_FillRegion.l0] at h, fun _ _ _ _ _ _ _ _ _ _ _ _ r h => by simp [spec_FillRegion.l1] at h⟩
 | k + 1 => by
  obtain ⟨ih0, ih1, ih2⟩ := spec_FillRegion.mono_l k
  refine ⟨?_, ?_, ?_⟩
  ·
   intro y0 y1 y2 y3 y4 y5 y6
   unfold spec_FillRegion.j0
   repeat' first
   | (with_reducible exact ih0 _ _ _ _ _ _ _)
   | (with_reducible exact ih1 _ _ _ _ _ _ _ _ _ _ _)
   | (with_reducible exact ih2 _ _ _ _ _ _ _ _ _ _ _ _)
   | (with_reducible exact spec_allIn.mono _ _ _ _)
   | (with_reducible exact spec_setPixel.mono _ _ _ _ _ _ _ _)
   | (with_reducible exact spec_validImage.mono _ _ _ _ _)
   | (with_reducible exact spec_validRuns.mono _ _)
   | (with_reducible exact LeO.refl _)
   | (with_reducible exact LeO.none _)
   | (with_reducible refine LeO.ite ?_ ?_)
   | (with_reducible refine LeO.bind ?_ (fun _ => ?_))
   | exact ih0 _ _ _ _ _ _ _
   | exact ih1 _ _ _ _ _ _ _ _ _ _ _
   | exact ih2 _ _ _ _ _ _ _ _ _ _ _ _
   | exact spec_allIn.mono _ _ _ _
   | exact spec_setPixel.mono _ _ _ _ _ _ _ _
   | exact spec_validImage.mono _ _ _ _ _
   | exact spec_validRuns.mono _ _
   | exact LeO.none _
   | refine LeO.ite ?_ ?_
   | refine LeO.bind ?_ (fun _ => ?_)
  ·
   intro y0 y1 y2 y3 y4 y5 y6 y7 y8 y9 y10
   unfold spec_FillRegion.l0
   repeat' first
   | (with_reducible exact ih0 _ _ _ _ _ _ _)
   | (with_reducible exact ih1 _ _ _ _ _ _ _ _ _ _ _)
   | (with_reducible exact ih2 _ _ _ _ _ _ _ _ _ _ _ _)
   | (with_reducible exact spec_allIn.mono _ _ _ _)
   | (with_reducible exact spec_setPixel.mono _ _ _ _ _ _ _ _)
   | (with_reducible exact spec_validImage.mono _ _ _ _ _)
   | (with_reducible exact spec_validRuns.mono _ _)
   | (with_reducible exact LeO.refl _)
   | (with_reducible exact LeO.none _)
   | (with_reducible refine LeO.ite ?_ ?_)
   | (with_reducible refine LeO.bind ?_ (fun _ => ?_))
   | exact ih0 _ _ _ _ _ _ _
   | exact ih1 _ _ _ _ _ _ _ _ _ _ _
   | exact ih2 _ _ _ _ _ _ _ _ _ _ _ _
   | exact spec_allIn.mono _ _ _ _
   | exact spec_setPixel.mono _ _ _ _ _ _ _ _
   | exact spec_validImage.mono _ _ _ _ _
   | exact spec_validRuns.mono _ _
   | exact LeO.none _
   | refine LeO.ite ?_ ?_
   | refine LeO.bind ?_ (fun _ => ?_)
  intro y0 y1 y2 y3 y4 y5 y6 y7 y8 y9 y10 y11
  unfold spec_FillRegion.l1
  repeat' first
  | (with_reducible exact ih0 _ _ _ _ _ _ _)
  | (with_reducible exact ih1 _ _ _ _ _ _ _ _ _ _ _)
  | (with_reducible exact ih2 _ _ _ _ _ _ _ _ _ _ _ _)
  | (with_reducible exact spec_allIn.mono _ _ _ _)
  | (with_reducible exact spec_setPixel.mono _ _ _ _ _ _ _ _)
  | (with_reducible exact spec_validImage.mono _ _ _ _ _)
  | (with_reducible exact spec_validRuns.mono _ _)
  | (with_reducible exact LeO.refl _)
  | (with_reducible exact LeO.none _)
  | (with_reducible refine LeO.ite ?_ ?_)
  | (with_reducible refine LeO.bind ?_ (fun _ => ?_))
  | exact ih0 _ _ _ _ _ _ _
  | exact ih1 _ _ _ _ _ _ _ _ _ _ _
  | exact ih2 _ _ _ _ _ _ _ _ _ _ _ _
  | exact spec_allIn.mono _ _ _ _
  | exact spec_setPixel.mono _ _ _ _ _ _ _ _
  | exact spec_validImage.mono _ _ _ _ _
  | exact spec_validRuns.mono _ _
  | exact LeO.none _
  | refine LeO.ite ?_ ?_
  | refine LeO.bind ?_ (fun _ => ?_)
theorem spec_FillRegion.mono : ∀ a0 a1 a2 a3 a4 a5 k, LeO (spec_FillRegion.f k a0 a1 a2 a3 a4 a5) (spec_FillRegion.f (k + 1) a0 a1 a2 a3 a4 a5) := by
 intro a0 a1 a2 a3 a4 a5 k
 obtain ⟨ih0, ih1, ih2⟩ := spec_FillRegion.mono_l k
 unfold spec_FillRegion.f
 repeat' first
   | (with_reducible exact ih0 _ _ _ _ _ _ _)
   | (with_reducible exact ih1 _ _ _ _ _ _ _ _ _ _ _)
   | (with_reducible exact ih2 _ _ _ _ _ _ _ _ _ _ _ _)
   | (with_reducible exact spec_allIn.mono _ _ _ _)
   | (with_reducible exact spec_setPixel.mono _ _ _ _ _ _ _ _)
   | (with_reducible exact spec_validImage.mono _ _ _ _ _)
   | (with_reducible exact spec_validRuns.mono _ _)
   | (with_reducible exact LeO.refl _)
   | (with_reducible exact LeO.none _)
   | (with_reducible refine LeO.ite ?_ ?_)
   | (with_reducible refine LeO.bind ?_ (fun _ => ?_))
   | exact ih0 _ _ _ _ _ _ _
   | exact ih1 _ _ _ _ _ _ _ _ _ _ _
   | exact ih2 _ _ _ _ _ _ _ _ _ _ _ _
   | exact spec_allIn.mono _ _ _ _
   | exact spec_setPixel.mono _ _ _ _ _ _ _ _
   | exact spec_validImage.mono _ _ _ _ _
   | exact spec_validRuns.mono _ _
   | exact LeO.none _
   | refine LeO.ite ?_ ?_
   | refine LeO.bind ?_ (fun _ => ?_)
def spec_FillRegion.T10 : Bool × List (List Nat × List Nat) := (true, [([], []), ([], []), ([], []), ([], []), ([2, 3], [2, 3]), ([4], [4]), ([5], [5]), ([0, 1, 6], [0, 1, 6])])
def spec_FillRegion.B10 : List Nat := [0, 0, 0, 0, 12, 28, 60, 127]
theorem spec_FillRegion.tab10 : rtab .any (opsOf Try.f27 10) = spec_FillRegion.T10 := by kernel_rfl
theorem spec_FillRegion.bits10 : waitsOk spec_FillRegion.T10.2 spec_FillRegion.B10 = true := by kernel_rfl
def spec_FillRegion.T11 : Bool × List (List Nat × List Nat) := (true, [([], []), ([], []), ([], []), ([], []), ([2, 3], [2, 3]), ([4], [4]), ([5], [5]), ([], []), ([0, 1, 6, 7], [0, 1, 6, 7])])
def spec_FillRegion.B11 : List Nat := [0, 0, 0, 0, 12, 28, 60, 0, 255]
theorem spec_FillRegion.tab11 : rtab .any (opsOf Try.f27 11) = spec_FillRegion.T11 := by kernel_rfl
theorem spec_FillRegion.bits11 : waitsOk spec_FillRegion.T11.2 spec_FillRegion.B11 = true := by kernel_rfl
set_option maxHeartbeats 8000000 in
set_option maxRecDepth 100000 in
theorem spec_FillRegion.calls (k : Nat) (a0_0 : Int) (a0_1 : Int) (a0_2 : Int) (A0_3 : Option Addr) (c0_3 : Nat) (l0_3 : List Int) (A1 : Option Addr) (c1 : Nat) (l1 : List (S96)) (A2 : Option Addr) (c2 : Nat) (l2 : List Int) (r1 : Int) (r2 : Int) (r3 : Int) (r4 : List Int) (r5 : Bool) (w : World) (hr0_3 : Kd.C (Kd.int .i64) w A0_3 l0_3.length l0_3) (hc0_3 : l0_3.length ≤ c0_3) (hr1 : Kd.C k96 w A1 l1.length l1) (hc1 : l1.length ≤ c1) (hr2 : Kd.C (Kd.int .i64) w A2 l2.length l2) (hc2 : l2.length ≤ c2) (h : spec_FillRegion.f k a0_0 a0_1 a0_2 l0_3 l1 l2 = some (r1, r2, r3, r4, r5)) :
  Calls Try.prog 27 #[.agg #[.int .i64 a0_0, .int .i64 a0_1, .int .i64 a0_2, .slice A0_3 l0_3.length c0_3], .slice A1 l1.length c1, .slice A2 l2.length c2] w fun e w' => ∃ v3_ : Value, e = .returned (.tuple #[.agg #[.int .i64 r1, .int .i64 r2, .int .i64 r3, v3_], .bool r5]) ∧ Kd.R (Kd.int .i64) 3 w' w.heap.size (fun _ => True) v3_ r4 ∧ Below w.heap.size w w' := by
 have hu25 := Try.underlying25
 have HR0_3 := Aside0.mk hr0_3
 have HC0_3 := Aside0.mk hc0_3
 clear hr0_3 hc0_3
 have HR1 := Aside0.mk hr1
 have HC1 := Aside0.mk hc1
 clear hr1 hc1
 have HR2 := Aside0.mk hr2
 have HC2 := Aside0.mk hc2
 clear hr2 hc2
 have HB := Aside0.mk (Below.refl w.heap.size w)
 have H : ((spec_validImage.f k a0_0 a0_1 a0_2 l0_3).bind fun t103 => (if t103 = true then ((spec_validRuns.f k l1).bind fun t104 => (if t104 = true then (if (l2.length : Int) = a0_2 then ((spec_allIn.f k l2 0 255).bind fun t105 => (spec_FillRegion.j0 k l1 l2 (!t105) a0_0 a0_1 a0_2 l0_3)) else (spec_FillRegion.j0 k l1 l2 true a0_0 a0_1 a0_2 l0_3)) else (spec_FillRegion.j0 k l1 l2 true a0_0 a0_1 a0_2 l0_3))) else (spec_FillRegion.j0 k l1 l2 true a0_0 a0_1 a0_2 l0_3))) = some (r1, r2, r3, r4, r5) := h
 clear h
 have HC4 := Aside0.mk H
 clear H
 go_enter Try.func27, Try.ntmps27
 go_upto_region 1 with (first | ((with_reducible refine gate_dst (N := 3) rfl ?_); (try (refine gate_guard (by rfl) ?_; dsimp only)); refine box_event ?hg (N := 3) ?hd (cs := #[.int .i64 a0_0, .int .i64 a0_1, .int .i64 a0_2, .slice A0_3 l0_3.length c0_3]) (t := 25) ?hr ?_; (case hd => rfl); (case hg => rfl); (case hr => first | (go_simp; done) | (go_simp; rfl)); intro gb101 hg w5 hbox hb; have BK101 := am_ (hbox); have GW101 := am_ ((by rw [hg]; exact (below_size (by repeat (first | (with_reducible first | exact HB.out | apply below_alloc | apply pw_below_drewN | apply below_drew1) | exact HB.out))) : w.heap.size ≤ gb101)); have GE101 := GW101; replace HB := am_ (below_step (by repeat (first | (with_reducible first | exact HB.out | apply below_alloc | apply pw_below_drewN | apply below_drew1) | exact HB.out)) hb); clear hb hbox hg) | ((with_reducible refine gate_dst (N := 6) rfl ?_); (try (refine gate_guard (by rfl) ?_; dsimp only)); refine box_event ?hg (N := 6) ?hd (cs := #[.int .i64 0, .int .i64 0, .int .i64 0, .slice none 0 0]) (t := 25) ?hr ?_; (case hd => rfl); (case hg => rfl); (case hr => first | (go_simp; done) | (go_simp; rfl)); intro gb102 hg w6 hbox hb; have BK102 := am_ (hbox); have GW102 := am_ ((by rw [hg]; exact (below_size (by repeat (first | (with_reducible first | exact HB.out | apply below_alloc | apply pw_below_drewN | apply below_drew1 | refine below_set ?_ GE101.out) | exact HB.out))) : w.heap.size ≤ gb102)); have GE102 := GW102; replace HB := am_ (below_step (by repeat (first | (with_reducible first | exact HB.out | apply below_alloc | apply pw_below_drewN | apply below_drew1 | refine below_set ?_ GE101.out) | exact HB.out)) hb); have NB101_102 := am_ ((by rw [hg]; exact Nat.ne_of_lt (blk_lt (by exact BK101.out)) : gb101 ≠ gb102)); have NB102_101 := am_ ((by rw [hg]; exact Nat.ne_of_gt (blk_lt (by exact BK101.out)) : gb102 ≠ gb101)); replace BK101 := am_ (blk_below (by exact BK101.out) hb); clear hb hbox hg))
 (try simp only [Act.put, List.setIfInBounds_toArray, List.set_cons_zero, List.set_cons_succ])
 go_cut [30] (fun v30 wc => ∃ (kq : Nat) (x30_3 : Bool), v30 = .bool x30_3 ∧ Aside0 (spec_FillRegion.j0 kq l1 l2 x30_3 a0_0 a0_1 a0_2 l0_3 = some (r1, r2, r3, r4, r5)) ∧ Aside0 (kq ≤ k) ∧ Aside0 (wc.heap[gb101]? = some (.cells #[.int .i64 a0_0, .int .i64 a0_1, .int .i64 a0_2, (.slice A0_3 l0_3.length c0_3)] 25 (0, 0))) ∧ Aside0 (wc.heap[gb102]? = some (.cells #[.int .i64 0, .int .i64 0, .int .i64 0, (.slice none 0 0)] 25 (0, 0))) ∧ Aside0 (Below w.heap.size w wc))
 case first =>
  have H := HC4.out
  clear HC4
  replace H := Option.bind_eq_some_iff.mp H
  obtain ⟨t103, A70, H⟩ := H
  replace H : (if t103 = true then ((spec_validRuns.f k l1).bind fun t104 => (if t104 = true then (if (l2.length : Int) = a0_2 then ((spec_allIn.f k l2 0 255).bind fun t105 => (spec_FillRegion.j0 k l1 l2 (!t105) a0_0 a0_1 a0_2 l0_3)) else (spec_FillRegion.j0 k l1 l2 true a0_0 a0_1 a0_2 l0_3)) else (spec_FillRegion.j0 k l1 l2 true a0_0 a0_1 a0_2 l0_3))) else (spec_FillRegion.j0 k l1 l2 true a0_0 a0_1 a0_2 l0_3)) = some (r1, r2, r3, r4, r5) := H
  have A7 := Aside0.mk A70
  clear A70
  by_cases c8 : t103 = true
  rotate_left
  ·
   replace c8 := Bool.eq_false_iff.mpr c8
   subst c8
   have H1 : (spec_FillRegion.j0 k l1 l2 true a0_0 a0_1 a0_2 l0_3) = some (r1, r2, r3, r4, r5) := by rw [if_neg (show ¬ (false = true) by decide)] at H; exact H
   clear H
   have H := H1
   clear H1
   have H' := Aside0.mk H
   clear H
   have hnb27 := NB101_102.out
   have hnc27 := NB102_101.out
   obtain ⟨hcz28_0, hcz28_1, hcz28_2, hcz28_3, hfz28_0, hfz28_1, hfz28_2, hfz28_3⟩ := blk4_ BK101.out
   go_wp2_with (first | ((with_reducible refine gate_callee (f := 81) rfl ?_); refine goesL_ (some 12) rfl rfl Try.func81 (by kernel_rfl) rfl #[.agg #[.int .i64 a0_0, .int .i64 a0_1, .int .i64 a0_2, .slice A0_3 l0_3.length c0_3]] rfl (by simp only [List.map_toArray, List.map_cons, List.map_nil]; rfl) ?_; (with_reducible refine (spec_validImage.calls k a0_0 a0_1 a0_2 _ _ l0_3 false _ ?side1 ?side2 A7.out).mono ?_); (case side1 => repeat (first | exact (Kd.C_below HR0_3.out HB.out) | (with_reducible refine Kd.C_alloc ?_ _) | (with_reducible refine Kd.C_drewN ?_ _) | (with_reducible refine Kd.C_drew ?_))); (case side2 => exact HC0_3.out); rintro e w29 ⟨rfl, hb⟩; refine ⟨_, rfl, ?_⟩; replace BK101 := am_ (blk_below (by exact BK101.out) hb); replace BK102 := am_ (blk_below (by exact BK102.out) hb); replace HB := am_ (below_step (by repeat (first | (with_reducible first | exact HB.out | apply below_alloc | apply pw_below_drewN | apply below_drew1 | refine below_set ?_ GE101.out | refine below_set ?_ GE102.out) | exact HB.out)) hb); (try clear hb); (try clear hb2); (try clear hk); (try clear hi)))
   go_meet
   case rel => exact ⟨_, (true), (by first | rfl | (simp; done) | (simp [*]; done)), H', ⟨by first | omega | exact Nat.le_refl _⟩, ⟨by exact BK101.out⟩, ⟨by exact BK102.out⟩, ⟨by repeat (first | (with_reducible first | exact HB.out | apply below_alloc | apply pw_below_drewN | apply below_drew1 | refine below_set ?_ GE101.out | refine below_set ?_ GE102.out) | exact HB.out)⟩⟩
  subst c8
  have H1 : ((spec_validRuns.f k l1).bind fun t104 => (if t104 = true then (if (l2.length : Int) = a0_2 then ((spec_allIn.f k l2 0 255).bind fun t105 => (spec_FillRegion.j0 k l1 l2 (!t105) a0_0 a0_1 a0_2 l0_3)) else (spec_FillRegion.j0 k l1 l2 true a0_0 a0_1 a0_2 l0_3)) else (spec_FillRegion.j0 k l1 l2 true a0_0 a0_1 a0_2 l0_3))) = some (r1, r2, r3, r4, r5) := by rw [if_pos rfl] at H; exact H
  clear H
  have H := H1
  clear H1
  replace H := Option.bind_eq_some_iff.mp H
  obtain ⟨t104, A90, H⟩ := H
  replace H : (if t104 = true then (if (l2.length : Int) = a0_2 then ((spec_allIn.f k l2 0 255).bind fun t105 => (spec_FillRegion.j0 k l1 l2 (!t105) a0_0 a0_1 a0_2 l0_3)) else (spec_FillRegion.j0 k l1 l2 true a0_0 a0_1 a0_2 l0_3)) else (spec_FillRegion.j0 k l1 l2 true a0_0 a0_1 a0_2 l0_3)) = some (r1, r2, r3, r4, r5) := H
  have A9 := Aside0.mk A90
  clear A90
  by_cases c10 : t104 = true
  rotate_left
  ·
   replace c10 := Bool.eq_false_iff.mpr c10
   subst c10
   have H1 : (spec_FillRegion.j0 k l1 l2 true a0_0 a0_1 a0_2 l0_3) = some (r1, r2, r3, r4, r5) := by rw [if_neg (show ¬ (false = true) by decide)] at H; exact H
   clear H
   have H := H1
   clear H1
   have H' := Aside0.mk H
   clear H
   have hnb23 := NB101_102.out
   have hnc23 := NB102_101.out
   obtain ⟨hcz24_0, hcz24_1, hcz24_2, hcz24_3, hfz24_0, hfz24_1, hfz24_2, hfz24_3⟩ := blk4_ BK101.out
   go_wp2_with (first | ((with_reducible refine gate_callee (f := 81) rfl ?_); refine goesL_ (some 12) rfl rfl Try.func81 (by kernel_rfl) rfl #[.agg #[.int .i64 a0_0, .int .i64 a0_1, .int .i64 a0_2, .slice A0_3 l0_3.length c0_3]] rfl (by simp only [List.map_toArray, List.map_cons, List.map_nil]; rfl) ?_; (with_reducible refine (spec_validImage.calls k a0_0 a0_1 a0_2 _ _ l0_3 true _ ?side1 ?side2 A7.out).mono ?_); (case side1 => repeat (first | exact (Kd.C_below HR0_3.out HB.out) | (with_reducible refine Kd.C_alloc ?_ _) | (with_reducible refine Kd.C_drewN ?_ _) | (with_reducible refine Kd.C_drew ?_))); (case side2 => exact HC0_3.out); rintro e w25 ⟨rfl, hb⟩; refine ⟨_, rfl, ?_⟩; replace BK101 := am_ (blk_below (by exact BK101.out) hb); replace BK102 := am_ (blk_below (by exact BK102.out) hb); replace HB := am_ (below_step (by repeat (first | (with_reducible first | exact HB.out | apply below_alloc | apply pw_below_drewN | apply below_drew1 | refine below_set ?_ GE101.out | refine below_set ?_ GE102.out) | exact HB.out)) hb); (try clear hb); (try clear hb2); (try clear hk); (try clear hi)) | (go_at_call 67; (with_reducible refine (spec_validRuns.calls k _ _ l1 false _ ?side1 ?side2 A9.out).mono ?_); (case side1 => repeat (first | exact (Kd.C_below HR1.out HB.out) | (with_reducible refine Kd.C_alloc ?_ _) | (with_reducible refine Kd.C_drewN ?_ _) | (with_reducible refine Kd.C_drew ?_))); (case side2 => exact HC1.out); rintro e w26 ⟨rfl, hb⟩; replace BK101 := am_ (blk_below (by exact BK101.out) hb); replace BK102 := am_ (blk_below (by exact BK102.out) hb); replace HB := am_ (below_step (by repeat (first | (with_reducible first | exact HB.out | apply below_alloc | apply pw_below_drewN | apply below_drew1 | refine below_set ?_ GE101.out | refine below_set ?_ GE102.out) | exact HB.out)) hb); (try clear hb); (try clear hb2); (try clear hk); (try clear hi)))
   go_meet
   case rel => exact ⟨_, (true), (by first | rfl | (simp; done) | (simp [*]; done)), H', ⟨by first | omega | exact Nat.le_refl _⟩, ⟨by exact BK101.out⟩, ⟨by exact BK102.out⟩, ⟨by repeat (first | (with_reducible first | exact HB.out | apply below_alloc | apply pw_below_drewN | apply below_drew1 | refine below_set ?_ GE101.out | refine below_set ?_ GE102.out) | exact HB.out)⟩⟩
  subst c10
  have H1 : (if (l2.length : Int) = a0_2 then ((spec_allIn.f k l2 0 255).bind fun t105 => (spec_FillRegion.j0 k l1 l2 (!t105) a0_0 a0_1 a0_2 l0_3)) else (spec_FillRegion.j0 k l1 l2 true a0_0 a0_1 a0_2 l0_3)) = some (r1, r2, r3, r4, r5) := by rw [if_pos rfl] at H; exact H
  clear H
  have H := H1
  clear H1
  by_cases c11 : (l2.length : Int) = a0_2
  ·
   rw [if_pos c11] at H
   have c11b0 : ((l2.length : Int) == a0_2) = true := beq_iff_eq.mpr c11
   have c11b1 : ((l2.length : Int) != a0_2) = false := bne_eq_false_iff_eq.mpr c11
   clear c11
   (first | rw [c11b0] | (simp only [i64_w, i32_w]; rw [c11b0]) | skip)
   replace H := Option.bind_eq_some_iff.mp H
   obtain ⟨t105, A120, H⟩ := H
   replace H : (spec_FillRegion.j0 k l1 l2 (!t105) a0_0 a0_1 a0_2 l0_3) = some (r1, r2, r3, r4, r5) := H
   have A12 := Aside0.mk A120
   clear A120
   have H' := Aside0.mk H
   clear H
   have hnb13 := NB101_102.out
   have hnc13 := NB102_101.out
   obtain ⟨hcz14_0, hcz14_1, hcz14_2, hcz14_3, hfz14_0, hfz14_1, hfz14_2, hfz14_3⟩ := blk4_ BK101.out
   go_wp2_with (first | ((with_reducible refine gate_callee (f := 81) rfl ?_); refine goesL_ (some 12) rfl rfl Try.func81 (by kernel_rfl) rfl #[.agg #[.int .i64 a0_0, .int .i64 a0_1, .int .i64 a0_2, .slice A0_3 l0_3.length c0_3]] rfl (by simp only [List.map_toArray, List.map_cons, List.map_nil]; rfl) ?_; (with_reducible refine (spec_validImage.calls k a0_0 a0_1 a0_2 _ _ l0_3 true _ ?side1 ?side2 A7.out).mono ?_); (case side1 => repeat (first | exact (Kd.C_below HR0_3.out HB.out) | (with_reducible refine Kd.C_alloc ?_ _) | (with_reducible refine Kd.C_drewN ?_ _) | (with_reducible refine Kd.C_drew ?_))); (case side2 => exact HC0_3.out); rintro e w15 ⟨rfl, hb⟩; refine ⟨_, rfl, ?_⟩; replace BK101 := am_ (blk_below (by exact BK101.out) hb); replace BK102 := am_ (blk_below (by exact BK102.out) hb); replace HB := am_ (below_step (by repeat (first | (with_reducible first | exact HB.out | apply below_alloc | apply pw_below_drewN | apply below_drew1 | refine below_set ?_ GE101.out | refine below_set ?_ GE102.out) | exact HB.out)) hb); (try clear hb); (try clear hb2); (try clear hk); (try clear hi)) | (go_at_call 67; (with_reducible refine (spec_validRuns.calls k _ _ l1 true _ ?side1 ?side2 A9.out).mono ?_); (case side1 => repeat (first | exact (Kd.C_below HR1.out HB.out) | (with_reducible refine Kd.C_alloc ?_ _) | (with_reducible refine Kd.C_drewN ?_ _) | (with_reducible refine Kd.C_drew ?_))); (case side2 => exact HC1.out); rintro e w16 ⟨rfl, hb⟩; replace BK101 := am_ (blk_below (by exact BK101.out) hb); replace BK102 := am_ (blk_below (by exact BK102.out) hb); replace HB := am_ (below_step (by repeat (first | (with_reducible first | exact HB.out | apply below_alloc | apply pw_below_drewN | apply below_drew1 | refine below_set ?_ GE101.out | refine below_set ?_ GE102.out) | exact HB.out)) hb); (try clear hb); (try clear hb2); (try clear hk); (try clear hi); obtain ⟨hcz17_0, hcz17_1, hcz17_2, hcz17_3, hfz17_0, hfz17_1, hfz17_2, hfz17_3⟩ := blk4_ BK101.out) | (go_at_call 82; (with_reducible refine (spec_allIn.calls k _ _ l2 0 255 t105 _ ?side1 ?side2 A12.out).mono ?_); (case side1 => repeat (first | exact (Kd.C_below HR2.out HB.out) | (with_reducible refine Kd.C_alloc ?_ _) | (with_reducible refine Kd.C_drewN ?_ _) | (with_reducible refine Kd.C_drew ?_))); (case side2 => exact HC2.out); rintro e w' ⟨rfl, ⟨nd, rfl⟩⟩))
   go_meet
   case rel => exact ⟨_, (!t105), (by first | rfl | (simp; done) | (simp [*]; done)), H', ⟨by first | omega | exact Nat.le_refl _⟩, ⟨by exact BK101.out⟩, ⟨by exact BK102.out⟩, ⟨by repeat (first | (with_reducible first | exact HB.out | apply below_alloc | apply pw_below_drewN | apply below_drew1 | refine below_set ?_ GE101.out | refine below_set ?_ GE102.out) | exact HB.out)⟩⟩
  rw [if_neg c11] at H
  have c11b0 : ((l2.length : Int) == a0_2) = false := beq_eq_false_iff_ne.mpr c11
  have c11b1 : ((l2.length : Int) != a0_2) = true := bne_iff_ne.mpr c11
  (first | rw [c11b0] | (simp only [i64_w, i32_w]; rw [c11b0]) | skip)
  have H' := Aside0.mk H
  clear H
  have hnb18 := NB101_102.out
  have hnc18 := NB102_101.out
  obtain ⟨hcz19_0, hcz19_1, hcz19_2, hcz19_3, hfz19_0, hfz19_1, hfz19_2, hfz19_3⟩ := blk4_ BK101.out
  go_wp2_with (first | ((with_reducible refine gate_callee (f := 81) rfl ?_); refine goesL_ (some 12) rfl rfl Try.func81 (by kernel_rfl) rfl #[.agg #[.int .i64 a0_0, .int .i64 a0_1, .int .i64 a0_2, .slice A0_3 l0_3.length c0_3]] rfl (by simp only [List.map_toArray, List.map_cons, List.map_nil]; rfl) ?_; (with_reducible refine (spec_validImage.calls k a0_0 a0_1 a0_2 _ _ l0_3 true _ ?side1 ?side2 A7.out).mono ?_); (case side1 => repeat (first | exact (Kd.C_below HR0_3.out HB.out) | (with_reducible refine Kd.C_alloc ?_ _) | (with_reducible refine Kd.C_drewN ?_ _) | (with_reducible refine Kd.C_drew ?_))); (case side2 => exact HC0_3.out); rintro e w20 ⟨rfl, hb⟩; refine ⟨_, rfl, ?_⟩; replace BK101 := am_ (blk_below (by exact BK101.out) hb); replace BK102 := am_ (blk_below (by exact BK102.out) hb); replace HB := am_ (below_step (by repeat (first | (with_reducible first | exact HB.out | apply below_alloc | apply pw_below_drewN | apply below_drew1 | refine below_set ?_ GE101.out | refine below_set ?_ GE102.out) | exact HB.out)) hb); (try clear hb); (try clear hb2); (try clear hk); (try clear hi)) | (go_at_call 67; (with_reducible refine (spec_validRuns.calls k _ _ l1 true _ ?side1 ?side2 A9.out).mono ?_); (case side1 => repeat (first | exact (Kd.C_below HR1.out HB.out) | (with_reducible refine Kd.C_alloc ?_ _) | (with_reducible refine Kd.C_drewN ?_ _) | (with_reducible refine Kd.C_drew ?_))); (case side2 => exact HC1.out); rintro e w21 ⟨rfl, hb⟩; replace BK101 := am_ (blk_below (by exact BK101.out) hb); replace BK102 := am_ (blk_below (by exact BK102.out) hb); replace HB := am_ (below_step (by repeat (first | (with_reducible first | exact HB.out | apply below_alloc | apply pw_below_drewN | apply below_drew1 | refine below_set ?_ GE101.out | refine below_set ?_ GE102.out) | exact HB.out)) hb); (try clear hb); (try clear hb2); (try clear hk); (try clear hi); obtain ⟨hcz22_0, hcz22_1, hcz22_2, hcz22_3, hfz22_0, hfz22_1, hfz22_2, hfz22_3⟩ := blk4_ BK101.out))
  go_meet
  case rel => exact ⟨_, (true), (by first | rfl | (simp; done) | (simp [*]; done)), H', ⟨by first | omega | exact Nat.le_refl _⟩, ⟨by exact BK101.out⟩, ⟨by exact BK102.out⟩, ⟨by repeat (first | (with_reducible first | exact HB.out | apply below_alloc | apply pw_below_drewN | apply below_drew1 | refine below_set ?_ GE101.out | refine below_set ?_ GE102.out) | exact HB.out)⟩⟩
 case rest =>
  clear HC4
  try clear c1
  try clear c2
  try clear p2
  try clear c8
  try clear c10
  try clear c11
  try clear c11b0
  try clear c11b1
  try clear c13
  try clear c18
  try clear c23
  try clear c27
  try clear hcz14_0
  try clear hcz14_1
  try clear hcz14_2
  try clear hcz14_3
  try clear hcz17_0
  try clear hcz17_1
  try clear hcz17_2
  try clear hcz17_3
  try clear hcz19_0
  try clear hcz19_1
  try clear hcz19_2
  try clear hcz19_3
  try clear hcz22_0
  try clear hcz22_1
  try clear hcz22_2
  try clear hcz22_3
  try clear hcz24_0
  try clear hcz24_1
  try clear hcz24_2
  try clear hcz24_3
  try clear hcz28_0
  try clear hcz28_1
  try clear hcz28_2
  try clear hcz28_3
  try clear hfz14_0
  try clear hfz14_1
  try clear hfz14_2
  try clear hfz14_3
  try clear hfz17_0
  try clear hfz17_1
  try clear hfz17_2
  try clear hfz17_3
  try clear hfz19_0
  try clear hfz19_1
  try clear hfz19_2
  try clear hfz19_3
  try clear hfz22_0
  try clear hfz22_1
  try clear hfz22_2
  try clear hfz22_3
  try clear hfz24_0
  try clear hfz24_1
  try clear hfz24_2
  try clear hfz24_3
  try clear hfz28_0
  try clear hfz28_1
  try clear hfz28_2
  try clear hfz28_3
  obtain ⟨kq, x30_3, rfl, HA, HJ3, BK101, BK102, HB⟩ := hcut
  cases kq with
  | zero => exact absurd HA.out (by simp [spec_FillRegion.j0])
  | succ kj3 =>
   have H := HA.out
   clear HA
   simp only [spec_FillRegion.j0] at H
   by_cases c30 : x30_3 = true
   ·
    subst c30
    have H1 : (some (0, 0, 0, ([] : List Int), false)) = some (r1, r2, r3, r4, r5) := by rw [if_pos rfl] at H; exact H
    clear H
    have H := H1
    clear H1
    simp only [Option.some.injEq, Prod.mk.injEq] at H
    obtain ⟨rfl, rfl, rfl, rfl, rfl⟩ := H
    have hnb31 := NB102_101.out
    have hnc31 := NB101_102.out
    obtain ⟨hcz32_0, hcz32_1, hcz32_2, hcz32_3, hfz32_0, hfz32_1, hfz32_2, hfz32_3⟩ := blk4_ BK102.out
    go_wp2
    refine bodyPost_ret (results_ct rfl _ _ gb102 25 #[.int .i64 0, .int .i64 0, .int .i64 0, .slice none 0 0] (0, 0) _ rfl (by exact put4_ BK102.out _ _ _ _) Try.underlying25 rfl (by kernel_rfl)) rfl ?_
    exact ⟨_, by first | rfl | (simp [errW_none, errW_some] <;> rfl) | (simp [*, errW_none, errW_some] <;> rfl), by first | exact Kd.R_nil _ _ _ _ _ | exact Kd.N_nil _ _ _ _ _ | exact Kd.V_nil _ _ _ _ _ | exact Kd.Q_nil _ _ _ _ _ | exact Kd.S_nil _ _ _ _ _, by repeat (first | (with_reducible first | exact HB.out | apply below_alloc | apply pw_below_drewN | apply below_drew1 | refine below_set ?_ GE101.out | refine below_set ?_ GE102.out) | exact HB.out)⟩
   replace c30 := Bool.eq_false_iff.mpr c30
   subst c30
   have H1 : ((spec_copyImage.f a0_0 a0_1 a0_2 l0_3).bind fun bt106 => (spec_FillRegion.l0 kj3 l1 l2 0 a0_0 a0_1 a0_2 l0_3 bt106.1 bt106.2.1 bt106.2.2.1 bt106.2.2.2)) = some (r1, r2, r3, r4, r5) := by rw [if_neg (show ¬ (false = true) by decide)] at H; exact H
   clear H
   have H := H1
   clear H1
   replace H := Option.bind_eq_some_iff.mp H
   obtain ⟨⟨t106, t107, t108, t109⟩, A330, H⟩ := H
   replace H : (spec_FillRegion.l0 kj3 l1 l2 0 a0_0 a0_1 a0_2 l0_3 t106 t107 t108 t109) = some (r1, r2, r3, r4, r5) := H
   have A33 := Aside0.mk A330
   clear A330
   have H' := Aside0.mk H
   clear H
   have hnb34 := NB101_102.out
   have hnc34 := NB102_101.out
   obtain ⟨hcz35_0, hcz35_1, hcz35_2, hcz35_3, hfz35_0, hfz35_1, hfz35_2, hfz35_3⟩ := blk4_ BK101.out
   go_wp2_with (first | ((with_reducible refine gate_callee (f := 68) rfl ?_); refine goesL_ (some 33) rfl rfl Try.func68 (by kernel_rfl) rfl #[.agg #[.int .i64 a0_0, .int .i64 a0_1, .int .i64 a0_2, .slice A0_3 l0_3.length c0_3]] rfl (by simp only [List.map_toArray, List.map_cons, List.map_nil]; rfl) ?_; (with_reducible refine (spec_copyImage.calls a0_0 a0_1 a0_2 _ _ l0_3 t106 t107 t108 t109 _ ?side1 ?side2 A33.out).mono ?_); (case side1 => repeat (first | exact (Kd.C_below HR0_3.out HB.out) | (with_reducible refine Kd.C_alloc ?_ _) | (with_reducible refine Kd.C_drewN ?_ _) | (with_reducible refine Kd.C_drew ?_))); (case side2 => exact HC0_3.out); rintro e w36 ⟨v110, rfl, ho0, hb⟩; refine ⟨_, rfl, ?_⟩; have HO111 := am_ (Kd.R_lower ho0 (below_size (by repeat (first | (with_reducible first | exact HB.out | apply below_alloc | apply pw_below_drewN | apply below_drew1 | refine below_set ?_ GE101.out | refine below_set ?_ GE102.out) | exact HB.out)))); replace BK101 := am_ (blk_below (by exact BK101.out) hb); replace BK102 := am_ (blk_below (by exact BK102.out) hb); replace HB := am_ (below_step (by repeat (first | (with_reducible first | exact HB.out | apply below_alloc | apply pw_below_drewN | apply below_drew1 | refine below_set ?_ GE101.out | refine below_set ?_ GE102.out) | exact HB.out)) hb); (try clear hb); (try clear hb2); (try clear hk); (try clear hi); (try clear ho0)) | ((with_reducible refine gate_dst (N := 8) rfl ?_); (try (refine gate_guard (by rfl) ?_; dsimp only)); refine box_event ?hg (N := 8) ?hd (cs := #[.int .i64 0, .int .i64 0, .int .i64 0, .slice none 0 0]) (t := 25) ?hr ?_; (case hd => rfl); (case hg => rfl); (case hr => first | (go_simp; done) | (go_simp; rfl)); intro gb112 hg w37 hbox hb; replace HO111 := am_ (Kd.R_below (by exact HO111.out) hb); have BK112 := am_ (hbox); have GW112 := am_ ((by rw [hg]; exact (below_size (by repeat (first | (with_reducible first | exact HB.out | apply below_alloc | apply pw_below_drewN | apply below_drew1 | refine below_set ?_ GE101.out | refine below_set ?_ GE102.out) | exact HB.out))) : w.heap.size ≤ gb112)); have GE112 := GW112; replace HB := am_ (below_step (by repeat (first | (with_reducible first | exact HB.out | apply below_alloc | apply pw_below_drewN | apply below_drew1 | refine below_set ?_ GE101.out | refine below_set ?_ GE102.out) | exact HB.out)) hb); have NB101_112 := am_ ((by rw [hg]; exact Nat.ne_of_lt (blk_lt (by exact BK101.out)) : gb101 ≠ gb112)); have NB112_101 := am_ ((by rw [hg]; exact Nat.ne_of_gt (blk_lt (by exact BK101.out)) : gb112 ≠ gb101)); replace BK101 := am_ (blk_below (by exact BK101.out) hb); have NB102_112 := am_ ((by rw [hg]; exact Nat.ne_of_lt (blk_lt (by exact BK102.out)) : gb102 ≠ gb112)); have NB112_102 := am_ ((by rw [hg]; exact Nat.ne_of_gt (blk_lt (by exact BK102.out)) : gb112 ≠ gb102)); replace BK102 := am_ (blk_below (by exact BK102.out) hb); clear hb hbox hg; have hnb38 := NB112_101.out; have hnc38 := NB101_112.out; have hnb39 := NB112_102.out; have hnc39 := NB102_112.out; obtain ⟨hcz40_0, hcz40_1, hcz40_2, hcz40_3, hfz40_0, hfz40_1, hfz40_2, hfz40_3⟩ := blk4_ BK112.out; obtain ⟨Ao41, co41, eo41⟩ := Kd.R_slice HO111.out; subst eo41))
   go_loopg [9] kj3 (fun kq v9 w' => ∃ (x9_2 : Int) (x113003_2 : List Int) (u113003 : Value), v9 = .int .i64 x9_2 ∧ Aside0 (spec_FillRegion.l0 kq l1 l2 x9_2 a0_0 a0_1 a0_2 l0_3 t106 t107 t108 x113003_2 = some (r1, r2, r3, r4, r5)) ∧ Aside0 (kq ≤ kj3) ∧ Aside0 (Kd.R (Kd.int .i64) 3 w' w.heap.size (fun _ => True) u113003 x113003_2) ∧ Aside0 (w'.heap[gb101]? = some (.cells #[.int .i64 a0_0, .int .i64 a0_1, .int .i64 a0_2, (.slice A0_3 l0_3.length c0_3)] 25 (0, 0))) ∧ Aside0 (w'.heap[gb102]? = some (.cells #[.int .i64 0, .int .i64 0, .int .i64 0, (.slice none 0 0)] 25 (0, 0))) ∧ Aside0 (w'.heap[gb112]? = some (.cells #[.int .i64 t106, .int .i64 t107, .int .i64 t108, u113003] 25 (0, 0))) ∧ Aside0 (Below w.heap.size w w'))
   case atStart => exact ⟨(0), (t109), (.slice Ao41 t109.length co41), (by first | rfl | (simp; done) | (simp [*]; done)), H', ⟨Nat.le_refl _⟩, ⟨by exact Kd.R_mono (Kd.R_far (p := ⟨gb112, 3, none⟩) (Kd.R_far (p := ⟨gb112, 2, none⟩) (Kd.R_far (p := ⟨gb112, 1, none⟩) (Kd.R_far (p := ⟨gb112, 0, none⟩) (Kd.R_types HO111.out BK112.out (by decide)) (fun _ hk => hk.2) (.int .i64 t106)) (fun _ hk => hk.2) (.int .i64 t107)) (fun _ hk => hk.2) (.int .i64 t108)) (fun _ hk => hk.2) (.slice Ao41 t109.length co41)) (fun _ hk => trivial)⟩, ⟨by exact far4_ BK101.out NB101_112.out _ _ _ _⟩, ⟨by exact far4_ BK102.out NB102_112.out _ _ _ _⟩, ⟨by exact put4_ BK112.out _ _ _ _⟩, ⟨by repeat (first | (with_reducible first | exact HB.out | apply below_alloc | apply pw_below_drewN | apply below_drew1 | refine below_set ?_ GE101.out | refine below_set ?_ GE102.out | refine below_set ?_ GE112.out) | exact HB.out)⟩⟩
   case round =>
    clear H'
    try clear c1
    try clear c2
    try clear p2
    try clear c3
    try clear c6
    try clear c8
    try clear c10
    try clear c11
    try clear c11b0
    try clear c11b1
    try clear c13
    try clear c18
    try clear c23
    try clear c27
    try clear c30
    try clear c31
    try clear c34
    try clear c38
    try clear c39
    try clear hcz14_0
    try clear hcz14_1
    try clear hcz14_2
    try clear hcz14_3
    try clear hcz17_0
    try clear hcz17_1
    try clear hcz17_2
    try clear hcz17_3
    try clear hcz19_0
    try clear hcz19_1
    try clear hcz19_2
    try clear hcz19_3
    try clear hcz22_0
    try clear hcz22_1
    try clear hcz22_2
    try clear hcz22_3
    try clear hcz24_0
    try clear hcz24_1
    try clear hcz24_2
    try clear hcz24_3
    try clear hcz28_0
    try clear hcz28_1
    try clear hcz28_2
    try clear hcz28_3
    try clear hcz32_0
    try clear hcz32_1
    try clear hcz32_2
    try clear hcz32_3
    try clear hcz35_0
    try clear hcz35_1
    try clear hcz35_2
    try clear hcz35_3
    try clear hcz40_0
    try clear hcz40_1
    try clear hcz40_2
    try clear hcz40_3
    try clear hfz14_0
    try clear hfz14_1
    try clear hfz14_2
    try clear hfz14_3
    try clear hfz17_0
    try clear hfz17_1
    try clear hfz17_2
    try clear hfz17_3
    try clear hfz19_0
    try clear hfz19_1
    try clear hfz19_2
    try clear hfz19_3
    try clear hfz22_0
    try clear hfz22_1
    try clear hfz22_2
    try clear hfz22_3
    try clear hfz24_0
    try clear hfz24_1
    try clear hfz24_2
    try clear hfz24_3
    try clear hfz28_0
    try clear hfz28_1
    try clear hfz28_2
    try clear hfz28_3
    try clear hfz32_0
    try clear hfz32_1
    try clear hfz32_2
    try clear hfz32_3
    try clear hfz35_0
    try clear hfz35_1
    try clear hfz35_2
    try clear hfz35_3
    try clear hfz40_0
    try clear hfz40_1
    try clear hfz40_2
    try clear hfz40_3
    try clear p2
    obtain ⟨x9_2, x113003_2, u113003, rfl, HA, HK2, HO_113003, BK101, BK102, BK112, HB⟩ := hrel
    cases gk with
    | zero => exact absurd HA.out (by simp [spec_FillRegion.l0])
    | succ k2 =>
     have H := HA.out
     clear HA
     simp only [spec_FillRegion.l0] at H
     by_cases c42 : x9_2 < (l1.length : Int)
     rotate_left
     ·
      rw [if_neg c42] at H
      have c42b0 : decide (x9_2 < (l1.length : Int)) = false := decide_eq_false c42
      clear c42
      simp only [Option.some.injEq, Prod.mk.injEq] at H
      obtain ⟨rfl, rfl, rfl, rfl, rfl⟩ := H
      have hnb57 := NB112_101.out
      have hnc57 := NB101_112.out
      have hnb58 := NB112_102.out
      have hnc58 := NB102_112.out
      obtain ⟨hcz59_0, hcz59_1, hcz59_2, hcz59_3, hfz59_0, hfz59_1, hfz59_2, hfz59_3⟩ := blk4_ BK112.out
      have hnb60 := NB102_101.out
      have hnc60 := NB101_102.out
      obtain ⟨hcz61_0, hcz61_1, hcz61_2, hcz61_3, hfz61_0, hfz61_1, hfz61_2, hfz61_3⟩ := blk4_ BK102.out
      obtain ⟨Ao62, co62, eo62⟩ := Kd.R_slice HO_113003.out
      subst eo62
      go_wp2
      refine bodyPost_ret (results_ct rfl _ _ gb102 25 #[.int .i64 t106, .int .i64 t107, .int .i64 t108, .slice Ao62 x113003_2.length co62] (0, 0) _ rfl (by exact put4_ BK102.out _ _ _ _) Try.underlying25 rfl (by kernel_rfl)) rfl ?_
      exact ⟨_, by first | rfl | (simp [errW_none, errW_some] <;> rfl) | (simp [*, errW_none, errW_some] <;> rfl), by exact Kd.R_mono (Kd.R_far (p := ⟨gb102, 3, none⟩) (Kd.R_far (p := ⟨gb102, 2, none⟩) (Kd.R_far (p := ⟨gb102, 1, none⟩) (Kd.R_far (p := ⟨gb102, 0, none⟩) (Kd.R_types HO_113003.out BK102.out (by decide)) (fun _ hk => hk.2) (.int .i64 t106)) (fun _ hk => hk.2) (.int .i64 t107)) (fun _ hk => hk.2) (.int .i64 t108)) (fun _ hk => hk.2) (.slice Ao62 x113003_2.length co62)) (fun _ hk => trivial), by repeat (first | (with_reducible first | exact HB.out | apply below_alloc | apply pw_below_drewN | apply below_drew1 | refine below_set ?_ GE101.out | refine below_set ?_ GE102.out | refine below_set ?_ GE112.out) | exact HB.out)⟩
     rw [if_pos c42] at H
     have c42b0 : decide (x9_2 < (l1.length : Int)) = true := decide_eq_true c42
     clear c42
     by_cases c43 : 0 ≤ x9_2
     rotate_left
     ·
      rw [if_neg c43] at H
      exact absurd H (by simp)
     rw [if_pos c43] at H
     have c43b0 : decide (0 ≤ x9_2) = true := decide_eq_true c43
     clear c43
     have H' := Aside0.mk H
     clear H
     have p113 : 0 ≤ (x9_2 : Int) := of_decide_eq_true (by first | with_reducible assumption | assumption)
     have q113 : x9_2 < (l1.length : Int) := of_decide_eq_true (by first | with_reducible assumption | assumption)
     obtain ⟨ad113, e113, hx113_0, hx113_1, hx113_2⟩ := at_T96 HR1.out x9_2 p113 q113
     cases e113
     replace hx113_0 := (HB.out.cell (World.block_lt_of_cell? w _ hx113_0)).trans hx113_0
     replace hx113_1 := (HB.out.cell (World.block_lt_of_cell? w _ hx113_1)).trans hx113_1
     replace hx113_2 := (HB.out.cell (World.block_lt_of_cell? w _ hx113_2)).trans hx113_2
     replace p113 := eq_true p113
     replace q113 := eq_true q113
     go_wp2
     go_loopg [10] k2 (fun kq v10 w' => ∃ (x10_3 : Int) (x113003_3 : List Int) (u113003 : Value), v10 = .int .i64 x10_3 ∧ Aside0 (spec_FillRegion.l1 kq l1 l2 x9_2 x10_3 a0_0 a0_1 a0_2 l0_3 t106 t107 t108 x113003_3 = some (r1, r2, r3, r4, r5)) ∧ Aside0 (kq ≤ k2) ∧ Aside0 (Kd.R (Kd.int .i64) 3 w' w.heap.size (fun _ => True) u113003 x113003_3) ∧ Aside0 (w'.heap[gb101]? = some (.cells #[.int .i64 a0_0, .int .i64 a0_1, .int .i64 a0_2, (.slice A0_3 l0_3.length c0_3)] 25 (0, 0))) ∧ Aside0 (w'.heap[gb102]? = some (.cells #[.int .i64 0, .int .i64 0, .int .i64 0, (.slice none 0 0)] 25 (0, 0))) ∧ Aside0 (w'.heap[gb112]? = some (.cells #[.int .i64 t106, .int .i64 t107, .int .i64 t108, u113003] 25 (0, 0))) ∧ Aside0 (Below w.heap.size w w'))
     case atStart => exact ⟨((rd_T96 l1 x9_2).f1), (x113003_2), (u113003), (by first | rfl | (simp; done) | (simp [*]; done)), H', ⟨Nat.le_refl _⟩, ⟨by exact HO_113003.out⟩, ⟨by exact BK101.out⟩, ⟨by exact BK102.out⟩, ⟨by exact BK112.out⟩, ⟨by repeat (first | (with_reducible first | exact HB.out | apply below_alloc | apply pw_below_drewN | apply below_drew1 | refine below_set ?_ GE101.out | refine below_set ?_ GE102.out | refine below_set ?_ GE112.out) | exact HB.out)⟩⟩
     case round =>
      clear H'
      try clear c1
      try clear p1
      try clear q1
      try clear hx1
      try clear c2
      try clear p2
      try clear c3
      try clear c4
      try clear c6
      try clear c8
      try clear c10
      try clear c11
      try clear c11b0
      try clear c11b1
      try clear p11
      try clear q11
      try clear hx11
      try clear c13
      try clear c18
      try clear c23
      try clear c27
      try clear c30
      try clear c31
      try clear c34
      try clear c38
      try clear c39
      try clear c42
      try clear c42b0
      try clear c43
      try clear c43b0
      try clear hcz14_0
      try clear hcz14_1
      try clear hcz14_2
      try clear hcz14_3
      try clear hcz17_0
      try clear hcz17_1
      try clear hcz17_2
      try clear hcz17_3
      try clear hcz19_0
      try clear hcz19_1
      try clear hcz19_2
      try clear hcz19_3
      try clear hcz22_0
      try clear hcz22_1
      try clear hcz22_2
      try clear hcz22_3
      try clear hcz24_0
      try clear hcz24_1
      try clear hcz24_2
      try clear hcz24_3
      try clear hcz28_0
      try clear hcz28_1
      try clear hcz28_2
      try clear hcz28_3
      try clear hcz32_0
      try clear hcz32_1
      try clear hcz32_2
      try clear hcz32_3
      try clear hcz35_0
      try clear hcz35_1
      try clear hcz35_2
      try clear hcz35_3
      try clear hcz40_0
      try clear hcz40_1
      try clear hcz40_2
      try clear hcz40_3
      try clear hfz14_0
      try clear hfz14_1
      try clear hfz14_2
      try clear hfz14_3
      try clear hfz17_0
      try clear hfz17_1
      try clear hfz17_2
      try clear hfz17_3
      try clear hfz19_0
      try clear hfz19_1
      try clear hfz19_2
      try clear hfz19_3
      try clear hfz22_0
      try clear hfz22_1
      try clear hfz22_2
      try clear hfz22_3
      try clear hfz24_0
      try clear hfz24_1
      try clear hfz24_2
      try clear hfz24_3
      try clear hfz28_0
      try clear hfz28_1
      try clear hfz28_2
      try clear hfz28_3
      try clear hfz32_0
      try clear hfz32_1
      try clear hfz32_2
      try clear hfz32_3
      try clear hfz35_0
      try clear hfz35_1
      try clear hfz35_2
      try clear hfz35_3
      try clear hfz40_0
      try clear hfz40_1
      try clear hfz40_2
      try clear hfz40_3
      try clear hx113_0
      try clear hx113_1
      try clear hx113_2
      try clear p113
      try clear p2
      try clear q113
      obtain ⟨x10_3, x113003_3, u113003, rfl, HA, HK3, HO_113003, BK101, BK102, BK112, HB⟩ := hrel
      cases gk with
      | zero => exact absurd HA.out (by simp [spec_FillRegion.l1])
      | succ k3 =>
       have H := HA.out
       clear HA
       simp only [spec_FillRegion.l1] at H
       by_cases c44 : 0 ≤ x9_2
       rotate_left
       ·
        rw [if_neg c44] at H
        exact absurd H (by simp)
       rw [if_pos c44] at H
       have c44b0 : decide (0 ≤ x9_2) = true := decide_eq_true c44
       clear c44
       by_cases c45 : x9_2 < (l1.length : Int)
       rotate_left
       ·
        rw [if_neg c45] at H
        exact absurd H (by simp)
       rw [if_pos c45] at H
       have c45b0 : decide (x9_2 < (l1.length : Int)) = true := decide_eq_true c45
       clear c45
       by_cases c46 : x10_3 < ((rd_T96 l1 x9_2).f2)
       rotate_left
       ·
        rw [if_neg c46] at H
        have c46b0 : decide (x10_3 < ((rd_T96 l1 x9_2).f2)) = false := decide_eq_false c46
        clear c46
        have H' := Aside0.mk H
        clear H
        have p114 : 0 ≤ (x9_2 : Int) := of_decide_eq_true (by first | with_reducible assumption | assumption)
        have q114 : x9_2 < (l1.length : Int) := of_decide_eq_true (by first | with_reducible assumption | assumption)
        obtain ⟨ad114, e114, hx114_0, hx114_1, hx114_2⟩ := at_T96 HR1.out x9_2 p114 q114
        obtain rfl : ad113 = ad114 := (by injection e114)
        replace hx114_0 := (HB.out.cell (World.block_lt_of_cell? w _ hx114_0)).trans hx114_0
        replace hx114_1 := (HB.out.cell (World.block_lt_of_cell? w _ hx114_1)).trans hx114_1
        replace hx114_2 := (HB.out.cell (World.block_lt_of_cell? w _ hx114_2)).trans hx114_2
        replace p114 := eq_true p114
        replace q114 := eq_true q114
        go_wp2
        go_roundg k3
        case measure => have := HJ3.out; have := HK2.out; have := HK3.out; omega
        case rel => exact ⟨(wrap64 (x9_2 + 1)), (x113003_3), (u113003), (by first | rfl | (simp; done) | (simp [*]; done)), H', ⟨by have := HJ3.out; have := HK2.out; have := HK3.out; omega⟩, ⟨by exact HO_113003.out⟩, ⟨by exact BK101.out⟩, ⟨by exact BK102.out⟩, ⟨by exact BK112.out⟩, ⟨by repeat (first | (with_reducible first | exact HB.out | apply below_alloc | apply pw_below_drewN | apply below_drew1 | refine below_set ?_ GE101.out | refine below_set ?_ GE102.out | refine below_set ?_ GE112.out) | exact HB.out)⟩⟩
       rw [if_pos c46] at H
       have c46b0 : decide (x10_3 < ((rd_T96 l1 x9_2).f2)) = true := decide_eq_true c46
       clear c46
       replace H := Option.bind_eq_some_iff.mp H
       obtain ⟨t116, A470, H⟩ := H
       replace H : (if t116 = true then ((spec_setPixel.f k3 t106 t107 t108 x113003_3 x10_3 ((rd_T96 l1 x9_2).f0) l2).bind fun t118 => (spec_FillRegion.l1 k3 l1 l2 x9_2 (wrap64 (x10_3 + 1)) a0_0 a0_1 a0_2 l0_3 t106 t107 t108 t118)) else (spec_FillRegion.l1 k3 l1 l2 x9_2 (wrap64 (x10_3 + 1)) a0_0 a0_1 a0_2 l0_3 t106 t107 t108 x113003_3)) = some (r1, r2, r3, r4, r5) := H
       have A47 := Aside0.mk A470
       clear A470
       by_cases c48 : t116 = true
       ·
        subst c48
        have H1 : ((spec_setPixel.f k3 t106 t107 t108 x113003_3 x10_3 ((rd_T96 l1 x9_2).f0) l2).bind fun t118 => (spec_FillRegion.l1 k3 l1 l2 x9_2 (wrap64 (x10_3 + 1)) a0_0 a0_1 a0_2 l0_3 t106 t107 t108 t118)) = some (r1, r2, r3, r4, r5) := by rw [if_pos rfl] at H; exact H
        clear H
        have H := H1
        clear H1
        replace H := Option.bind_eq_some_iff.mp H
        obtain ⟨t118, A490, H⟩ := H
        replace H : (spec_FillRegion.l1 k3 l1 l2 x9_2 (wrap64 (x10_3 + 1)) a0_0 a0_1 a0_2 l0_3 t106 t107 t108 t118) = some (r1, r2, r3, r4, r5) := H
        have A49 := Aside0.mk A490
        clear A490
        have H' := Aside0.mk H
        clear H
        have p114 : 0 ≤ (x9_2 : Int) := of_decide_eq_true (by first | with_reducible assumption | assumption)
        have q114 : x9_2 < (l1.length : Int) := of_decide_eq_true (by first | with_reducible assumption | assumption)
        obtain ⟨ad114, e114, hx114_0, hx114_1, hx114_2⟩ := at_T96 HR1.out x9_2 p114 q114
        obtain rfl : ad113 = ad114 := (by injection e114)
        replace hx114_0 := (HB.out.cell (World.block_lt_of_cell? w _ hx114_0)).trans hx114_0
        replace hx114_1 := (HB.out.cell (World.block_lt_of_cell? w _ hx114_1)).trans hx114_1
        replace hx114_2 := (HB.out.cell (World.block_lt_of_cell? w _ hx114_2)).trans hx114_2
        replace p114 := eq_true p114
        replace q114 := eq_true q114
        try go_wp2
        replace HO_113003 := am_ (Kd.R_drew HO_113003.out)
        replace BK101 := am_ (blk_drew BK101.out)
        replace BK102 := am_ (blk_drew BK102.out)
        replace BK112 := am_ (blk_drew BK112.out)
        replace HB := am_ (below_drew1 HB.out)
        have p115 : 0 ≤ (x9_2 : Int) := of_decide_eq_true (by first | with_reducible assumption | assumption)
        have q115 : x9_2 < (l1.length : Int) := of_decide_eq_true (by first | with_reducible assumption | assumption)
        obtain ⟨ad115, e115, hx115_0, hx115_1, hx115_2⟩ := at_T96 HR1.out x9_2 p115 q115
        have hw115_2 := hx115_2
        have hw115_1 := hx115_1
        have hw115_0 := hx115_0
        obtain rfl : ad113 = ad115 := (by injection e115)
        replace hx115_0 := (HB.out.cell (World.block_lt_of_cell? w _ hx115_0)).trans hx115_0
        replace hx115_1 := (HB.out.cell (World.block_lt_of_cell? w _ hx115_1)).trans hx115_1
        replace hx115_2 := (HB.out.cell (World.block_lt_of_cell? w _ hx115_2)).trans hx115_2
        replace p115 := eq_true p115
        replace q115 := eq_true q115
        refine start_ (n := 8) (S := fun w' => w'.cell? ⟨gb101, 0, none⟩ = some (.int .i64 a0_0) ∧ w'.cell? ⟨gb101, 1, none⟩ = some (.int .i64 a0_1) ∧ w'.cell? ⟨gb101, 2, none⟩ = some (.int .i64 a0_2) ∧ w'.cell? ⟨gb101, 3, none⟩ = some (.slice A0_3 l0_3.length c0_3) ∧ w'.cell? (ad113.add ((x9_2).toNat * 3)) = some (.int .i64 ((rd_T96 l1 x9_2).f0)) ∧ w'.cell? ⟨(ad113.add ((x9_2).toNat * 3)).block, (ad113.add ((x9_2).toNat * 3)).off + 1, none⟩ = some (.int .i64 ((rd_T96 l1 x9_2).f1)) ∧ w'.cell? ⟨(ad113.add ((x9_2).toNat * 3)).block, (ad113.add ((x9_2).toNat * 3)).off + 2, none⟩ = some (.int .i64 ((rd_T96 l1 x9_2).f2))) (ds := []) #[false, false, false, false, false, false, false, false] (by kernel_rfl) rfl rfl ⟨(blk_cell BK101.out 0).trans rfl, (blk_cell BK101.out 1).trans rfl, (blk_cell BK101.out 2).trans rfl, (blk_cell BK101.out 3).trans rfl, ((HB.out.cell (World.block_lt_of_cell? w _ hw115_0)).trans hw115_0), ((HB.out.cell (World.block_lt_of_cell? w _ hw115_1)).trans hw115_1), ((HB.out.cell (World.block_lt_of_cell? w _ hw115_2)).trans hw115_2)⟩ (fun hHeld => ?_); refine with_tabW spec_FillRegion.tab10 spec_FillRegion.bits10 (fun HT_ HW_ => ?_)
        generalize wr.drew = w50 at HO_113003 BK101 BK102 BK112 HB hx115_0 hx115_1 hx115_2 hHeld ⊢
        refine pure_ (i := 1) (N := some 55) (v := ?_) (a' := ?_) #[false, true, false, false, false, false, false, false] rfl rfl (any_of HT_.out (by kernel_rfl)) (fun _ _ _ h => h) (Or.inl ⟨by rfl, ?_⟩) ?_ ?_
        rotate_left
        ·
         intro w'
         go_simp
         with_reducible rfl
        rotate_left
        ·
         simp only [Act.put, List.setIfInBounds_toArray, List.set_cons_zero, List.set_cons_succ, i64_w, i32_w]
         rfl
        refine pure_ (i := 2) (N := some 56) (v := ?_) (a' := ?_) #[false, true, true, false, false, false, false, false] rfl rfl (any_of HT_.out (by kernel_rfl)) (fun _ _ _ h => h) (Or.inl ⟨by rfl, ?_⟩) ?_ ?_
        rotate_left
        ·
         intro w'
         go_simp
         with_reducible rfl
        rotate_left
        ·
         simp only [Act.put, List.setIfInBounds_toArray, List.set_cons_zero, List.set_cons_succ, i64_w, i32_w]
         rfl
        refine pure_ (i := 3) (N := some 57) (v := ?_) (a' := ?_) #[false, true, true, true, false, false, false, false] rfl rfl (any_of HT_.out (by kernel_rfl)) (fun _ _ _ h => h) (Or.inl ⟨by rfl, ?_⟩) ?_ ?_
        rotate_left
        ·
         intro w'
         go_simp
         with_reducible rfl
        rotate_left
        ·
         simp only [Act.put, List.setIfInBounds_toArray, List.set_cons_zero, List.set_cons_succ, i64_w, i32_w]
         rfl
        refine pure_ (i := 4) (N := some 58) (v := ?_) (a' := ?_) #[false, true, true, true, true, false, false, false] rfl rfl (any_of HT_.out (by kernel_rfl)) (fun _ _ _ h => h) (Or.inl ⟨by rfl, ?_⟩) ?_ ?_
        rotate_left
        ·
         intro w'
         go_simp
         with_reducible rfl
        rotate_left
        ·
         simp only [Act.put, List.setIfInBounds_toArray, List.set_cons_zero, List.set_cons_succ, i64_w, i32_w]
         rfl
        refine pure_ (i := 5) (N := some 59) (v := ?_) (a' := ?_) #[false, true, true, true, true, true, false, false] rfl rfl (any_of HT_.out (by kernel_rfl)) (fun _ _ _ h => h) (Or.inl ⟨by rfl, ?_⟩) ?_ ?_
        rotate_left
        ·
         intro w'
         go_simp
         with_reducible rfl
        rotate_left
        ·
         simp only [Act.put, List.setIfInBounds_toArray, List.set_cons_zero, List.set_cons_succ, i64_w, i32_w]
         rfl
        refine take_ (i := 0) (N := some 54) (v := ?_) (a' := ?_) #[true, true, true, true, true, true, false, false] rfl rfl (take_ofW HT_.out HW_.out (by kernel_rfl)) (fun _ _ _ h => h) (Or.inl ⟨by rfl, ?_⟩) hHeld ?_ ?_
        rotate_left
        ·
         rintro w' ⟨s0, s1, s2, s3, s4, s5, s6⟩
         go_simp
         with_reducible rfl
        rotate_left
        ·
         simp only [Act.put, List.setIfInBounds_toArray, List.set_cons_zero, List.set_cons_succ, i64_w, i32_w]
         rfl
        refine take_ (i := 6) (N := some 60) (v := ?_) (a' := ?_) #[true, true, true, true, true, true, true, false] rfl rfl (take_ofW HT_.out HW_.out (by kernel_rfl)) (fun _ _ _ h => h) (Or.inl ⟨by rfl, ?_⟩) hHeld ?_ ?_
        rotate_left
        ·
         rintro w' ⟨s0, s1, s2, s3, s4, s5, s6⟩
         go_simp
         with_reducible rfl
        rotate_left
        ·
         simp only [Act.put, List.setIfInBounds_toArray, List.set_cons_zero, List.set_cons_succ, i64_w, i32_w]
         rfl
        refine one_ (i := 7) (N := some 61) #[true, true, true, true, true, true, true, true] rfl rfl (one_of HT_.out (by kernel_rfl)) (by decide) (fun K hK => ?_)
        refine goes_ Try.func69 (by kernel_rfl) rfl #[.agg #[.int .i64 a0_0, .int .i64 a0_1, .int .i64 a0_2, .slice A0_3 l0_3.length c0_3], .int .i64 x10_3, .int .i64 ((rd_T96 l1 x9_2).f0)] (by rfl) rfl rfl (by simp only [List.map_toArray, List.map_cons, List.map_nil]; rfl) ?_
        with_reducible refine (spec_onImage.calls a0_0 a0_1 a0_2 _ _ l0_3 x10_3 ((rd_T96 l1 x9_2).f0) true _ ?side1 ?side2 A47.out).mono ?_
        (case side1 => repeat (first | exact (Kd.C_below HR0_3.out HB.out) | (with_reducible refine Kd.C_alloc ?_ _) | (with_reducible refine Kd.C_drewN ?_ _) | (with_reducible refine Kd.C_drew ?_)))
        (case side2 => exact HC0_3.out)
        rintro e w51 ⟨rfl, hb⟩
        refine ⟨_, rfl, ?_⟩
        replace HO_113003 := am_ (Kd.R_below (by exact HO_113003.out) hb)
        replace BK101 := am_ (blk_below (by exact BK101.out) hb)
        replace BK102 := am_ (blk_below (by exact BK102.out) hb)
        replace BK112 := am_ (blk_below (by exact BK112.out) hb)
        replace HB := am_ (below_step (by repeat (first | (with_reducible first | exact HB.out | apply below_alloc | apply pw_below_drewN | apply below_drew1 | refine below_set ?_ GE101.out | refine below_set ?_ GE102.out | refine below_set ?_ GE112.out) | exact HB.out)) hb)
        (try clear hb)
        (try clear hb2)
        (try clear hk)
        (try clear hi)
        refine hK.out _ _ ⟨(blk_cell BK101.out 0).trans rfl, (blk_cell BK101.out 1).trans rfl, (blk_cell BK101.out 2).trans rfl, (blk_cell BK101.out 3).trans rfl, ((HB.out.cell (World.block_lt_of_cell? w _ hw115_0)).trans hw115_0), ((HB.out.cell (World.block_lt_of_cell? w _ hw115_1)).trans hw115_1), ((HB.out.cell (World.block_lt_of_cell? w _ hw115_2)).trans hw115_2)⟩ (fun hHeld => ?_)
        clear hK K
        refine norm_ (a' := ?_) ?_ ?_
        rotate_left
        ·
         show Act.put _ (some 61) _ = _
         simp only [Act.put, List.setIfInBounds_toArray, List.set_cons_zero, List.set_cons_succ, i64_w, i32_w]
         rfl
        refine done_ (done_of HT_.out (by kernel_rfl)) ?_
        try go_wp2
        replace HO_113003 := am_ (Kd.R_drew HO_113003.out)
        replace BK101 := am_ (blk_drew BK101.out)
        replace BK102 := am_ (blk_drew BK102.out)
        replace BK112 := am_ (blk_drew BK112.out)
        replace HB := am_ (below_drew1 HB.out)
        have p117 : 0 ≤ (x9_2 : Int) := of_decide_eq_true (by first | with_reducible assumption | assumption)
        have q117 : x9_2 < (l1.length : Int) := of_decide_eq_true (by first | with_reducible assumption | assumption)
        obtain ⟨ad117, e117, hx117_0, hx117_1, hx117_2⟩ := at_T96 HR1.out x9_2 p117 q117
        have hw117_2 := hx117_2
        have hw117_1 := hx117_1
        have hw117_0 := hx117_0
        obtain rfl : ad113 = ad117 := (by injection e117)
        replace hx117_0 := (HB.out.cell (World.block_lt_of_cell? w _ hx117_0)).trans hx117_0
        replace hx117_1 := (HB.out.cell (World.block_lt_of_cell? w _ hx117_1)).trans hx117_1
        replace hx117_2 := (HB.out.cell (World.block_lt_of_cell? w _ hx117_2)).trans hx117_2
        replace p117 := eq_true p117
        replace q117 := eq_true q117
        obtain ⟨Ao53, co53, eo53⟩ := Kd.R_slice HO_113003.out
        (first | subst eo53 | (injection eo53 with f1_ f2_ f3_; have f4_ := f1_.symm; have f5_ := f3_.symm; clear f1_ f2_ f3_; subst f4_; subst f5_))
        refine start_ (n := 9) (S := fun w' => w'.cell? ⟨gb112, 0, none⟩ = some (.int .i64 t106) ∧ w'.cell? ⟨gb112, 1, none⟩ = some (.int .i64 t107) ∧ w'.cell? ⟨gb112, 2, none⟩ = some (.int .i64 t108) ∧ w'.cell? ⟨gb112, 3, none⟩ = some (.slice Ao53 x113003_3.length co53) ∧ w'.cell? (ad113.add ((x9_2).toNat * 3)) = some (.int .i64 ((rd_T96 l1 x9_2).f0)) ∧ w'.cell? ⟨(ad113.add ((x9_2).toNat * 3)).block, (ad113.add ((x9_2).toNat * 3)).off + 1, none⟩ = some (.int .i64 ((rd_T96 l1 x9_2).f1)) ∧ w'.cell? ⟨(ad113.add ((x9_2).toNat * 3)).block, (ad113.add ((x9_2).toNat * 3)).off + 2, none⟩ = some (.int .i64 ((rd_T96 l1 x9_2).f2))) (ds := []) #[false, false, false, false, false, false, false, false, false] (by kernel_rfl) rfl rfl ⟨(blk_cell BK112.out 0).trans rfl, (blk_cell BK112.out 1).trans rfl, (blk_cell BK112.out 2).trans rfl, (blk_cell BK112.out 3).trans rfl, ((HB.out.cell (World.block_lt_of_cell? w _ hw117_0)).trans hw117_0), ((HB.out.cell (World.block_lt_of_cell? w _ hw117_1)).trans hw117_1), ((HB.out.cell (World.block_lt_of_cell? w _ hw117_2)).trans hw117_2)⟩ (fun hHeld => ?_); refine with_tabW spec_FillRegion.tab11 spec_FillRegion.bits11 (fun HT_ HW_ => ?_)
        generalize w51.drew = w52 at HO_113003 BK101 BK102 BK112 HB hx117_0 hx117_1 hx117_2 hHeld ⊢
        refine pure_ (i := 1) (N := some 63) (v := ?_) (a' := ?_) #[false, true, false, false, false, false, false, false, false] rfl rfl (any_of HT_.out (by kernel_rfl)) (fun _ _ _ h => h) (Or.inl ⟨by rfl, ?_⟩) ?_ ?_
        rotate_left
        ·
         intro w'
         go_simp
         with_reducible rfl
        rotate_left
        ·
         simp only [Act.put, List.setIfInBounds_toArray, List.set_cons_zero, List.set_cons_succ, i64_w, i32_w]
         rfl
        refine pure_ (i := 2) (N := some 64) (v := ?_) (a' := ?_) #[false, true, true, false, false, false, false, false, false] rfl rfl (any_of HT_.out (by kernel_rfl)) (fun _ _ _ h => h) (Or.inl ⟨by rfl, ?_⟩) ?_ ?_
        rotate_left
        ·
         intro w'
         go_simp
         with_reducible rfl
        rotate_left
        ·
         simp only [Act.put, List.setIfInBounds_toArray, List.set_cons_zero, List.set_cons_succ, i64_w, i32_w]
         rfl
        refine pure_ (i := 3) (N := some 65) (v := ?_) (a' := ?_) #[false, true, true, true, false, false, false, false, false] rfl rfl (any_of HT_.out (by kernel_rfl)) (fun _ _ _ h => h) (Or.inl ⟨by rfl, ?_⟩) ?_ ?_
        rotate_left
        ·
         intro w'
         go_simp
         with_reducible rfl
        rotate_left
        ·
         simp only [Act.put, List.setIfInBounds_toArray, List.set_cons_zero, List.set_cons_succ, i64_w, i32_w]
         rfl
        refine pure_ (i := 4) (N := some 66) (v := ?_) (a' := ?_) #[false, true, true, true, true, false, false, false, false] rfl rfl (any_of HT_.out (by kernel_rfl)) (fun _ _ _ h => h) (Or.inl ⟨by rfl, ?_⟩) ?_ ?_
        rotate_left
        ·
         intro w'
         go_simp
         with_reducible rfl
        rotate_left
        ·
         simp only [Act.put, List.setIfInBounds_toArray, List.set_cons_zero, List.set_cons_succ, i64_w, i32_w]
         rfl
        refine pure_ (i := 5) (N := some 67) (v := ?_) (a' := ?_) #[false, true, true, true, true, true, false, false, false] rfl rfl (any_of HT_.out (by kernel_rfl)) (fun _ _ _ h => h) (Or.inl ⟨by rfl, ?_⟩) ?_ ?_
        rotate_left
        ·
         intro w'
         go_simp
         with_reducible rfl
        rotate_left
        ·
         simp only [Act.put, List.setIfInBounds_toArray, List.set_cons_zero, List.set_cons_succ, i64_w, i32_w]
         rfl
        refine pure_ (i := 7) (N := some 69) (v := ?_) (a' := ?_) #[false, true, true, true, true, true, false, true, false] rfl rfl (any_of HT_.out (by kernel_rfl)) (fun _ _ _ h => h) (Or.inl ⟨by rfl, ?_⟩) ?_ ?_
        rotate_left
        ·
         intro w'
         go_simp
         with_reducible rfl
        rotate_left
        ·
         simp only [Act.put, List.setIfInBounds_toArray, List.set_cons_zero, List.set_cons_succ, i64_w, i32_w]
         rfl
        refine take_ (i := 0) (N := some 62) (v := ?_) (a' := ?_) #[true, true, true, true, true, true, false, true, false] rfl rfl (take_ofW HT_.out HW_.out (by kernel_rfl)) (fun _ _ _ h => h) (Or.inl ⟨by rfl, ?_⟩) hHeld ?_ ?_
        rotate_left
        ·
         rintro w' ⟨s0, s1, s2, s3, s4, s5, s6⟩
         go_simp
         with_reducible rfl
        rotate_left
        ·
         simp only [Act.put, List.setIfInBounds_toArray, List.set_cons_zero, List.set_cons_succ, i64_w, i32_w]
         rfl
        refine take_ (i := 6) (N := some 68) (v := ?_) (a' := ?_) #[true, true, true, true, true, true, true, true, false] rfl rfl (take_ofW HT_.out HW_.out (by kernel_rfl)) (fun _ _ _ h => h) (Or.inl ⟨by rfl, ?_⟩) hHeld ?_ ?_
        rotate_left
        ·
         rintro w' ⟨s0, s1, s2, s3, s4, s5, s6⟩
         go_simp
         with_reducible rfl
        rotate_left
        ·
         simp only [Act.put, List.setIfInBounds_toArray, List.set_cons_zero, List.set_cons_succ, i64_w, i32_w]
         rfl
        refine one_ (i := 8) (N := some 70) #[true, true, true, true, true, true, true, true, true] rfl rfl (one_of HT_.out (by kernel_rfl)) (by decide) (fun K hK => ?_)
        refine goes_ Try.func70 (by kernel_rfl) rfl #[.agg #[.int .i64 t106, .int .i64 t107, .int .i64 t108, .slice Ao53 x113003_3.length co53], .int .i64 x10_3, .int .i64 ((rd_T96 l1 x9_2).f0), .slice A2 l2.length c2] (by rfl) rfl rfl (by simp only [List.map_toArray, List.map_cons, List.map_nil]; rfl) ?_
        with_reducible refine (spec_setPixel.calls k3 t106 t107 t108 (fun k_ => some k_ = (.slice Ao53 x113003_3.length co53 : Value).ownBlock) (.slice Ao53 x113003_3.length co53) x113003_3 x10_3 ((rd_T96 l1 x9_2).f0) _ _ l2 t118 w _ ?side1 ?side2 ?side3 ?side4 A49.out).mono ?_
        (case side1 => repeat (first | (with_reducible first | exact HB.out | apply below_alloc | apply pw_below_drewN | apply below_drew1 | refine below_set ?_ GE101.out | refine below_set ?_ GE102.out | refine below_set ?_ GE112.out) | exact HB.out))
        (case side2 => exact Kd.R_tight rfl HO_113003.out)
        (case side3 => exact Kd.C_kept_came (Kd.heap_int .i64) HR2.out (by repeat (first | (with_reducible first | exact HB.out | apply below_alloc | apply pw_below_drewN | apply below_drew1 | refine below_set ?_ GE101.out | refine below_set ?_ GE102.out | refine below_set ?_ GE112.out) | exact HB.out)) (fun k_ hs_ => (fun e_ => Kd.R_base HO_113003.out k_ e_.symm) hs_))
        (case side4 => exact HC2.out)
        rintro e w54 ⟨rfl, hy0, hb, hkp⟩
        refine ⟨_, rfl, ?_⟩
        replace BK101 := am_ (blk_kept (by exact BK101.out) hkp (fun hs_ => (fun e_ => (Kd.R_ne HO_113003.out BK101.out (by decide)) e_) hs_))
        replace BK102 := am_ (blk_kept (by exact BK102.out) hkp (fun hs_ => (fun e_ => (Kd.R_ne HO_113003.out BK102.out (by decide)) e_) hs_))
        replace BK112 := am_ (blk_kept (by exact BK112.out) hkp (fun hs_ => (fun e_ => (Kd.R_ne HO_113003.out BK112.out (by decide)) e_) hs_))
        replace HO_113003 := am_ (Kd.R_reok rfl hy0 (fun k_ e_ => HO_113003.out.1 k_ e_))
        replace HB := am_ (hb)
        (try clear hb)
        (try clear hkp)
        (try clear hy0)
        refine hK.out _ _ ⟨(blk_cell BK112.out 0).trans rfl, (blk_cell BK112.out 1).trans rfl, (blk_cell BK112.out 2).trans rfl, (blk_cell BK112.out 3).trans rfl, ((HB.out.cell (World.block_lt_of_cell? w _ hw117_0)).trans hw117_0), ((HB.out.cell (World.block_lt_of_cell? w _ hw117_1)).trans hw117_1), ((HB.out.cell (World.block_lt_of_cell? w _ hw117_2)).trans hw117_2)⟩ (fun hHeld => ?_)
        clear hK K
        refine norm_ (a' := ?_) ?_ ?_
        rotate_left
        ·
         show Act.put _ (some 70) _ = _
         simp only [Act.put, List.setIfInBounds_toArray, List.set_cons_zero, List.set_cons_succ, i64_w, i32_w]
         rfl
        refine done_ (done_of HT_.out (by kernel_rfl)) ?_
        try go_wp2
        go_roundg k3
        case measure => have := HJ3.out; have := HK2.out; have := HK3.out; omega
        case rel => exact ⟨(wrap64 (x10_3 + 1)), (t118), (.slice Ao53 x113003_3.length co53), (by first | rfl | (simp; done) | (simp [*]; done)), H', ⟨by have := HJ3.out; have := HK2.out; have := HK3.out; omega⟩, ⟨by exact HO_113003.out⟩, ⟨by exact BK101.out⟩, ⟨by exact BK102.out⟩, ⟨by exact BK112.out⟩, ⟨by repeat (first | (with_reducible first | exact HB.out | apply below_alloc | apply pw_below_drewN | apply below_drew1 | refine below_set ?_ GE101.out | refine below_set ?_ GE102.out | refine below_set ?_ GE112.out) | exact HB.out)⟩⟩
       replace c48 := Bool.eq_false_iff.mpr c48
       subst c48
       have H1 : (spec_FillRegion.l1 k3 l1 l2 x9_2 (wrap64 (x10_3 + 1)) a0_0 a0_1 a0_2 l0_3 t106 t107 t108 x113003_3) = some (r1, r2, r3, r4, r5) := by rw [if_neg (show ¬ (false = true) by decide)] at H; exact H
       clear H
       have H := H1
       clear H1
       have H' := Aside0.mk H
       clear H
       have p114 : 0 ≤ (x9_2 : Int) := of_decide_eq_true (by first | with_reducible assumption | assumption)
       have q114 : x9_2 < (l1.length : Int) := of_decide_eq_true (by first | with_reducible assumption | assumption)
       obtain ⟨ad114, e114, hx114_0, hx114_1, hx114_2⟩ := at_T96 HR1.out x9_2 p114 q114
       obtain rfl : ad113 = ad114 := (by injection e114)
       replace hx114_0 := (HB.out.cell (World.block_lt_of_cell? w _ hx114_0)).trans hx114_0
       replace hx114_1 := (HB.out.cell (World.block_lt_of_cell? w _ hx114_1)).trans hx114_1
       replace hx114_2 := (HB.out.cell (World.block_lt_of_cell? w _ hx114_2)).trans hx114_2
       replace p114 := eq_true p114
       replace q114 := eq_true q114
       try go_wp2
       replace HO_113003 := am_ (Kd.R_drew HO_113003.out)
       replace BK101 := am_ (blk_drew BK101.out)
       replace BK102 := am_ (blk_drew BK102.out)
       replace BK112 := am_ (blk_drew BK112.out)
       replace HB := am_ (below_drew1 HB.out)
       have p115 : 0 ≤ (x9_2 : Int) := of_decide_eq_true (by first | with_reducible assumption | assumption)
       have q115 : x9_2 < (l1.length : Int) := of_decide_eq_true (by first | with_reducible assumption | assumption)
       obtain ⟨ad115, e115, hx115_0, hx115_1, hx115_2⟩ := at_T96 HR1.out x9_2 p115 q115
       have hw115_2 := hx115_2
       have hw115_1 := hx115_1
       have hw115_0 := hx115_0
       obtain rfl : ad113 = ad115 := (by injection e115)
       replace hx115_0 := (HB.out.cell (World.block_lt_of_cell? w _ hx115_0)).trans hx115_0
       replace hx115_1 := (HB.out.cell (World.block_lt_of_cell? w _ hx115_1)).trans hx115_1
       replace hx115_2 := (HB.out.cell (World.block_lt_of_cell? w _ hx115_2)).trans hx115_2
       replace p115 := eq_true p115
       replace q115 := eq_true q115
       refine start_ (n := 8) (S := fun w' => w'.cell? ⟨gb101, 0, none⟩ = some (.int .i64 a0_0) ∧ w'.cell? ⟨gb101, 1, none⟩ = some (.int .i64 a0_1) ∧ w'.cell? ⟨gb101, 2, none⟩ = some (.int .i64 a0_2) ∧ w'.cell? ⟨gb101, 3, none⟩ = some (.slice A0_3 l0_3.length c0_3) ∧ w'.cell? (ad113.add ((x9_2).toNat * 3)) = some (.int .i64 ((rd_T96 l1 x9_2).f0)) ∧ w'.cell? ⟨(ad113.add ((x9_2).toNat * 3)).block, (ad113.add ((x9_2).toNat * 3)).off + 1, none⟩ = some (.int .i64 ((rd_T96 l1 x9_2).f1)) ∧ w'.cell? ⟨(ad113.add ((x9_2).toNat * 3)).block, (ad113.add ((x9_2).toNat * 3)).off + 2, none⟩ = some (.int .i64 ((rd_T96 l1 x9_2).f2))) (ds := []) #[false, false, false, false, false, false, false, false] (by kernel_rfl) rfl rfl ⟨(blk_cell BK101.out 0).trans rfl, (blk_cell BK101.out 1).trans rfl, (blk_cell BK101.out 2).trans rfl, (blk_cell BK101.out 3).trans rfl, ((HB.out.cell (World.block_lt_of_cell? w _ hw115_0)).trans hw115_0), ((HB.out.cell (World.block_lt_of_cell? w _ hw115_1)).trans hw115_1), ((HB.out.cell (World.block_lt_of_cell? w _ hw115_2)).trans hw115_2)⟩ (fun hHeld => ?_); refine with_tabW spec_FillRegion.tab10 spec_FillRegion.bits10 (fun HT_ HW_ => ?_)
       generalize wr.drew = w55 at HO_113003 BK101 BK102 BK112 HB hx115_0 hx115_1 hx115_2 hHeld ⊢
       refine pure_ (i := 1) (N := some 55) (v := ?_) (a' := ?_) #[false, true, false, false, false, false, false, false] rfl rfl (any_of HT_.out (by kernel_rfl)) (fun _ _ _ h => h) (Or.inl ⟨by rfl, ?_⟩) ?_ ?_
       rotate_left
       ·
        intro w'
        go_simp
        with_reducible rfl
       rotate_left
       ·
        simp only [Act.put, List.setIfInBounds_toArray, List.set_cons_zero, List.set_cons_succ, i64_w, i32_w]
        rfl
       refine pure_ (i := 2) (N := some 56) (v := ?_) (a' := ?_) #[false, true, true, false, false, false, false, false] rfl rfl (any_of HT_.out (by kernel_rfl)) (fun _ _ _ h => h) (Or.inl ⟨by rfl, ?_⟩) ?_ ?_
       rotate_left
       ·
        intro w'
        go_simp
        with_reducible rfl
       rotate_left
       ·
        simp only [Act.put, List.setIfInBounds_toArray, List.set_cons_zero, List.set_cons_succ, i64_w, i32_w]
        rfl
       refine pure_ (i := 3) (N := some 57) (v := ?_) (a' := ?_) #[false, true, true, true, false, false, false, false] rfl rfl (any_of HT_.out (by kernel_rfl)) (fun _ _ _ h => h) (Or.inl ⟨by rfl, ?_⟩) ?_ ?_
       rotate_left
       ·
        intro w'
        go_simp
        with_reducible rfl
       rotate_left
       ·
        simp only [Act.put, List.setIfInBounds_toArray, List.set_cons_zero, List.set_cons_succ, i64_w, i32_w]
        rfl
       refine pure_ (i := 4) (N := some 58) (v := ?_) (a' := ?_) #[false, true, true, true, true, false, false, false] rfl rfl (any_of HT_.out (by kernel_rfl)) (fun _ _ _ h => h) (Or.inl ⟨by rfl, ?_⟩) ?_ ?_
       rotate_left
       ·
        intro w'
        go_simp
        with_reducible rfl
       rotate_left
       ·
        simp only [Act.put, List.setIfInBounds_toArray, List.set_cons_zero, List.set_cons_succ, i64_w, i32_w]
        rfl
       refine pure_ (i := 5) (N := some 59) (v := ?_) (a' := ?_) #[false, true, true, true, true, true, false, false] rfl rfl (any_of HT_.out (by kernel_rfl)) (fun _ _ _ h => h) (Or.inl ⟨by rfl, ?_⟩) ?_ ?_
       rotate_left
       ·
        intro w'
        go_simp
        with_reducible rfl
       rotate_left
       ·
        simp only [Act.put, List.setIfInBounds_toArray, List.set_cons_zero, List.set_cons_succ, i64_w, i32_w]
        rfl
       refine take_ (i := 0) (N := some 54) (v := ?_) (a' := ?_) #[true, true, true, true, true, true, false, false] rfl rfl (take_ofW HT_.out HW_.out (by kernel_rfl)) (fun _ _ _ h => h) (Or.inl ⟨by rfl, ?_⟩) hHeld ?_ ?_
       rotate_left
       ·
        rintro w' ⟨s0, s1, s2, s3, s4, s5, s6⟩
        go_simp
        with_reducible rfl
       rotate_left
       ·
        simp only [Act.put, List.setIfInBounds_toArray, List.set_cons_zero, List.set_cons_succ, i64_w, i32_w]
        rfl
       refine take_ (i := 6) (N := some 60) (v := ?_) (a' := ?_) #[true, true, true, true, true, true, true, false] rfl rfl (take_ofW HT_.out HW_.out (by kernel_rfl)) (fun _ _ _ h => h) (Or.inl ⟨by rfl, ?_⟩) hHeld ?_ ?_
       rotate_left
       ·
        rintro w' ⟨s0, s1, s2, s3, s4, s5, s6⟩
        go_simp
        with_reducible rfl
       rotate_left
       ·
        simp only [Act.put, List.setIfInBounds_toArray, List.set_cons_zero, List.set_cons_succ, i64_w, i32_w]
        rfl
       refine one_ (i := 7) (N := some 61) #[true, true, true, true, true, true, true, true] rfl rfl (one_of HT_.out (by kernel_rfl)) (by decide) (fun K hK => ?_)
       refine goes_ Try.func69 (by kernel_rfl) rfl #[.agg #[.int .i64 a0_0, .int .i64 a0_1, .int .i64 a0_2, .slice A0_3 l0_3.length c0_3], .int .i64 x10_3, .int .i64 ((rd_T96 l1 x9_2).f0)] (by rfl) rfl rfl (by simp only [List.map_toArray, List.map_cons, List.map_nil]; rfl) ?_
       with_reducible refine (spec_onImage.calls a0_0 a0_1 a0_2 _ _ l0_3 x10_3 ((rd_T96 l1 x9_2).f0) false _ ?side1 ?side2 A47.out).mono ?_
       (case side1 => repeat (first | exact (Kd.C_below HR0_3.out HB.out) | (with_reducible refine Kd.C_alloc ?_ _) | (with_reducible refine Kd.C_drewN ?_ _) | (with_reducible refine Kd.C_drew ?_)))
       (case side2 => exact HC0_3.out)
       rintro e w56 ⟨rfl, hb⟩
       refine ⟨_, rfl, ?_⟩
       replace HO_113003 := am_ (Kd.R_below (by exact HO_113003.out) hb)
       replace BK101 := am_ (blk_below (by exact BK101.out) hb)
       replace BK102 := am_ (blk_below (by exact BK102.out) hb)
       replace BK112 := am_ (blk_below (by exact BK112.out) hb)
       replace HB := am_ (below_step (by repeat (first | (with_reducible first | exact HB.out | apply below_alloc | apply pw_below_drewN | apply below_drew1 | refine below_set ?_ GE101.out | refine below_set ?_ GE102.out | refine below_set ?_ GE112.out) | exact HB.out)) hb)
       (try clear hb)
       (try clear hb2)
       (try clear hk)
       (try clear hi)
       refine hK.out _ _ ⟨(blk_cell BK101.out 0).trans rfl, (blk_cell BK101.out 1).trans rfl, (blk_cell BK101.out 2).trans rfl, (blk_cell BK101.out 3).trans rfl, ((HB.out.cell (World.block_lt_of_cell? w _ hw115_0)).trans hw115_0), ((HB.out.cell (World.block_lt_of_cell? w _ hw115_1)).trans hw115_1), ((HB.out.cell (World.block_lt_of_cell? w _ hw115_2)).trans hw115_2)⟩ (fun hHeld => ?_)
       clear hK K
       refine norm_ (a' := ?_) ?_ ?_
       rotate_left
       ·
        show Act.put _ (some 61) _ = _
        simp only [Act.put, List.setIfInBounds_toArray, List.set_cons_zero, List.set_cons_succ, i64_w, i32_w]
        rfl
       refine done_ (done_of HT_.out (by kernel_rfl)) ?_
       try go_wp2
       go_roundg k3
       case measure => have := HJ3.out; have := HK2.out; have := HK3.out; omega
       case rel => exact ⟨(wrap64 (x10_3 + 1)), (x113003_3), (u113003), (by first | rfl | (simp; done) | (simp [*]; done)), H', ⟨by have := HJ3.out; have := HK2.out; have := HK3.out; omega⟩, ⟨by exact HO_113003.out⟩, ⟨by exact BK101.out⟩, ⟨by exact BK102.out⟩, ⟨by exact BK112.out⟩, ⟨by repeat (first | (with_reducible first | exact HB.out | apply below_alloc | apply pw_below_drewN | apply below_drew1 | refine below_set ?_ GE101.out | refine below_set ?_ GE102.out | refine below_set ?_ GE112.out) | exact HB.out)⟩⟩

end Go.Proofs.Ytbciflelcmmldaa.Print
