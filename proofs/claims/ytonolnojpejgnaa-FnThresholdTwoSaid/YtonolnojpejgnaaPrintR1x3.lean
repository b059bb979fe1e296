-- laid by hp.py (a program of this work over the kit's print), with contracts by hand for what the print does not take
import Derived.Test.YtonolnojpejgnaaPrint0
import Derived.Test.YtonolnojpejgnaaPrintHx0
import Derived.Test.YtonolnojpejgnaaPrintR0x1
import Derived.Test.YtonolnojpejgnaaPrintR1x1
import Derived.Test.YtonolnojpejgnaaPrintR1x2
namespace Go.Proofs.Ytonolnojpejgnaa.Print
open Go.RowKit Go.Proofs.YtonolnojpejgnaaW.PrintWords Go.Proofs.YtonolnojpejgnaaW.PrintLast Go.Proofs.YtonolnojpejgnaaW.PrintMore
attribute [local go_sem] max2_int min2_int max_two min_two max_three min_three max_four min_four   -- for this text's walks alone
set_option linter.unusedVariables false
set_option linter.unusedSimpArgs false

/-! ### impl_ThresholdOf: function 38 -/
mutual
def impl_ThresholdOf.j0 : Nat → Bool → Int → Int → Int → List Int → Option (Int)
 | 0, _, _, _, _, _ => none
 | k + 1, x23, x102000, x102001, x102002, x102003 => if x23 = true then (some (-1)) else ((impl_histogram.f k x102000 x102001 x102002 x102003).bind fun t103 => (impl_ThresholdOf.l0 k t103 0 x102003 (x102003.length : Int) 0 x102000 x102001 x102002 x102003))
def impl_ThresholdOf.l0 : Nat → List Int → Int → List Int → Int → Int → Int → Int → Int → List Int → Option (Int)
 | 0, _, _, _, _, _, _, _, _, _ => none
 | k + 1, x3, x4, x27, x28, x29, x102000, x102001, x102002, x102003 => if x29 < x28 then (if 0 ≤ x29 then (if x29 < (x27.length : Int) then (impl_ThresholdOf.l0 k x3 (wrap64 (x4 + (rd x27 x29))) x27 x28 (wrap64 (x29 + 1)) x102000 x102001 x102002 x102003) else (none)) else (none)) else (impl_ThresholdOf.l1 k x3 x4 0 (-1) 1 0 0 1 x102000 x102001 x102002 x102003)
def impl_ThresholdOf.l1 : Nat → List Int → Int → Int → Int → Int → Int → Int → Int → Int → Int → Int → List Int → Option (Int)
 | 0, _, _, _, _, _, _, _, _, _, _, _, _ => none
 | k + 1, x3, x4, x7, x8, x9, x10, x11, x12, x102000, x102001, x102002, x102003 => if x12 ≤ 255 then (if 0 ≤ (wrap64 (x12 - 1)) then (if (wrap64 (x12 - 1)) < (x3.length : Int) then (if (wrap64 (x10 + (rd x3 (wrap64 (x12 - 1))))) = 0 then (impl_ThresholdOf.j3 k x3 x4 x7 x8 x9 (wrap64 (x10 + (rd x3 (wrap64 (x12 - 1))))) (wrap64 (x11 + (wrap64 ((wrap64 (x12 - 1)) * (rd x3 (wrap64 (x12 - 1))))))) x12 (wrap64 ((x102003.length : Int) - (wrap64 (x10 + (rd x3 (wrap64 (x12 - 1))))))) (wrap64 (x4 - (wrap64 (x11 + (wrap64 ((wrap64 (x12 - 1)) * (rd x3 (wrap64 (x12 - 1))))))))) true x102000 x102001 x102002 x102003) else (impl_ThresholdOf.j3 k x3 x4 x7 x8 x9 (wrap64 (x10 + (rd x3 (wrap64 (x12 - 1))))) (wrap64 (x11 + (wrap64 ((wrap64 (x12 - 1)) * (rd x3 (wrap64 (x12 - 1))))))) x12 (wrap64 ((x102003.length : Int) - (wrap64 (x10 + (rd x3 (wrap64 (x12 - 1))))))) (wrap64 (x4 - (wrap64 (x11 + (wrap64 ((wrap64 (x12 - 1)) * (rd x3 (wrap64 (x12 - 1))))))))) ((wrap64 ((x102003.length : Int) - (wrap64 (x10 + (rd x3 (wrap64 (x12 - 1))))))) == 0) x102000 x102001 x102002 x102003)) else (none)) else (none)) else (some x7)
def impl_ThresholdOf.j3 : Nat → List Int → Int → Int → Int → Int → Int → Int → Int → Int → Int → Bool → Int → Int → Int → List Int → Option (Int)
 | 0, _, _, _, _, _, _, _, _, _, _, _, _, _, _, _ => none
 | k + 1, x3, x4, x7, x8, x9, x10, x11, x12, x13, x14, x71, x102000, x102001, x102002, x102003 => if x71 = true then (impl_ThresholdOf.l1 k x3 x4 x7 x8 x9 x10 x11 (wrap64 (x12 + 1)) x102000 x102001 x102002 x102003) else (if (wrap64 ((wrap64 ((wrap64 ((wrap64 (x10 * x14)) - (wrap64 (x13 * x11)))) * (wrap64 ((wrap64 (x10 * x14)) - (wrap64 (x13 * x11)))))) * x9)) > (wrap64 ((wrap64 (x8 * x10)) * x13)) then (impl_ThresholdOf.l1 k x3 x4 x12 (wrap64 ((wrap64 ((wrap64 (x10 * x14)) - (wrap64 (x13 * x11)))) * (wrap64 ((wrap64 (x10 * x14)) - (wrap64 (x13 * x11)))))) (wrap64 (x10 * x13)) x10 x11 (wrap64 (x12 + 1)) x102000 x102001 x102002 x102003) else (impl_ThresholdOf.l1 k x3 x4 x7 x8 x9 x10 x11 (wrap64 (x12 + 1)) x102000 x102001 x102002 x102003))
end
def impl_ThresholdOf.f (k : Nat) (a0_0 : Int) (a0_1 : Int) (a0_2 : Int) (l0_3 : List Int) : Option (Int) := (impl_isImage.f a0_0 a0_1 a0_2 l0_3).bind fun t102 => (if t102 = true then (impl_ThresholdOf.j0 k (a0_2 != 1) a0_0 a0_1 a0_2 l0_3) else (impl_ThresholdOf.j0 k true a0_0 a0_1 a0_2 l0_3))
theorem impl_ThresholdOf.mono_l : ∀ k, (∀ y0 y1 y2 y3 y4, LeO (impl_ThresholdOf.j0 k y0 y1 y2 y3 y4) (impl_ThresholdOf.j0 (k + 1) y0 y1 y2 y3 y4)) ∧ (∀ y0 y1 y2 y3 y4 y5 y6 y7 y8, LeO (impl_ThresholdOf.l0 k y0 y1 y2 y3 y4 y5 y6 y7 y8) (impl_ThresholdOf.l0 (k + 1) y0 y1 y2 y3 y4 y5 y6 y7 y8)) ∧ (∀ y0 y1 y2 y3 y4 y5 y6 y7 y8 y9 y10 y11, LeO (impl_ThresholdOf.l1 k y0 y1 y2 y3 y4 y5 y6 y7 y8 y9 y10 y11) (impl_ThresholdOf.l1 (k + 1) y0 y1 y2 y3 y4 y5 y6 y7 y8 y9 y10 y11)) ∧ (∀ y0 y1 y2 y3 y4 y5 y6 y7 y8 y9 y10 y11 y12 y13 y14, LeO (impl_ThresholdOf.j3 k y0 y1 y2 y3 y4 y5 y6 y7 y8 y9 y10 y11 y12 y13 y14) (impl_ThresholdOf.j3 (k + 1) y0 y1 y2 y3 y4 y5 y6 y7 y8 y9 y10 y11 y12 y13 y14))
 | 0 => ⟨fun _ _ _ _ _ r h => by simp [impl_ThresholdOf.j0] at h, fun _ _ _ _ _ _ _ _ _ r h => by simp [impl_ThresholdOf.l0] at h, fun _ _ _ _ _ _ _ _ _ _ _ _ r h => by simp [impl_ThresholdOf.l1] at h, fun _ _ _ _ _ _ _ _ _ _ _ _ _ _ _ r h => by simp [impl_ThresholdOf.j3] at h⟩
 | k + 1 => by
  obtain ⟨ih0, ih1, ih2, ih3⟩ := impl_ThresholdOf.mono_l k
  refine ⟨?_, ?_, ?_, ?_⟩
  ·
   intro y0 y1 y2 y3 y4
   unfold impl_ThresholdOf.j0
   repeat' first
   | (with_reducible exact ih0 _ _ _ _ _)
   | (with_reducible exact ih1 _ _ _ _ _ _ _ _ _)
   | (with_reducible exact ih2 _ _ _ _ _ _ _ _ _ _ _ _)
   | (with_reducible exact ih3 _ _ _ _ _ _ _ _ _ _ _ _ _ _ _)
   | (with_reducible exact impl_histogram.mono _ _ _ _ _)
   | (with_reducible exact LeO.refl _)
   | (with_reducible exact LeO.none _)
   | (with_reducible refine LeO.ite ?_ ?_)
   | (with_reducible refine LeO.bind ?_ (fun _ => ?_))
   | exact ih0 _ _ _ _ _
   | exact ih1 _ _ _ _ _ _ _ _ _
   | exact ih2 _ _ _ _ _ _ _ _ _ _ _ _
   | exact ih3 _ _ _ _ _ _ _ _ _ _ _ _ _ _ _
   | exact impl_histogram.mono _ _ _ _ _
   | exact LeO.none _
   | refine LeO.ite ?_ ?_
   | refine LeO.bind ?_ (fun _ => ?_)
  ·
   intro y0 y1 y2 y3 y4 y5 y6 y7 y8
   unfold impl_ThresholdOf.l0
   repeat' first
   | (with_reducible exact ih0 _ _ _ _ _)
   | (with_reducible exact ih1 _ _ _ _ _ _ _ _ _)
   | (with_reducible exact ih2 _ _ _ _ _ _ _ _ _ _ _ _)
   | (with_reducible exact ih3 _ _ _ _ _ _ _ _ _ _ _ _ _ _ _)
   | (with_reducible exact impl_histogram.mono _ _ _ _ _)
   | (with_reducible exact LeO.refl _)
   | (with_reducible exact LeO.none _)
   | (with_reducible refine LeO.ite ?_ ?_)
   | (with_reducible refine LeO.bind ?_ (fun _ => ?_))
   | exact ih0 _ _ _ _ _
   | exact ih1 _ _ _ _ _ _ _ _ _
   | exact ih2 _ _ _ _ _ _ _ _ _ _ _ _
   | exact ih3 _ _ _ _ _ _ _ _ _ _ _ _ _ _ _
   | exact impl_histogram.mono _ _ _ _ _
   | exact LeO.none _
   | refine LeO.ite ?_ ?_
   | refine LeO.bind ?_ (fun _ => ?_)
  ·
   intro y0 y1 y2 y3 y4 y5 y6 y7 y8 y9 y10 y11
   unfold impl_ThresholdOf.l1
   repeat' first
   | (with_reducible exact ih0 _ _ _ _ _)
   | (with_reducible exact ih1 _ _ _ _ _ _ _ _ _)
   | (with_reducible exact ih2 _ _ _ _ _ _ _ _ _ _ _ _)
   | (with_reducible exact ih3 _ _ _ _ _ _ _ _ _ _ _ _ _ _ _)
   | (with_reducible exact impl_histogram.mono _ _ _ _ _)
   | (with_reducible exact LeO.refl _)
   | (with_reducible exact LeO.none _)
   | (with_reducible refine LeO.ite ?_ ?_)
   | (with_reducible refine LeO.bind ?_ (fun _ => ?_))
   | exact ih0 _ _ _ _ _
   | exact ih1 _ _ _ _ _ _ _ _ _
   | exact ih2 _ _ _ _ _ _ _ _ _ _ _ _
   | exact ih3 _ _ _ _ _ _ _ _ _ _ _ _ _ _ _
   | exact impl_histogram.mono _ _ _ _ _
   | exact LeO.none _
   | refine LeO.ite ?_ ?_
   | refine LeO.bind ?_ (fun _ => ?_)
  intro y0 y1 y2 y3 y4 y5 y6 y7 y8 y9 y10 y11 y12 y13 y14
  unfold impl_ThresholdOf.j3
  repeat' first
  | (with_reducible exact ih0 _ _ _ _ _)
  | (with_reducible exact ih1 _ _ _ _ _ _ _ _ _)
  | (with_reducible exact ih2 _ _ _ _ _ _ _ _ _ _ _ _)
  | (with_reducible exact ih3 _ _ _ _ _ _ _ _ _ _ _ _ _ _ _)
  | (with_reducible exact impl_histogram.mono _ _ _ _ _)
  | (with_reducible exact LeO.refl _)
  | (with_reducible exact LeO.none _)
  | (with_reducible refine LeO.ite ?_ ?_)
  | (with_reducible refine LeO.bind ?_ (fun _ => ?_))
  | exact ih0 _ _ _ _ _
  | exact ih1 _ _ _ _ _ _ _ _ _
  | exact ih2 _ _ _ _ _ _ _ _ _ _ _ _
  | exact ih3 _ _ _ _ _ _ _ _ _ _ _ _ _ _ _
  | exact impl_histogram.mono _ _ _ _ _
  | exact LeO.none _
  | refine LeO.ite ?_ ?_
  | refine LeO.bind ?_ (fun _ => ?_)
theorem impl_ThresholdOf.mono : ∀ a0 a1 a2 a3 k, LeO (impl_ThresholdOf.f k a0 a1 a2 a3) (impl_ThresholdOf.f (k + 1) a0 a1 a2 a3) := by
 intro a0 a1 a2 a3 k
 obtain ⟨ih0, ih1, ih2, ih3⟩ := impl_ThresholdOf.mono_l k
 unfold impl_ThresholdOf.f
 repeat' first
   | (with_reducible exact ih0 _ _ _ _ _)
   | (with_reducible exact ih1 _ _ _ _ _ _ _ _ _)
   | (with_reducible exact ih2 _ _ _ _ _ _ _ _ _ _ _ _)
   | (with_reducible exact ih3 _ _ _ _ _ _ _ _ _ _ _ _ _ _ _)
   | (with_reducible exact impl_histogram.mono _ _ _ _ _)
   | (with_reducible exact LeO.refl _)
   | (with_reducible exact LeO.none _)
   | (with_reducible refine LeO.ite ?_ ?_)
   | (with_reducible refine LeO.bind ?_ (fun _ => ?_))
   | exact ih0 _ _ _ _ _
   | exact ih1 _ _ _ _ _ _ _ _ _
   | exact ih2 _ _ _ _ _ _ _ _ _ _ _ _
   | exact ih3 _ _ _ _ _ _ _ _ _ _ _ _ _ _ _
   | exact impl_histogram.mono _ _ _ _ _
   | exact LeO.none _
   | refine LeO.ite ?_ ?_
   | refine LeO.bind ?_ (fun _ => ?_)
set_option maxHeartbeats 8000000 in
set_option maxRecDepth 100000 in
theorem impl_ThresholdOf.calls (k : Nat) (a0_0 : Int) (a0_1 : Int) (a0_2 : Int) (A0_3 : Option Addr) (c0_3 : Nat) (l0_3 : List Int) (r : Int) (w : World) (hr0_3 : Kd.C (Kd.int .i64) w A0_3 l0_3.length l0_3) (hc0_3 : l0_3.length ≤ c0_3) (h : impl_ThresholdOf.f k a0_0 a0_1 a0_2 l0_3 = some r) :
  Calls Try.prog 38 #[.agg #[.int .i64 a0_0, .int .i64 a0_1, .int .i64 a0_2, .slice A0_3 l0_3.length c0_3]] w fun e w' => e = .returned (.int .i64 r) ∧ Below w.heap.size w w' := by
 have hu27 := Try.underlying27
 have HR0_3 := Aside0.mk hr0_3
 have HC0_3 := Aside0.mk hc0_3
 clear hr0_3 hc0_3
 have HB := Aside0.mk (Below.refl w.heap.size w)
 have H : ((impl_isImage.f a0_0 a0_1 a0_2 l0_3).bind fun t102 => (if t102 = true then (impl_ThresholdOf.j0 k (a0_2 != 1) a0_0 a0_1 a0_2 l0_3) else (impl_ThresholdOf.j0 k true a0_0 a0_1 a0_2 l0_3))) = some r := h
 clear h
 have HC2 := Aside0.mk H
 clear H
 go_enter Try.func38, Try.ntmps38
 go_upto_region 1 with (first | ((with_reducible refine gate_dst (N := 1) rfl ?_); refine box_event ?hg (N := 1) ?hd (cs := #[.int .i64 a0_0, .int .i64 a0_1, .int .i64 a0_2, .slice A0_3 l0_3.length c0_3]) (t := 27) ?hr ?_; (case hd => rfl); (case hg => rfl); (case hr => first | (go_simp; done) | (go_simp; rfl)); intro gb101 hg w3 hbox hb; have BK101 := am_ (hbox); have GW101 := am_ ((by rw [hg]; exact (below_size (by repeat (first | (with_reducible first | exact HB.out | apply below_alloc | apply pw_below_drewN | apply below_drew1) | exact HB.out))) : w.heap.size ≤ gb101)); have GE101 := GW101; replace HB := am_ (below_step (by repeat (first | (with_reducible first | exact HB.out | apply below_alloc | apply pw_below_drewN | apply below_drew1) | exact HB.out)) hb); clear hb hbox hg))
 (try simp only [Act.put, List.setIfInBounds_toArray, List.set_cons_zero, List.set_cons_succ])
 go_cut [23] (fun v23 wc => ∃ (kq : Nat) (x23_1 : Bool), v23 = .bool x23_1 ∧ Aside0 (impl_ThresholdOf.j0 kq x23_1 a0_0 a0_1 a0_2 l0_3 = some r) ∧ Aside0 (kq ≤ k) ∧ Aside0 (wc.heap[gb101]? = some (.cells #[.int .i64 a0_0, .int .i64 a0_1, .int .i64 a0_2, (.slice A0_3 l0_3.length c0_3)] 27 (0, 0))) ∧ Aside0 (Below w.heap.size w wc))
 case first =>
  have H := HC2.out
  clear HC2
  replace H := Option.bind_eq_some_iff.mp H
  obtain ⟨t102, A40, H⟩ := H
  replace H : (if t102 = true then (impl_ThresholdOf.j0 k (a0_2 != 1) a0_0 a0_1 a0_2 l0_3) else (impl_ThresholdOf.j0 k true a0_0 a0_1 a0_2 l0_3)) = some r := H
  have A4 := Aside0.mk A40
  clear A40
  by_cases c5 : t102 = true
  ·
   subst c5
   have H1 : (impl_ThresholdOf.j0 k (a0_2 != 1) a0_0 a0_1 a0_2 l0_3) = some r := by rw [if_pos rfl] at H; exact H
   clear H
   have H := H1
   clear H1
   have H' := Aside0.mk H
   clear H
   obtain ⟨hcz6_0, hcz6_1, hcz6_2, hcz6_3, hfz6_0, hfz6_1, hfz6_2, hfz6_3⟩ := blk4_ BK101.out
   go_wp2_with (first | ((with_reducible refine gate_callee (f := 47) rfl ?_); refine goesL_ (some 17) rfl rfl Try.func47 (by kernel_rfl) rfl #[.agg #[.int .i64 a0_0, .int .i64 a0_1, .int .i64 a0_2, .slice A0_3 l0_3.length c0_3]] rfl (by simp only [List.map_toArray, List.map_cons, List.map_nil]; rfl) ?_; (with_reducible refine (impl_isImage.calls a0_0 a0_1 a0_2 _ _ l0_3 true _ ?side1 ?side2 A4.out).mono ?_); (case side1 => repeat (first | exact (Kd.C_below HR0_3.out HB.out) | (with_reducible refine Kd.C_alloc ?_ _) | (with_reducible refine Kd.C_drewN ?_ _) | (with_reducible refine Kd.C_drew ?_))); (case side2 => exact HC0_3.out); rintro e w7 ⟨rfl, hb⟩; refine ⟨_, rfl, ?_⟩; replace BK101 := am_ (blk_below (by exact BK101.out) hb); replace HB := am_ (below_step (by repeat (first | (with_reducible first | exact HB.out | apply below_alloc | apply pw_below_drewN | apply below_drew1 | refine below_set ?_ GE101.out) | exact HB.out)) hb); (try clear hb); (try clear hb2); (try clear hk); (try clear hi); obtain ⟨hcz8_0, hcz8_1, hcz8_2, hcz8_3, hfz8_0, hfz8_1, hfz8_2, hfz8_3⟩ := blk4_ BK101.out))
   go_meet
   case rel => exact ⟨_, ((a0_2 != 1)), (by first | rfl | (simp; done) | (simp [*]; done)), H', ⟨by first | omega | exact Nat.le_refl _⟩, ⟨by exact BK101.out⟩, ⟨by repeat (first | (with_reducible first | exact HB.out | apply below_alloc | apply pw_below_drewN | apply below_drew1 | refine below_set ?_ GE101.out) | exact HB.out)⟩⟩
  replace c5 := Bool.eq_false_iff.mpr c5
  subst c5
  have H1 : (impl_ThresholdOf.j0 k true a0_0 a0_1 a0_2 l0_3) = some r := by rw [if_neg (show ¬ (false = true) by decide)] at H; exact H
  clear H
  have H := H1
  clear H1
  have H' := Aside0.mk H
  clear H
  obtain ⟨hcz9_0, hcz9_1, hcz9_2, hcz9_3, hfz9_0, hfz9_1, hfz9_2, hfz9_3⟩ := blk4_ BK101.out
  go_wp2_with (first | ((with_reducible refine gate_callee (f := 47) rfl ?_); refine goesL_ (some 17) rfl rfl Try.func47 (by kernel_rfl) rfl #[.agg #[.int .i64 a0_0, .int .i64 a0_1, .int .i64 a0_2, .slice A0_3 l0_3.length c0_3]] rfl (by simp only [List.map_toArray, List.map_cons, List.map_nil]; rfl) ?_; (with_reducible refine (impl_isImage.calls a0_0 a0_1 a0_2 _ _ l0_3 false _ ?side1 ?side2 A4.out).mono ?_); (case side1 => repeat (first | exact (Kd.C_below HR0_3.out HB.out) | (with_reducible refine Kd.C_alloc ?_ _) | (with_reducible refine Kd.C_drewN ?_ _) | (with_reducible refine Kd.C_drew ?_))); (case side2 => exact HC0_3.out); rintro e w10 ⟨rfl, hb⟩; refine ⟨_, rfl, ?_⟩; replace BK101 := am_ (blk_below (by exact BK101.out) hb); replace HB := am_ (below_step (by repeat (first | (with_reducible first | exact HB.out | apply below_alloc | apply pw_below_drewN | apply below_drew1 | refine below_set ?_ GE101.out) | exact HB.out)) hb); (try clear hb); (try clear hb2); (try clear hk); (try clear hi)))
  go_meet
  case rel => exact ⟨_, (true), (by first | rfl | (simp; done) | (simp [*]; done)), H', ⟨by first | omega | exact Nat.le_refl _⟩, ⟨by exact BK101.out⟩, ⟨by repeat (first | (with_reducible first | exact HB.out | apply below_alloc | apply pw_below_drewN | apply below_drew1 | refine below_set ?_ GE101.out) | exact HB.out)⟩⟩
 case rest =>
  clear HC2
  try clear p2
  try clear c3
  try clear c4
  try clear c5
  try clear hcz6_0
  try clear hcz6_1
  try clear hcz6_2
  try clear hcz6_3
  try clear hcz8_0
  try clear hcz8_1
  try clear hcz8_2
  try clear hcz8_3
  try clear hcz9_0
  try clear hcz9_1
  try clear hcz9_2
  try clear hcz9_3
  try clear hfz6_0
  try clear hfz6_1
  try clear hfz6_2
  try clear hfz6_3
  try clear hfz8_0
  try clear hfz8_1
  try clear hfz8_2
  try clear hfz8_3
  try clear hfz9_0
  try clear hfz9_1
  try clear hfz9_2
  try clear hfz9_3
  obtain ⟨kq, x23_1, rfl, HA, HJ1, BK101, HB⟩ := hcut
  cases kq with
  | zero => exact absurd HA.out (by simp [impl_ThresholdOf.j0])
  | succ kj1 =>
   have H := HA.out
   clear HA
   simp only [impl_ThresholdOf.j0] at H
   by_cases c11 : x23_1 = true
   ·
    subst c11
    have H1 : (some (-1)) = some r := by rw [if_pos rfl] at H; exact H
    clear H
    have H := H1
    clear H1
    obtain rfl := Option.some.inj H
    go_wp2
    go_ret
    exact ⟨by first | rfl | (simp [errW_none, errW_some] <;> rfl) | (simp [*, errW_none, errW_some] <;> rfl), by repeat (first | (with_reducible first | exact HB.out | apply below_alloc | apply pw_below_drewN | apply below_drew1 | refine below_set ?_ GE101.out) | exact HB.out)⟩
   replace c11 := Bool.eq_false_iff.mpr c11
   subst c11
   have H1 : ((impl_histogram.f kj1 a0_0 a0_1 a0_2 l0_3).bind fun t103 => (impl_ThresholdOf.l0 kj1 t103 0 l0_3 (l0_3.length : Int) 0 a0_0 a0_1 a0_2 l0_3)) = some r := by rw [if_neg (show ¬ (false = true) by decide)] at H; exact H
   clear H
   have H := H1
   clear H1
   replace H := Option.bind_eq_some_iff.mp H
   obtain ⟨t103, A120, H⟩ := H
   replace H : (impl_ThresholdOf.l0 kj1 t103 0 l0_3 (l0_3.length : Int) 0 a0_0 a0_1 a0_2 l0_3) = some r := H
   have A12 := Aside0.mk A120
   clear A120
   have H' := Aside0.mk H
   clear H
   obtain ⟨hcz13_0, hcz13_1, hcz13_2, hcz13_3, hfz13_0, hfz13_1, hfz13_2, hfz13_3⟩ := blk4_ BK101.out
   go_wp2_with (first | ((with_reducible refine gate_callee (f := 48) rfl ?_); refine goesL_ (some 25) rfl rfl Try.func48 (by kernel_rfl) rfl #[.agg #[.int .i64 a0_0, .int .i64 a0_1, .int .i64 a0_2, .slice A0_3 l0_3.length c0_3]] rfl (by simp only [List.map_toArray, List.map_cons, List.map_nil]; rfl) ?_; (with_reducible refine (impl_histogram.calls kj1 a0_0 a0_1 a0_2 _ _ l0_3 t103 _ ?side1 ?side2 A12.out).mono ?_); (case side1 => repeat (first | exact (Kd.C_below HR0_3.out HB.out) | (with_reducible refine Kd.C_alloc ?_ _) | (with_reducible refine Kd.C_drewN ?_ _) | (with_reducible refine Kd.C_drew ?_))); (case side2 => exact HC0_3.out); rintro e w14 ⟨v104, rfl, ho0, hb⟩; refine ⟨_, rfl, ?_⟩; have HO105 := am_ (Kd.R_lower ho0 (below_size (by repeat (first | (with_reducible first | exact HB.out | apply below_alloc | apply pw_below_drewN | apply below_drew1 | refine below_set ?_ GE101.out) | exact HB.out)))); replace BK101 := am_ (blk_below (by exact BK101.out) hb); replace HB := am_ (below_step (by repeat (first | (with_reducible first | exact HB.out | apply below_alloc | apply pw_below_drewN | apply below_drew1 | refine below_set ?_ GE101.out) | exact HB.out)) hb); (try clear hb); (try clear hb2); (try clear hk); (try clear hi); (try clear ho0); obtain ⟨hcz15_0, hcz15_1, hcz15_2, hcz15_3, hfz15_0, hfz15_1, hfz15_2, hfz15_3⟩ := blk4_ BK101.out))
   go_loopg [4, 29] kj1 (fun kq v4 v29 w' => ∃ (x4_2 : Int) (x29_2 : Int), v4 = .int .i64 x4_2 ∧ v29 = .int .i64 x29_2 ∧ Aside0 (impl_ThresholdOf.l0 kq t103 x4_2 l0_3 (l0_3.length : Int) x29_2 a0_0 a0_1 a0_2 l0_3 = some r) ∧ Aside0 (kq ≤ kj1) ∧ Aside0 (Kd.R (Kd.int .i64) 3 w' w.heap.size (fun _ => True) v104 t103) ∧ Aside0 (w'.heap[gb101]? = some (.cells #[.int .i64 a0_0, .int .i64 a0_1, .int .i64 a0_2, (.slice A0_3 l0_3.length c0_3)] 27 (0, 0))) ∧ Aside0 (Below w.heap.size w w'))
   case atStart => exact ⟨(0), (0), (by first | rfl | (simp; done) | (simp [*]; done)), (by first | rfl | (simp; done) | (simp [*]; done)), H', ⟨Nat.le_refl _⟩, ⟨by exact HO105.out⟩, ⟨by exact BK101.out⟩, ⟨by repeat (first | (with_reducible first | exact HB.out | apply below_alloc | apply pw_below_drewN | apply below_drew1 | refine below_set ?_ GE101.out) | exact HB.out)⟩⟩
   case round =>
    clear H'
    try clear c1
    try clear p2
    try clear c3
    try clear c4
    try clear c5
    try clear c11
    try clear hcz13_0
    try clear hcz13_1
    try clear hcz13_2
    try clear hcz13_3
    try clear hcz15_0
    try clear hcz15_1
    try clear hcz15_2
    try clear hcz15_3
    try clear hcz6_0
    try clear hcz6_1
    try clear hcz6_2
    try clear hcz6_3
    try clear hcz8_0
    try clear hcz8_1
    try clear hcz8_2
    try clear hcz8_3
    try clear hcz9_0
    try clear hcz9_1
    try clear hcz9_2
    try clear hcz9_3
    try clear hfz13_0
    try clear hfz13_1
    try clear hfz13_2
    try clear hfz13_3
    try clear hfz15_0
    try clear hfz15_1
    try clear hfz15_2
    try clear hfz15_3
    try clear hfz6_0
    try clear hfz6_1
    try clear hfz6_2
    try clear hfz6_3
    try clear hfz8_0
    try clear hfz8_1
    try clear hfz8_2
    try clear hfz8_3
    try clear hfz9_0
    try clear hfz9_1
    try clear hfz9_2
    try clear hfz9_3
    try clear p2
    obtain ⟨x4_2, x29_2, rfl, rfl, HA, HK2, HO_3, BK101, HB⟩ := hrel
    cases gk with
    | zero => exact absurd HA.out (by simp [impl_ThresholdOf.l0])
    | succ k2 =>
     have H := HA.out
     clear HA
     simp only [impl_ThresholdOf.l0] at H
     by_cases c16 : x29_2 < (l0_3.length : Int)
     ·
      rw [if_pos c16] at H
      have c16b0 : decide (x29_2 < (l0_3.length : Int)) = true := decide_eq_true c16
      clear c16
      by_cases c17 : 0 ≤ x29_2
      rotate_left
      ·
       rw [if_neg c17] at H
       exact absurd H (by simp)
      rw [if_pos c17] at H
      have c17b0 : decide (0 ≤ x29_2) = true := decide_eq_true c17
      clear c17
      by_cases c18 : x29_2 < (l0_3.length : Int)
      rotate_left
      ·
       rw [if_neg c18] at H
       exact absurd H (by simp)
      rw [if_pos c18] at H
      have c18b0 : decide (x29_2 < (l0_3.length : Int)) = true := decide_eq_true c18
      clear c18
      have H' := Aside0.mk H
      clear H
      have p106 : 0 ≤ (x29_2 : Int) := of_decide_eq_true (by first | with_reducible assumption | assumption)
      have q106 : x29_2 < (l0_3.length : Int) := of_decide_eq_true (by first | with_reducible assumption | assumption)
      obtain ⟨ad106, e106, hx106_0⟩ := Kd.at_int HR0_3.out x29_2 p106 q106
      cases e106
      replace hx106_0 := (HB.out.cell (World.block_lt_of_cell? w _ hx106_0)).trans hx106_0
      replace p106 := eq_true p106
      replace q106 := eq_true q106
      go_wp2
      go_roundg k2
      case measure => have := HJ1.out; have := HK2.out; omega
      case rel => exact ⟨(wrap64 (x4_2 + (rd l0_3 x29_2))), (wrap64 (x29_2 + 1)), (by first | rfl | (simp; done) | (simp [*]; done)), (by first | rfl | (simp; done) | (simp [*]; done)), H', ⟨by have := HJ1.out; have := HK2.out; omega⟩, ⟨by exact HO_3.out⟩, ⟨by exact BK101.out⟩, ⟨by repeat (first | (with_reducible first | exact HB.out | apply below_alloc | apply pw_below_drewN | apply below_drew1 | refine below_set ?_ GE101.out) | exact HB.out)⟩⟩
     rw [if_neg c16] at H
     have c16b0 : decide (x29_2 < (l0_3.length : Int)) = false := decide_eq_false c16
     clear c16
     have H' := Aside0.mk H
     clear H
     go_wp2
     go_loopg [7, 8, 9, 10, 11, 12] k2 (fun kq v7 v8 v9 v10 v11 v12 w' => ∃ (x7_3 : Int) (x8_3 : Int) (x9_3 : Int) (x10_3 : Int) (x11_3 : Int) (x12_3 : Int), v7 = .int .i64 x7_3 ∧ v8 = .int .i64 x8_3 ∧ v9 = .int .i64 x9_3 ∧ v10 = .int .i64 x10_3 ∧ v11 = .int .i64 x11_3 ∧ v12 = .int .i64 x12_3 ∧ Aside0 (impl_ThresholdOf.l1 kq t103 x4_2 x7_3 x8_3 x9_3 x10_3 x11_3 x12_3 a0_0 a0_1 a0_2 l0_3 = some r) ∧ Aside0 (kq ≤ k2) ∧ Aside0 (Kd.R (Kd.int .i64) 3 w' w.heap.size (fun _ => True) v104 t103) ∧ Aside0 (w'.heap[gb101]? = some (.cells #[.int .i64 a0_0, .int .i64 a0_1, .int .i64 a0_2, (.slice A0_3 l0_3.length c0_3)] 27 (0, 0))) ∧ Aside0 (Below w.heap.size w w'))
     case atStart => exact ⟨(0), ((-1)), (1), (0), (0), (1), (by first | rfl | (simp; done) | (simp [*]; done)), (by first | rfl | (simp; done) | (simp [*]; done)), (by first | rfl | (simp; done) | (simp [*]; done)), (by first | rfl | (simp; done) | (simp [*]; done)), (by first | rfl | (simp; done) | (simp [*]; done)), (by first | rfl | (simp; done) | (simp [*]; done)), H', ⟨Nat.le_refl _⟩, ⟨by exact HO_3.out⟩, ⟨by exact BK101.out⟩, ⟨by repeat (first | (with_reducible first | exact HB.out | apply below_alloc | apply pw_below_drewN | apply below_drew1 | refine below_set ?_ GE101.out) | exact HB.out)⟩⟩
     case round =>
      clear H'
      try clear c1
      try clear p1
      try clear q1
      try clear hx1
      try clear p2
      try clear c3
      try clear c4
      try clear c5
      try clear p6
      try clear p10
      try clear q10
      try clear hx10
      try clear c11
      try clear c16
      try clear c16b0
      try clear c17
      try clear c17b0
      try clear c18
      try clear c18b0
      try clear hcz13_0
      try clear hcz13_1
      try clear hcz13_2
      try clear hcz13_3
      try clear hcz15_0
      try clear hcz15_1
      try clear hcz15_2
      try clear hcz15_3
      try clear hcz6_0
      try clear hcz6_1
      try clear hcz6_2
      try clear hcz6_3
      try clear hcz8_0
      try clear hcz8_1
      try clear hcz8_2
      try clear hcz8_3
      try clear hcz9_0
      try clear hcz9_1
      try clear hcz9_2
      try clear hcz9_3
      try clear hfz13_0
      try clear hfz13_1
      try clear hfz13_2
      try clear hfz13_3
      try clear hfz15_0
      try clear hfz15_1
      try clear hfz15_2
      try clear hfz15_3
      try clear hfz6_0
      try clear hfz6_1
      try clear hfz6_2
      try clear hfz6_3
      try clear hfz8_0
      try clear hfz8_1
      try clear hfz8_2
      try clear hfz8_3
      try clear hfz9_0
      try clear hfz9_1
      try clear hfz9_2
      try clear hfz9_3
      try clear hx106_0
      try clear p106
      try clear p2
      try clear q106
      obtain ⟨x7_3, x8_3, x9_3, x10_3, x11_3, x12_3, rfl, rfl, rfl, rfl, rfl, rfl, HA, HK3, HO_3, BK101, HB⟩ := hrel
      cases gk with
      | zero => exact absurd HA.out (by simp [impl_ThresholdOf.l1])
      | succ k3 =>
       have H := HA.out
       clear HA
       simp only [impl_ThresholdOf.l1] at H
       by_cases c19 : x12_3 ≤ 255
       rotate_left
       ·
        rw [if_neg c19] at H
        have c19b0 : decide (x12_3 ≤ 255) = false := decide_eq_false c19
        clear c19
        obtain rfl := Option.some.inj H
        go_wp2
        go_ret
        exact ⟨by first | rfl | (simp [errW_none, errW_some] <;> rfl) | (simp [*, errW_none, errW_some] <;> rfl), by repeat (first | (with_reducible first | exact HB.out | apply below_alloc | apply pw_below_drewN | apply below_drew1 | refine below_set ?_ GE101.out) | exact HB.out)⟩
       rw [if_pos c19] at H
       have c19b0 : decide (x12_3 ≤ 255) = true := decide_eq_true c19
       clear c19
       obtain ⟨ji20, hji20⟩ : ∃ j_ : Int, (wrap64 (x12_3 - 1)) = j_ := ⟨_, rfl⟩
       replace H : (if 0 ≤ (ji20) then (if (ji20) < (t103.length : Int) then (if (wrap64 (x10_3 + (rd t103 (ji20)))) = 0 then (impl_ThresholdOf.j3 k3 t103 x4_2 x7_3 x8_3 x9_3 (wrap64 (x10_3 + (rd t103 (ji20)))) (wrap64 (x11_3 + (wrap64 ((ji20) * (rd t103 (ji20)))))) x12_3 (wrap64 ((l0_3.length : Int) - (wrap64 (x10_3 + (rd t103 (ji20)))))) (wrap64 (x4_2 - (wrap64 (x11_3 + (wrap64 ((ji20) * (rd t103 (ji20)))))))) true a0_0 a0_1 a0_2 l0_3) else (impl_ThresholdOf.j3 k3 t103 x4_2 x7_3 x8_3 x9_3 (wrap64 (x10_3 + (rd t103 (ji20)))) (wrap64 (x11_3 + (wrap64 ((ji20) * (rd t103 (ji20)))))) x12_3 (wrap64 ((l0_3.length : Int) - (wrap64 (x10_3 + (rd t103 (ji20)))))) (wrap64 (x4_2 - (wrap64 (x11_3 + (wrap64 ((ji20) * (rd t103 (ji20)))))))) ((wrap64 ((l0_3.length : Int) - (wrap64 (x10_3 + (rd t103 (ji20)))))) == 0) a0_0 a0_1 a0_2 l0_3)) else (none)) else (none)) = some r := by first | (rw [hji20] at H; exact H) | (simp only [hji20] at H ⊢; exact H)
       have hji20w : (IntKind.i64.wrap (x12_3 - 1)) = ji20 := (i64_w _).trans hji20
       by_cases c21 : 0 ≤ (ji20)
       rotate_left
       ·
        rw [if_neg c21] at H
        exact absurd H (by simp)
       rw [if_pos c21] at H
       have c21b0 : decide (0 ≤ (ji20)) = true := decide_eq_true c21
       clear c21
       by_cases c22 : (ji20) < (t103.length : Int)
       rotate_left
       ·
        rw [if_neg c22] at H
        exact absurd H (by simp)
       rw [if_pos c22] at H
       have c22b0 : decide ((ji20) < (t103.length : Int)) = true := decide_eq_true c22
       clear c22
       have HC23 := Aside0.mk H
       clear H
       obtain ⟨Ao24, co24, eo24⟩ := Kd.R_slice HO_3.out
       subst eo24
       have p107 : 0 ≤ ((ji20) : Int) := of_decide_eq_true (by first | with_reducible assumption | assumption)
       have q107 : (ji20) < (t103.length : Int) := of_decide_eq_true (by first | with_reducible assumption | assumption)
       obtain ⟨ad107, e107, hx107_0⟩ := Kd.at_int (Kd.R_reads' HO_3.out).2.2 (ji20) p107 q107
       cases e107
       replace p107 := eq_true p107
       replace q107 := eq_true q107
       have p108 : 0 ≤ ((ji20) : Int) := of_decide_eq_true (by first | with_reducible assumption | assumption)
       have q108 : (ji20) < (t103.length : Int) := of_decide_eq_true (by first | with_reducible assumption | assumption)
       obtain ⟨ad108, e108, hx108_0⟩ := Kd.at_int (Kd.R_reads' HO_3.out).2.2 (ji20) p108 q108
       obtain rfl : ad107 = ad108 := (by injection e108)
       replace p108 := eq_true p108
       replace q108 := eq_true q108
       obtain ⟨hcz25_0, hcz25_1, hcz25_2, hcz25_3, hfz25_0, hfz25_1, hfz25_2, hfz25_3⟩ := blk4_ BK101.out
       go_upto_region 18 with (fail)
       go_cut [71] (fun v71 wc => ∃ (kq : Nat) (x71_22 : Bool), v71 = .bool x71_22 ∧ Aside0 (impl_ThresholdOf.j3 kq t103 x4_2 x7_3 x8_3 x9_3 (wrap64 (x10_3 + (rd t103 (ji20)))) (wrap64 (x11_3 + (wrap64 ((ji20) * (rd t103 (ji20)))))) x12_3 (wrap64 ((l0_3.length : Int) - (wrap64 (x10_3 + (rd t103 (ji20)))))) (wrap64 (x4_2 - (wrap64 (x11_3 + (wrap64 ((ji20) * (rd t103 (ji20)))))))) x71_22 a0_0 a0_1 a0_2 l0_3 = some r) ∧ Aside0 (kq ≤ k3) ∧ Aside0 (Kd.R (Kd.int .i64) 3 wc w.heap.size (fun _ => True) (.slice (some ad107) t103.length co24) t103) ∧ Aside0 (wc.heap[gb101]? = some (.cells #[.int .i64 a0_0, .int .i64 a0_1, .int .i64 a0_2, (.slice A0_3 l0_3.length c0_3)] 27 (0, 0))) ∧ Aside0 (Below w.heap.size w wc))
       case first =>
        have H := HC23.out
        clear HC23
        by_cases c26 : (wrap64 (x10_3 + (rd t103 (ji20)))) = 0
        ·
         rw [if_pos c26] at H
         have c26b0 : ((wrap64 (x10_3 + (rd t103 (ji20)))) == 0) = true := beq_iff_eq.mpr c26
         have c26b1 : ((wrap64 (x10_3 + (rd t103 (ji20)))) != 0) = false := bne_eq_false_iff_eq.mpr c26
         clear c26
         (first | rw [c26b0] | (simp only [i64_w, i32_w]; rw [c26b0]) | skip)
         have H' := Aside0.mk H
         clear H
         go_wp2
         go_meet
         case rel => exact ⟨_, (true), (by first | rfl | (simp; done) | (simp [*]; done)), H', ⟨by have := HJ1.out; have := HK2.out; have := HK3.out; first | omega | exact Nat.le_refl _⟩, ⟨by exact HO_3.out⟩, ⟨by exact BK101.out⟩, ⟨by repeat (first | (with_reducible first | exact HB.out | apply below_alloc | apply pw_below_drewN | apply below_drew1 | refine below_set ?_ GE101.out) | exact HB.out)⟩⟩
        rw [if_neg c26] at H
        have c26b0 : ((wrap64 (x10_3 + (rd t103 (ji20)))) == 0) = false := beq_eq_false_iff_ne.mpr c26
        have c26b1 : ((wrap64 (x10_3 + (rd t103 (ji20)))) != 0) = true := bne_iff_ne.mpr c26
        (first | rw [c26b0] | (simp only [i64_w, i32_w]; rw [c26b0]) | skip)
        have H' := Aside0.mk H
        clear H
        go_wp2
        go_meet
        case rel => exact ⟨_, (((wrap64 ((l0_3.length : Int) - (wrap64 (x10_3 + (rd t103 (ji20)))))) == 0)), (by first | rfl | (simp; done) | (simp only [← hji20] <;> (first | rfl | simp)) | (simp [*]; done)), H', ⟨by have := HJ1.out; have := HK2.out; have := HK3.out; first | omega | exact Nat.le_refl _⟩, ⟨by exact HO_3.out⟩, ⟨by exact BK101.out⟩, ⟨by repeat (first | (with_reducible first | exact HB.out | apply below_alloc | apply pw_below_drewN | apply below_drew1 | refine below_set ?_ GE101.out) | exact HB.out)⟩⟩
       case rest =>
        clear HC23
        try clear c1
        try clear p1
        try clear q1
        try clear hx1
        try clear c2
        try clear p2
        try clear c3
        try clear c4
        try clear c5
        try clear p6
        try clear p10
        try clear q10
        try clear hx10
        try clear c11
        try clear c16
        try clear c16b0
        try clear c17
        try clear c17b0
        try clear c18
        try clear c18b0
        try clear c19
        try clear c19b0
        try clear c21
        try clear c21b0
        try clear c22
        try clear c22b0
        try clear c26
        try clear c26b0
        try clear c26b1
        try clear hcz13_0
        try clear hcz13_1
        try clear hcz13_2
        try clear hcz13_3
        try clear hcz15_0
        try clear hcz15_1
        try clear hcz15_2
        try clear hcz15_3
        try clear hcz25_0
        try clear hcz25_1
        try clear hcz25_2
        try clear hcz25_3
        try clear hcz6_0
        try clear hcz6_1
        try clear hcz6_2
        try clear hcz6_3
        try clear hcz8_0
        try clear hcz8_1
        try clear hcz8_2
        try clear hcz8_3
        try clear hcz9_0
        try clear hcz9_1
        try clear hcz9_2
        try clear hcz9_3
        try clear hfz13_0
        try clear hfz13_1
        try clear hfz13_2
        try clear hfz13_3
        try clear hfz15_0
        try clear hfz15_1
        try clear hfz15_2
        try clear hfz15_3
        try clear hfz25_0
        try clear hfz25_1
        try clear hfz25_2
        try clear hfz25_3
        try clear hfz6_0
        try clear hfz6_1
        try clear hfz6_2
        try clear hfz6_3
        try clear hfz8_0
        try clear hfz8_1
        try clear hfz8_2
        try clear hfz8_3
        try clear hfz9_0
        try clear hfz9_1
        try clear hfz9_2
        try clear hfz9_3
        try clear hx106_0
        try clear hx107_0
        try clear hx108_0
        try clear p1
        try clear p10
        try clear p106
        try clear p107
        try clear p108
        try clear p2
        try clear p6
        try clear q1
        try clear q10
        try clear q106
        try clear q107
        try clear q108
        obtain ⟨kq, x71_22, rfl, HA, HJ22, HO_3, BK101, HB⟩ := hcut
        cases kq with
        | zero => exact absurd HA.out (by simp [impl_ThresholdOf.j3])
        | succ kj22 =>
         have H := HA.out
         clear HA
         simp only [impl_ThresholdOf.j3] at H
         by_cases c27 : x71_22 = true
         ·
          subst c27
          have H1 : (impl_ThresholdOf.l1 kj22 t103 x4_2 x7_3 x8_3 x9_3 (wrap64 (x10_3 + (rd t103 (ji20)))) (wrap64 (x11_3 + (wrap64 ((ji20) * (rd t103 (ji20)))))) (wrap64 (x12_3 + 1)) a0_0 a0_1 a0_2 l0_3) = some r := by rw [if_pos rfl] at H; exact H
          clear H
          have H := H1
          clear H1
          have H' := Aside0.mk H
          clear H
          go_wp2
          go_roundg kj22
          case measure => have := HJ1.out; have := HK2.out; have := HK3.out; have := HJ22.out; omega
          case rel => exact ⟨(x7_3), (x8_3), (x9_3), ((wrap64 (x10_3 + (rd t103 (ji20))))), ((wrap64 (x11_3 + (wrap64 ((ji20) * (rd t103 (ji20))))))), (wrap64 (x12_3 + 1)), (by first | rfl | (simp; done) | (simp [*]; done)), (by first | rfl | (simp; done) | (simp [*]; done)), (by first | rfl | (simp; done) | (simp [*]; done)), (by first | rfl | (simp; done) | (simp only [← hji20] <;> (first | rfl | simp)) | (simp [*]; done)), (by first | rfl | (simp; done) | (simp only [← hji20] <;> (first | rfl | simp)) | (simp [*]; done)), (by first | rfl | (simp; done) | (simp [*]; done)), H', ⟨by have := HJ1.out; have := HK2.out; have := HK3.out; have := HJ22.out; omega⟩, ⟨by exact HO_3.out⟩, ⟨by exact BK101.out⟩, ⟨by repeat (first | (with_reducible first | exact HB.out | apply below_alloc | apply pw_below_drewN | apply below_drew1 | refine below_set ?_ GE101.out) | exact HB.out)⟩⟩
         replace c27 := Bool.eq_false_iff.mpr c27
         subst c27
         have H1 : (if (wrap64 ((wrap64 ((wrap64 ((wrap64 ((wrap64 (x10_3 + (rd t103 (ji20)))) * (wrap64 (x4_2 - (wrap64 (x11_3 + (wrap64 ((ji20) * (rd t103 (ji20)))))))))) - (wrap64 ((wrap64 ((l0_3.length : Int) - (wrap64 (x10_3 + (rd t103 (ji20)))))) * (wrap64 (x11_3 + (wrap64 ((ji20) * (rd t103 (ji20)))))))))) * (wrap64 ((wrap64 ((wrap64 (x10_3 + (rd t103 (ji20)))) * (wrap64 (x4_2 - (wrap64 (x11_3 + (wrap64 ((ji20) * (rd t103 (ji20)))))))))) - (wrap64 ((wrap64 ((l0_3.length : Int) - (wrap64 (x10_3 + (rd t103 (ji20)))))) * (wrap64 (x11_3 + (wrap64 ((ji20) * (rd t103 (ji20)))))))))))) * x9_3)) > (wrap64 ((wrap64 (x8_3 * (wrap64 (x10_3 + (rd t103 (ji20)))))) * (wrap64 ((l0_3.length : Int) - (wrap64 (x10_3 + (rd t103 (ji20)))))))) then (impl_ThresholdOf.l1 kj22 t103 x4_2 x12_3 (wrap64 ((wrap64 ((wrap64 ((wrap64 (x10_3 + (rd t103 (ji20)))) * (wrap64 (x4_2 - (wrap64 (x11_3 + (wrap64 ((ji20) * (rd t103 (ji20)))))))))) - (wrap64 ((wrap64 ((l0_3.length : Int) - (wrap64 (x10_3 + (rd t103 (ji20)))))) * (wrap64 (x11_3 + (wrap64 ((ji20) * (rd t103 (ji20)))))))))) * (wrap64 ((wrap64 ((wrap64 (x10_3 + (rd t103 (ji20)))) * (wrap64 (x4_2 - (wrap64 (x11_3 + (wrap64 ((ji20) * (rd t103 (ji20)))))))))) - (wrap64 ((wrap64 ((l0_3.length : Int) - (wrap64 (x10_3 + (rd t103 (ji20)))))) * (wrap64 (x11_3 + (wrap64 ((ji20) * (rd t103 (ji20)))))))))))) (wrap64 ((wrap64 (x10_3 + (rd t103 (ji20)))) * (wrap64 ((l0_3.length : Int) - (wrap64 (x10_3 + (rd t103 (ji20)))))))) (wrap64 (x10_3 + (rd t103 (ji20)))) (wrap64 (x11_3 + (wrap64 ((ji20) * (rd t103 (ji20)))))) (wrap64 (x12_3 + 1)) a0_0 a0_1 a0_2 l0_3) else (impl_ThresholdOf.l1 kj22 t103 x4_2 x7_3 x8_3 x9_3 (wrap64 (x10_3 + (rd t103 (ji20)))) (wrap64 (x11_3 + (wrap64 ((ji20) * (rd t103 (ji20)))))) (wrap64 (x12_3 + 1)) a0_0 a0_1 a0_2 l0_3)) = some r := by rw [if_neg (show ¬ (false = true) by decide)] at H; exact H
         clear H
         have H := H1
         clear H1
         by_cases c28 : (wrap64 ((wrap64 ((wrap64 ((wrap64 ((wrap64 (x10_3 + (rd t103 (ji20)))) * (wrap64 (x4_2 - (wrap64 (x11_3 + (wrap64 ((ji20) * (rd t103 (ji20)))))))))) - (wrap64 ((wrap64 ((l0_3.length : Int) - (wrap64 (x10_3 + (rd t103 (ji20)))))) * (wrap64 (x11_3 + (wrap64 ((ji20) * (rd t103 (ji20)))))))))) * (wrap64 ((wrap64 ((wrap64 (x10_3 + (rd t103 (ji20)))) * (wrap64 (x4_2 - (wrap64 (x11_3 + (wrap64 ((ji20) * (rd t103 (ji20)))))))))) - (wrap64 ((wrap64 ((l0_3.length : Int) - (wrap64 (x10_3 + (rd t103 (ji20)))))) * (wrap64 (x11_3 + (wrap64 ((ji20) * (rd t103 (ji20)))))))))))) * x9_3)) > (wrap64 ((wrap64 (x8_3 * (wrap64 (x10_3 + (rd t103 (ji20)))))) * (wrap64 ((l0_3.length : Int) - (wrap64 (x10_3 + (rd t103 (ji20))))))))
         ·
          rw [if_pos c28] at H
          have c28b0 : decide ((wrap64 ((wrap64 (x8_3 * (wrap64 (x10_3 + (rd t103 (ji20)))))) * (wrap64 ((l0_3.length : Int) - (wrap64 (x10_3 + (rd t103 (ji20)))))))) < (wrap64 ((wrap64 ((wrap64 ((wrap64 ((wrap64 (x10_3 + (rd t103 (ji20)))) * (wrap64 (x4_2 - (wrap64 (x11_3 + (wrap64 ((ji20) * (rd t103 (ji20)))))))))) - (wrap64 ((wrap64 ((l0_3.length : Int) - (wrap64 (x10_3 + (rd t103 (ji20)))))) * (wrap64 (x11_3 + (wrap64 ((ji20) * (rd t103 (ji20)))))))))) * (wrap64 ((wrap64 ((wrap64 (x10_3 + (rd t103 (ji20)))) * (wrap64 (x4_2 - (wrap64 (x11_3 + (wrap64 ((ji20) * (rd t103 (ji20)))))))))) - (wrap64 ((wrap64 ((l0_3.length : Int) - (wrap64 (x10_3 + (rd t103 (ji20)))))) * (wrap64 (x11_3 + (wrap64 ((ji20) * (rd t103 (ji20)))))))))))) * x9_3))) = true := decide_eq_true c28
          clear c28
          have H' := Aside0.mk H
          clear H
          go_wp2
          go_roundg kj22
          case measure => have := HJ1.out; have := HK2.out; have := HK3.out; have := HJ22.out; omega
          case rel => exact ⟨(x12_3), (wrap64 ((wrap64 ((wrap64 ((wrap64 (x10_3 + (rd t103 (ji20)))) * (wrap64 (x4_2 - (wrap64 (x11_3 + (wrap64 ((ji20) * (rd t103 (ji20)))))))))) - (wrap64 ((wrap64 ((l0_3.length : Int) - (wrap64 (x10_3 + (rd t103 (ji20)))))) * (wrap64 (x11_3 + (wrap64 ((ji20) * (rd t103 (ji20)))))))))) * (wrap64 ((wrap64 ((wrap64 (x10_3 + (rd t103 (ji20)))) * (wrap64 (x4_2 - (wrap64 (x11_3 + (wrap64 ((ji20) * (rd t103 (ji20)))))))))) - (wrap64 ((wrap64 ((l0_3.length : Int) - (wrap64 (x10_3 + (rd t103 (ji20)))))) * (wrap64 (x11_3 + (wrap64 ((ji20) * (rd t103 (ji20)))))))))))), (wrap64 ((wrap64 (x10_3 + (rd t103 (ji20)))) * (wrap64 ((l0_3.length : Int) - (wrap64 (x10_3 + (rd t103 (ji20)))))))), ((wrap64 (x10_3 + (rd t103 (ji20))))), ((wrap64 (x11_3 + (wrap64 ((ji20) * (rd t103 (ji20))))))), (wrap64 (x12_3 + 1)), (by first | rfl | (simp; done) | (simp [*]; done)), (by first | rfl | (simp; done) | (simp only [← hji20] <;> (first | rfl | simp)) | (simp [*]; done)), (by first | rfl | (simp; done) | (simp only [← hji20] <;> (first | rfl | simp)) | (simp [*]; done)), (by first | rfl | (simp; done) | (simp only [← hji20] <;> (first | rfl | simp)) | (simp [*]; done)), (by first | rfl | (simp; done) | (simp only [← hji20] <;> (first | rfl | simp)) | (simp [*]; done)), (by first | rfl | (simp; done) | (simp [*]; done)), H', ⟨by have := HJ1.out; have := HK2.out; have := HK3.out; have := HJ22.out; omega⟩, ⟨by exact HO_3.out⟩, ⟨by exact BK101.out⟩, ⟨by repeat (first | (with_reducible first | exact HB.out | apply below_alloc | apply pw_below_drewN | apply below_drew1 | refine below_set ?_ GE101.out) | exact HB.out)⟩⟩
         rw [if_neg c28] at H
         have c28b0 : decide ((wrap64 ((wrap64 (x8_3 * (wrap64 (x10_3 + (rd t103 (ji20)))))) * (wrap64 ((l0_3.length : Int) - (wrap64 (x10_3 + (rd t103 (ji20)))))))) < (wrap64 ((wrap64 ((wrap64 ((wrap64 ((wrap64 (x10_3 + (rd t103 (ji20)))) * (wrap64 (x4_2 - (wrap64 (x11_3 + (wrap64 ((ji20) * (rd t103 (ji20)))))))))) - (wrap64 ((wrap64 ((l0_3.length : Int) - (wrap64 (x10_3 + (rd t103 (ji20)))))) * (wrap64 (x11_3 + (wrap64 ((ji20) * (rd t103 (ji20)))))))))) * (wrap64 ((wrap64 ((wrap64 (x10_3 + (rd t103 (ji20)))) * (wrap64 (x4_2 - (wrap64 (x11_3 + (wrap64 ((ji20) * (rd t103 (ji20)))))))))) - (wrap64 ((wrap64 ((l0_3.length : Int) - (wrap64 (x10_3 + (rd t103 (ji20)))))) * (wrap64 (x11_3 + (wrap64 ((ji20) * (rd t103 (ji20)))))))))))) * x9_3))) = false := decide_eq_false c28
         clear c28
         have H' := Aside0.mk H
         clear H
         go_wp2
         go_roundg kj22
         case measure => have := HJ1.out; have := HK2.out; have := HK3.out; have := HJ22.out; omega
         case rel => exact ⟨(x7_3), (x8_3), (x9_3), ((wrap64 (x10_3 + (rd t103 (ji20))))), ((wrap64 (x11_3 + (wrap64 ((ji20) * (rd t103 (ji20))))))), (wrap64 (x12_3 + 1)), (by first | rfl | (simp; done) | (simp [*]; done)), (by first | rfl | (simp; done) | (simp [*]; done)), (by first | rfl | (simp; done) | (simp [*]; done)), (by first | rfl | (simp; done) | (simp only [← hji20] <;> (first | rfl | simp)) | (simp [*]; done)), (by first | rfl | (simp; done) | (simp only [← hji20] <;> (first | rfl | simp)) | (simp [*]; done)), (by first | rfl | (simp; done) | (simp [*]; done)), H', ⟨by have := HJ1.out; have := HK2.out; have := HK3.out; have := HJ22.out; omega⟩, ⟨by exact HO_3.out⟩, ⟨by exact BK101.out⟩, ⟨by repeat (first | (with_reducible first | exact HB.out | apply below_alloc | apply pw_below_drewN | apply below_drew1 | refine below_set ?_ GE101.out) | exact HB.out)⟩⟩

/-! ### spec_reader_one: function 79 -/
def spec_reader_one.f (k : Nat) (s0_0 : List Int) (s0_1 : Int) (l1 : List Int) : Option (Int × Int) := (spec_reader_pick.f k s0_0 s0_1 (l1.length : Int)).bind fun bt101 => (if 0 ≤ bt101.1 then (if bt101.1 < (l1.length : Int) then (some (rd l1 bt101.1, bt101.2)) else (none)) else (none))
theorem spec_reader_one.mono : ∀ a0 a1 a2 k, LeO (spec_reader_one.f k a0 a1 a2) (spec_reader_one.f (k + 1) a0 a1 a2) := by
 intro a0 a1 a2 k
 unfold spec_reader_one.f
 repeat' first
   | (with_reducible exact spec_reader_pick.mono _ _ _ _)
   | (with_reducible exact LeO.refl _)
   | (with_reducible exact LeO.none _)
   | (with_reducible refine LeO.ite ?_ ?_)
   | (with_reducible refine LeO.bind ?_ (fun _ => ?_))
   | exact spec_reader_pick.mono _ _ _ _
   | exact LeO.none _
   | refine LeO.ite ?_ ?_
   | refine LeO.bind ?_ (fun _ => ?_)
set_option maxHeartbeats 8000000 in
set_option maxRecDepth 100000 in
theorem spec_reader_one.calls (k : Nat) (g : Nat) (s0_0 : List Int) (s0_1 : Int) (A1 : Option Addr) (c1 : Nat) (l1 : List Int) (r1 : Int) (r2 : Int) (w0 w : World) (hI : IsS68 w0 w g s0_0 s0_1) (hB : Below w0.heap.size w0 w) (hr1 : Kd.C (Kd.int .i64) w A1 l1.length l1) (hc1 : l1.length ≤ c1) (hf1 : ∀ ad, A1 = some ad → 0 < l1.length → ad.block ≠ g) (h : spec_reader_one.f k s0_0 s0_1 l1 = some (r1, r2)) :
  Calls Try.prog 79 #[.pointer (some ⟨g, 0, none⟩), .slice A1 l1.length c1] w fun e w' => e = .returned (.int .i64 r1) ∧ IsS68 w0 w' g s0_0 r2 ∧ Below w0.heap.size w0 w' ∧ KeepBut w w' g none := by
 have HR1 := Aside0.mk hr1
 have HC1 := Aside0.mk hc1
 clear hr1 hc1
 have HI0 := Aside0.mk hI
 have HK := Aside0.mk (KeepBut.refl w g none)
 have HL := Aside0.mk hB.size
 clear hI
 have HW0 := Aside0.mk hB.size
 have HB := Aside0.mk hB
 clear hB
 have H : ((spec_reader_pick.f k s0_0 s0_1 (l1.length : Int)).bind fun bt101 => (if 0 ≤ bt101.1 then (if bt101.1 < (l1.length : Int) then (some (rd l1 bt101.1, bt101.2)) else (none)) else (none))) = some (r1, r2) := h
 clear h
 replace H := Option.bind_eq_some_iff.mp H
 obtain ⟨⟨t101, t102⟩, A30, H⟩ := H
 replace H : (if 0 ≤ t101 then (if t101 < (l1.length : Int) then (some (rd l1 t101, t102)) else (none)) else (none)) = some (r1, r2) := H
 have A3 := Aside0.mk A30
 clear A30
 by_cases c4 : 0 ≤ t101
 rotate_left
 ·
  rw [if_neg c4] at H
  exact absurd H (by simp)
 rw [if_pos c4] at H
 have c4b0 : decide (0 ≤ t101) = true := decide_eq_true c4
 clear c4
 by_cases c5 : t101 < (l1.length : Int)
 ·
  rw [if_pos c5] at H
  have c5b0 : decide (t101 < (l1.length : Int)) = true := decide_eq_true c5
  clear c5
  simp only [Option.some.injEq, Prod.mk.injEq] at H
  obtain ⟨rfl, rfl⟩ := H
  go_enter Try.func79, Try.ntmps79
  go_wp2_with (first | ((with_reducible refine gate_callee (f := 59) rfl ?_); refine goesL_ (some 9) rfl rfl Try.func59 (by kernel_rfl) rfl #[.pointer (some ⟨g, 0, none⟩), .int .i64 (l1.length : Int)] rfl (by simp only [List.map_toArray, List.map_cons, List.map_nil]; rfl) ?_; (with_reducible refine (spec_reader_pick.calls k g s0_0 s0_1 (l1.length : Int) t101 t102 w0 _ ?side1 ?side2 A3.out).mono ?_); (case side1 => repeat (first | (with_reducible first | exact HI0.out | apply IsS68.alloc | apply IsS68.drewN | apply IsS68.drew | apply IsS68.set_1) | exact HI0.out)); (case side2 => repeat (first | (with_reducible first | exact HB.out | apply below_alloc | apply pw_below_drewN | apply below_drew1 | refine below_set ?_ (IsS68.ge HI0.out)) | exact HB.out)); rintro e w6 ⟨rfl, hi, hb, hk⟩; refine ⟨_, rfl, ?_⟩; replace HK := am_ (KeepBut.trans (by repeat (first | (with_reducible first | exact HK.out | apply KeepBut.set_ | apply keep_drewN | apply keep_drew | apply keep_alloc) | exact HK.out)) hk (.inl rfl)); replace HB := am_ (hb); replace HI0 := am_ (hi); (try clear hb); (try clear hb2); (try clear hk); (try clear hi); have p103 : 0 ≤ (t101 : Int) := of_decide_eq_true (by first | with_reducible assumption | assumption); have q103 : t101 < (l1.length : Int) := of_decide_eq_true (by first | with_reducible assumption | assumption); obtain ⟨ad103, e103, hx103_0⟩ := Kd.at_int HR1.out t101 p103 q103; cases e103; replace hx103_0 := keep_cell HK.out hx103_0 (by first | (rw [add_block]; exact hf1 _ rfl (by omega)) | exact hf1 _ rfl (by omega) | exact hf1 ad103 rfl (by omega)); replace p103 := eq_true p103; replace q103 := eq_true q103))
  go_ret
  exact ⟨by first | rfl | (simp [errW_none, errW_some] <;> rfl) | (simp [*, errW_none, errW_some] <;> rfl), by repeat (first | (with_reducible first | exact HI0.out | apply IsS68.alloc | apply IsS68.drewN | apply IsS68.drew | apply IsS68.set_1) | exact HI0.out), by repeat (first | (with_reducible first | exact HB.out | apply below_alloc | apply pw_below_drewN | apply below_drew1 | refine below_set ?_ (IsS68.ge HI0.out)) | exact HB.out), by repeat (first | (with_reducible first | exact HK.out | apply KeepBut.set_ | apply keep_drewN | apply keep_drew | apply keep_alloc) | exact HK.out)⟩
 rw [if_neg c5] at H
 exact absurd H (by simp)

end Go.Proofs.Ytonolnojpejgnaa.Print
