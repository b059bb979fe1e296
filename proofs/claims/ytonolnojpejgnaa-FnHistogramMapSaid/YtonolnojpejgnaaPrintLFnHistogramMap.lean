-- laid by hp.py (a program of this work over the kit's print), with contracts by hand for what the print does not take
import Derived.Test.YtonolnojpejgnaaPrint0
import Derived.Test.YtonolnojpejgnaaPrintHimplMapImage
import Derived.Test.YtonolnojpejgnaaPrintHx0
import Derived.Test.YtonolnojpejgnaaPrintR0x1
import Derived.Test.YtonolnojpejgnaaPrintR1x6
import Derived.Test.YtonolnojpejgnaaPrintR1x8
import Derived.Test.YtonolnojpejgnaaPrintR1x9
namespace Go.Proofs.Ytonolnojpejgnaa.Print
open Go.RowKit Go.Proofs.YtonolnojpejgnaaW.PrintWords Go.Proofs.YtonolnojpejgnaaW.PrintLast Go.Proofs.YtonolnojpejgnaaW.PrintMore
attribute [local go_sem] max2_int min2_int max_two min_two max_three min_three max_four min_four   -- for this text's walks alone
set_option linter.unusedVariables false
set_option linter.unusedSimpArgs false

/-! ### laws_FnHistogramMap: function 6 -/
mutual
def laws_FnHistogramMap.j0 : Nat → List Int → Bool → Bool → Bool → Int → Int → Int → List Int → Int → Int → Int → List Int → Int → Int → Int → List Int → Option (Bool)
 | 0, _, _, _, _, _, _, _, _, _, _, _, _, _, _, _, _ => none
 | k + 1, x4, x6, x8, x49, x111000, x111001, x111002, x111003, x119000, x119001, x119002, x119003, x127000, x127001, x127002, x127003 => if x49 = true then ((laws_equalImage.f k x119000 x119001 x119002 x119003 x127000 x127001 x127002 x127003).bind fun t129 => (if t129 = true then (some (x6 == x8)) else (some false))) else ((impl_HistogramOf.f k x111000 x111001 x111002 x111003).bind fun t130 => (if 256 ≤ 35184372088832 then (laws_FnHistogramMap.l0 k x4 t130 (List.replicate 256 0) 0 x119000 x119001 x119002 x119003) else (none)))
def laws_FnHistogramMap.l0 : Nat → List Int → List Int → List Int → Int → Int → Int → Int → List Int → Option (Bool)
 | 0, _, _, _, _, _, _, _, _ => none
 | k + 1, x4, x9, x10, x11, x119000, x119001, x119002, x119003 => if x11 < 256 then (if x11 < (x9.length : Int) then (if 0 ≤ x11 then (if x11 < (x4.length : Int) then (if 0 ≤ (rd x4 x11) then (if (rd x4 x11) < (x10.length : Int) then (laws_FnHistogramMap.l0 k x4 x9 (x10.set ((rd x4 x11) : Int).toNat (wrap64 ((rd x10 (rd x4 x11)) + (rd x9 x11)))) (wrap64 (x11 + 1)) x119000 x119001 x119002 x119003) else (none)) else (none)) else (none)) else (none)) else ((impl_HistogramOf.f k x119000 x119001 x119002 x119003).bind fun t141 => ((laws_equalInts.f k t141 x10).bind fun t144 => (some t144)))) else ((impl_HistogramOf.f k x119000 x119001 x119002 x119003).bind fun t145 => ((laws_equalInts.f k t145 x10).bind fun t148 => (some t148)))
end
def laws_FnHistogramMap.f (k : Nat) (l0 : List Int) : Option (Bool) := if (l0.length : Int) > 1048576 then (some true) else ((spec_DrawMapImage.f k l0).bind fun bt101 => ((impl_MapImage.f bt101.1 bt101.2.1 bt101.2.2.1 bt101.2.2.2.1 bt101.2.2.2.2).bind fun bt111 => ((spec_MapImage.f k bt101.1 bt101.2.1 bt101.2.2.1 bt101.2.2.2.1 bt101.2.2.2.2).bind fun bt119 => ((laws_equalImage.f k bt111.1 bt111.2.1 bt111.2.2.1 bt111.2.2.2.1 bt119.1 bt119.2.1 bt119.2.2.1 bt119.2.2.2.1).bind fun t127 => (if t127 = true then (if (bt111.2.2.2.2 != bt119.2.2.2.2) = true then (laws_FnHistogramMap.j0 k bt101.2.2.2.2 bt111.2.2.2.2 bt119.2.2.2.2 true bt101.1 bt101.2.1 bt101.2.2.1 bt101.2.2.2.1 bt111.1 bt111.2.1 bt111.2.2.1 bt111.2.2.2.1 bt119.1 bt119.2.1 bt119.2.2.1 bt119.2.2.2.1) else (if bt111.2.2.2.2 = true then ((laws_gray.f bt101.1 bt101.2.1 bt101.2.2.1 bt101.2.2.2.1).bind fun t128 => (laws_FnHistogramMap.j0 k bt101.2.2.2.2 bt111.2.2.2.2 bt119.2.2.2.2 (!t128) bt101.1 bt101.2.1 bt101.2.2.1 bt101.2.2.2.1 bt111.1 bt111.2.1 bt111.2.2.1 bt111.2.2.2.1 bt119.1 bt119.2.1 bt119.2.2.1 bt119.2.2.2.1)) else (laws_FnHistogramMap.j0 k bt101.2.2.2.2 bt111.2.2.2.2 bt119.2.2.2.2 true bt101.1 bt101.2.1 bt101.2.2.1 bt101.2.2.2.1 bt111.1 bt111.2.1 bt111.2.2.1 bt111.2.2.2.1 bt119.1 bt119.2.1 bt119.2.2.1 bt119.2.2.2.1))) else (laws_FnHistogramMap.j0 k bt101.2.2.2.2 bt111.2.2.2.2 bt119.2.2.2.2 true bt101.1 bt101.2.1 bt101.2.2.1 bt101.2.2.2.1 bt111.1 bt111.2.1 bt111.2.2.1 bt111.2.2.2.1 bt119.1 bt119.2.1 bt119.2.2.1 bt119.2.2.2.1))))))
theorem laws_FnHistogramMap.mono_l : ∀ k, (∀ y0 y1 y2 y3 y4 y5 y6 y7 y8 y9 y10 y11 y12 y13 y14 y15, LeO (laws_FnHistogramMap.j0 k y0 y1 y2 y3 y4 y5 y6 y7 y8 y9 y10 y11 y12 y13 y14 y15) (laws_FnHistogramMap.j0 (k + 1) y0 y1 y2 y3 y4 y5 y6 y7 y8 y9 y10 y11 y12 y13 y14 y15)) ∧ (∀ y0 y1 y2 y3 y4 y5 y6 y7, LeO (laws_FnHistogramMap.l0 k y0 y1 y2 y3 y4 y5 y6 y7) (laws_FnHistogramMap.l0 (k + 1) y0 y1 y2 y3 y4 y5 y6 y7))
 | 0 => ⟨fun _ _ _ _ _ _ _ _ _ _ _ _ _ _ _ _ r h => by simp [laws_FnHistogramMap.j0] at h, fun _ _ _ _ _ _ _ _ r h => by simp [laws_FnHistogramMap.l0] at h⟩
 | k + 1 => by
  obtain ⟨ih0, ih1⟩ := laws_FnHistogramMap.mono_l k
  refine ⟨?_, ?_⟩
  ·
   intro y0 y1 y2 y3 y4 y5 y6 y7 y8 y9 y10 y11 y12 y13 y14 y15
   unfold laws_FnHistogramMap.j0
   repeat' first
   | (with_reducible exact ih0 _ _ _ _ _ _ _ _ _ _ _ _ _ _ _ _)
   | (with_reducible exact ih1 _ _ _ _ _ _ _ _)
   | (with_reducible exact impl_HistogramOf.mono _ _ _ _ _)
   | (with_reducible exact laws_equalImage.mono _ _ _ _ _ _ _ _ _)
   | (with_reducible exact laws_equalInts.mono _ _ _)
   | (with_reducible exact spec_DrawMapImage.mono _ _)
   | (with_reducible exact spec_MapImage.mono _ _ _ _ _ _)
   | (with_reducible exact LeO.refl _)
   | (with_reducible exact LeO.none _)
   | (with_reducible refine LeO.ite ?_ ?_)
   | (with_reducible refine LeO.bind ?_ (fun _ => ?_))
   | exact ih0 _ _ _ _ _ _ _ _ _ _ _ _ _ _ _ _
   | exact ih1 _ _ _ _ _ _ _ _
   | exact impl_HistogramOf.mono _ _ _ _ _
   | exact laws_equalImage.mono _ _ _ _ _ _ _ _ _
   | exact laws_equalInts.mono _ _ _
   | exact spec_DrawMapImage.mono _ _
   | exact spec_MapImage.mono _ _ _ _ _ _
   | exact LeO.none _
   | refine LeO.ite ?_ ?_
   | refine LeO.bind ?_ (fun _ => ?_)
  ·
   intro y0 y1 y2 y3 y4 y5 y6 y7
   unfold laws_FnHistogramMap.l0
   repeat' first
   | (with_reducible exact ih0 _ _ _ _ _ _ _ _ _ _ _ _ _ _ _ _)
   | (with_reducible exact ih1 _ _ _ _ _ _ _ _)
   | (with_reducible exact impl_HistogramOf.mono _ _ _ _ _)
   | (with_reducible exact laws_equalImage.mono _ _ _ _ _ _ _ _ _)
   | (with_reducible exact laws_equalInts.mono _ _ _)
   | (with_reducible exact spec_DrawMapImage.mono _ _)
   | (with_reducible exact spec_MapImage.mono _ _ _ _ _ _)
   | (with_reducible exact LeO.refl _)
   | (with_reducible exact LeO.none _)
   | (with_reducible refine LeO.ite ?_ ?_)
   | (with_reducible refine LeO.bind ?_ (fun _ => ?_))
   | exact ih0 _ _ _ _ _ _ _ _ _ _ _ _ _ _ _ _
   | exact ih1 _ _ _ _ _ _ _ _
   | exact impl_HistogramOf.mono _ _ _ _ _
   | exact laws_equalImage.mono _ _ _ _ _ _ _ _ _
   | exact laws_equalInts.mono _ _ _
   | exact spec_DrawMapImage.mono _ _
   | exact spec_MapImage.mono _ _ _ _ _ _
   | exact LeO.none _
   | refine LeO.ite ?_ ?_
   | refine LeO.bind ?_ (fun _ => ?_)
theorem laws_FnHistogramMap.mono : ∀ a0 k, LeO (laws_FnHistogramMap.f k a0) (laws_FnHistogramMap.f (k + 1) a0) := by
 intro a0 k
 obtain ⟨ih0, ih1⟩ := laws_FnHistogramMap.mono_l k
 unfold laws_FnHistogramMap.f
 repeat' first
   | (with_reducible exact ih0 _ _ _ _ _ _ _ _ _ _ _ _ _ _ _ _)
   | (with_reducible exact ih1 _ _ _ _ _ _ _ _)
   | (with_reducible exact impl_HistogramOf.mono _ _ _ _ _)
   | (with_reducible exact laws_equalImage.mono _ _ _ _ _ _ _ _ _)
   | (with_reducible exact laws_equalInts.mono _ _ _)
   | (with_reducible exact spec_DrawMapImage.mono _ _)
   | (with_reducible exact spec_MapImage.mono _ _ _ _ _ _)
   | (with_reducible exact LeO.refl _)
   | (with_reducible exact LeO.none _)
   | (with_reducible refine LeO.ite ?_ ?_)
   | (with_reducible refine LeO.bind ?_ (fun _ => ?_))
   | exact ih0 _ _ _ _ _ _ _ _ _ _ _ _ _ _ _ _
   | exact ih1 _ _ _ _ _ _ _ _
   | exact impl_HistogramOf.mono _ _ _ _ _
   | exact laws_equalImage.mono _ _ _ _ _ _ _ _ _
   | exact laws_equalInts.mono _ _ _
   | exact spec_DrawMapImage.mono _ _
   | exact spec_MapImage.mono _ _ _ _ _ _
   | exact LeO.none _
   | refine LeO.ite ?_ ?_
   | refine LeO.bind ?_ (fun _ => ?_)
def laws_FnHistogramMap.T13 : Bool × List (List Nat × List Nat) := (true, [([], []), ([], []), ([], []), ([1, 2], [1, 2]), ([3], [3]), ([], []), ([], []), ([], []), ([6, 7], [6, 7]), ([8], [8]), ([5, 9], [5, 9]), ([10], [10]), ([], []), ([], []), ([12, 13], [12, 13]), ([14], [14]), ([11, 15], [11, 15]), ([0, 4, 0, 1, 2, 3, 4, 5, 6, 7, 8, 9, 10, 11, 12, 13, 14, 15, 16], [0, 4]), ([17, 16, 0, 1, 2, 3, 4, 5, 6, 7, 8, 9, 10, 11, 12, 13, 14, 15, 16], [16, 17])])
def laws_FnHistogramMap.B13 : List Nat := [0, 0, 0, 6, 14, 0, 0, 0, 192, 448, 992, 2016, 0, 0, 12288, 28672, 65504, 131071, 262143]
theorem laws_FnHistogramMap.tab13 : rtab .any (opsOf Try.f6 13) = laws_FnHistogramMap.T13 := by kernel_rfl
theorem laws_FnHistogramMap.bits13 : waitsOk laws_FnHistogramMap.T13.2 laws_FnHistogramMap.B13 = true := by kernel_rfl
set_option maxHeartbeats 8000000 in
set_option maxRecDepth 100000 in
theorem laws_FnHistogramMap.calls (k : Nat) (A0 : Option Addr) (c0 : Nat) (l0 : List Int) (r : Bool) (w : World) (hr0 : Kd.C (Kd.int .u8) w A0 l0.length l0) (hc0 : l0.length ≤ c0) (h : laws_FnHistogramMap.f k l0 = some r) :
  Calls Try.prog 6 #[.slice A0 l0.length c0] w fun e w' => e = .returned (.bool r) ∧ Below w.heap.size w w' := by
 have hu27 := Try.underlying27
 have HR0 := Aside0.mk hr0
 have HC0 := Aside0.mk hc0
 clear hr0 hc0
 have HB := Aside0.mk (Below.refl w.heap.size w)
 have H : (if (l0.length : Int) > 1048576 then (some true) else ((spec_DrawMapImage.f k l0).bind fun bt101 => ((impl_MapImage.f bt101.1 bt101.2.1 bt101.2.2.1 bt101.2.2.2.1 bt101.2.2.2.2).bind fun bt111 => ((spec_MapImage.f k bt101.1 bt101.2.1 bt101.2.2.1 bt101.2.2.2.1 bt101.2.2.2.2).bind fun bt119 => ((laws_equalImage.f k bt111.1 bt111.2.1 bt111.2.2.1 bt111.2.2.2.1 bt119.1 bt119.2.1 bt119.2.2.1 bt119.2.2.2.1).bind fun t127 => (if t127 = true then (if (bt111.2.2.2.2 != bt119.2.2.2.2) = true then (laws_FnHistogramMap.j0 k bt101.2.2.2.2 bt111.2.2.2.2 bt119.2.2.2.2 true bt101.1 bt101.2.1 bt101.2.2.1 bt101.2.2.2.1 bt111.1 bt111.2.1 bt111.2.2.1 bt111.2.2.2.1 bt119.1 bt119.2.1 bt119.2.2.1 bt119.2.2.2.1) else (if bt111.2.2.2.2 = true then ((laws_gray.f bt101.1 bt101.2.1 bt101.2.2.1 bt101.2.2.2.1).bind fun t128 => (laws_FnHistogramMap.j0 k bt101.2.2.2.2 bt111.2.2.2.2 bt119.2.2.2.2 (!t128) bt101.1 bt101.2.1 bt101.2.2.1 bt101.2.2.2.1 bt111.1 bt111.2.1 bt111.2.2.1 bt111.2.2.2.1 bt119.1 bt119.2.1 bt119.2.2.1 bt119.2.2.2.1)) else (laws_FnHistogramMap.j0 k bt101.2.2.2.2 bt111.2.2.2.2 bt119.2.2.2.2 true bt101.1 bt101.2.1 bt101.2.2.1 bt101.2.2.2.1 bt111.1 bt111.2.1 bt111.2.2.1 bt111.2.2.2.1 bt119.1 bt119.2.1 bt119.2.2.1 bt119.2.2.2.1))) else (laws_FnHistogramMap.j0 k bt101.2.2.2.2 bt111.2.2.2.2 bt119.2.2.2.2 true bt101.1 bt101.2.1 bt101.2.2.1 bt101.2.2.2.1 bt111.1 bt111.2.1 bt111.2.2.1 bt111.2.2.2.1 bt119.1 bt119.2.1 bt119.2.2.1 bt119.2.2.2.1))))))) = some r := h
 clear h
 by_cases c2 : (l0.length : Int) > 1048576
 ·
  rw [if_pos c2] at H
  have c2b0 : decide (1048576 < (l0.length : Int)) = true := decide_eq_true c2
  have c2b1 : decide (1048576 < l0.length) = true := decide_eq_true (by omega)
  clear c2
  obtain rfl := Option.some.inj H
  go_enter Try.func6, Try.ntmps6
  go_wp2
  go_ret
  exact ⟨by first | rfl | (simp [errW_none, errW_some] <;> rfl) | (simp [*, errW_none, errW_some] <;> rfl), by repeat (first | (with_reducible first | exact HB.out | apply below_alloc | apply pw_below_drewN | apply below_drew1) | exact HB.out)⟩
 ·
  rw [if_neg c2] at H
  have c2b0 : decide (1048576 < (l0.length : Int)) = false := decide_eq_false c2
  have c2b1 : decide (1048576 < l0.length) = false := decide_eq_false (by omega)
  clear c2
  replace H := Option.bind_eq_some_iff.mp H
  obtain ⟨⟨t101, t102, t103, t104, t107⟩, A30, H⟩ := H
  replace H : ((impl_MapImage.f t101 t102 t103 t104 t107).bind fun bt111 => ((spec_MapImage.f k t101 t102 t103 t104 t107).bind fun bt119 => ((laws_equalImage.f k bt111.1 bt111.2.1 bt111.2.2.1 bt111.2.2.2.1 bt119.1 bt119.2.1 bt119.2.2.1 bt119.2.2.2.1).bind fun t127 => (if t127 = true then (if (bt111.2.2.2.2 != bt119.2.2.2.2) = true then (laws_FnHistogramMap.j0 k t107 bt111.2.2.2.2 bt119.2.2.2.2 true t101 t102 t103 t104 bt111.1 bt111.2.1 bt111.2.2.1 bt111.2.2.2.1 bt119.1 bt119.2.1 bt119.2.2.1 bt119.2.2.2.1) else (if bt111.2.2.2.2 = true then ((laws_gray.f t101 t102 t103 t104).bind fun t128 => (laws_FnHistogramMap.j0 k t107 bt111.2.2.2.2 bt119.2.2.2.2 (!t128) t101 t102 t103 t104 bt111.1 bt111.2.1 bt111.2.2.1 bt111.2.2.2.1 bt119.1 bt119.2.1 bt119.2.2.1 bt119.2.2.2.1)) else (laws_FnHistogramMap.j0 k t107 bt111.2.2.2.2 bt119.2.2.2.2 true t101 t102 t103 t104 bt111.1 bt111.2.1 bt111.2.2.1 bt111.2.2.2.1 bt119.1 bt119.2.1 bt119.2.2.1 bt119.2.2.2.1))) else (laws_FnHistogramMap.j0 k t107 bt111.2.2.2.2 bt119.2.2.2.2 true t101 t102 t103 t104 bt111.1 bt111.2.1 bt111.2.2.1 bt111.2.2.2.1 bt119.1 bt119.2.1 bt119.2.2.1 bt119.2.2.2.1))))) = some r := H
  have A3 := Aside0.mk A30
  clear A30
  replace H := Option.bind_eq_some_iff.mp H
  obtain ⟨⟨t111, t112, t113, t114, t117⟩, A40, H⟩ := H
  replace H : ((spec_MapImage.f k t101 t102 t103 t104 t107).bind fun bt119 => ((laws_equalImage.f k t111 t112 t113 t114 bt119.1 bt119.2.1 bt119.2.2.1 bt119.2.2.2.1).bind fun t127 => (if t127 = true then (if (t117 != bt119.2.2.2.2) = true then (laws_FnHistogramMap.j0 k t107 t117 bt119.2.2.2.2 true t101 t102 t103 t104 t111 t112 t113 t114 bt119.1 bt119.2.1 bt119.2.2.1 bt119.2.2.2.1) else (if t117 = true then ((laws_gray.f t101 t102 t103 t104).bind fun t128 => (laws_FnHistogramMap.j0 k t107 t117 bt119.2.2.2.2 (!t128) t101 t102 t103 t104 t111 t112 t113 t114 bt119.1 bt119.2.1 bt119.2.2.1 bt119.2.2.2.1)) else (laws_FnHistogramMap.j0 k t107 t117 bt119.2.2.2.2 true t101 t102 t103 t104 t111 t112 t113 t114 bt119.1 bt119.2.1 bt119.2.2.1 bt119.2.2.2.1))) else (laws_FnHistogramMap.j0 k t107 t117 bt119.2.2.2.2 true t101 t102 t103 t104 t111 t112 t113 t114 bt119.1 bt119.2.1 bt119.2.2.1 bt119.2.2.2.1)))) = some r := H
  have A4 := Aside0.mk A40
  clear A40
  replace H := Option.bind_eq_some_iff.mp H
  obtain ⟨⟨t119, t120, t121, t122, t125⟩, A50, H⟩ := H
  replace H : ((laws_equalImage.f k t111 t112 t113 t114 t119 t120 t121 t122).bind fun t127 => (if t127 = true then (if (t117 != t125) = true then (laws_FnHistogramMap.j0 k t107 t117 t125 true t101 t102 t103 t104 t111 t112 t113 t114 t119 t120 t121 t122) else (if t117 = true then ((laws_gray.f t101 t102 t103 t104).bind fun t128 => (laws_FnHistogramMap.j0 k t107 t117 t125 (!t128) t101 t102 t103 t104 t111 t112 t113 t114 t119 t120 t121 t122)) else (laws_FnHistogramMap.j0 k t107 t117 t125 true t101 t102 t103 t104 t111 t112 t113 t114 t119 t120 t121 t122))) else (laws_FnHistogramMap.j0 k t107 t117 t125 true t101 t102 t103 t104 t111 t112 t113 t114 t119 t120 t121 t122))) = some r := H
  have A5 := Aside0.mk A50
  clear A50
  have HC6 := Aside0.mk H
  clear H
  go_enter Try.func6, Try.ntmps6
  go_upto_region 6 with (first | ((with_reducible refine gate_callee (f := 30) rfl ?_); refine goesL_ (some 17) rfl rfl Try.func30 (by kernel_rfl) rfl #[.slice A0 l0.length c0] rfl (by simp only [List.map_toArray, List.map_cons, List.map_nil]; rfl) ?_; (with_reducible refine (spec_DrawMapImage.calls k _ _ l0 t101 t102 t103 t104 t107 _ ?side1 ?side2 A3.out).mono ?_); (case side1 => repeat (first | exact HR0.out | (with_reducible refine Kd.C_alloc ?_ _) | (with_reducible refine Kd.C_drewN ?_ _) | (with_reducible refine Kd.C_drew ?_))); (case side2 => exact HC0.out); rintro e w7 ⟨v105, v108, rfl, ho0, ho1, hb⟩; refine ⟨_, rfl, ?_⟩; have HO106 := am_ (Kd.Q_lower ho0 (below_size (by repeat (first | (with_reducible first | exact HB.out | apply below_alloc | apply pw_below_drewN | apply below_drew1) | exact HB.out)))); have HO109 := am_ (Kd.Q_lower ho1 (below_size (by repeat (first | (with_reducible first | exact HB.out | apply below_alloc | apply pw_below_drewN | apply below_drew1) | exact HB.out)))); replace HB := am_ (below_step (by repeat (first | (with_reducible first | exact HB.out | apply below_alloc | apply pw_below_drewN | apply below_drew1) | exact HB.out)) hb); (try clear hb); (try clear hb2); (try clear hk); (try clear hi); (try clear ho0); (try clear ho1)) | ((with_reducible refine gate_dst (N := 3) rfl ?_); (try (refine gate_guard (by rfl) ?_; dsimp only)); refine box_event ?hg (N := 3) ?hd (cs := #[.int .i64 0, .int .i64 0, .int .i64 0, .slice none 0 0]) (t := 27) ?hr ?_; (case hd => rfl); (case hg => rfl); (case hr => first | (go_simp; done) | (go_simp; rfl)); intro gb110 hg w8 hbox hb; replace HO106 := am_ (Kd.Q_below (by exact HO106.out) hb); replace HO109 := am_ (Kd.Q_below (by exact HO109.out) hb); have BK110 := am_ (hbox); have GW110 := am_ ((by rw [hg]; exact (below_size (by repeat (first | (with_reducible first | exact HB.out | apply below_alloc | apply pw_below_drewN | apply below_drew1) | exact HB.out))) : w.heap.size ≤ gb110)); have GE110 := GW110; replace HB := am_ (below_step (by repeat (first | (with_reducible first | exact HB.out | apply below_alloc | apply pw_below_drewN | apply below_drew1) | exact HB.out)) hb); clear hb hbox hg; obtain ⟨hcz9_0, hcz9_1, hcz9_2, hcz9_3, hfz9_0, hfz9_1, hfz9_2, hfz9_3⟩ := blk4_ BK110.out; obtain ⟨Ao10, co10, eo10, _⟩ := Kd.Q_slice HO106.out; subst eo10; obtain ⟨Ao11, co11, eo11, _⟩ := Kd.Q_slice HO109.out; subst eo11) | ((with_reducible refine gate_callee (f := 31) rfl ?_); refine goesL_ (some 23) rfl rfl Try.func31 (by kernel_rfl) rfl #[.agg #[.int .i64 t101, .int .i64 t102, .int .i64 t103, .slice Ao10 t104.length co10], .slice Ao11 t107.length co11] rfl (by simp only [List.map_toArray, List.map_cons, List.map_nil]; rfl) ?_; (with_reducible refine (impl_MapImage.calls t101 t102 t103 _ _ t104 _ _ t107 t111 t112 t113 t114 t117 _ ?side1 ?side2 ?side3 ?side4 A4.out).mono ?_); (case side1 => refine (Kd.Q_reads' (e := 3) (base := w.heap.size) (ok := fun k_ => some k_ ≠ (.slice Ao11 t107.length co11 : Value).ownBlock) (n := t104.length) (c := co10) ?_).2.2; exact (by exact (Q4_ HO106.out BK110.out (by decide) _ _ _ _))); (case side2 => exact (Kd.Q_reads' HO106.out).2.1); (case side3 => refine (Kd.Q_reads' (e := 3) (base := w.heap.size) (ok := fun k_ => some k_ ≠ (.slice Ao10 t104.length co10 : Value).ownBlock) (n := t107.length) (c := co11) ?_).2.2; exact (by exact (Q4_ HO109.out BK110.out (by decide) _ _ _ _))); (case side4 => exact (Kd.Q_reads' HO109.out).2.1); rintro e w12 ⟨v115, rfl, ho0, hb⟩; refine ⟨_, rfl, ?_⟩; have HO116 := am_ (Kd.R_lower (Kd.R_new' (Kd.R_new' ho0 (Kd.Q_lt (by exact (Q4_ HO106.out BK110.out (by decide) _ _ _ _)))) (Kd.Q_lt (by exact (Q4_ HO109.out BK110.out (by decide) _ _ _ _)))) (below_size (by repeat (first | (with_reducible first | exact HB.out | apply below_alloc | apply pw_below_drewN | apply below_drew1 | refine below_set ?_ GE110.out) | exact HB.out)))); replace HO106 := am_ (Kd.Q_elder' (by exact (Q4_ HO106.out BK110.out (by decide) _ _ _ _)) (Kd.R_base ho0) hb); replace HO109 := am_ (Kd.Q_elder' (by exact (Q4_ HO109.out BK110.out (by decide) _ _ _ _)) (Kd.R_base ho0) hb); replace BK110 := am_ (blk_below (by exact put4_ BK110.out _ _ _ _) hb); replace HB := am_ (below_step (by repeat (first | (with_reducible first | exact HB.out | apply below_alloc | apply pw_below_drewN | apply below_drew1 | refine below_set ?_ GE110.out) | exact HB.out)) hb); (try clear hb); (try clear hb2); (try clear hk); (try clear hi); (try clear ho0)) | ((with_reducible refine gate_dst (N := 5) rfl ?_); (try (refine gate_guard (by rfl) ?_; dsimp only)); refine box_event ?hg (N := 5) ?hd (cs := #[.int .i64 0, .int .i64 0, .int .i64 0, .slice none 0 0]) (t := 27) ?hr ?_; (case hd => rfl); (case hg => rfl); (case hr => first | (go_simp; done) | (go_simp; rfl)); intro gb118 hg w13 hbox hb; replace HO106 := am_ (Kd.Q_below (by exact HO106.out) hb); replace HO109 := am_ (Kd.Q_below (by exact HO109.out) hb); replace HO116 := am_ (Kd.R_below (by exact HO116.out) hb); have BK118 := am_ (hbox); have GW118 := am_ ((by rw [hg]; exact (below_size (by repeat (first | (with_reducible first | exact HB.out | apply below_alloc | apply pw_below_drewN | apply below_drew1 | refine below_set ?_ GE110.out) | exact HB.out))) : w.heap.size ≤ gb118)); have GE118 := GW118; replace HB := am_ (below_step (by repeat (first | (with_reducible first | exact HB.out | apply below_alloc | apply pw_below_drewN | apply below_drew1 | refine below_set ?_ GE110.out) | exact HB.out)) hb); have NB110_118 := am_ ((by rw [hg]; exact Nat.ne_of_lt (blk_lt (by exact BK110.out)) : gb110 ≠ gb118)); have NB118_110 := am_ ((by rw [hg]; exact Nat.ne_of_gt (blk_lt (by exact BK110.out)) : gb118 ≠ gb110)); replace BK110 := am_ (blk_below (by exact BK110.out) hb); clear hb hbox hg; have hnb14 := NB118_110.out; have hnc14 := NB110_118.out; obtain ⟨hcz15_0, hcz15_1, hcz15_2, hcz15_3, hfz15_0, hfz15_1, hfz15_2, hfz15_3⟩ := blk4_ BK118.out; obtain ⟨Ao16, co16, eo16⟩ := Kd.R_slice HO116.out; subst eo16; obtain ⟨hcz17_0, hcz17_1, hcz17_2, hcz17_3, hfz17_0, hfz17_1, hfz17_2, hfz17_3⟩ := blk4_ BK110.out) | ((with_reducible refine gate_callee (f := 32) rfl ?_); refine goesL_ (some 29) rfl rfl Try.func32 (by kernel_rfl) rfl #[.agg #[.int .i64 t101, .int .i64 t102, .int .i64 t103, .slice Ao10 t104.length co10], .slice Ao11 t107.length co11] rfl (by simp only [List.map_toArray, List.map_cons, List.map_nil]; rfl) ?_; (with_reducible refine (spec_MapImage.calls k t101 t102 t103 _ _ t104 _ _ t107 t119 t120 t121 t122 t125 _ ?side1 ?side2 ?side3 ?side4 A5.out).mono ?_); (case side1 => refine (Kd.Q_reads' (e := 3) (base := w.heap.size) (ok := fun k_ => (some k_ ≠ (.slice Ao11 t107.length co11 : Value).ownBlock ∧ some k_ ≠ (.slice Ao16 t114.length co16 : Value).ownBlock)) (n := t104.length) (c := co10) ?_).2.2; exact (by exact (Q4_ HO106.out BK118.out (by decide) _ _ _ _))); (case side2 => exact (Kd.Q_reads' HO106.out).2.1); (case side3 => refine (Kd.Q_reads' (e := 3) (base := w.heap.size) (ok := fun k_ => (some k_ ≠ (.slice Ao10 t104.length co10 : Value).ownBlock ∧ some k_ ≠ (.slice Ao16 t114.length co16 : Value).ownBlock)) (n := t107.length) (c := co11) ?_).2.2; exact (by exact (Q4_ HO109.out BK118.out (by decide) _ _ _ _))); (case side4 => exact (Kd.Q_reads' HO109.out).2.1); rintro e w18 ⟨v123, rfl, ho0, hb⟩; refine ⟨_, rfl, ?_⟩; have HO124 := am_ (Kd.R_lower (Kd.R_new' (Kd.R_new' (Kd.R_new' ho0 (Kd.Q_lt (by exact (Q4_ HO106.out BK118.out (by decide) _ _ _ _)))) (Kd.Q_lt (by exact (Q4_ HO109.out BK118.out (by decide) _ _ _ _)))) (Kd.R_lt (by exact (R4_ HO116.out BK118.out (by decide) _ _ _ _)))) (below_size (by repeat (first | (with_reducible first | exact HB.out | apply below_alloc | apply pw_below_drewN | apply below_drew1 | refine below_set ?_ GE110.out | refine below_set ?_ GE118.out) | exact HB.out)))); replace HO106 := am_ (Kd.Q_elder' (by exact (Q4_ HO106.out BK118.out (by decide) _ _ _ _)) (Kd.R_base ho0) hb); replace HO109 := am_ (Kd.Q_elder' (by exact (Q4_ HO109.out BK118.out (by decide) _ _ _ _)) (Kd.R_base ho0) hb); replace HO116 := am_ (Kd.R_elder' (by exact (R4_ HO116.out BK118.out (by decide) _ _ _ _)) (Kd.R_base ho0) hb); replace BK110 := am_ (blk_below (by exact far4_ BK110.out NB110_118.out _ _ _ _) hb); replace BK118 := am_ (blk_below (by exact put4_ BK118.out _ _ _ _) hb); replace HB := am_ (below_step (by repeat (first | (with_reducible first | exact HB.out | apply below_alloc | apply pw_below_drewN | apply below_drew1 | refine below_set ?_ GE110.out | refine below_set ?_ GE118.out) | exact HB.out)) hb); (try clear hb); (try clear hb2); (try clear hk); (try clear hi); (try clear ho0)) | ((with_reducible refine gate_dst (N := 7) rfl ?_); (try (refine gate_guard (by rfl) ?_; dsimp only)); refine box_event ?hg (N := 7) ?hd (cs := #[.int .i64 0, .int .i64 0, .int .i64 0, .slice none 0 0]) (t := 27) ?hr ?_; (case hd => rfl); (case hg => rfl); (case hr => first | (go_simp; done) | (go_simp; rfl)); intro gb126 hg w19 hbox hb; replace HO106 := am_ (Kd.Q_below (by exact HO106.out) hb); replace HO109 := am_ (Kd.Q_below (by exact HO109.out) hb); replace HO116 := am_ (Kd.R_below (by exact HO116.out) hb); replace HO124 := am_ (Kd.R_below (by exact HO124.out) hb); have BK126 := am_ (hbox); have GW126 := am_ ((by rw [hg]; exact (below_size (by repeat (first | (with_reducible first | exact HB.out | apply below_alloc | apply pw_below_drewN | apply below_drew1 | refine below_set ?_ GE110.out | refine below_set ?_ GE118.out) | exact HB.out))) : w.heap.size ≤ gb126)); have GE126 := GW126; replace HB := am_ (below_step (by repeat (first | (with_reducible first | exact HB.out | apply below_alloc | apply pw_below_drewN | apply below_drew1 | refine below_set ?_ GE110.out | refine below_set ?_ GE118.out) | exact HB.out)) hb); have NB110_126 := am_ ((by rw [hg]; exact Nat.ne_of_lt (blk_lt (by exact BK110.out)) : gb110 ≠ gb126)); have NB126_110 := am_ ((by rw [hg]; exact Nat.ne_of_gt (blk_lt (by exact BK110.out)) : gb126 ≠ gb110)); replace BK110 := am_ (blk_below (by exact BK110.out) hb); have NB118_126 := am_ ((by rw [hg]; exact Nat.ne_of_lt (blk_lt (by exact BK118.out)) : gb118 ≠ gb126)); have NB126_118 := am_ ((by rw [hg]; exact Nat.ne_of_gt (blk_lt (by exact BK118.out)) : gb126 ≠ gb118)); replace BK118 := am_ (blk_below (by exact BK118.out) hb); clear hb hbox hg; have hnb20 := NB126_110.out; have hnc20 := NB110_126.out; have hnb21 := NB126_118.out; have hnc21 := NB118_126.out; obtain ⟨hcz22_0, hcz22_1, hcz22_2, hcz22_3, hfz22_0, hfz22_1, hfz22_2, hfz22_3⟩ := blk4_ BK126.out; obtain ⟨Ao23, co23, eo23⟩ := Kd.R_slice HO124.out; subst eo23))
  (try simp only [Act.put, List.setIfInBounds_toArray, List.set_cons_zero, List.set_cons_succ])
  go_cut [49] (fun v49 wc => ∃ (kq : Nat) (x49_5 : Bool), v49 = .bool x49_5 ∧ Aside0 (laws_FnHistogramMap.j0 kq t107 t117 t125 x49_5 t101 t102 t103 t104 t111 t112 t113 t114 t119 t120 t121 t122 = some r) ∧ Aside0 (kq ≤ k) ∧ Aside0 (Kd.Q (Kd.int .i64) 3 wc w.heap.size (fun k_ => some k_ ≠ ((.slice Ao10 t104.length co10) : Value).ownBlock ∧ some k_ ≠ ((.slice Ao16 t114.length co16) : Value).ownBlock ∧ some k_ ≠ ((.slice Ao23 t122.length co23) : Value).ownBlock) (.slice Ao11 t107.length co11) t107) ∧ Aside0 (Kd.Q (Kd.int .i64) 3 wc w.heap.size (fun k_ => some k_ ≠ ((.slice Ao11 t107.length co11) : Value).ownBlock ∧ some k_ ≠ ((.slice Ao16 t114.length co16) : Value).ownBlock ∧ some k_ ≠ ((.slice Ao23 t122.length co23) : Value).ownBlock) (.slice Ao10 t104.length co10) t104) ∧ Aside0 (Kd.Q (Kd.int .i64) 3 wc w.heap.size (fun k_ => some k_ ≠ ((.slice Ao11 t107.length co11) : Value).ownBlock ∧ some k_ ≠ ((.slice Ao10 t104.length co10) : Value).ownBlock ∧ some k_ ≠ ((.slice Ao23 t122.length co23) : Value).ownBlock) (.slice Ao16 t114.length co16) t114) ∧ Aside0 (Kd.Q (Kd.int .i64) 3 wc w.heap.size (fun k_ => some k_ ≠ ((.slice Ao11 t107.length co11) : Value).ownBlock ∧ some k_ ≠ ((.slice Ao10 t104.length co10) : Value).ownBlock ∧ some k_ ≠ ((.slice Ao16 t114.length co16) : Value).ownBlock) (.slice Ao23 t122.length co23) t122) ∧ Aside0 (wc.heap[gb110]? = some (.cells #[.int .i64 t101, .int .i64 t102, .int .i64 t103, (.slice Ao10 t104.length co10)] 27 (0, 0))) ∧ Aside0 (wc.heap[gb118]? = some (.cells #[.int .i64 t111, .int .i64 t112, .int .i64 t113, (.slice Ao16 t114.length co16)] 27 (0, 0))) ∧ Aside0 (wc.heap[gb126]? = some (.cells #[.int .i64 t119, .int .i64 t120, .int .i64 t121, (.slice Ao23 t122.length co23)] 27 (0, 0))) ∧ Aside0 (Below w.heap.size w wc))
  case first =>
   have H := HC6.out
   clear HC6
   replace H := Option.bind_eq_some_iff.mp H
   obtain ⟨t127, A240, H⟩ := H
   replace H : (if t127 = true then (if (t117 != t125) = true then (laws_FnHistogramMap.j0 k t107 t117 t125 true t101 t102 t103 t104 t111 t112 t113 t114 t119 t120 t121 t122) else (if t117 = true then ((laws_gray.f t101 t102 t103 t104).bind fun t128 => (laws_FnHistogramMap.j0 k t107 t117 t125 (!t128) t101 t102 t103 t104 t111 t112 t113 t114 t119 t120 t121 t122)) else (laws_FnHistogramMap.j0 k t107 t117 t125 true t101 t102 t103 t104 t111 t112 t113 t114 t119 t120 t121 t122))) else (laws_FnHistogramMap.j0 k t107 t117 t125 true t101 t102 t103 t104 t111 t112 t113 t114 t119 t120 t121 t122)) = some r := H
   have A24 := Aside0.mk A240
   clear A240
   by_cases c25 : t127 = true
   ·
    subst c25
    have H1 : (if (t117 != t125) = true then (laws_FnHistogramMap.j0 k t107 t117 t125 true t101 t102 t103 t104 t111 t112 t113 t114 t119 t120 t121 t122) else (if t117 = true then ((laws_gray.f t101 t102 t103 t104).bind fun t128 => (laws_FnHistogramMap.j0 k t107 t117 t125 (!t128) t101 t102 t103 t104 t111 t112 t113 t114 t119 t120 t121 t122)) else (laws_FnHistogramMap.j0 k t107 t117 t125 true t101 t102 t103 t104 t111 t112 t113 t114 t119 t120 t121 t122))) = some r := by rw [if_pos rfl] at H; exact H
    clear H
    have H := H1
    clear H1
    by_cases c26 : (t117 != t125) = true
    ·
     rw [if_pos c26] at H
     have c26b0 : (t117 != t125) = true := c26
     (try (have c26b1 : decide (t117 = t125) = false := by simpa using c26))
     (try (have c26b2 : (t117 == t125) = false := by simpa using c26))
     (try (have c26b3 : ¬ (t117 = t125) := by simpa using c26))
     clear c26
     (first | rw [c26b0] | (simp only [i64_w, i32_w]; rw [c26b0]) | skip)
     have H' := Aside0.mk H
     clear H
     have hnb27 := NB118_110.out
     have hnc27 := NB110_118.out
     have hnb28 := NB118_126.out
     have hnc28 := NB126_118.out
     obtain ⟨hcz29_0, hcz29_1, hcz29_2, hcz29_3, hfz29_0, hfz29_1, hfz29_2, hfz29_3⟩ := blk4_ BK118.out
     have hnb30 := NB126_110.out
     have hnc30 := NB110_126.out
     obtain ⟨hcz31_0, hcz31_1, hcz31_2, hcz31_3, hfz31_0, hfz31_1, hfz31_2, hfz31_3⟩ := blk4_ BK126.out
     go_wp2_with (first | ((with_reducible refine gate_callee (f := 33) rfl ?_); refine goesL_ (some 34) rfl rfl Try.func33 (by kernel_rfl) rfl #[.agg #[.int .i64 t111, .int .i64 t112, .int .i64 t113, .slice Ao16 t114.length co16], .agg #[.int .i64 t119, .int .i64 t120, .int .i64 t121, .slice Ao23 t122.length co23]] rfl (by simp only [List.map_toArray, List.map_cons, List.map_nil]; rfl) ?_; (with_reducible refine (laws_equalImage.calls k t111 t112 t113 _ _ t114 t119 t120 t121 _ _ t122 true _ ?side1 ?side2 ?side3 ?side4 A24.out).mono ?_); (case side1 => refine (Kd.R_reads' (e := 3) (base := w.heap.size) (ok := fun k_ => (((True ∧ some k_ ≠ (.slice Ao10 t104.length co10 : Value).ownBlock) ∧ some k_ ≠ (.slice Ao11 t107.length co11 : Value).ownBlock) ∧ some k_ ≠ (.slice Ao23 t122.length co23 : Value).ownBlock)) (n := t114.length) (c := co16) ?_).2.2; exact (by exact (R4_ HO116.out BK126.out (by decide) _ _ _ _))); (case side2 => exact (Kd.R_reads' HO116.out).2.1); (case side3 => refine (Kd.R_reads' (e := 3) (base := w.heap.size) (ok := fun k_ => (((True ∧ some k_ ≠ (.slice Ao10 t104.length co10 : Value).ownBlock) ∧ some k_ ≠ (.slice Ao11 t107.length co11 : Value).ownBlock) ∧ some k_ ≠ (.slice Ao16 t114.length co16 : Value).ownBlock)) (n := t122.length) (c := co23) ?_).2.2; exact (by exact (R4_ HO124.out BK126.out (by decide) _ _ _ _))); (case side4 => exact (Kd.R_reads' HO124.out).2.1); rintro e w32 ⟨rfl, hb⟩; refine ⟨_, rfl, ?_⟩; replace HO106 := am_ (Kd.Q_below (by exact (Q4_ HO106.out BK126.out (by decide) _ _ _ _)) hb); replace HO109 := am_ (Kd.Q_below (by exact (Q4_ HO109.out BK126.out (by decide) _ _ _ _)) hb); replace HO116 := am_ (Kd.R_below (by exact (R4_ HO116.out BK126.out (by decide) _ _ _ _)) hb); replace HO124 := am_ (Kd.R_below (by exact (R4_ HO124.out BK126.out (by decide) _ _ _ _)) hb); replace BK110 := am_ (blk_below (by exact far4_ BK110.out NB110_126.out _ _ _ _) hb); replace BK118 := am_ (blk_below (by exact far4_ BK118.out NB118_126.out _ _ _ _) hb); replace BK126 := am_ (blk_below (by exact put4_ BK126.out _ _ _ _) hb); replace HB := am_ (below_step (by repeat (first | (with_reducible first | exact HB.out | apply below_alloc | apply pw_below_drewN | apply below_drew1 | refine below_set ?_ GE110.out | refine below_set ?_ GE118.out | refine below_set ?_ GE126.out) | exact HB.out)) hb); (try clear hb); (try clear hb2); (try clear hk); (try clear hi)))
     go_meet
     case rel => exact ⟨_, (true), (by first | rfl | (simp; done) | (simp [*]; done)), H', ⟨by first | omega | exact Nat.le_refl _⟩, ⟨by exact Kd.Q_mono HO109.out (fun _ hk => ⟨hk.1.1, ⟨hk.1.2, hk.2⟩⟩)⟩, ⟨by exact Kd.Q_mono HO106.out (fun _ hk => ⟨hk.1.1, ⟨hk.1.2, hk.2⟩⟩)⟩, ⟨Kd.Q_of_R (by exact Kd.R_mono HO116.out (fun _ hk => ⟨hk.1.2, ⟨hk.1.1.2, hk.2⟩⟩))⟩, ⟨Kd.Q_of_R (by exact Kd.R_mono HO124.out (fun _ hk => ⟨hk.1.2, ⟨hk.1.1.2, hk.2⟩⟩))⟩, ⟨by exact BK110.out⟩, ⟨by exact BK118.out⟩, ⟨by exact BK126.out⟩, ⟨by repeat (first | (with_reducible first | exact HB.out | apply below_alloc | apply pw_below_drewN | apply below_drew1 | refine below_set ?_ GE110.out | refine below_set ?_ GE118.out | refine below_set ?_ GE126.out) | exact HB.out)⟩⟩
    ·
     rw [if_neg c26] at H
     have c26b0 : (t117 != t125) = false := by simpa using c26
     (try (have c26b1 : decide (t117 = t125) = true := by simpa using c26))
     (try (have c26b2 : (t117 == t125) = true := by simpa using c26))
     clear c26
     (first | rw [c26b0] | (simp only [i64_w, i32_w]; rw [c26b0]) | skip)
     by_cases c33 : t117 = true
     ·
      subst c33
      have H1 : ((laws_gray.f t101 t102 t103 t104).bind fun t128 => (laws_FnHistogramMap.j0 k t107 true t125 (!t128) t101 t102 t103 t104 t111 t112 t113 t114 t119 t120 t121 t122)) = some r := by rw [if_pos rfl] at H; exact H
      clear H
      have H := H1
      clear H1
      replace H := Option.bind_eq_some_iff.mp H
      obtain ⟨t128, A340, H⟩ := H
      replace H : (laws_FnHistogramMap.j0 k t107 true t125 (!t128) t101 t102 t103 t104 t111 t112 t113 t114 t119 t120 t121 t122) = some r := H
      have A34 := Aside0.mk A340
      clear A340
      have H' := Aside0.mk H
      clear H
      have hnb35 := NB118_110.out
      have hnc35 := NB110_118.out
      have hnb36 := NB118_126.out
      have hnc36 := NB126_118.out
      obtain ⟨hcz37_0, hcz37_1, hcz37_2, hcz37_3, hfz37_0, hfz37_1, hfz37_2, hfz37_3⟩ := blk4_ BK118.out
      have hnb38 := NB126_110.out
      have hnc38 := NB110_126.out
      obtain ⟨hcz39_0, hcz39_1, hcz39_2, hcz39_3, hfz39_0, hfz39_1, hfz39_2, hfz39_3⟩ := blk4_ BK126.out
      go_wp2_with (first | ((with_reducible refine gate_callee (f := 33) rfl ?_); refine goesL_ (some 34) rfl rfl Try.func33 (by kernel_rfl) rfl #[.agg #[.int .i64 t111, .int .i64 t112, .int .i64 t113, .slice Ao16 t114.length co16], .agg #[.int .i64 t119, .int .i64 t120, .int .i64 t121, .slice Ao23 t122.length co23]] rfl (by simp only [List.map_toArray, List.map_cons, List.map_nil]; rfl) ?_; (with_reducible refine (laws_equalImage.calls k t111 t112 t113 _ _ t114 t119 t120 t121 _ _ t122 true _ ?side1 ?side2 ?side3 ?side4 A24.out).mono ?_); (case side1 => refine (Kd.R_reads' (e := 3) (base := w.heap.size) (ok := fun k_ => (((True ∧ some k_ ≠ (.slice Ao10 t104.length co10 : Value).ownBlock) ∧ some k_ ≠ (.slice Ao11 t107.length co11 : Value).ownBlock) ∧ some k_ ≠ (.slice Ao23 t122.length co23 : Value).ownBlock)) (n := t114.length) (c := co16) ?_).2.2; exact (by exact (R4_ HO116.out BK126.out (by decide) _ _ _ _))); (case side2 => exact (Kd.R_reads' HO116.out).2.1); (case side3 => refine (Kd.R_reads' (e := 3) (base := w.heap.size) (ok := fun k_ => (((True ∧ some k_ ≠ (.slice Ao10 t104.length co10 : Value).ownBlock) ∧ some k_ ≠ (.slice Ao11 t107.length co11 : Value).ownBlock) ∧ some k_ ≠ (.slice Ao16 t114.length co16 : Value).ownBlock)) (n := t122.length) (c := co23) ?_).2.2; exact (by exact (R4_ HO124.out BK126.out (by decide) _ _ _ _))); (case side4 => exact (Kd.R_reads' HO124.out).2.1); rintro e w40 ⟨rfl, hb⟩; refine ⟨_, rfl, ?_⟩; replace HO106 := am_ (Kd.Q_below (by exact (Q4_ HO106.out BK126.out (by decide) _ _ _ _)) hb); replace HO109 := am_ (Kd.Q_below (by exact (Q4_ HO109.out BK126.out (by decide) _ _ _ _)) hb); replace HO116 := am_ (Kd.R_below (by exact (R4_ HO116.out BK126.out (by decide) _ _ _ _)) hb); replace HO124 := am_ (Kd.R_below (by exact (R4_ HO124.out BK126.out (by decide) _ _ _ _)) hb); replace BK110 := am_ (blk_below (by exact far4_ BK110.out NB110_126.out _ _ _ _) hb); replace BK118 := am_ (blk_below (by exact far4_ BK118.out NB118_126.out _ _ _ _) hb); replace BK126 := am_ (blk_below (by exact put4_ BK126.out _ _ _ _) hb); replace HB := am_ (below_step (by repeat (first | (with_reducible first | exact HB.out | apply below_alloc | apply pw_below_drewN | apply below_drew1 | refine below_set ?_ GE110.out | refine below_set ?_ GE118.out | refine below_set ?_ GE126.out) | exact HB.out)) hb); (try clear hb); (try clear hb2); (try clear hk); (try clear hi); obtain ⟨hcz41_0, hcz41_1, hcz41_2, hcz41_3, hfz41_0, hfz41_1, hfz41_2, hfz41_3⟩ := blk4_ BK110.out) | (go_at_call 34; (with_reducible refine (laws_gray.calls t101 t102 t103 _ _ t104 t128 _ ?side1 ?side2 A34.out).mono ?_); (case side1 => repeat (first | exact (Kd.Q_reads' HO106.out).2.2 | (with_reducible refine Kd.C_alloc ?_ _) | (with_reducible refine Kd.C_drewN ?_ _) | (with_reducible refine Kd.C_drew ?_))); (case side2 => exact (Kd.Q_reads' HO106.out).2.1); rintro e w42 ⟨rfl, hb⟩; replace HO106 := am_ (Kd.Q_below (by exact HO106.out) hb); replace HO109 := am_ (Kd.Q_below (by exact HO109.out) hb); replace HO116 := am_ (Kd.R_below (by exact HO116.out) hb); replace HO124 := am_ (Kd.R_below (by exact HO124.out) hb); replace BK110 := am_ (blk_below (by exact BK110.out) hb); replace BK118 := am_ (blk_below (by exact BK118.out) hb); replace BK126 := am_ (blk_below (by exact BK126.out) hb); replace HB := am_ (below_step (by repeat (first | (with_reducible first | exact HB.out | apply below_alloc | apply pw_below_drewN | apply below_drew1 | refine below_set ?_ GE110.out | refine below_set ?_ GE118.out | refine below_set ?_ GE126.out) | exact HB.out)) hb); (try clear hb); (try clear hb2); (try clear hk); (try clear hi)))
      go_meet
      case rel => exact ⟨_, (!t128), (by first | rfl | (simp; done) | (simp [*]; done)), H', ⟨by first | omega | exact Nat.le_refl _⟩, ⟨by exact Kd.Q_mono HO109.out (fun _ hk => ⟨hk.1.1, ⟨hk.1.2, hk.2⟩⟩)⟩, ⟨by exact Kd.Q_mono HO106.out (fun _ hk => ⟨hk.1.1, ⟨hk.1.2, hk.2⟩⟩)⟩, ⟨Kd.Q_of_R (by exact Kd.R_mono HO116.out (fun _ hk => ⟨hk.1.2, ⟨hk.1.1.2, hk.2⟩⟩))⟩, ⟨Kd.Q_of_R (by exact Kd.R_mono HO124.out (fun _ hk => ⟨hk.1.2, ⟨hk.1.1.2, hk.2⟩⟩))⟩, ⟨by exact BK110.out⟩, ⟨by exact BK118.out⟩, ⟨by exact BK126.out⟩, ⟨by repeat (first | (with_reducible first | exact HB.out | apply below_alloc | apply pw_below_drewN | apply below_drew1 | refine below_set ?_ GE110.out | refine below_set ?_ GE118.out | refine below_set ?_ GE126.out) | exact HB.out)⟩⟩
     ·
      replace c33 := Bool.eq_false_iff.mpr c33
      subst c33
      have H1 : (laws_FnHistogramMap.j0 k t107 false t125 true t101 t102 t103 t104 t111 t112 t113 t114 t119 t120 t121 t122) = some r := by rw [if_neg (show ¬ (false = true) by decide)] at H; exact H
      clear H
      have H := H1
      clear H1
      have H' := Aside0.mk H
      clear H
      have hnb43 := NB118_110.out
      have hnc43 := NB110_118.out
      have hnb44 := NB118_126.out
      have hnc44 := NB126_118.out
      obtain ⟨hcz45_0, hcz45_1, hcz45_2, hcz45_3, hfz45_0, hfz45_1, hfz45_2, hfz45_3⟩ := blk4_ BK118.out
      have hnb46 := NB126_110.out
      have hnc46 := NB110_126.out
      obtain ⟨hcz47_0, hcz47_1, hcz47_2, hcz47_3, hfz47_0, hfz47_1, hfz47_2, hfz47_3⟩ := blk4_ BK126.out
      go_wp2_with (first | ((with_reducible refine gate_callee (f := 33) rfl ?_); refine goesL_ (some 34) rfl rfl Try.func33 (by kernel_rfl) rfl #[.agg #[.int .i64 t111, .int .i64 t112, .int .i64 t113, .slice Ao16 t114.length co16], .agg #[.int .i64 t119, .int .i64 t120, .int .i64 t121, .slice Ao23 t122.length co23]] rfl (by simp only [List.map_toArray, List.map_cons, List.map_nil]; rfl) ?_; (with_reducible refine (laws_equalImage.calls k t111 t112 t113 _ _ t114 t119 t120 t121 _ _ t122 true _ ?side1 ?side2 ?side3 ?side4 A24.out).mono ?_); (case side1 => refine (Kd.R_reads' (e := 3) (base := w.heap.size) (ok := fun k_ => (((True ∧ some k_ ≠ (.slice Ao10 t104.length co10 : Value).ownBlock) ∧ some k_ ≠ (.slice Ao11 t107.length co11 : Value).ownBlock) ∧ some k_ ≠ (.slice Ao23 t122.length co23 : Value).ownBlock)) (n := t114.length) (c := co16) ?_).2.2; exact (by exact (R4_ HO116.out BK126.out (by decide) _ _ _ _))); (case side2 => exact (Kd.R_reads' HO116.out).2.1); (case side3 => refine (Kd.R_reads' (e := 3) (base := w.heap.size) (ok := fun k_ => (((True ∧ some k_ ≠ (.slice Ao10 t104.length co10 : Value).ownBlock) ∧ some k_ ≠ (.slice Ao11 t107.length co11 : Value).ownBlock) ∧ some k_ ≠ (.slice Ao16 t114.length co16 : Value).ownBlock)) (n := t122.length) (c := co23) ?_).2.2; exact (by exact (R4_ HO124.out BK126.out (by decide) _ _ _ _))); (case side4 => exact (Kd.R_reads' HO124.out).2.1); rintro e w48 ⟨rfl, hb⟩; refine ⟨_, rfl, ?_⟩; replace HO106 := am_ (Kd.Q_below (by exact (Q4_ HO106.out BK126.out (by decide) _ _ _ _)) hb); replace HO109 := am_ (Kd.Q_below (by exact (Q4_ HO109.out BK126.out (by decide) _ _ _ _)) hb); replace HO116 := am_ (Kd.R_below (by exact (R4_ HO116.out BK126.out (by decide) _ _ _ _)) hb); replace HO124 := am_ (Kd.R_below (by exact (R4_ HO124.out BK126.out (by decide) _ _ _ _)) hb); replace BK110 := am_ (blk_below (by exact far4_ BK110.out NB110_126.out _ _ _ _) hb); replace BK118 := am_ (blk_below (by exact far4_ BK118.out NB118_126.out _ _ _ _) hb); replace BK126 := am_ (blk_below (by exact put4_ BK126.out _ _ _ _) hb); replace HB := am_ (below_step (by repeat (first | (with_reducible first | exact HB.out | apply below_alloc | apply pw_below_drewN | apply below_drew1 | refine below_set ?_ GE110.out | refine below_set ?_ GE118.out | refine below_set ?_ GE126.out) | exact HB.out)) hb); (try clear hb); (try clear hb2); (try clear hk); (try clear hi)))
      go_meet
      case rel => exact ⟨_, (true), (by first | rfl | (simp; done) | (simp [*]; done)), H', ⟨by first | omega | exact Nat.le_refl _⟩, ⟨by exact Kd.Q_mono HO109.out (fun _ hk => ⟨hk.1.1, ⟨hk.1.2, hk.2⟩⟩)⟩, ⟨by exact Kd.Q_mono HO106.out (fun _ hk => ⟨hk.1.1, ⟨hk.1.2, hk.2⟩⟩)⟩, ⟨Kd.Q_of_R (by exact Kd.R_mono HO116.out (fun _ hk => ⟨hk.1.2, ⟨hk.1.1.2, hk.2⟩⟩))⟩, ⟨Kd.Q_of_R (by exact Kd.R_mono HO124.out (fun _ hk => ⟨hk.1.2, ⟨hk.1.1.2, hk.2⟩⟩))⟩, ⟨by exact BK110.out⟩, ⟨by exact BK118.out⟩, ⟨by exact BK126.out⟩, ⟨by repeat (first | (with_reducible first | exact HB.out | apply below_alloc | apply pw_below_drewN | apply below_drew1 | refine below_set ?_ GE110.out | refine below_set ?_ GE118.out | refine below_set ?_ GE126.out) | exact HB.out)⟩⟩
   ·
    replace c25 := Bool.eq_false_iff.mpr c25
    subst c25
    have H1 : (laws_FnHistogramMap.j0 k t107 t117 t125 true t101 t102 t103 t104 t111 t112 t113 t114 t119 t120 t121 t122) = some r := by rw [if_neg (show ¬ (false = true) by decide)] at H; exact H
    clear H
    have H := H1
    clear H1
    have H' := Aside0.mk H
    clear H
    have hnb49 := NB118_110.out
    have hnc49 := NB110_118.out
    have hnb50 := NB118_126.out
    have hnc50 := NB126_118.out
    obtain ⟨hcz51_0, hcz51_1, hcz51_2, hcz51_3, hfz51_0, hfz51_1, hfz51_2, hfz51_3⟩ := blk4_ BK118.out
    have hnb52 := NB126_110.out
    have hnc52 := NB110_126.out
    obtain ⟨hcz53_0, hcz53_1, hcz53_2, hcz53_3, hfz53_0, hfz53_1, hfz53_2, hfz53_3⟩ := blk4_ BK126.out
    go_wp2_with (first | ((with_reducible refine gate_callee (f := 33) rfl ?_); refine goesL_ (some 34) rfl rfl Try.func33 (by kernel_rfl) rfl #[.agg #[.int .i64 t111, .int .i64 t112, .int .i64 t113, .slice Ao16 t114.length co16], .agg #[.int .i64 t119, .int .i64 t120, .int .i64 t121, .slice Ao23 t122.length co23]] rfl (by simp only [List.map_toArray, List.map_cons, List.map_nil]; rfl) ?_; (with_reducible refine (laws_equalImage.calls k t111 t112 t113 _ _ t114 t119 t120 t121 _ _ t122 false _ ?side1 ?side2 ?side3 ?side4 A24.out).mono ?_); (case side1 => refine (Kd.R_reads' (e := 3) (base := w.heap.size) (ok := fun k_ => (((True ∧ some k_ ≠ (.slice Ao10 t104.length co10 : Value).ownBlock) ∧ some k_ ≠ (.slice Ao11 t107.length co11 : Value).ownBlock) ∧ some k_ ≠ (.slice Ao23 t122.length co23 : Value).ownBlock)) (n := t114.length) (c := co16) ?_).2.2; exact (by exact (R4_ HO116.out BK126.out (by decide) _ _ _ _))); (case side2 => exact (Kd.R_reads' HO116.out).2.1); (case side3 => refine (Kd.R_reads' (e := 3) (base := w.heap.size) (ok := fun k_ => (((True ∧ some k_ ≠ (.slice Ao10 t104.length co10 : Value).ownBlock) ∧ some k_ ≠ (.slice Ao11 t107.length co11 : Value).ownBlock) ∧ some k_ ≠ (.slice Ao16 t114.length co16 : Value).ownBlock)) (n := t122.length) (c := co23) ?_).2.2; exact (by exact (R4_ HO124.out BK126.out (by decide) _ _ _ _))); (case side4 => exact (Kd.R_reads' HO124.out).2.1); rintro e w54 ⟨rfl, hb⟩; refine ⟨_, rfl, ?_⟩; replace HO106 := am_ (Kd.Q_below (by exact (Q4_ HO106.out BK126.out (by decide) _ _ _ _)) hb); replace HO109 := am_ (Kd.Q_below (by exact (Q4_ HO109.out BK126.out (by decide) _ _ _ _)) hb); replace HO116 := am_ (Kd.R_below (by exact (R4_ HO116.out BK126.out (by decide) _ _ _ _)) hb); replace HO124 := am_ (Kd.R_below (by exact (R4_ HO124.out BK126.out (by decide) _ _ _ _)) hb); replace BK110 := am_ (blk_below (by exact far4_ BK110.out NB110_126.out _ _ _ _) hb); replace BK118 := am_ (blk_below (by exact far4_ BK118.out NB118_126.out _ _ _ _) hb); replace BK126 := am_ (blk_below (by exact put4_ BK126.out _ _ _ _) hb); replace HB := am_ (below_step (by repeat (first | (with_reducible first | exact HB.out | apply below_alloc | apply pw_below_drewN | apply below_drew1 | refine below_set ?_ GE110.out | refine below_set ?_ GE118.out | refine below_set ?_ GE126.out) | exact HB.out)) hb); (try clear hb); (try clear hb2); (try clear hk); (try clear hi)))
    go_meet
    case rel => exact ⟨_, (true), (by first | rfl | (simp; done) | (simp [*]; done)), H', ⟨by first | omega | exact Nat.le_refl _⟩, ⟨by exact Kd.Q_mono HO109.out (fun _ hk => ⟨hk.1.1, ⟨hk.1.2, hk.2⟩⟩)⟩, ⟨by exact Kd.Q_mono HO106.out (fun _ hk => ⟨hk.1.1, ⟨hk.1.2, hk.2⟩⟩)⟩, ⟨Kd.Q_of_R (by exact Kd.R_mono HO116.out (fun _ hk => ⟨hk.1.2, ⟨hk.1.1.2, hk.2⟩⟩))⟩, ⟨Kd.Q_of_R (by exact Kd.R_mono HO124.out (fun _ hk => ⟨hk.1.2, ⟨hk.1.1.2, hk.2⟩⟩))⟩, ⟨by exact BK110.out⟩, ⟨by exact BK118.out⟩, ⟨by exact BK126.out⟩, ⟨by repeat (first | (with_reducible first | exact HB.out | apply below_alloc | apply pw_below_drewN | apply below_drew1 | refine below_set ?_ GE110.out | refine below_set ?_ GE118.out | refine below_set ?_ GE126.out) | exact HB.out)⟩⟩
  case rest =>
   clear HC6
   try clear c1
   try clear c2
   try clear c2b0
   try clear c2b1
   try clear p2
   try clear c3
   try clear c4
   try clear c5
   try clear c6
   try clear c14
   try clear c20
   try clear c21
   try clear c25
   try clear c26
   try clear c26b0
   try clear c26b1
   try clear c26b2
   try clear c27
   try clear c28
   try clear c30
   try clear c31
   try clear c32
   try clear c33
   try clear c35
   try clear c36
   try clear c38
   try clear c43
   try clear c44
   try clear c46
   try clear c49
   try clear c50
   try clear c52
   try clear hcz15_0
   try clear hcz15_1
   try clear hcz15_2
   try clear hcz15_3
   try clear hcz17_0
   try clear hcz17_1
   try clear hcz17_2
   try clear hcz17_3
   try clear hcz22_0
   try clear hcz22_1
   try clear hcz22_2
   try clear hcz22_3
   try clear hcz29_0
   try clear hcz29_1
   try clear hcz29_2
   try clear hcz29_3
   try clear hcz31_0
   try clear hcz31_1
   try clear hcz31_2
   try clear hcz31_3
   try clear hcz37_0
   try clear hcz37_1
   try clear hcz37_2
   try clear hcz37_3
   try clear hcz39_0
   try clear hcz39_1
   try clear hcz39_2
   try clear hcz39_3
   try clear hcz41_0
   try clear hcz41_1
   try clear hcz41_2
   try clear hcz41_3
   try clear hcz45_0
   try clear hcz45_1
   try clear hcz45_2
   try clear hcz45_3
   try clear hcz47_0
   try clear hcz47_1
   try clear hcz47_2
   try clear hcz47_3
   try clear hcz51_0
   try clear hcz51_1
   try clear hcz51_2
   try clear hcz51_3
   try clear hcz53_0
   try clear hcz53_1
   try clear hcz53_2
   try clear hcz53_3
   try clear hcz9_0
   try clear hcz9_1
   try clear hcz9_2
   try clear hcz9_3
   try clear hfz15_0
   try clear hfz15_1
   try clear hfz15_2
   try clear hfz15_3
   try clear hfz17_0
   try clear hfz17_1
   try clear hfz17_2
   try clear hfz17_3
   try clear hfz22_0
   try clear hfz22_1
   try clear hfz22_2
   try clear hfz22_3
   try clear hfz29_0
   try clear hfz29_1
   try clear hfz29_2
   try clear hfz29_3
   try clear hfz31_0
   try clear hfz31_1
   try clear hfz31_2
   try clear hfz31_3
   try clear hfz37_0
   try clear hfz37_1
   try clear hfz37_2
   try clear hfz37_3
   try clear hfz39_0
   try clear hfz39_1
   try clear hfz39_2
   try clear hfz39_3
   try clear hfz41_0
   try clear hfz41_1
   try clear hfz41_2
   try clear hfz41_3
   try clear hfz45_0
   try clear hfz45_1
   try clear hfz45_2
   try clear hfz45_3
   try clear hfz47_0
   try clear hfz47_1
   try clear hfz47_2
   try clear hfz47_3
   try clear hfz51_0
   try clear hfz51_1
   try clear hfz51_2
   try clear hfz51_3
   try clear hfz53_0
   try clear hfz53_1
   try clear hfz53_2
   try clear hfz53_3
   try clear hfz9_0
   try clear hfz9_1
   try clear hfz9_2
   try clear hfz9_3
   obtain ⟨kq, x49_5, rfl, HA, HJ5, HO_4, HO_111003, HO_119003, HO_127003, BK110, BK118, BK126, HB⟩ := hcut
   cases kq with
   | zero => exact absurd HA.out (by simp [laws_FnHistogramMap.j0])
   | succ kj5 =>
    have H := HA.out
    clear HA
    simp only [laws_FnHistogramMap.j0] at H
    by_cases c55 : x49_5 = true
    ·
     subst c55
     have H1 : ((laws_equalImage.f kj5 t111 t112 t113 t114 t119 t120 t121 t122).bind fun t129 => (if t129 = true then (some (t117 == t125)) else (some false))) = some r := by rw [if_pos rfl] at H; exact H
     clear H
     have H := H1
     clear H1
     replace H := Option.bind_eq_some_iff.mp H
     obtain ⟨t129, A560, H⟩ := H
     replace H : (if t129 = true then (some (t117 == t125)) else (some false)) = some r := H
     have A56 := Aside0.mk A560
     clear A560
     by_cases c57 : t129 = true
     ·
      subst c57
      have H1 : (some (t117 == t125)) = some r := by rw [if_pos rfl] at H; exact H
      clear H
      have H := H1
      clear H1
      obtain rfl := Option.some.inj H
      have hnb58 := NB118_110.out
      have hnc58 := NB110_118.out
      have hnb59 := NB118_126.out
      have hnc59 := NB126_118.out
      obtain ⟨hcz60_0, hcz60_1, hcz60_2, hcz60_3, hfz60_0, hfz60_1, hfz60_2, hfz60_3⟩ := blk4_ BK118.out
      have hnb61 := NB126_110.out
      have hnc61 := NB110_126.out
      obtain ⟨hcz62_0, hcz62_1, hcz62_2, hcz62_3, hfz62_0, hfz62_1, hfz62_2, hfz62_3⟩ := blk4_ BK126.out
      go_wp2_with (first | ((with_reducible refine gate_callee (f := 33) rfl ?_); refine goesL_ (some 52) rfl rfl Try.func33 (by kernel_rfl) rfl #[.agg #[.int .i64 t111, .int .i64 t112, .int .i64 t113, .slice Ao16 t114.length co16], .agg #[.int .i64 t119, .int .i64 t120, .int .i64 t121, .slice Ao23 t122.length co23]] rfl (by simp only [List.map_toArray, List.map_cons, List.map_nil]; rfl) ?_; (with_reducible refine (laws_equalImage.calls kj5 t111 t112 t113 _ _ t114 t119 t120 t121 _ _ t122 true _ ?side1 ?side2 ?side3 ?side4 A56.out).mono ?_); (case side1 => repeat (first | exact (Kd.Q_reads' HO_119003.out).2.2 | (with_reducible refine Kd.C_alloc ?_ _) | (with_reducible refine Kd.C_drewN ?_ _) | (with_reducible refine Kd.C_drew ?_))); (case side2 => exact (Kd.Q_reads' HO_119003.out).2.1); (case side3 => repeat (first | exact (Kd.Q_reads' HO_127003.out).2.2 | (with_reducible refine Kd.C_alloc ?_ _) | (with_reducible refine Kd.C_drewN ?_ _) | (with_reducible refine Kd.C_drew ?_))); (case side4 => exact (Kd.Q_reads' HO_127003.out).2.1); rintro e w63 ⟨rfl, hb⟩; refine ⟨_, rfl, ?_⟩; replace HO_4 := am_ (Kd.Q_below (by exact HO_4.out) hb); replace HO_111003 := am_ (Kd.Q_below (by exact HO_111003.out) hb); replace HO_119003 := am_ (Kd.Q_below (by exact HO_119003.out) hb); replace HO_127003 := am_ (Kd.Q_below (by exact HO_127003.out) hb); replace BK110 := am_ (blk_below (by exact BK110.out) hb); replace BK118 := am_ (blk_below (by exact BK118.out) hb); replace BK126 := am_ (blk_below (by exact BK126.out) hb); replace HB := am_ (below_step (by repeat (first | (with_reducible first | exact HB.out | apply below_alloc | apply pw_below_drewN | apply below_drew1 | refine below_set ?_ GE110.out | refine below_set ?_ GE118.out | refine below_set ?_ GE126.out) | exact HB.out)) hb); (try clear hb); (try clear hb2); (try clear hk); (try clear hi)))
      go_ret
      exact ⟨by first | rfl | (simp [errW_none, errW_some] <;> rfl) | (simp [*, errW_none, errW_some] <;> rfl), by repeat (first | (with_reducible first | exact HB.out | apply below_alloc | apply pw_below_drewN | apply below_drew1 | refine below_set ?_ GE110.out | refine below_set ?_ GE118.out | refine below_set ?_ GE126.out) | exact HB.out)⟩
     ·
      replace c57 := Bool.eq_false_iff.mpr c57
      subst c57
      have H1 : (some false) = some r := by rw [if_neg (show ¬ (false = true) by decide)] at H; exact H
      clear H
      have H := H1
      clear H1
      obtain rfl := Option.some.inj H
      have hnb64 := NB118_110.out
      have hnc64 := NB110_118.out
      have hnb65 := NB118_126.out
      have hnc65 := NB126_118.out
      obtain ⟨hcz66_0, hcz66_1, hcz66_2, hcz66_3, hfz66_0, hfz66_1, hfz66_2, hfz66_3⟩ := blk4_ BK118.out
      have hnb67 := NB126_110.out
      have hnc67 := NB110_126.out
      obtain ⟨hcz68_0, hcz68_1, hcz68_2, hcz68_3, hfz68_0, hfz68_1, hfz68_2, hfz68_3⟩ := blk4_ BK126.out
      go_wp2_with (first | ((with_reducible refine gate_callee (f := 33) rfl ?_); refine goesL_ (some 52) rfl rfl Try.func33 (by kernel_rfl) rfl #[.agg #[.int .i64 t111, .int .i64 t112, .int .i64 t113, .slice Ao16 t114.length co16], .agg #[.int .i64 t119, .int .i64 t120, .int .i64 t121, .slice Ao23 t122.length co23]] rfl (by simp only [List.map_toArray, List.map_cons, List.map_nil]; rfl) ?_; (with_reducible refine (laws_equalImage.calls kj5 t111 t112 t113 _ _ t114 t119 t120 t121 _ _ t122 false _ ?side1 ?side2 ?side3 ?side4 A56.out).mono ?_); (case side1 => repeat (first | exact (Kd.Q_reads' HO_119003.out).2.2 | (with_reducible refine Kd.C_alloc ?_ _) | (with_reducible refine Kd.C_drewN ?_ _) | (with_reducible refine Kd.C_drew ?_))); (case side2 => exact (Kd.Q_reads' HO_119003.out).2.1); (case side3 => repeat (first | exact (Kd.Q_reads' HO_127003.out).2.2 | (with_reducible refine Kd.C_alloc ?_ _) | (with_reducible refine Kd.C_drewN ?_ _) | (with_reducible refine Kd.C_drew ?_))); (case side4 => exact (Kd.Q_reads' HO_127003.out).2.1); rintro e w69 ⟨rfl, hb⟩; refine ⟨_, rfl, ?_⟩; replace HO_4 := am_ (Kd.Q_below (by exact HO_4.out) hb); replace HO_111003 := am_ (Kd.Q_below (by exact HO_111003.out) hb); replace HO_119003 := am_ (Kd.Q_below (by exact HO_119003.out) hb); replace HO_127003 := am_ (Kd.Q_below (by exact HO_127003.out) hb); replace BK110 := am_ (blk_below (by exact BK110.out) hb); replace BK118 := am_ (blk_below (by exact BK118.out) hb); replace BK126 := am_ (blk_below (by exact BK126.out) hb); replace HB := am_ (below_step (by repeat (first | (with_reducible first | exact HB.out | apply below_alloc | apply pw_below_drewN | apply below_drew1 | refine below_set ?_ GE110.out | refine below_set ?_ GE118.out | refine below_set ?_ GE126.out) | exact HB.out)) hb); (try clear hb); (try clear hb2); (try clear hk); (try clear hi)))
      go_ret
      exact ⟨by first | rfl | (simp [errW_none, errW_some] <;> rfl) | (simp [*, errW_none, errW_some] <;> rfl), by repeat (first | (with_reducible first | exact HB.out | apply below_alloc | apply pw_below_drewN | apply below_drew1 | refine below_set ?_ GE110.out | refine below_set ?_ GE118.out | refine below_set ?_ GE126.out) | exact HB.out)⟩
    ·
     replace c55 := Bool.eq_false_iff.mpr c55
     subst c55
     have H1 : ((impl_HistogramOf.f kj5 t101 t102 t103 t104).bind fun t130 => (if 256 ≤ 35184372088832 then (laws_FnHistogramMap.l0 kj5 t107 t130 (List.replicate 256 0) 0 t111 t112 t113 t114) else (none))) = some r := by rw [if_neg (show ¬ (false = true) by decide)] at H; exact H
     clear H
     have H := H1
     clear H1
     replace H := Option.bind_eq_some_iff.mp H
     obtain ⟨t130, A700, H⟩ := H
     replace H : (if 256 ≤ 35184372088832 then (laws_FnHistogramMap.l0 kj5 t107 t130 (List.replicate 256 0) 0 t111 t112 t113 t114) else (none)) = some r := H
     have A70 := Aside0.mk A700
     clear A700
     by_cases c71 : 256 ≤ 35184372088832
     ·
      rw [if_pos c71] at H
      have c71b0 := eq_true c71
      have c71b1 : decide (256 ≤ 35184372088832) = true := decide_eq_true c71
      clear c71
      obtain ⟨y133, hy133⟩ : ∃ y_ : List Int, y_ = (List.replicate 256 0) := ⟨_, rfl⟩
      replace H : (laws_FnHistogramMap.l0 kj5 t107 t130 y133 0 t111 t112 t113 t114) = some r := by first | (rw [hy133]; with_reducible exact H) | (have H2_ := (Option.bind_some _ _).symm.trans H; rw [hy133]; with_reducible exact H2_) | (have H2_ := (Option.bind_some _ _).symm.trans H; with_reducible exact H2_) | with_reducible exact H | (rw [hy133]; exact H) | exact H
      have Ny133 := Aside0.mk hy133
      clear hy133
      have H' := Aside0.mk H
      clear H
      have hnb72 := NB110_118.out
      have hnc72 := NB118_110.out
      have hnb73 := NB110_126.out
      have hnc73 := NB126_110.out
      obtain ⟨hcz74_0, hcz74_1, hcz74_2, hcz74_3, hfz74_0, hfz74_1, hfz74_2, hfz74_3⟩ := blk4_ BK110.out
      go_wp2_with (first | ((with_reducible refine gate_callee (f := 18) rfl ?_); refine goesL_ (some 59) rfl rfl Try.func18 (by kernel_rfl) rfl #[.agg #[.int .i64 t101, .int .i64 t102, .int .i64 t103, .slice Ao10 t104.length co10]] rfl (by simp only [List.map_toArray, List.map_cons, List.map_nil]; rfl) ?_; (with_reducible refine (impl_HistogramOf.calls kj5 t101 t102 t103 _ _ t104 t130 _ ?side1 ?side2 A70.out).mono ?_); (case side1 => repeat (first | exact (Kd.Q_reads' HO_111003.out).2.2 | (with_reducible refine Kd.C_alloc ?_ _) | (with_reducible refine Kd.C_drewN ?_ _) | (with_reducible refine Kd.C_drew ?_))); (case side2 => exact (Kd.Q_reads' HO_111003.out).2.1); rintro e w75 ⟨v131, rfl, ho0, hb⟩; refine ⟨_, rfl, ?_⟩; have HO132 := am_ (Kd.R_lower (Kd.R_new' (Kd.R_new' (Kd.R_new' (Kd.R_new' ho0 (Kd.Q_lt (by exact HO_4.out))) (Kd.Q_lt (by exact HO_111003.out))) (Kd.Q_lt (by exact HO_119003.out))) (Kd.Q_lt (by exact HO_127003.out))) (below_size (by repeat (first | (with_reducible first | exact HB.out | apply below_alloc | apply pw_below_drewN | apply below_drew1 | refine below_set ?_ GE110.out | refine below_set ?_ GE118.out | refine below_set ?_ GE126.out) | exact HB.out)))); replace HO_4 := am_ (Kd.Q_elder' (by exact HO_4.out) (Kd.R_base ho0) hb); replace HO_111003 := am_ (Kd.Q_elder' (by exact HO_111003.out) (Kd.R_base ho0) hb); replace HO_119003 := am_ (Kd.Q_elder' (by exact HO_119003.out) (Kd.R_base ho0) hb); replace HO_127003 := am_ (Kd.Q_elder' (by exact HO_127003.out) (Kd.R_base ho0) hb); replace BK110 := am_ (blk_below (by exact BK110.out) hb); replace BK118 := am_ (blk_below (by exact BK118.out) hb); replace BK126 := am_ (blk_below (by exact BK126.out) hb); replace HB := am_ (below_step (by repeat (first | (with_reducible first | exact HB.out | apply below_alloc | apply pw_below_drewN | apply below_drew1 | refine below_set ?_ GE110.out | refine below_set ?_ GE118.out | refine below_set ?_ GE126.out) | exact HB.out)) hb); (try clear hb); (try clear hb2); (try clear hk); (try clear hi); (try clear ho0)) | ((with_reducible refine gate_dst (N := 60) rfl ?_); (try (refine gate_guard (by rfl) ?_; dsimp only)); refine Kd.R_make (Kd.int .i64) _ 3 rfl (N := 60) rfl 22 _ _ rfl 256 rfl rfl Try.underlying22 (.int .i64 0) 8 info3 rfl (by decide) (by omega) 0 (ok := fun _ => True) (okp := fun _ => True) rfl (fun _ hk => hk) trivial (by omega) (by omega) (Below.refl _ _) (Nat.le_refl _) ?_; intro v134 w76 ho77 hb hg_ hnew_; clear hg_ hnew_; (first | rw [← Ny133.out] at ho77 | (simp only [Int.reduceToNat] at ho77; rw [← Ny133.out] at ho77)); have HO135 := am_ (Kd.R_lower (Kd.R_new' (Kd.R_new' (Kd.R_new' (Kd.R_new' (Kd.R_new' ho77 (Kd.Q_lt (by exact HO_4.out))) (Kd.Q_lt (by exact HO_111003.out))) (Kd.Q_lt (by exact HO_119003.out))) (Kd.Q_lt (by exact HO_127003.out))) (Kd.R_lt (by exact HO132.out))) (below_size (by repeat (first | (with_reducible first | exact HB.out | apply below_alloc | apply pw_below_drewN | apply below_drew1 | refine below_set ?_ GE110.out | refine below_set ?_ GE118.out | refine below_set ?_ GE126.out) | exact HB.out)))); replace HO_4 := am_ (Kd.Q_elder' (by exact HO_4.out) (Kd.R_base ho77) hb); replace HO_111003 := am_ (Kd.Q_elder' (by exact HO_111003.out) (Kd.R_base ho77) hb); replace HO_119003 := am_ (Kd.Q_elder' (by exact HO_119003.out) (Kd.R_base ho77) hb); replace HO_127003 := am_ (Kd.Q_elder' (by exact HO_127003.out) (Kd.R_base ho77) hb); replace HO132 := am_ (Kd.R_elder' (by exact HO132.out) (Kd.R_base ho77) hb); replace BK110 := am_ (blk_below (by exact BK110.out) hb); replace BK118 := am_ (blk_below (by exact BK118.out) hb); replace BK126 := am_ (blk_below (by exact BK126.out) hb); replace HB := am_ (below_step (by repeat (first | (with_reducible first | exact HB.out | apply below_alloc | apply pw_below_drewN | apply below_drew1 | refine below_set ?_ GE110.out | refine below_set ?_ GE118.out | refine below_set ?_ GE126.out) | exact HB.out)) hb); clear hb ho77))
      go_loopg [11] kj5 (fun kq v11 w' => ∃ (x10_2 : List Int) (x11_2 : Int), v11 = .int .i64 x11_2 ∧ Aside0 (laws_FnHistogramMap.l0 kq t107 t130 x10_2 x11_2 t111 t112 t113 t114 = some r) ∧ Aside0 (kq ≤ kj5) ∧ Aside0 (Kd.Q (Kd.int .i64) 3 w' w.heap.size (fun k_ => some k_ ≠ (v131 : Value).ownBlock ∧ some k_ ≠ (v134 : Value).ownBlock ∧ some k_ ≠ ((.slice Ao10 t104.length co10) : Value).ownBlock ∧ some k_ ≠ ((.slice Ao16 t114.length co16) : Value).ownBlock ∧ some k_ ≠ ((.slice Ao23 t122.length co23) : Value).ownBlock) (.slice Ao11 t107.length co11) t107) ∧ Aside0 (Kd.R (Kd.int .i64) 3 w' w.heap.size (fun k_ => some k_ ≠ ((.slice Ao11 t107.length co11) : Value).ownBlock ∧ some k_ ≠ (v134 : Value).ownBlock ∧ some k_ ≠ ((.slice Ao10 t104.length co10) : Value).ownBlock ∧ some k_ ≠ ((.slice Ao16 t114.length co16) : Value).ownBlock ∧ some k_ ≠ ((.slice Ao23 t122.length co23) : Value).ownBlock) v131 t130) ∧ Aside0 (Kd.R (Kd.int .i64) 3 w' w.heap.size (fun k_ => some k_ ≠ ((.slice Ao11 t107.length co11) : Value).ownBlock ∧ some k_ ≠ (v131 : Value).ownBlock ∧ some k_ ≠ ((.slice Ao10 t104.length co10) : Value).ownBlock ∧ some k_ ≠ ((.slice Ao16 t114.length co16) : Value).ownBlock ∧ some k_ ≠ ((.slice Ao23 t122.length co23) : Value).ownBlock) v134 x10_2) ∧ Aside0 (Kd.Q (Kd.int .i64) 3 w' w.heap.size (fun k_ => some k_ ≠ ((.slice Ao11 t107.length co11) : Value).ownBlock ∧ some k_ ≠ (v131 : Value).ownBlock ∧ some k_ ≠ (v134 : Value).ownBlock ∧ some k_ ≠ ((.slice Ao16 t114.length co16) : Value).ownBlock ∧ some k_ ≠ ((.slice Ao23 t122.length co23) : Value).ownBlock) (.slice Ao10 t104.length co10) t104) ∧ Aside0 (Kd.Q (Kd.int .i64) 3 w' w.heap.size (fun k_ => some k_ ≠ ((.slice Ao11 t107.length co11) : Value).ownBlock ∧ some k_ ≠ (v131 : Value).ownBlock ∧ some k_ ≠ (v134 : Value).ownBlock ∧ some k_ ≠ ((.slice Ao10 t104.length co10) : Value).ownBlock ∧ some k_ ≠ ((.slice Ao23 t122.length co23) : Value).ownBlock) (.slice Ao16 t114.length co16) t114) ∧ Aside0 (Kd.Q (Kd.int .i64) 3 w' w.heap.size (fun k_ => some k_ ≠ ((.slice Ao11 t107.length co11) : Value).ownBlock ∧ some k_ ≠ (v131 : Value).ownBlock ∧ some k_ ≠ (v134 : Value).ownBlock ∧ some k_ ≠ ((.slice Ao10 t104.length co10) : Value).ownBlock ∧ some k_ ≠ ((.slice Ao16 t114.length co16) : Value).ownBlock) (.slice Ao23 t122.length co23) t122) ∧ Aside0 (w'.heap[gb110]? = some (.cells #[.int .i64 t101, .int .i64 t102, .int .i64 t103, (.slice Ao10 t104.length co10)] 27 (0, 0))) ∧ Aside0 (w'.heap[gb118]? = some (.cells #[.int .i64 t111, .int .i64 t112, .int .i64 t113, (.slice Ao16 t114.length co16)] 27 (0, 0))) ∧ Aside0 (w'.heap[gb126]? = some (.cells #[.int .i64 t119, .int .i64 t120, .int .i64 t121, (.slice Ao23 t122.length co23)] 27 (0, 0))) ∧ Aside0 (Below w.heap.size w w'))
      case atStart => exact ⟨(y133), (0), (by first | rfl | (simp; done) | (simp [*]; done)), H', ⟨Nat.le_refl _⟩, ⟨by exact Kd.Q_mono HO_4.out (fun _ hk => ⟨hk.1.2, ⟨hk.2, ⟨hk.1.1.1, ⟨hk.1.1.2.1, hk.1.1.2.2⟩⟩⟩⟩)⟩, ⟨by exact Kd.R_mono HO132.out (fun _ hk => ⟨hk.1.1.1.1.2, ⟨hk.2, ⟨hk.1.1.1.2, ⟨hk.1.1.2, hk.1.2⟩⟩⟩⟩)⟩, ⟨by exact Kd.R_mono HO135.out (fun _ hk => ⟨hk.1.1.1.1.2, ⟨hk.2, ⟨hk.1.1.1.2, ⟨hk.1.1.2, hk.1.2⟩⟩⟩⟩)⟩, ⟨by exact Kd.Q_mono HO_111003.out (fun _ hk => ⟨hk.1.1.1, ⟨hk.1.2, ⟨hk.2, ⟨hk.1.1.2.1, hk.1.1.2.2⟩⟩⟩⟩)⟩, ⟨by exact Kd.Q_mono HO_119003.out (fun _ hk => ⟨hk.1.1.1, ⟨hk.1.2, ⟨hk.2, ⟨hk.1.1.2.1, hk.1.1.2.2⟩⟩⟩⟩)⟩, ⟨by exact Kd.Q_mono HO_127003.out (fun _ hk => ⟨hk.1.1.1, ⟨hk.1.2, ⟨hk.2, ⟨hk.1.1.2.1, hk.1.1.2.2⟩⟩⟩⟩)⟩, ⟨by exact BK110.out⟩, ⟨by exact BK118.out⟩, ⟨by exact BK126.out⟩, ⟨by repeat (first | (with_reducible first | exact HB.out | apply below_alloc | apply pw_below_drewN | apply below_drew1 | refine below_set ?_ GE110.out | refine below_set ?_ GE118.out | refine below_set ?_ GE126.out) | exact HB.out)⟩⟩
      case round =>
       clear H'
       try clear c1
       try clear c2
       try clear c2b0
       try clear c2b1
       try clear p2
       try clear c3
       try clear c4
       try clear c5
       try clear c6
       try clear c7
       try clear c14
       try clear c18
       try clear c20
       try clear c21
       try clear c25
       try clear c26
       try clear c26b0
       try clear c26b1
       try clear c26b2
       try clear c27
       try clear c28
       try clear c30
       try clear c31
       try clear c32
       try clear c33
       try clear c35
       try clear c36
       try clear c38
       try clear c43
       try clear c44
       try clear c46
       try clear c49
       try clear c50
       try clear c52
       try clear c55
       try clear c57
       try clear c58
       try clear c59
       try clear c61
       try clear c64
       try clear c65
       try clear c67
       try clear c71
       try clear c71b0
       try clear c71b1
       try clear c72
       try clear c73
       try clear hcz15_0
       try clear hcz15_1
       try clear hcz15_2
       try clear hcz15_3
       try clear hcz17_0
       try clear hcz17_1
       try clear hcz17_2
       try clear hcz17_3
       try clear hcz22_0
       try clear hcz22_1
       try clear hcz22_2
       try clear hcz22_3
       try clear hcz29_0
       try clear hcz29_1
       try clear hcz29_2
       try clear hcz29_3
       try clear hcz31_0
       try clear hcz31_1
       try clear hcz31_2
       try clear hcz31_3
       try clear hcz37_0
       try clear hcz37_1
       try clear hcz37_2
       try clear hcz37_3
       try clear hcz39_0
       try clear hcz39_1
       try clear hcz39_2
       try clear hcz39_3
       try clear hcz41_0
       try clear hcz41_1
       try clear hcz41_2
       try clear hcz41_3
       try clear hcz45_0
       try clear hcz45_1
       try clear hcz45_2
       try clear hcz45_3
       try clear hcz47_0
       try clear hcz47_1
       try clear hcz47_2
       try clear hcz47_3
       try clear hcz51_0
       try clear hcz51_1
       try clear hcz51_2
       try clear hcz51_3
       try clear hcz53_0
       try clear hcz53_1
       try clear hcz53_2
       try clear hcz53_3
       try clear hcz60_0
       try clear hcz60_1
       try clear hcz60_2
       try clear hcz60_3
       try clear hcz62_0
       try clear hcz62_1
       try clear hcz62_2
       try clear hcz62_3
       try clear hcz66_0
       try clear hcz66_1
       try clear hcz66_2
       try clear hcz66_3
       try clear hcz68_0
       try clear hcz68_1
       try clear hcz68_2
       try clear hcz68_3
       try clear hcz74_0
       try clear hcz74_1
       try clear hcz74_2
       try clear hcz74_3
       try clear hcz9_0
       try clear hcz9_1
       try clear hcz9_2
       try clear hcz9_3
       try clear hfz15_0
       try clear hfz15_1
       try clear hfz15_2
       try clear hfz15_3
       try clear hfz17_0
       try clear hfz17_1
       try clear hfz17_2
       try clear hfz17_3
       try clear hfz22_0
       try clear hfz22_1
       try clear hfz22_2
       try clear hfz22_3
       try clear hfz29_0
       try clear hfz29_1
       try clear hfz29_2
       try clear hfz29_3
       try clear hfz31_0
       try clear hfz31_1
       try clear hfz31_2
       try clear hfz31_3
       try clear hfz37_0
       try clear hfz37_1
       try clear hfz37_2
       try clear hfz37_3
       try clear hfz39_0
       try clear hfz39_1
       try clear hfz39_2
       try clear hfz39_3
       try clear hfz41_0
       try clear hfz41_1
       try clear hfz41_2
       try clear hfz41_3
       try clear hfz45_0
       try clear hfz45_1
       try clear hfz45_2
       try clear hfz45_3
       try clear hfz47_0
       try clear hfz47_1
       try clear hfz47_2
       try clear hfz47_3
       try clear hfz51_0
       try clear hfz51_1
       try clear hfz51_2
       try clear hfz51_3
       try clear hfz53_0
       try clear hfz53_1
       try clear hfz53_2
       try clear hfz53_3
       try clear hfz60_0
       try clear hfz60_1
       try clear hfz60_2
       try clear hfz60_3
       try clear hfz62_0
       try clear hfz62_1
       try clear hfz62_2
       try clear hfz62_3
       try clear hfz66_0
       try clear hfz66_1
       try clear hfz66_2
       try clear hfz66_3
       try clear hfz68_0
       try clear hfz68_1
       try clear hfz68_2
       try clear hfz68_3
       try clear hfz74_0
       try clear hfz74_1
       try clear hfz74_2
       try clear hfz74_3
       try clear hfz9_0
       try clear hfz9_1
       try clear hfz9_2
       try clear hfz9_3
       try clear p2
       obtain ⟨x10_2, x11_2, rfl, HA, HK2, HO_4, HO_9, HO_10, HO_111003, HO_119003, HO_127003, BK110, BK118, BK126, HB⟩ := hrel
       cases gk with
       | zero => exact absurd HA.out (by simp [laws_FnHistogramMap.l0])
       | succ k2 =>
        have H := HA.out
        clear HA
        simp only [laws_FnHistogramMap.l0] at H
        by_cases c78 : x11_2 < 256
        ·
         rw [if_pos c78] at H
         have c78b0 : decide (x11_2 < 256) = true := decide_eq_true c78
         clear c78
         by_cases c79 : x11_2 < (t130.length : Int)
         ·
          rw [if_pos c79] at H
          have c79b0 : decide (x11_2 < (t130.length : Int)) = true := decide_eq_true c79
          clear c79
          by_cases c80 : 0 ≤ x11_2
          ·
           rw [if_pos c80] at H
           have c80b0 : decide (0 ≤ x11_2) = true := decide_eq_true c80
           clear c80
           by_cases c81 : x11_2 < (t107.length : Int)
           ·
            rw [if_pos c81] at H
            have c81b0 : decide (x11_2 < (t107.length : Int)) = true := decide_eq_true c81
            clear c81
            by_cases c82 : 0 ≤ (rd t107 x11_2)
            ·
             rw [if_pos c82] at H
             have c82b0 : decide (0 ≤ (rd t107 x11_2)) = true := decide_eq_true c82
             clear c82
             by_cases c83 : (rd t107 x11_2) < (x10_2.length : Int)
             ·
              rw [if_pos c83] at H
              have c83b0 : decide ((rd t107 x11_2) < (x10_2.length : Int)) = true := decide_eq_true c83
              clear c83
              obtain ⟨y140, hy140⟩ : ∃ y_ : List Int, y_ = (x10_2.set ((rd t107 x11_2) : Int).toNat (wrap64 ((rd x10_2 (rd t107 x11_2)) + (rd t130 x11_2)))) := ⟨_, rfl⟩
              replace H : (laws_FnHistogramMap.l0 k2 t107 t130 y140 (wrap64 (x11_2 + 1)) t111 t112 t113 t114) = some r := by first | (rw [hy140]; with_reducible exact H) | (have H2_ := (Option.bind_some _ _).symm.trans H; rw [hy140]; with_reducible exact H2_) | (have H2_ := (Option.bind_some _ _).symm.trans H; with_reducible exact H2_) | with_reducible exact H | (rw [hy140]; exact H) | exact H
              have Ny140 := Aside0.mk hy140
              clear hy140
              have H' := Aside0.mk H
              clear H
              obtain ⟨Ao85, co85, eo85⟩ := Kd.R_slice HO_9.out
              subst eo85
              try go_wp2
              replace HO_4 := am_ (Kd.Q_drew HO_4.out)
              replace HO_9 := am_ (Kd.R_drew HO_9.out)
              replace HO_10 := am_ (Kd.R_drew HO_10.out)
              replace HO_111003 := am_ (Kd.Q_drew HO_111003.out)
              replace HO_119003 := am_ (Kd.Q_drew HO_119003.out)
              replace HO_127003 := am_ (Kd.Q_drew HO_127003.out)
              replace BK110 := am_ (blk_drew BK110.out)
              replace BK118 := am_ (blk_drew BK118.out)
              replace BK126 := am_ (blk_drew BK126.out)
              replace HB := am_ (below_drew1 HB.out)
              have p136 : 0 ≤ (x11_2 : Int) := of_decide_eq_true (by first | (with_reducible assumption) | assumption)
              have q136 : x11_2 < (t107.length : Int) := of_decide_eq_true (by first | (with_reducible assumption) | assumption)
              obtain ⟨ad136, e136, hx136_0⟩ := Kd.at_int (Kd.Q_reads' HO_4.out).2.2 x11_2 p136 q136
              cases e136
              replace p136 := eq_true p136
              replace q136 := eq_true q136
              have p137 : 0 ≤ (x11_2 : Int) := of_decide_eq_true (by first | (with_reducible assumption) | assumption)
              have q137 : x11_2 < (t107.length : Int) := of_decide_eq_true (by first | (with_reducible assumption) | assumption)
              obtain ⟨ad137, e137, hx137_0⟩ := Kd.at_int (Kd.Q_reads' HO_4.out).2.2 x11_2 p137 q137
              obtain rfl : ad136 = ad137 := (by injection e137)
              replace p137 := eq_true p137
              replace q137 := eq_true q137
              obtain ⟨Ao87, co87, eo87⟩ := Kd.R_slice HO_10.out
              (first | subst eo87 | (injection eo87 with f1_ f2_ f3_; have f4_ := f1_.symm; have f5_ := f3_.symm; clear f1_ f2_ f3_; subst f4_; subst f5_))
              have p138 : 0 ≤ ((rd t107 x11_2) : Int) := of_decide_eq_true (by first | (with_reducible assumption) | assumption)
              have q138 : (rd t107 x11_2) < (x10_2.length : Int) := of_decide_eq_true (by first | (with_reducible assumption) | assumption)
              obtain ⟨ad138, e138, hx138_0⟩ := Kd.at_int (Kd.R_reads' HO_10.out).2.2 (rd t107 x11_2) p138 q138
              cases e138
              replace p138 := eq_true p138
              replace q138 := eq_true q138
              have p139 : 0 ≤ (x11_2 : Int) := of_decide_eq_true (by first | (with_reducible assumption) | assumption)
              have q139 : x11_2 < (t130.length : Int) := of_decide_eq_true (by first | (with_reducible assumption) | assumption)
              obtain ⟨ad139, e139, hx139_0⟩ := Kd.at_int (Kd.R_reads' HO_9.out).2.2 x11_2 p139 q139
              cases e139
              replace p139 := eq_true p139
              replace q139 := eq_true q139
              have p84 : 0 ≤ ((rd t107 x11_2) : Int) := of_decide_eq_true (by first | (with_reducible assumption) | assumption)
              have q84 : ((rd t107 x11_2) : Int) < ((x10_2.length : Int) : Int) := of_decide_eq_true (by first | (with_reducible assumption) | assumption)
              obtain ⟨go84, co84, eo84, gb84, gl84, cl84, HG84⟩ := Kd.R_form HO_10.out (by omega)
              (first | cases eo84 | (injection eo84 with ea_ en_ ec_; (first | subst ea_ | (injection ea_ with ea_; subst ea_)); subst ec_; clear en_))
              have GB84 := Aside0.mk gb84
              have GG84 := Aside0.mk HG84
              clear gb84 gl84 HG84
              (first | simp only [add_plain] at hx138_0 | skip)
              obtain ⟨hx84_0, hf84_0⟩ := Kd.R_celln 0 HO_10.out ((rd t107 x11_2) : Int) p84 q84
              replace p84 := eq_true p84
              replace q84 := eq_true q84
              have HP88 := Kd.R_putn HO_10.out ((rd t107 x11_2) : Int) (wrap64 ((rd x10_2 (rd t107 x11_2)) + (rd t130 x11_2)))
              rw [← Ny140.out] at HP88
              have HQ88 := Aside0.mk HP88
              clear HP88
              refine start_ (n := 19) (S := fun w' => w'.cell? (ad136.add (x11_2).toNat) = some (.int .i64 (rd t107 x11_2)) ∧ w'.cell? (ad136.add (x11_2).toNat) = some (.int .i64 (rd t107 x11_2)) ∧ w'.cell? ⟨go84, ((rd t107 x11_2)).toNat, none⟩ = some (.int .i64 (rd x10_2 (rd t107 x11_2))) ∧ w'.cell? (ad139.add (x11_2).toNat) = some (.int .i64 (rd t130 x11_2))) (ds := [18]) #[false, false, false, false, false, false, false, false, false, false, false, false, false, false, false, false, false, false, false] (by kernel_rfl) rfl rfl ⟨hx136_0, hx137_0, hx138_0, hx139_0⟩ (fun hHeld => ?_); refine with_tabW laws_FnHistogramMap.tab13 laws_FnHistogramMap.bits13 (fun HT_ HW_ => ?_)
              generalize wr.drew = w86 at HO_4 HO_9 HO_10 HO_111003 HO_119003 HO_127003 BK110 BK118 BK126 HB GG84 HQ88 hf84_0 hx136_0 hx137_0 hx138_0 hx139_0 hx84_0 hHeld ⊢
              refine pure_ (i := 0) (N := some 71) (v := ?_) (a' := ?_) #[true, false, false, false, false, false, false, false, false, false, false, false, false, false, false, false, false, false, false] rfl rfl (any_of HT_.out (by kernel_rfl)) (fun _ _ _ h => h) (Or.inl ⟨by rfl, ?_⟩) ?_ ?_
              rotate_left
              ·
               intro w'
               go_simp
               with_reducible rfl
              rotate_left
              ·
               simp only [Act.put, List.setIfInBounds_toArray, List.set_cons_zero, List.set_cons_succ, i64_w, i32_w]
               rfl
              refine pure_ (i := 1) (N := some 72) (v := ?_) (a' := ?_) #[true, true, false, false, false, false, false, false, false, false, false, false, false, false, false, false, false, false, false] rfl rfl (any_of HT_.out (by kernel_rfl)) (fun _ _ _ h => h) (Or.inl ⟨by rfl, ?_⟩) ?_ ?_
              rotate_left
              ·
               intro w'
               go_simp
               with_reducible rfl
              rotate_left
              ·
               simp only [Act.put, List.setIfInBounds_toArray, List.set_cons_zero, List.set_cons_succ, i64_w, i32_w]
               rfl
              refine pure_ (i := 2) (N := some 73) (v := ?_) (a' := ?_) #[true, true, true, false, false, false, false, false, false, false, false, false, false, false, false, false, false, false, false] rfl rfl (any_of HT_.out (by kernel_rfl)) (fun _ _ _ h => h) (Or.inl ⟨by rfl, ?_⟩) ?_ ?_
              rotate_left
              ·
               intro w'
               go_simp
               with_reducible rfl
              rotate_left
              ·
               simp only [Act.put, List.setIfInBounds_toArray, List.set_cons_zero, List.set_cons_succ, i64_w, i32_w]
               rfl
              refine pure_ (i := 3) (N := some 74) (v := ?_) (a' := ?_) #[true, true, true, true, false, false, false, false, false, false, false, false, false, false, false, false, false, false, false] rfl rfl (any_of HT_.out (by kernel_rfl)) (fun _ _ _ h => h) (Or.inl ⟨by rfl, ?_⟩) ?_ ?_
              rotate_left
              ·
               intro w'
               go_simp
               with_reducible rfl
              rotate_left
              ·
               simp only [Act.put, List.setIfInBounds_toArray, List.set_cons_zero, List.set_cons_succ, i64_w, i32_w]
               rfl
              refine pure_ (i := 5) (N := some 76) (v := ?_) (a' := ?_) #[true, true, true, true, false, true, false, false, false, false, false, false, false, false, false, false, false, false, false] rfl rfl (any_of HT_.out (by kernel_rfl)) (fun _ _ _ h => h) (Or.inl ⟨by rfl, ?_⟩) ?_ ?_
              rotate_left
              ·
               intro w'
               go_simp
               with_reducible rfl
              rotate_left
              ·
               simp only [Act.put, List.setIfInBounds_toArray, List.set_cons_zero, List.set_cons_succ, i64_w, i32_w]
               rfl
              refine pure_ (i := 6) (N := some 77) (v := ?_) (a' := ?_) #[true, true, true, true, false, true, true, false, false, false, false, false, false, false, false, false, false, false, false] rfl rfl (any_of HT_.out (by kernel_rfl)) (fun _ _ _ h => h) (Or.inl ⟨by rfl, ?_⟩) ?_ ?_
              rotate_left
              ·
               intro w'
               go_simp
               with_reducible rfl
              rotate_left
              ·
               simp only [Act.put, List.setIfInBounds_toArray, List.set_cons_zero, List.set_cons_succ, i64_w, i32_w]
               rfl
              refine pure_ (i := 7) (N := some 78) (v := ?_) (a' := ?_) #[true, true, true, true, false, true, true, true, false, false, false, false, false, false, false, false, false, false, false] rfl rfl (any_of HT_.out (by kernel_rfl)) (fun _ _ _ h => h) (Or.inl ⟨by rfl, ?_⟩) ?_ ?_
              rotate_left
              ·
               intro w'
               go_simp
               with_reducible rfl
              rotate_left
              ·
               simp only [Act.put, List.setIfInBounds_toArray, List.set_cons_zero, List.set_cons_succ, i64_w, i32_w]
               rfl
              refine pure_ (i := 8) (N := some 79) (v := ?_) (a' := ?_) #[true, true, true, true, false, true, true, true, true, false, false, false, false, false, false, false, false, false, false] rfl rfl (any_of HT_.out (by kernel_rfl)) (fun _ _ _ h => h) (Or.inl ⟨by rfl, ?_⟩) ?_ ?_
              rotate_left
              ·
               intro w'
               go_simp
               with_reducible rfl
              rotate_left
              ·
               simp only [Act.put, List.setIfInBounds_toArray, List.set_cons_zero, List.set_cons_succ, i64_w, i32_w]
               rfl
              refine pure_ (i := 12) (N := some 83) (v := ?_) (a' := ?_) #[true, true, true, true, false, true, true, true, true, false, false, false, true, false, false, false, false, false, false] rfl rfl (any_of HT_.out (by kernel_rfl)) (fun _ _ _ h => h) (Or.inl ⟨by rfl, ?_⟩) ?_ ?_
              rotate_left
              ·
               intro w'
               go_simp
               with_reducible rfl
              rotate_left
              ·
               simp only [Act.put, List.setIfInBounds_toArray, List.set_cons_zero, List.set_cons_succ, i64_w, i32_w]
               rfl
              refine pure_ (i := 13) (N := some 84) (v := ?_) (a' := ?_) #[true, true, true, true, false, true, true, true, true, false, false, false, true, true, false, false, false, false, false] rfl rfl (any_of HT_.out (by kernel_rfl)) (fun _ _ _ h => h) (Or.inl ⟨by rfl, ?_⟩) ?_ ?_
              rotate_left
              ·
               intro w'
               go_simp
               with_reducible rfl
              rotate_left
              ·
               simp only [Act.put, List.setIfInBounds_toArray, List.set_cons_zero, List.set_cons_succ, i64_w, i32_w]
               rfl
              refine pure_ (i := 14) (N := some 85) (v := ?_) (a' := ?_) #[true, true, true, true, false, true, true, true, true, false, false, false, true, true, true, false, false, false, false] rfl rfl (any_of HT_.out (by kernel_rfl)) (fun _ _ _ h => h) (Or.inl ⟨by rfl, ?_⟩) ?_ ?_
              rotate_left
              ·
               intro w'
               go_simp
               with_reducible rfl
              rotate_left
              ·
               simp only [Act.put, List.setIfInBounds_toArray, List.set_cons_zero, List.set_cons_succ, i64_w, i32_w]
               rfl
              refine take_ (i := 4) (N := some 75) (v := ?_) (a' := ?_) #[true, true, true, true, true, true, true, true, true, false, false, false, true, true, true, false, false, false, false] rfl rfl (take_ofW HT_.out HW_.out (by kernel_rfl)) (fun _ _ _ h => h) (Or.inl ⟨by rfl, ?_⟩) hHeld ?_ ?_
              rotate_left
              ·
               rintro w' ⟨s0, s1, s2, s3⟩
               go_simp
               with_reducible rfl
              rotate_left
              ·
               simp only [Act.put, List.setIfInBounds_toArray, List.set_cons_zero, List.set_cons_succ, i64_w, i32_w]
               rfl
              refine take_ (i := 9) (N := some 80) (v := ?_) (a' := ?_) #[true, true, true, true, true, true, true, true, true, true, false, false, true, true, true, false, false, false, false] rfl rfl (take_ofW HT_.out HW_.out (by kernel_rfl)) (fun _ _ _ h => h) (Or.inl ⟨by rfl, ?_⟩) hHeld ?_ ?_
              rotate_left
              ·
               rintro w' ⟨s0, s1, s2, s3⟩
               go_simp
               with_reducible rfl
              rotate_left
              ·
               simp only [Act.put, List.setIfInBounds_toArray, List.set_cons_zero, List.set_cons_succ, i64_w, i32_w]
               rfl
              refine pure_ (i := 10) (N := some 81) (v := ?_) (a' := ?_) #[true, true, true, true, true, true, true, true, true, true, true, false, true, true, true, false, false, false, false] rfl rfl (any_of HT_.out (by kernel_rfl)) (fun _ _ _ h => h) (Or.inl ⟨by rfl, ?_⟩) ?_ ?_
              rotate_left
              ·
               intro w'
               go_simp
               with_reducible rfl
              rotate_left
              ·
               simp only [Act.put, List.setIfInBounds_toArray, List.set_cons_zero, List.set_cons_succ, i64_w, i32_w]
               rfl
              refine take_ (i := 11) (N := some 82) (v := ?_) (a' := ?_) #[true, true, true, true, true, true, true, true, true, true, true, true, true, true, true, false, false, false, false] rfl rfl (take_ofW HT_.out HW_.out (by kernel_rfl)) (fun _ _ _ h => h) (Or.inl ⟨by rfl, ?_⟩) hHeld ?_ ?_
              rotate_left
              ·
               rintro w' ⟨s0, s1, s2, s3⟩
               go_simp
               with_reducible rfl
              rotate_left
              ·
               simp only [Act.put, List.setIfInBounds_toArray, List.set_cons_zero, List.set_cons_succ, i64_w, i32_w]
               rfl
              refine take_ (i := 15) (N := some 86) (v := ?_) (a' := ?_) #[true, true, true, true, true, true, true, true, true, true, true, true, true, true, true, true, false, false, false] rfl rfl (take_ofW HT_.out HW_.out (by kernel_rfl)) (fun _ _ _ h => h) (Or.inl ⟨by rfl, ?_⟩) hHeld ?_ ?_
              rotate_left
              ·
               rintro w' ⟨s0, s1, s2, s3⟩
               go_simp
               with_reducible rfl
              rotate_left
              ·
               simp only [Act.put, List.setIfInBounds_toArray, List.set_cons_zero, List.set_cons_succ, i64_w, i32_w]
               rfl
              refine pure_ (i := 16) (N := some 87) (v := ?_) (a' := ?_) #[true, true, true, true, true, true, true, true, true, true, true, true, true, true, true, true, true, false, false] rfl rfl (any_of HT_.out (by kernel_rfl)) (fun _ _ _ h => h) (Or.inl ⟨by rfl, ?_⟩) ?_ ?_
              rotate_left
              ·
               intro w'
               go_simp
               with_reducible rfl
              rotate_left
              ·
               simp only [Act.put, List.setIfInBounds_toArray, List.set_cons_zero, List.set_cons_succ, i64_w, i32_w]
               rfl
              refine pure_ (i := 17) (N := some 88) (v := ?_) (a' := ?_) #[true, true, true, true, true, true, true, true, true, true, true, true, true, true, true, true, true, true, false] rfl rfl (any_of HT_.out (by kernel_rfl)) (fun _ _ _ h => h) (Or.inl ⟨by rfl, ?_⟩) ?_ ?_
              rotate_left
              ·
               intro w'
               go_simp
               with_reducible rfl
              rotate_left
              ·
               simp only [Act.put, List.setIfInBounds_toArray, List.set_cons_zero, List.set_cons_succ, i64_w, i32_w]
               rfl
              refine last_ (i := 18) (N := none) #[true, true, true, true, true, true, true, true, true, true, true, true, true, true, true, true, true, true, true] rfl rfl (one_of HT_.out (by kernel_rfl)) (by decide) (fun K hK => ?_)
              refine skip_ (w1 := ?_) (by rfl) rfl ?_ ?_
              rotate_left
              ·
               go_simp
               rfl
              refine hK.out _ _ ?_
              clear hK K
              refine done_ (done_of HT_.out (by kernel_rfl)) ?_
              try go_wp2
              go_roundg k2
              case measure => have := HJ5.out; have := HK2.out; omega
              case rel => exact ⟨(y140), (wrap64 (x11_2 + 1)), (by first | rfl | (simp; done) | (simp [*]; done)), H', ⟨by have := HJ5.out; have := HK2.out; omega⟩, ⟨by exact Kd.Q_mono (Kd.Q_far (p := ⟨go84, ((rd t107 x11_2) : Int).toNat, none⟩) (Kd.Q_mono HO_4.out (fun k_ hk => (⟨hk, fun e_ => hk.2.1 (by rw [e_]; rfl)⟩ : _ ∧ k_ ≠ go84))) (fun _ hk => hk.2) (.int .i64 (wrap64 ((rd x10_2 (rd t107 x11_2)) + (rd t130 x11_2))))) (fun _ hk => ⟨hk.1.1, ⟨hk.1.2.1, ⟨hk.1.2.2.1, ⟨hk.1.2.2.2.1, hk.1.2.2.2.2⟩⟩⟩⟩)⟩, ⟨by exact Kd.R_mono (Kd.R_far (p := ⟨go84, ((rd t107 x11_2) : Int).toNat, none⟩) (Kd.R_mono HO_9.out (fun k_ hk => (⟨hk, fun e_ => hk.2.1 (by rw [e_]; rfl)⟩ : _ ∧ k_ ≠ go84))) (fun _ hk => hk.2) (.int .i64 (wrap64 ((rd x10_2 (rd t107 x11_2)) + (rd t130 x11_2))))) (fun _ hk => ⟨hk.1.1, ⟨hk.1.2.1, ⟨hk.1.2.2.1, ⟨hk.1.2.2.2.1, hk.1.2.2.2.2⟩⟩⟩⟩)⟩, ⟨by exact HQ88.out⟩, ⟨by exact Kd.Q_mono (Kd.Q_far (p := ⟨go84, ((rd t107 x11_2) : Int).toNat, none⟩) (Kd.Q_mono HO_111003.out (fun k_ hk => (⟨hk, fun e_ => hk.2.2.1 (by rw [e_]; rfl)⟩ : _ ∧ k_ ≠ go84))) (fun _ hk => hk.2) (.int .i64 (wrap64 ((rd x10_2 (rd t107 x11_2)) + (rd t130 x11_2))))) (fun _ hk => ⟨hk.1.1, ⟨hk.1.2.1, ⟨hk.1.2.2.1, ⟨hk.1.2.2.2.1, hk.1.2.2.2.2⟩⟩⟩⟩)⟩, ⟨by exact Kd.Q_mono (Kd.Q_far (p := ⟨go84, ((rd t107 x11_2) : Int).toNat, none⟩) (Kd.Q_mono HO_119003.out (fun k_ hk => (⟨hk, fun e_ => hk.2.2.1 (by rw [e_]; rfl)⟩ : _ ∧ k_ ≠ go84))) (fun _ hk => hk.2) (.int .i64 (wrap64 ((rd x10_2 (rd t107 x11_2)) + (rd t130 x11_2))))) (fun _ hk => ⟨hk.1.1, ⟨hk.1.2.1, ⟨hk.1.2.2.1, ⟨hk.1.2.2.2.1, hk.1.2.2.2.2⟩⟩⟩⟩)⟩, ⟨by exact Kd.Q_mono (Kd.Q_far (p := ⟨go84, ((rd t107 x11_2) : Int).toNat, none⟩) (Kd.Q_mono HO_127003.out (fun k_ hk => (⟨hk, fun e_ => hk.2.2.1 (by rw [e_]; rfl)⟩ : _ ∧ k_ ≠ go84))) (fun _ hk => hk.2) (.int .i64 (wrap64 ((rd x10_2 (rd t107 x11_2)) + (rd t130 x11_2))))) (fun _ hk => ⟨hk.1.1, ⟨hk.1.2.1, ⟨hk.1.2.2.1, ⟨hk.1.2.2.2.1, hk.1.2.2.2.2⟩⟩⟩⟩)⟩, ⟨by (with_reducible repeat (first | refine blk_drewN ?_ _ | refine blk_drew ?_ | refine blk_alloc ?_ _)); refine blk_far ?_ (by have h_ := Kd.R_ne HO_10.out BK110.out (by decide); intro e_; exact h_ (by rw [e_]; rfl)) _; (with_reducible repeat (first | refine blk_drewN ?_ _ | refine blk_drew ?_ | refine blk_alloc ?_ _)); exact BK110.out⟩, ⟨by (with_reducible repeat (first | refine blk_drewN ?_ _ | refine blk_drew ?_ | refine blk_alloc ?_ _)); refine blk_far ?_ (by have h_ := Kd.R_ne HO_10.out BK118.out (by decide); intro e_; exact h_ (by rw [e_]; rfl)) _; (with_reducible repeat (first | refine blk_drewN ?_ _ | refine blk_drew ?_ | refine blk_alloc ?_ _)); exact BK118.out⟩, ⟨by (with_reducible repeat (first | refine blk_drewN ?_ _ | refine blk_drew ?_ | refine blk_alloc ?_ _)); refine blk_far ?_ (by have h_ := Kd.R_ne HO_10.out BK126.out (by decide); intro e_; exact h_ (by rw [e_]; rfl)) _; (with_reducible repeat (first | refine blk_drewN ?_ _ | refine blk_drew ?_ | refine blk_alloc ?_ _)); exact BK126.out⟩, ⟨by repeat (first | (with_reducible first | exact HB.out | apply below_alloc | apply pw_below_drewN | apply below_drew1 | refine below_set ?_ GB84.out | refine below_set ?_ GE110.out | refine below_set ?_ GE118.out | refine below_set ?_ GE126.out) | exact HB.out)⟩⟩
             ·
              rw [if_neg c83] at H
              exact absurd H (by simp)
            ·
             rw [if_neg c82] at H
             exact absurd H (by simp)
           ·
            rw [if_neg c81] at H
            exact absurd H (by simp)
          ·
           rw [if_neg c80] at H
           exact absurd H (by simp)
         ·
          rw [if_neg c79] at H
          have c79b0 : decide (x11_2 < (t130.length : Int)) = false := decide_eq_false c79
          clear c79
          replace H := Option.bind_eq_some_iff.mp H
          obtain ⟨t141, A890, H⟩ := H
          replace H : ((laws_equalInts.f k2 t141 x10_2).bind fun t144 => (some t144)) = some r := H
          have A89 := Aside0.mk A890
          clear A890
          replace H := Option.bind_eq_some_iff.mp H
          obtain ⟨t144, A900, H⟩ := H
          replace H : (some t144) = some r := H
          have A90 := Aside0.mk A900
          clear A900
          obtain rfl := Option.some.inj H
          obtain ⟨Ao91, co91, eo91⟩ := Kd.R_slice HO_9.out
          subst eo91
          have hnb92 := NB118_110.out
          have hnc92 := NB110_118.out
          have hnb93 := NB118_126.out
          have hnc93 := NB126_118.out
          obtain ⟨hcz94_0, hcz94_1, hcz94_2, hcz94_3, hfz94_0, hfz94_1, hfz94_2, hfz94_3⟩ := blk4_ BK118.out
          go_wp2_with (first | ((with_reducible refine gate_callee (f := 18) rfl ?_); refine goesL_ (some 90) rfl rfl Try.func18 (by kernel_rfl) rfl #[.agg #[.int .i64 t111, .int .i64 t112, .int .i64 t113, .slice Ao16 t114.length co16]] rfl (by simp only [List.map_toArray, List.map_cons, List.map_nil]; rfl) ?_; (with_reducible refine (impl_HistogramOf.calls k2 t111 t112 t113 _ _ t114 t141 _ ?side1 ?side2 A89.out).mono ?_); (case side1 => repeat (first | exact (Kd.Q_reads' HO_119003.out).2.2 | (with_reducible refine Kd.C_alloc ?_ _) | (with_reducible refine Kd.C_drewN ?_ _) | (with_reducible refine Kd.C_drew ?_))); (case side2 => exact (Kd.Q_reads' HO_119003.out).2.1); rintro e w95 ⟨v142, rfl, ho0, hb⟩; refine ⟨_, rfl, ?_⟩; have HO143 := am_ (Kd.R_lower (Kd.R_new' (Kd.R_new' (Kd.R_new' (Kd.R_new' (Kd.R_new' (Kd.R_new' ho0 (Kd.Q_lt (by exact HO_4.out))) (Kd.R_lt (by exact HO_9.out))) (Kd.R_lt (by exact HO_10.out))) (Kd.Q_lt (by exact HO_111003.out))) (Kd.Q_lt (by exact HO_119003.out))) (Kd.Q_lt (by exact HO_127003.out))) (below_size (by repeat (first | (with_reducible first | exact HB.out | apply below_alloc | apply pw_below_drewN | apply below_drew1 | refine below_set ?_ GE110.out | refine below_set ?_ GE118.out | refine below_set ?_ GE126.out) | exact HB.out)))); replace HO_4 := am_ (Kd.Q_elder' (by exact HO_4.out) (Kd.R_base ho0) hb); replace HO_9 := am_ (Kd.R_elder' (by exact HO_9.out) (Kd.R_base ho0) hb); replace HO_10 := am_ (Kd.R_elder' (by exact HO_10.out) (Kd.R_base ho0) hb); replace HO_111003 := am_ (Kd.Q_elder' (by exact HO_111003.out) (Kd.R_base ho0) hb); replace HO_119003 := am_ (Kd.Q_elder' (by exact HO_119003.out) (Kd.R_base ho0) hb); replace HO_127003 := am_ (Kd.Q_elder' (by exact HO_127003.out) (Kd.R_base ho0) hb); replace BK110 := am_ (blk_below (by exact BK110.out) hb); replace BK118 := am_ (blk_below (by exact BK118.out) hb); replace BK126 := am_ (blk_below (by exact BK126.out) hb); replace HB := am_ (below_step (by repeat (first | (with_reducible first | exact HB.out | apply below_alloc | apply pw_below_drewN | apply below_drew1 | refine below_set ?_ GE110.out | refine below_set ?_ GE118.out | refine below_set ?_ GE126.out) | exact HB.out)) hb); (try clear hb); (try clear hb2); (try clear hk); (try clear hi); (try clear ho0); obtain ⟨Ao96, co96, eo96⟩ := Kd.R_slice HO143.out; subst eo96; obtain ⟨Ao97, co97, eo97⟩ := Kd.R_slice HO_10.out; subst eo97) | ((with_reducible refine gate_callee (f := 25) rfl ?_); refine goesL_ (some 92) rfl rfl Try.func25 (by kernel_rfl) rfl #[.slice Ao96 t141.length co96, .slice Ao97 x10_2.length co97] rfl (by simp only [List.map_toArray, List.map_cons, List.map_nil]; rfl) ?_; (with_reducible refine (laws_equalInts.calls k2 _ _ t141 _ _ x10_2 t144 _ ?side1 ?side2 ?side3 ?side4 A90.out).mono ?_); (case side1 => repeat (first | exact (Kd.R_reads' HO143.out).2.2 | (with_reducible refine Kd.C_alloc ?_ _) | (with_reducible refine Kd.C_drewN ?_ _) | (with_reducible refine Kd.C_drew ?_))); (case side2 => exact (Kd.R_reads' HO143.out).2.1); (case side3 => repeat (first | exact (Kd.R_reads' HO_10.out).2.2 | (with_reducible refine Kd.C_alloc ?_ _) | (with_reducible refine Kd.C_drewN ?_ _) | (with_reducible refine Kd.C_drew ?_))); (case side4 => exact (Kd.R_reads' HO_10.out).2.1); rintro e w' ⟨rfl, ⟨nd, rfl⟩⟩; refine ⟨_, rfl, ?_⟩))
          go_ret
          exact ⟨by first | rfl | (simp [errW_none, errW_some] <;> rfl) | (simp [*, errW_none, errW_some] <;> rfl), by repeat (first | (with_reducible first | exact HB.out | apply below_alloc | apply pw_below_drewN | apply below_drew1 | refine below_set ?_ GE110.out | refine below_set ?_ GE118.out | refine below_set ?_ GE126.out) | exact HB.out)⟩
        ·
         rw [if_neg c78] at H
         have c78b0 : decide (x11_2 < 256) = false := decide_eq_false c78
         clear c78
         replace H := Option.bind_eq_some_iff.mp H
         obtain ⟨t145, A980, H⟩ := H
         replace H : ((laws_equalInts.f k2 t145 x10_2).bind fun t148 => (some t148)) = some r := H
         have A98 := Aside0.mk A980
         clear A980
         replace H := Option.bind_eq_some_iff.mp H
         obtain ⟨t148, A990, H⟩ := H
         replace H : (some t148) = some r := H
         have A99 := Aside0.mk A990
         clear A990
         obtain rfl := Option.some.inj H
         have hnb100 := NB118_110.out
         have hnc100 := NB110_118.out
         have hnb101 := NB118_126.out
         have hnc101 := NB126_118.out
         obtain ⟨hcz102_0, hcz102_1, hcz102_2, hcz102_3, hfz102_0, hfz102_1, hfz102_2, hfz102_3⟩ := blk4_ BK118.out
         go_wp2_with (first | ((with_reducible refine gate_callee (f := 18) rfl ?_); refine goesL_ (some 90) rfl rfl Try.func18 (by kernel_rfl) rfl #[.agg #[.int .i64 t111, .int .i64 t112, .int .i64 t113, .slice Ao16 t114.length co16]] rfl (by simp only [List.map_toArray, List.map_cons, List.map_nil]; rfl) ?_; (with_reducible refine (impl_HistogramOf.calls k2 t111 t112 t113 _ _ t114 t145 _ ?side1 ?side2 A98.out).mono ?_); (case side1 => repeat (first | exact (Kd.Q_reads' HO_119003.out).2.2 | (with_reducible refine Kd.C_alloc ?_ _) | (with_reducible refine Kd.C_drewN ?_ _) | (with_reducible refine Kd.C_drew ?_))); (case side2 => exact (Kd.Q_reads' HO_119003.out).2.1); rintro e w103 ⟨v146, rfl, ho0, hb⟩; refine ⟨_, rfl, ?_⟩; have HO147 := am_ (Kd.R_lower (Kd.R_new' (Kd.R_new' (Kd.R_new' (Kd.R_new' (Kd.R_new' (Kd.R_new' ho0 (Kd.Q_lt (by exact HO_4.out))) (Kd.R_lt (by exact HO_9.out))) (Kd.R_lt (by exact HO_10.out))) (Kd.Q_lt (by exact HO_111003.out))) (Kd.Q_lt (by exact HO_119003.out))) (Kd.Q_lt (by exact HO_127003.out))) (below_size (by repeat (first | (with_reducible first | exact HB.out | apply below_alloc | apply pw_below_drewN | apply below_drew1 | refine below_set ?_ GE110.out | refine below_set ?_ GE118.out | refine below_set ?_ GE126.out) | exact HB.out)))); replace HO_4 := am_ (Kd.Q_elder' (by exact HO_4.out) (Kd.R_base ho0) hb); replace HO_9 := am_ (Kd.R_elder' (by exact HO_9.out) (Kd.R_base ho0) hb); replace HO_10 := am_ (Kd.R_elder' (by exact HO_10.out) (Kd.R_base ho0) hb); replace HO_111003 := am_ (Kd.Q_elder' (by exact HO_111003.out) (Kd.R_base ho0) hb); replace HO_119003 := am_ (Kd.Q_elder' (by exact HO_119003.out) (Kd.R_base ho0) hb); replace HO_127003 := am_ (Kd.Q_elder' (by exact HO_127003.out) (Kd.R_base ho0) hb); replace BK110 := am_ (blk_below (by exact BK110.out) hb); replace BK118 := am_ (blk_below (by exact BK118.out) hb); replace BK126 := am_ (blk_below (by exact BK126.out) hb); replace HB := am_ (below_step (by repeat (first | (with_reducible first | exact HB.out | apply below_alloc | apply pw_below_drewN | apply below_drew1 | refine below_set ?_ GE110.out | refine below_set ?_ GE118.out | refine below_set ?_ GE126.out) | exact HB.out)) hb); (try clear hb); (try clear hb2); (try clear hk); (try clear hi); (try clear ho0); obtain ⟨Ao104, co104, eo104⟩ := Kd.R_slice HO147.out; subst eo104; obtain ⟨Ao105, co105, eo105⟩ := Kd.R_slice HO_10.out; subst eo105) | ((with_reducible refine gate_callee (f := 25) rfl ?_); refine goesL_ (some 92) rfl rfl Try.func25 (by kernel_rfl) rfl #[.slice Ao104 t145.length co104, .slice Ao105 x10_2.length co105] rfl (by simp only [List.map_toArray, List.map_cons, List.map_nil]; rfl) ?_; (with_reducible refine (laws_equalInts.calls k2 _ _ t145 _ _ x10_2 t148 _ ?side1 ?side2 ?side3 ?side4 A99.out).mono ?_); (case side1 => repeat (first | exact (Kd.R_reads' HO147.out).2.2 | (with_reducible refine Kd.C_alloc ?_ _) | (with_reducible refine Kd.C_drewN ?_ _) | (with_reducible refine Kd.C_drew ?_))); (case side2 => exact (Kd.R_reads' HO147.out).2.1); (case side3 => repeat (first | exact (Kd.R_reads' HO_10.out).2.2 | (with_reducible refine Kd.C_alloc ?_ _) | (with_reducible refine Kd.C_drewN ?_ _) | (with_reducible refine Kd.C_drew ?_))); (case side4 => exact (Kd.R_reads' HO_10.out).2.1); rintro e w' ⟨rfl, ⟨nd, rfl⟩⟩; refine ⟨_, rfl, ?_⟩))
         go_ret
         exact ⟨by first | rfl | (simp [errW_none, errW_some] <;> rfl) | (simp [*, errW_none, errW_some] <;> rfl), by repeat (first | (with_reducible first | exact HB.out | apply below_alloc | apply pw_below_drewN | apply below_drew1 | refine below_set ?_ GE110.out | refine below_set ?_ GE118.out | refine below_set ?_ GE126.out) | exact HB.out)⟩
     ·
      rw [if_neg c71] at H
      exact absurd H (by simp)

/-- THE ONE PURE STATEMENT of laws_FnHistogramMap: yours. -/
def laws_FnHistogramMap.Pure : Prop := ∀ (l0 : List Int), l0.length ≤ maxLen → l0.length * 1 ≤ 140737488351232 → (∀ x ∈ l0, (Lit.int .u8 x).wf = true) → ∃ k, laws_FnHistogramMap.f k l0 = some true
theorem laws_FnHistogramMap.walk (P : laws_FnHistogramMap.Pure) (a0 : Option Addr) (len0 cap0 : Nat) (z0 : List Int) (w : World) (w0 : (a0 = none ∧ len0 = 0 ∧ cap0 = 0 ∧ z0 = []) ∨ ∃ x, a0 = some x ∧ len0 ≤ cap0 ∧ cap0 ≤ maxLen ∧ z0.length = cap0 ∧ (∀ i, i < z0.length → w.cell? (x.add i) = some (.int .u8 (z0.getD i 0))) ∧ ∀ n ∈ z0, (Lit.int .u8 n).wf = true) (y0 : len0 * 1 ≤ 140737488351232) :
  Calls Try.prog 6 #[.slice a0 len0 cap0] w fun e w' => e = .returned (.bool true) ∧ Below w.heap.size w w' := by
 obtain ⟨l0, rfl, hr0, hm0, hw0, hc0⟩ := ReadsInt.ofRowC w0
 obtain ⟨k, h⟩ := P l0 hm0 y0 hw0
 refine (laws_FnHistogramMap.calls k _ _ l0 true w (Kd.C_of_reads (d := (0 : Int)) (h1 := fun _ => rfl) hr0) hc0 h).mono ?_
 rintro e w' ⟨rfl, hd⟩
 exact ⟨rfl, hd⟩

end Go.Proofs.Ytonolnojpejgnaa.Print
