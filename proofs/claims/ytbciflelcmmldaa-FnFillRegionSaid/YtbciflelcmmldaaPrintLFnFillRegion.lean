-- laid by hp.py (a program of this work over the kit's print), with contracts by hand for what the print does not take
import Derived.Test.YtbciflelcmmldaaPrint0
import Derived.Test.YtbciflelcmmldaaPrintHimplFillRegion
import Derived.Test.YtbciflelcmmldaaPrintHimplPixelAt
import Derived.Test.YtbciflelcmmldaaPrintHx0
import Derived.Test.YtbciflelcmmldaaPrintHx2
import Derived.Test.YtbciflelcmmldaaPrintR0x0
import Derived.Test.YtbciflelcmmldaaPrintR1x0
import Derived.Test.YtbciflelcmmldaaPrintR1x2
import Derived.Test.YtbciflelcmmldaaPrintR1x9
namespace Go.Proofs.Ytbciflelcmmldaa.Print
open Go.RowKit Go.Proofs.YtbciflelcmmldaaW.PrintWords Go.Proofs.YtbciflelcmmldaaW.PrintLast Go.Proofs.YtbciflelcmmldaaW.PrintMore
attribute [local go_sem] max2_int min2_int max_two min_two max_three min_three max_four min_four   -- for this text's walks alone
set_option linter.unusedVariables false
set_option linter.unusedSimpArgs false

/-! ### laws_FnFillRegion: function 7 -/
mutual
def laws_FnFillRegion.j0 : Nat → List (S96) → List Int → Bool → Bool → Bool → Int → Int → Int → List Int → Int → Int → Int → List Int → Int → Int → Int → List Int → Option (Bool)
 | 0, _, _, _, _, _, _, _, _, _, _, _, _, _, _, _, _, _ => none
 | k + 1, x4, x5, x7, x9, x48, x114000, x114001, x114002, x114003, x122000, x122001, x122002, x122003, x130000, x130001, x130002, x130003 => if x48 = true then ((laws_equalImage.f k x122000 x122001 x122002 x122003 x130000 x130001 x130002 x130003).bind fun t131 => (if t131 = true then (some (x7 == x9)) else (some false))) else (laws_FnFillRegion.l0 k x4 x5 0 x114000 x114001 x114002 x114003 x122000 x122001 x122002 x122003)
def laws_FnFillRegion.l0 : Nat → List (S96) → List Int → Int → Int → Int → Int → List Int → Int → Int → Int → List Int → Option (Bool)
 | 0, _, _, _, _, _, _, _, _, _, _, _ => none
 | k + 1, x4, x5, x10, x114000, x114001, x114002, x114003, x122000, x122001, x122002, x122003 => if x10 < x114001 then (laws_FnFillRegion.l1 k x4 x5 x10 0 x114000 x114001 x114002 x114003 x122000 x122001 x122002 x122003) else (some true)
def laws_FnFillRegion.l1 : Nat → List (S96) → List Int → Int → Int → Int → Int → Int → List Int → Int → Int → Int → List Int → Option (Bool)
 | 0, _, _, _, _, _, _, _, _, _, _, _, _ => none
 | k + 1, x4, x5, x10, x11, x114000, x114001, x114002, x114003, x122000, x122001, x122002, x122003 => if x11 < x114000 then ((impl_PixelAt.f x114000 x114001 x114002 x114003 x11 x10).bind fun t132 => ((impl_RegionHas.f x4 x11 x10).bind fun t135 => (if t135 = true then (laws_FnFillRegion.j3 k x4 x5 x10 x11 x5 x114000 x114001 x114002 x114003 x122000 x122001 x122002 x122003) else (laws_FnFillRegion.j3 k x4 x5 x10 x11 t132 x114000 x114001 x114002 x114003 x122000 x122001 x122002 x122003)))) else (laws_FnFillRegion.l0 k x4 x5 (wrap64 (x10 + 1)) x114000 x114001 x114002 x114003 x122000 x122001 x122002 x122003)
def laws_FnFillRegion.j3 : Nat → List (S96) → List Int → Int → Int → List Int → Int → Int → Int → List Int → Int → Int → Int → List Int → Option (Bool)
 | 0, _, _, _, _, _, _, _, _, _, _, _, _, _ => none
 | k + 1, x4, x5, x10, x11, x12, x114000, x114001, x114002, x114003, x122000, x122001, x122002, x122003 => (impl_PixelAt.f x122000 x122001 x122002 x122003 x11 x10).bind fun t136 => ((laws_equalInts.f k t136 x12).bind fun t139 => (if t139 = true then (laws_FnFillRegion.l1 k x4 x5 x10 (wrap64 (x11 + 1)) x114000 x114001 x114002 x114003 x122000 x122001 x122002 x122003) else (some false)))
end
def laws_FnFillRegion.f (k : Nat) (l0 : List Int) : Option (Bool) := if (l0.length : Int) > 1048576 then (some true) else ((spec_DrawFillRegion.f k l0).bind fun bt101 => ((impl_FillRegion.f bt101.1 bt101.2.1 bt101.2.2.1 bt101.2.2.2.1 bt101.2.2.2.2.1 bt101.2.2.2.2.2).bind fun bt114 => ((spec_FillRegion.f k bt101.1 bt101.2.1 bt101.2.2.1 bt101.2.2.2.1 bt101.2.2.2.2.1 bt101.2.2.2.2.2).bind fun bt122 => ((laws_equalImage.f k bt114.1 bt114.2.1 bt114.2.2.1 bt114.2.2.2.1 bt122.1 bt122.2.1 bt122.2.2.1 bt122.2.2.2.1).bind fun t130 => (if t130 = true then (if (bt114.2.2.2.2 != bt122.2.2.2.2) = true then (laws_FnFillRegion.j0 k bt101.2.2.2.2.1 bt101.2.2.2.2.2 bt114.2.2.2.2 bt122.2.2.2.2 true bt101.1 bt101.2.1 bt101.2.2.1 bt101.2.2.2.1 bt114.1 bt114.2.1 bt114.2.2.1 bt114.2.2.2.1 bt122.1 bt122.2.1 bt122.2.2.1 bt122.2.2.2.1) else (laws_FnFillRegion.j0 k bt101.2.2.2.2.1 bt101.2.2.2.2.2 bt114.2.2.2.2 bt122.2.2.2.2 (!bt114.2.2.2.2) bt101.1 bt101.2.1 bt101.2.2.1 bt101.2.2.2.1 bt114.1 bt114.2.1 bt114.2.2.1 bt114.2.2.2.1 bt122.1 bt122.2.1 bt122.2.2.1 bt122.2.2.2.1)) else (laws_FnFillRegion.j0 k bt101.2.2.2.2.1 bt101.2.2.2.2.2 bt114.2.2.2.2 bt122.2.2.2.2 true bt101.1 bt101.2.1 bt101.2.2.1 bt101.2.2.2.1 bt114.1 bt114.2.1 bt114.2.2.1 bt114.2.2.2.1 bt122.1 bt122.2.1 bt122.2.2.1 bt122.2.2.2.1))))))
theorem laws_FnFillRegion.mono_l : ∀ k, (∀ y0 y1 y2 y3 y4 y5 y6 y7 y8 y9 y10 y11 y12 y13 y14 y15 y16, LeO (laws_FnFillRegion.j0 k y0 y1 y2 y3 y4 y5 y6 y7 y8 y9 y10 y11 y12 y13 y14 y15 y16) (laws_FnFillRegion.j0 (k + 1) y0 y1 y2 y3 y4 y5 y6 y7 y8 y9 y10 y11 y12 y13 y14 y15 y16)) ∧ (∀ y0 y1 y2 y3 y4 y5 y6 y7 y8 y9 y10, LeO (laws_FnFillRegion.l0 k y0 y1 y2 y3 y4 y5 y6 y7 y8 y9 y10) (laws_FnFillRegion.l0 (k + 1) y0 y1 y2 y3 y4 y5 y6 y7 y8 y9 y10)) ∧ (∀ y0 y1 y2 y3 y4 y5 y6 y7 y8 y9 y10 y11, LeO (laws_FnFillRegion.l1 k y0 y1 y2 y3 y4 y5 y6 y7 y8 y9 y10 y11) (laws_FnFillRegion.l1 (k + 1) y0 y1 y2 y3 y4 y5 y6 y7 y8 y9 y10 y11)) ∧ (∀ y0 y1 y2 y3 y4 y5 y6 y7 y8 y9 y10 y11 y12, LeO (laws_FnFillRegion.j3 k y0 y1 y2 y3 y4 y5 y6 y7 y8 y9 y10 y11 y12) (laws_FnFillRegion.j3 (k + 1) y0 y1 y2 y3 y4 y5 y6 y7 y8 y9 y10 y11 y12))
 | 0 => ⟨fun _ _ _ _ _ _ _ _ _ _ _ _ _ _ _ _ _ r h => by simp [laws_FnFillRegion.j0] at h, fun _ _ _ _ _ _ _ _ _ _ _ r h => by simp [laws_FnFillRegion.l0] at h, fun _ _ _ _ _ _ _ _ _ _ _ _ r h => by simp [laws_FnFillRegion.l1] at h, fun _ _ _ _ _ _ _ _ _ _ _ _ _ r h => by simp [laws_FnFillRegion.j3] at h⟩
 | k + 1 => by
  obtain ⟨ih0, ih1, ih2, ih3⟩ := laws_FnFillRegion.mono_l k
  refine ⟨?_, ?_, ?_, ?_⟩
  ·
   intro y0 y1 y2 y3 y4 y5 y6 y7 y8 y9 y10 y11 y12 y13 y14 y15 y16
   unfold laws_FnFillRegion.j0
   repeat' first
   | (with_reducible exact ih0 _ _ _ _ _ _ _ _ _ _ _ _ _ _ _ _ _)
   | (with_reducible exact ih1 _ _ _ _ _ _ _ _ _ _ _)
   | (with_reducible exact ih2 _ _ _ _ _ _ _ _ _ _ _ _)
   | (with_reducible exact ih3 _ _ _ _ _ _ _ _ _ _ _ _ _)
   | (with_reducible exact laws_equalImage.mono _ _ _ _ _ _ _ _ _)
   | (with_reducible exact laws_equalInts.mono _ _ _)
   | (with_reducible exact spec_DrawFillRegion.mono _ _)
   | (with_reducible exact spec_FillRegion.mono _ _ _ _ _ _ _)
   | (with_reducible exact LeO.refl _)
   | (with_reducible exact LeO.none _)
   | (with_reducible refine LeO.ite ?_ ?_)
   | (with_reducible refine LeO.bind ?_ (fun _ => ?_))
   | exact ih0 _ _ _ _ _ _ _ _ _ _ _ _ _ _ _ _ _
   | exact ih1 _ _ _ _ _ _ _ _ _ _ _
   | exact ih2 _ _ _ _ _ _ _ _ _ _ _ _
   | exact ih3 _ _ _ _ _ _ _ _ _ _ _ _ _
   | exact laws_equalImage.mono _ _ _ _ _ _ _ _ _
   | exact laws_equalInts.mono _ _ _
   | exact spec_DrawFillRegion.mono _ _
   | exact spec_FillRegion.mono _ _ _ _ _ _ _
   | exact LeO.none _
   | refine LeO.ite ?_ ?_
   | refine LeO.bind ?_ (fun _ => ?_)
  ·
   intro y0 y1 y2 y3 y4 y5 y6 y7 y8 y9 y10
   unfold laws_FnFillRegion.l0
   repeat' first
   | (with_reducible exact ih0 _ _ _ _ _ _ _ _ _ _ _ _ _ _ _ _ _)
   | (with_reducible exact ih1 _ _ _ _ _ _ _ _ _ _ _)
   | (with_reducible exact ih2 _ _ _ _ _ _ _ _ _ _ _ _)
   | (with_reducible exact ih3 _ _ _ _ _ _ _ _ _ _ _ _ _)
   | (with_reducible exact laws_equalImage.mono _ _ _ _ _ _ _ _ _)
   | (with_reducible exact laws_equalInts.mono _ _ _)
   | (with_reducible exact spec_DrawFillRegion.mono _ _)
   | (with_reducible exact spec_FillRegion.mono _ _ _ _ _ _ _)
   | (with_reducible exact LeO.refl _)
   | (with_reducible exact LeO.none _)
   | (with_reducible refine LeO.ite ?_ ?_)
   | (with_reducible refine LeO.bind ?_ (fun _ => ?_))
   | exact ih0 _ _ _ _ _ _ _ _ _ _ _ _ _ _ _ _ _
   | exact ih1 _ _ _ _ _ _ _ _ _ _ _
   | exact ih2 _ _ _ _ _ _ _ _ _ _ _ _
   | exact ih3 _ _ _ _ _ _ _ _ _ _ _ _ _
   | exact laws_equalImage.mono _ _ _ _ _ _ _ _ _
   | exact laws_equalInts.mono _ _ _
   | exact spec_DrawFillRegion.mono _ _
   | exact spec_FillRegion.mono _ _ _ _ _ _ _
   | exact LeO.none _
   | refine LeO.ite ?_ ?_
   | refine LeO.bind ?_ (fun _ => ?_)
  ·
   intro y0 y1 y2 y3 y4 y5 y6 y7 y8 y9 y10 y11
   unfold laws_FnFillRegion.l1
   repeat' first
   | (with_reducible exact ih0 _ _ _ _ _ _ _ _ _ _ _ _ _ _ _ _ _)
   | (with_reducible exact ih1 _ _ _ _ _ _ _ _ _ _ _)
   | (with_reducible exact ih2 _ _ _ _ _ _ _ _ _ _ _ _)
   | (with_reducible exact ih3 _ _ _ _ _ _ _ _ _ _ _ _ _)
   | (with_reducible exact laws_equalImage.mono _ _ _ _ _ _ _ _ _)
   | (with_reducible exact laws_equalInts.mono _ _ _)
   | (with_reducible exact spec_DrawFillRegion.mono _ _)
   | (with_reducible exact spec_FillRegion.mono _ _ _ _ _ _ _)
   | (with_reducible exact LeO.refl _)
   | (with_reducible exact LeO.none _)
   | (with_reducible refine LeO.ite ?_ ?_)
   | (with_reducible refine LeO.bind ?_ (fun _ => ?_))
   | exact ih0 _ _ _ _ _ _ _ _ _ _ _ _ _ _ _ _ _
   | exact ih1 _ _ _ _ _ _ _ _ _ _ _
   | exact ih2 _ _ _ _ _ _ _ _ _ _ _ _
   | exact ih3 _ _ _ _ _ _ _ _ _ _ _ _ _
   | exact laws_equalImage.mono _ _ _ _ _ _ _ _ _
   | exact laws_equalInts.mono _ _ _
   | exact spec_DrawFillRegion.mono _ _
   | exact spec_FillRegion.mono _ _ _ _ _ _ _
   | exact LeO.none _
   | refine LeO.ite ?_ ?_
   | refine LeO.bind ?_ (fun _ => ?_)
  intro y0 y1 y2 y3 y4 y5 y6 y7 y8 y9 y10 y11 y12
  unfold laws_FnFillRegion.j3
  repeat' first
  | (with_reducible exact ih0 _ _ _ _ _ _ _ _ _ _ _ _ _ _ _ _ _)
  | (with_reducible exact ih1 _ _ _ _ _ _ _ _ _ _ _)
  | (with_reducible exact ih2 _ _ _ _ _ _ _ _ _ _ _ _)
  | (with_reducible exact ih3 _ _ _ _ _ _ _ _ _ _ _ _ _)
  | (with_reducible exact laws_equalImage.mono _ _ _ _ _ _ _ _ _)
  | (with_reducible exact laws_equalInts.mono _ _ _)
  | (with_reducible exact spec_DrawFillRegion.mono _ _)
  | (with_reducible exact spec_FillRegion.mono _ _ _ _ _ _ _)
  | (with_reducible exact LeO.refl _)
  | (with_reducible exact LeO.none _)
  | (with_reducible refine LeO.ite ?_ ?_)
  | (with_reducible refine LeO.bind ?_ (fun _ => ?_))
  | exact ih0 _ _ _ _ _ _ _ _ _ _ _ _ _ _ _ _ _
  | exact ih1 _ _ _ _ _ _ _ _ _ _ _
  | exact ih2 _ _ _ _ _ _ _ _ _ _ _ _
  | exact ih3 _ _ _ _ _ _ _ _ _ _ _ _ _
  | exact laws_equalImage.mono _ _ _ _ _ _ _ _ _
  | exact laws_equalInts.mono _ _ _
  | exact spec_DrawFillRegion.mono _ _
  | exact spec_FillRegion.mono _ _ _ _ _ _ _
  | exact LeO.none _
  | refine LeO.ite ?_ ?_
  | refine LeO.bind ?_ (fun _ => ?_)
theorem laws_FnFillRegion.mono : ∀ a0 k, LeO (laws_FnFillRegion.f k a0) (laws_FnFillRegion.f (k + 1) a0) := by
 intro a0 k
 obtain ⟨ih0, ih1, ih2, ih3⟩ := laws_FnFillRegion.mono_l k
 unfold laws_FnFillRegion.f
 repeat' first
   | (with_reducible exact ih0 _ _ _ _ _ _ _ _ _ _ _ _ _ _ _ _ _)
   | (with_reducible exact ih1 _ _ _ _ _ _ _ _ _ _ _)
   | (with_reducible exact ih2 _ _ _ _ _ _ _ _ _ _ _ _)
   | (with_reducible exact ih3 _ _ _ _ _ _ _ _ _ _ _ _ _)
   | (with_reducible exact laws_equalImage.mono _ _ _ _ _ _ _ _ _)
   | (with_reducible exact laws_equalInts.mono _ _ _)
   | (with_reducible exact spec_DrawFillRegion.mono _ _)
   | (with_reducible exact spec_FillRegion.mono _ _ _ _ _ _ _)
   | (with_reducible exact LeO.refl _)
   | (with_reducible exact LeO.none _)
   | (with_reducible refine LeO.ite ?_ ?_)
   | (with_reducible refine LeO.bind ?_ (fun _ => ?_))
   | exact ih0 _ _ _ _ _ _ _ _ _ _ _ _ _ _ _ _ _
   | exact ih1 _ _ _ _ _ _ _ _ _ _ _
   | exact ih2 _ _ _ _ _ _ _ _ _ _ _ _
   | exact ih3 _ _ _ _ _ _ _ _ _ _ _ _ _
   | exact laws_equalImage.mono _ _ _ _ _ _ _ _ _
   | exact laws_equalInts.mono _ _ _
   | exact spec_DrawFillRegion.mono _ _
   | exact spec_FillRegion.mono _ _ _ _ _ _ _
   | exact LeO.none _
   | refine LeO.ite ?_ ?_
   | refine LeO.bind ?_ (fun _ => ?_)
set_option maxHeartbeats 8000000 in
set_option maxRecDepth 100000 in
theorem laws_FnFillRegion.calls (k : Nat) (A0 : Option Addr) (c0 : Nat) (l0 : List Int) (r : Bool) (w : World) (hr0 : Kd.C (Kd.int .u8) w A0 l0.length l0) (hc0 : l0.length ≤ c0) (h : laws_FnFillRegion.f k l0 = some r) :
  Calls Try.prog 7 #[.slice A0 l0.length c0] w fun e w' => e = .returned (.bool r) ∧ Below w.heap.size w w' := by
 have hu25 := Try.underlying25
 have HR0 := Aside0.mk hr0
 have HC0 := Aside0.mk hc0
 clear hr0 hc0
 have HB := Aside0.mk (Below.refl w.heap.size w)
 have H : (if (l0.length : Int) > 1048576 then (some true) else ((spec_DrawFillRegion.f k l0).bind fun bt101 => ((impl_FillRegion.f bt101.1 bt101.2.1 bt101.2.2.1 bt101.2.2.2.1 bt101.2.2.2.2.1 bt101.2.2.2.2.2).bind fun bt114 => ((spec_FillRegion.f k bt101.1 bt101.2.1 bt101.2.2.1 bt101.2.2.2.1 bt101.2.2.2.2.1 bt101.2.2.2.2.2).bind fun bt122 => ((laws_equalImage.f k bt114.1 bt114.2.1 bt114.2.2.1 bt114.2.2.2.1 bt122.1 bt122.2.1 bt122.2.2.1 bt122.2.2.2.1).bind fun t130 => (if t130 = true then (if (bt114.2.2.2.2 != bt122.2.2.2.2) = true then (laws_FnFillRegion.j0 k bt101.2.2.2.2.1 bt101.2.2.2.2.2 bt114.2.2.2.2 bt122.2.2.2.2 true bt101.1 bt101.2.1 bt101.2.2.1 bt101.2.2.2.1 bt114.1 bt114.2.1 bt114.2.2.1 bt114.2.2.2.1 bt122.1 bt122.2.1 bt122.2.2.1 bt122.2.2.2.1) else (laws_FnFillRegion.j0 k bt101.2.2.2.2.1 bt101.2.2.2.2.2 bt114.2.2.2.2 bt122.2.2.2.2 (!bt114.2.2.2.2) bt101.1 bt101.2.1 bt101.2.2.1 bt101.2.2.2.1 bt114.1 bt114.2.1 bt114.2.2.1 bt114.2.2.2.1 bt122.1 bt122.2.1 bt122.2.2.1 bt122.2.2.2.1)) else (laws_FnFillRegion.j0 k bt101.2.2.2.2.1 bt101.2.2.2.2.2 bt114.2.2.2.2 bt122.2.2.2.2 true bt101.1 bt101.2.1 bt101.2.2.1 bt101.2.2.2.1 bt114.1 bt114.2.1 bt114.2.2.1 bt114.2.2.2.1 bt122.1 bt122.2.1 bt122.2.2.1 bt122.2.2.2.1))))))) = some r := h
 clear h
 by_cases c2 : (l0.length : Int) > 1048576
 ·
  rw [if_pos c2] at H
  have c2b0 : decide (1048576 < (l0.length : Int)) = true := decide_eq_true c2
  have c2b1 : decide (1048576 < l0.length) = true := decide_eq_true (by omega)
  clear c2
  obtain rfl := Option.some.inj H
  go_enter Try.func7, Try.ntmps7
  go_wp2
  go_ret
  exact ⟨by first | rfl | (simp [errW_none, errW_some] <;> rfl) | (simp [*, errW_none, errW_some] <;> rfl), by repeat (first | (with_reducible first | exact HB.out | apply below_alloc | apply pw_below_drewN | apply below_drew1) | exact HB.out)⟩
 rw [if_neg c2] at H
 have c2b0 : decide (1048576 < (l0.length : Int)) = false := decide_eq_false c2
 have c2b1 : decide (1048576 < l0.length) = false := decide_eq_false (by omega)
 clear c2
 replace H := Option.bind_eq_some_iff.mp H
 obtain ⟨⟨t101, t102, t103, t104, t107, t110⟩, A30, H⟩ := H
 replace H : ((impl_FillRegion.f t101 t102 t103 t104 t107 t110).bind fun bt114 => ((spec_FillRegion.f k t101 t102 t103 t104 t107 t110).bind fun bt122 => ((laws_equalImage.f k bt114.1 bt114.2.1 bt114.2.2.1 bt114.2.2.2.1 bt122.1 bt122.2.1 bt122.2.2.1 bt122.2.2.2.1).bind fun t130 => (if t130 = true then (if (bt114.2.2.2.2 != bt122.2.2.2.2) = true then (laws_FnFillRegion.j0 k t107 t110 bt114.2.2.2.2 bt122.2.2.2.2 true t101 t102 t103 t104 bt114.1 bt114.2.1 bt114.2.2.1 bt114.2.2.2.1 bt122.1 bt122.2.1 bt122.2.2.1 bt122.2.2.2.1) else (laws_FnFillRegion.j0 k t107 t110 bt114.2.2.2.2 bt122.2.2.2.2 (!bt114.2.2.2.2) t101 t102 t103 t104 bt114.1 bt114.2.1 bt114.2.2.1 bt114.2.2.2.1 bt122.1 bt122.2.1 bt122.2.2.1 bt122.2.2.2.1)) else (laws_FnFillRegion.j0 k t107 t110 bt114.2.2.2.2 bt122.2.2.2.2 true t101 t102 t103 t104 bt114.1 bt114.2.1 bt114.2.2.1 bt114.2.2.2.1 bt122.1 bt122.2.1 bt122.2.2.1 bt122.2.2.2.1))))) = some r := H
 have A3 := Aside0.mk A30
 clear A30
 replace H := Option.bind_eq_some_iff.mp H
 obtain ⟨⟨t114, t115, t116, t117, t120⟩, A40, H⟩ := H
 replace H : ((spec_FillRegion.f k t101 t102 t103 t104 t107 t110).bind fun bt122 => ((laws_equalImage.f k t114 t115 t116 t117 bt122.1 bt122.2.1 bt122.2.2.1 bt122.2.2.2.1).bind fun t130 => (if t130 = true then (if (t120 != bt122.2.2.2.2) = true then (laws_FnFillRegion.j0 k t107 t110 t120 bt122.2.2.2.2 true t101 t102 t103 t104 t114 t115 t116 t117 bt122.1 bt122.2.1 bt122.2.2.1 bt122.2.2.2.1) else (laws_FnFillRegion.j0 k t107 t110 t120 bt122.2.2.2.2 (!t120) t101 t102 t103 t104 t114 t115 t116 t117 bt122.1 bt122.2.1 bt122.2.2.1 bt122.2.2.2.1)) else (laws_FnFillRegion.j0 k t107 t110 t120 bt122.2.2.2.2 true t101 t102 t103 t104 t114 t115 t116 t117 bt122.1 bt122.2.1 bt122.2.2.1 bt122.2.2.2.1)))) = some r := H
 have A4 := Aside0.mk A40
 clear A40
 replace H := Option.bind_eq_some_iff.mp H
 obtain ⟨⟨t122, t123, t124, t125, t128⟩, A50, H⟩ := H
 replace H : ((laws_equalImage.f k t114 t115 t116 t117 t122 t123 t124 t125).bind fun t130 => (if t130 = true then (if (t120 != t128) = true then (laws_FnFillRegion.j0 k t107 t110 t120 t128 true t101 t102 t103 t104 t114 t115 t116 t117 t122 t123 t124 t125) else (laws_FnFillRegion.j0 k t107 t110 t120 t128 (!t120) t101 t102 t103 t104 t114 t115 t116 t117 t122 t123 t124 t125)) else (laws_FnFillRegion.j0 k t107 t110 t120 t128 true t101 t102 t103 t104 t114 t115 t116 t117 t122 t123 t124 t125))) = some r := H
 have A5 := Aside0.mk A50
 clear A50
 have HC6 := Aside0.mk H
 clear H
 go_enter Try.func7, Try.ntmps7
 go_upto_region 6 with (first | ((with_reducible refine gate_callee (f := 32) rfl ?_); refine goesL_ (some 18) rfl rfl Try.func32 (by kernel_rfl) rfl #[.slice A0 l0.length c0] rfl (by simp only [List.map_toArray, List.map_cons, List.map_nil]; rfl) ?_; (with_reducible refine (spec_DrawFillRegion.calls k _ _ l0 t101 t102 t103 t104 t107 t110 _ ?side1 ?side2 A3.out).mono ?_); (case side1 => repeat (first | exact HR0.out | (with_reducible refine Kd.C_alloc ?_ _) | (with_reducible refine Kd.C_drewN ?_ _) | (with_reducible refine Kd.C_drew ?_))); (case side2 => exact HC0.out); rintro e w7 ⟨v105, v108, v111, rfl, ho0, ho1, ho2, hb⟩; refine ⟨_, rfl, ?_⟩; have HO106 := am_ (Kd.Q_lower ho0 (below_size (by repeat (first | (with_reducible first | exact HB.out | apply below_alloc | apply pw_below_drewN | apply below_drew1) | exact HB.out)))); have HO109 := am_ (Kd.R_lower ho1 (below_size (by repeat (first | (with_reducible first | exact HB.out | apply below_alloc | apply pw_below_drewN | apply below_drew1) | exact HB.out)))); have HO112 := am_ (Kd.Q_lower ho2 (below_size (by repeat (first | (with_reducible first | exact HB.out | apply below_alloc | apply pw_below_drewN | apply below_drew1) | exact HB.out)))); replace HB := am_ (below_step (by repeat (first | (with_reducible first | exact HB.out | apply below_alloc | apply pw_below_drewN | apply below_drew1) | exact HB.out)) hb); (try clear hb); (try clear hb2); (try clear hk); (try clear hi); (try clear ho0); (try clear ho1); (try clear ho2)) | ((with_reducible refine gate_dst (N := 3) rfl ?_); refine box_event ?hg (N := 3) ?hd (cs := #[.int .i64 0, .int .i64 0, .int .i64 0, .slice none 0 0]) (t := 25) ?hr ?_; (case hd => rfl); (case hg => rfl); (case hr => first | (go_simp; done) | (go_simp; rfl)); intro gb113 hg w8 hbox hb; replace HO106 := am_ (Kd.Q_below (by exact HO106.out) hb); replace HO109 := am_ (Kd.R_below (by exact HO109.out) hb); replace HO112 := am_ (Kd.Q_below (by exact HO112.out) hb); have BK113 := am_ (hbox); have GW113 := am_ ((by rw [hg]; exact (below_size (by repeat (first | (with_reducible first | exact HB.out | apply below_alloc | apply pw_below_drewN | apply below_drew1) | exact HB.out))) : w.heap.size ≤ gb113)); have GE113 := GW113; replace HB := am_ (below_step (by repeat (first | (with_reducible first | exact HB.out | apply below_alloc | apply pw_below_drewN | apply below_drew1) | exact HB.out)) hb); clear hb hbox hg; obtain ⟨hcz9_0, hcz9_1, hcz9_2, hcz9_3, hfz9_0, hfz9_1, hfz9_2, hfz9_3⟩ := blk4_ BK113.out; obtain ⟨Ao10, co10, eo10, _⟩ := Kd.Q_slice HO106.out; subst eo10; obtain ⟨Ao11, co11, eo11⟩ := Kd.R_slice HO109.out; subst eo11; obtain ⟨Ao12, co12, eo12, _⟩ := Kd.Q_slice HO112.out; subst eo12) | ((with_reducible refine gate_callee (f := 29) rfl ?_); refine goesL_ (some 26) rfl rfl Try.func29 (by kernel_rfl) rfl #[.agg #[.int .i64 t101, .int .i64 t102, .int .i64 t103, .slice Ao10 t104.length co10], .slice Ao11 t107.length co11, .slice Ao12 t110.length co12] rfl (by simp only [List.map_toArray, List.map_cons, List.map_nil]; rfl) ?_; (with_reducible refine (impl_FillRegion.calls t101 t102 t103 _ _ t104 _ _ t107 _ _ t110 t114 t115 t116 t117 t120 _ ?side1 ?side2 ?side3 ?side4 ?side5 ?side6 A4.out).mono ?_); (case side1 => refine (Kd.Q_reads' (e := 3) (base := w.heap.size) (ok := fun k_ => some k_ ≠ (.slice Ao12 t110.length co12 : Value).ownBlock) (n := t104.length) (c := co10) ?_).2.2; exact (by exact (Q4_ HO106.out BK113.out (by decide) _ _ _ _))); (case side2 => exact (Kd.Q_reads' HO106.out).2.1); (case side3 => refine (Kd.R_reads' (e := 96) (base := w.heap.size) (ok := fun k_ => True) (n := t107.length) (c := co11) ?_).2.2; exact (by exact (R4_ HO109.out BK113.out (by decide) _ _ _ _))); (case side4 => exact (Kd.R_reads' HO109.out).2.1); (case side5 => refine (Kd.Q_reads' (e := 3) (base := w.heap.size) (ok := fun k_ => some k_ ≠ (.slice Ao10 t104.length co10 : Value).ownBlock) (n := t110.length) (c := co12) ?_).2.2; exact (by exact (Q4_ HO112.out BK113.out (by decide) _ _ _ _))); (case side6 => exact (Kd.Q_reads' HO112.out).2.1); rintro e w13 ⟨v118, rfl, ho0, hb⟩; refine ⟨_, rfl, ?_⟩; replace HO109 := am_ (Kd.R_below (by exact (R4_ HO109.out BK113.out (by decide) _ _ _ _)) hb); have HO119 := am_ (Kd.R_lower (Kd.R_new' (Kd.R_new' ho0 (Kd.Q_lt (by exact (Q4_ HO106.out BK113.out (by decide) _ _ _ _)))) (Kd.Q_lt (by exact (Q4_ HO112.out BK113.out (by decide) _ _ _ _)))) (below_size (by repeat (first | (with_reducible first | exact HB.out | apply below_alloc | apply pw_below_drewN | apply below_drew1 | refine below_set ?_ GE113.out) | exact HB.out)))); replace HO106 := am_ (Kd.Q_elder' (by exact (Q4_ HO106.out BK113.out (by decide) _ _ _ _)) (Kd.R_base ho0) hb); replace HO112 := am_ (Kd.Q_elder' (by exact (Q4_ HO112.out BK113.out (by decide) _ _ _ _)) (Kd.R_base ho0) hb); replace BK113 := am_ (blk_below (by exact put4_ BK113.out _ _ _ _) hb); replace HB := am_ (below_step (by repeat (first | (with_reducible first | exact HB.out | apply below_alloc | apply pw_below_drewN | apply below_drew1 | refine below_set ?_ GE113.out) | exact HB.out)) hb); (try clear hb); (try clear hb2); (try clear hk); (try clear hi); (try clear ho0)) | ((with_reducible refine gate_dst (N := 6) rfl ?_); refine box_event ?hg (N := 6) ?hd (cs := #[.int .i64 0, .int .i64 0, .int .i64 0, .slice none 0 0]) (t := 25) ?hr ?_; (case hd => rfl); (case hg => rfl); (case hr => first | (go_simp; done) | (go_simp; rfl)); intro gb121 hg w14 hbox hb; replace HO106 := am_ (Kd.Q_below (by exact HO106.out) hb); replace HO109 := am_ (Kd.R_below (by exact HO109.out) hb); replace HO112 := am_ (Kd.Q_below (by exact HO112.out) hb); replace HO119 := am_ (Kd.R_below (by exact HO119.out) hb); have BK121 := am_ (hbox); have GW121 := am_ ((by rw [hg]; exact (below_size (by repeat (first | (with_reducible first | exact HB.out | apply below_alloc | apply pw_below_drewN | apply below_drew1 | refine below_set ?_ GE113.out) | exact HB.out))) : w.heap.size ≤ gb121)); have GE121 := GW121; replace HB := am_ (below_step (by repeat (first | (with_reducible first | exact HB.out | apply below_alloc | apply pw_below_drewN | apply below_drew1 | refine below_set ?_ GE113.out) | exact HB.out)) hb); have NB113_121 := am_ ((by rw [hg]; exact Nat.ne_of_lt (blk_lt (by exact BK113.out)) : gb113 ≠ gb121)); have NB121_113 := am_ ((by rw [hg]; exact Nat.ne_of_gt (blk_lt (by exact BK113.out)) : gb121 ≠ gb113)); replace BK113 := am_ (blk_below (by exact BK113.out) hb); clear hb hbox hg; have hnb15 := NB121_113.out; have hnc15 := NB113_121.out; obtain ⟨hcz16_0, hcz16_1, hcz16_2, hcz16_3, hfz16_0, hfz16_1, hfz16_2, hfz16_3⟩ := blk4_ BK121.out; obtain ⟨Ao17, co17, eo17⟩ := Kd.R_slice HO119.out; subst eo17; obtain ⟨hcz18_0, hcz18_1, hcz18_2, hcz18_3, hfz18_0, hfz18_1, hfz18_2, hfz18_3⟩ := blk4_ BK113.out) | ((with_reducible refine gate_callee (f := 27) rfl ?_); refine goesL_ (some 33) rfl rfl Try.func27 (by kernel_rfl) rfl #[.agg #[.int .i64 t101, .int .i64 t102, .int .i64 t103, .slice Ao10 t104.length co10], .slice Ao11 t107.length co11, .slice Ao12 t110.length co12] rfl (by simp only [List.map_toArray, List.map_cons, List.map_nil]; rfl) ?_; (with_reducible refine (spec_FillRegion.calls k t101 t102 t103 _ _ t104 _ _ t107 _ _ t110 t122 t123 t124 t125 t128 _ ?side1 ?side2 ?side3 ?side4 ?side5 ?side6 A5.out).mono ?_); (case side1 => refine (Kd.Q_reads' (e := 3) (base := w.heap.size) (ok := fun k_ => (some k_ ≠ (.slice Ao12 t110.length co12 : Value).ownBlock ∧ some k_ ≠ (.slice Ao17 t117.length co17 : Value).ownBlock)) (n := t104.length) (c := co10) ?_).2.2; exact (by exact (Q4_ HO106.out BK121.out (by decide) _ _ _ _))); (case side2 => exact (Kd.Q_reads' HO106.out).2.1); (case side3 => refine (Kd.R_reads' (e := 96) (base := w.heap.size) (ok := fun k_ => True) (n := t107.length) (c := co11) ?_).2.2; exact (by exact (R4_ HO109.out BK121.out (by decide) _ _ _ _))); (case side4 => exact (Kd.R_reads' HO109.out).2.1); (case side5 => refine (Kd.Q_reads' (e := 3) (base := w.heap.size) (ok := fun k_ => (some k_ ≠ (.slice Ao10 t104.length co10 : Value).ownBlock ∧ some k_ ≠ (.slice Ao17 t117.length co17 : Value).ownBlock)) (n := t110.length) (c := co12) ?_).2.2; exact (by exact (Q4_ HO112.out BK121.out (by decide) _ _ _ _))); (case side6 => exact (Kd.Q_reads' HO112.out).2.1); rintro e w19 ⟨v126, rfl, ho0, hb⟩; refine ⟨_, rfl, ?_⟩; replace HO109 := am_ (Kd.R_below (by exact (R4_ HO109.out BK121.out (by decide) _ _ _ _)) hb); have HO127 := am_ (Kd.R_lower (Kd.R_new' (Kd.R_new' (Kd.R_new' ho0 (Kd.Q_lt (by exact (Q4_ HO106.out BK121.out (by decide) _ _ _ _)))) (Kd.Q_lt (by exact (Q4_ HO112.out BK121.out (by decide) _ _ _ _)))) (Kd.R_lt (by exact (R4_ HO119.out BK121.out (by decide) _ _ _ _)))) (below_size (by repeat (first | (with_reducible first | exact HB.out | apply below_alloc | apply pw_below_drewN | apply below_drew1 | refine below_set ?_ GE113.out | refine below_set ?_ GE121.out) | exact HB.out)))); replace HO106 := am_ (Kd.Q_elder' (by exact (Q4_ HO106.out BK121.out (by decide) _ _ _ _)) (Kd.R_base ho0) hb); replace HO112 := am_ (Kd.Q_elder' (by exact (Q4_ HO112.out BK121.out (by decide) _ _ _ _)) (Kd.R_base ho0) hb); replace HO119 := am_ (Kd.R_elder' (by exact (R4_ HO119.out BK121.out (by decide) _ _ _ _)) (Kd.R_base ho0) hb); replace BK113 := am_ (blk_below (by exact far4_ BK113.out NB113_121.out _ _ _ _) hb); replace BK121 := am_ (blk_below (by exact put4_ BK121.out _ _ _ _) hb); replace HB := am_ (below_step (by repeat (first | (with_reducible first | exact HB.out | apply below_alloc | apply pw_below_drewN | apply below_drew1 | refine below_set ?_ GE113.out | refine below_set ?_ GE121.out) | exact HB.out)) hb); (try clear hb); (try clear hb2); (try clear hk); (try clear hi); (try clear ho0)) | ((with_reducible refine gate_dst (N := 8) rfl ?_); refine box_event ?hg (N := 8) ?hd (cs := #[.int .i64 0, .int .i64 0, .int .i64 0, .slice none 0 0]) (t := 25) ?hr ?_; (case hd => rfl); (case hg => rfl); (case hr => first | (go_simp; done) | (go_simp; rfl)); intro gb129 hg w20 hbox hb; replace HO106 := am_ (Kd.Q_below (by exact HO106.out) hb); replace HO109 := am_ (Kd.R_below (by exact HO109.out) hb); replace HO112 := am_ (Kd.Q_below (by exact HO112.out) hb); replace HO119 := am_ (Kd.R_below (by exact HO119.out) hb); replace HO127 := am_ (Kd.R_below (by exact HO127.out) hb); have BK129 := am_ (hbox); have GW129 := am_ ((by rw [hg]; exact (below_size (by repeat (first | (with_reducible first | exact HB.out | apply below_alloc | apply pw_below_drewN | apply below_drew1 | refine below_set ?_ GE113.out | refine below_set ?_ GE121.out) | exact HB.out))) : w.heap.size ≤ gb129)); have GE129 := GW129; replace HB := am_ (below_step (by repeat (first | (with_reducible first | exact HB.out | apply below_alloc | apply pw_below_drewN | apply below_drew1 | refine below_set ?_ GE113.out | refine below_set ?_ GE121.out) | exact HB.out)) hb); have NB113_129 := am_ ((by rw [hg]; exact Nat.ne_of_lt (blk_lt (by exact BK113.out)) : gb113 ≠ gb129)); have NB129_113 := am_ ((by rw [hg]; exact Nat.ne_of_gt (blk_lt (by exact BK113.out)) : gb129 ≠ gb113)); replace BK113 := am_ (blk_below (by exact BK113.out) hb); have NB121_129 := am_ ((by rw [hg]; exact Nat.ne_of_lt (blk_lt (by exact BK121.out)) : gb121 ≠ gb129)); have NB129_121 := am_ ((by rw [hg]; exact Nat.ne_of_gt (blk_lt (by exact BK121.out)) : gb129 ≠ gb121)); replace BK121 := am_ (blk_below (by exact BK121.out) hb); clear hb hbox hg; have hnb21 := NB129_113.out; have hnc21 := NB113_129.out; have hnb22 := NB129_121.out; have hnc22 := NB121_129.out; obtain ⟨hcz23_0, hcz23_1, hcz23_2, hcz23_3, hfz23_0, hfz23_1, hfz23_2, hfz23_3⟩ := blk4_ BK129.out; obtain ⟨Ao24, co24, eo24⟩ := Kd.R_slice HO127.out; subst eo24))
 (try simp only [Act.put, List.setIfInBounds_toArray, List.set_cons_zero, List.set_cons_succ])
 go_cut [48] (fun v48 wc => ∃ (kq : Nat) (x48_5 : Bool), v48 = .bool x48_5 ∧ Aside0 (laws_FnFillRegion.j0 kq t107 t110 t120 t128 x48_5 t101 t102 t103 t104 t114 t115 t116 t117 t122 t123 t124 t125 = some r) ∧ Aside0 (kq ≤ k) ∧ Aside0 (Kd.R k96 96 wc w.heap.size (fun _ => True) (.slice Ao11 t107.length co11) t107) ∧ Aside0 (Kd.Q (Kd.int .i64) 3 wc w.heap.size (fun k_ => some k_ ≠ ((.slice Ao10 t104.length co10) : Value).ownBlock ∧ some k_ ≠ ((.slice Ao17 t117.length co17) : Value).ownBlock ∧ some k_ ≠ ((.slice Ao24 t125.length co24) : Value).ownBlock) (.slice Ao12 t110.length co12) t110) ∧ Aside0 (Kd.Q (Kd.int .i64) 3 wc w.heap.size (fun k_ => some k_ ≠ ((.slice Ao12 t110.length co12) : Value).ownBlock ∧ some k_ ≠ ((.slice Ao17 t117.length co17) : Value).ownBlock ∧ some k_ ≠ ((.slice Ao24 t125.length co24) : Value).ownBlock) (.slice Ao10 t104.length co10) t104) ∧ Aside0 (Kd.Q (Kd.int .i64) 3 wc w.heap.size (fun k_ => some k_ ≠ ((.slice Ao12 t110.length co12) : Value).ownBlock ∧ some k_ ≠ ((.slice Ao10 t104.length co10) : Value).ownBlock ∧ some k_ ≠ ((.slice Ao24 t125.length co24) : Value).ownBlock) (.slice Ao17 t117.length co17) t117) ∧ Aside0 (Kd.Q (Kd.int .i64) 3 wc w.heap.size (fun k_ => some k_ ≠ ((.slice Ao12 t110.length co12) : Value).ownBlock ∧ some k_ ≠ ((.slice Ao10 t104.length co10) : Value).ownBlock ∧ some k_ ≠ ((.slice Ao17 t117.length co17) : Value).ownBlock) (.slice Ao24 t125.length co24) t125) ∧ Aside0 (wc.heap[gb113]? = some (.cells #[.int .i64 t101, .int .i64 t102, .int .i64 t103, (.slice Ao10 t104.length co10)] 25 (0, 0))) ∧ Aside0 (wc.heap[gb121]? = some (.cells #[.int .i64 t114, .int .i64 t115, .int .i64 t116, (.slice Ao17 t117.length co17)] 25 (0, 0))) ∧ Aside0 (wc.heap[gb129]? = some (.cells #[.int .i64 t122, .int .i64 t123, .int .i64 t124, (.slice Ao24 t125.length co24)] 25 (0, 0))) ∧ Aside0 (Below w.heap.size w wc))
 case first =>
  have H := HC6.out
  clear HC6
  replace H := Option.bind_eq_some_iff.mp H
  obtain ⟨t130, A250, H⟩ := H
  replace H : (if t130 = true then (if (t120 != t128) = true then (laws_FnFillRegion.j0 k t107 t110 t120 t128 true t101 t102 t103 t104 t114 t115 t116 t117 t122 t123 t124 t125) else (laws_FnFillRegion.j0 k t107 t110 t120 t128 (!t120) t101 t102 t103 t104 t114 t115 t116 t117 t122 t123 t124 t125)) else (laws_FnFillRegion.j0 k t107 t110 t120 t128 true t101 t102 t103 t104 t114 t115 t116 t117 t122 t123 t124 t125)) = some r := H
  have A25 := Aside0.mk A250
  clear A250
  by_cases c26 : t130 = true
  rotate_left
  ·
   replace c26 := Bool.eq_false_iff.mpr c26
   subst c26
   have H1 : (laws_FnFillRegion.j0 k t107 t110 t120 t128 true t101 t102 t103 t104 t114 t115 t116 t117 t122 t123 t124 t125) = some r := by rw [if_neg (show ¬ (false = true) by decide)] at H; exact H
   clear H
   have H := H1
   clear H1
   have H' := Aside0.mk H
   clear H
   have hnb40 := NB121_113.out
   have hnc40 := NB113_121.out
   have hnb41 := NB121_129.out
   have hnc41 := NB129_121.out
   obtain ⟨hcz42_0, hcz42_1, hcz42_2, hcz42_3, hfz42_0, hfz42_1, hfz42_2, hfz42_3⟩ := blk4_ BK121.out
   have hnb43 := NB129_113.out
   have hnc43 := NB113_129.out
   obtain ⟨hcz44_0, hcz44_1, hcz44_2, hcz44_3, hfz44_0, hfz44_1, hfz44_2, hfz44_3⟩ := blk4_ BK129.out
   go_wp2_with (first | ((with_reducible refine gate_callee (f := 15) rfl ?_); refine goesL_ (some 38) rfl rfl Try.func15 (by kernel_rfl) rfl #[.agg #[.int .i64 t114, .int .i64 t115, .int .i64 t116, .slice Ao17 t117.length co17], .agg #[.int .i64 t122, .int .i64 t123, .int .i64 t124, .slice Ao24 t125.length co24]] rfl (by simp only [List.map_toArray, List.map_cons, List.map_nil]; rfl) ?_; (with_reducible refine (laws_equalImage.calls k t114 t115 t116 _ _ t117 t122 t123 t124 _ _ t125 false _ ?side1 ?side2 ?side3 ?side4 A25.out).mono ?_); (case side1 => refine (Kd.R_reads' (e := 3) (base := w.heap.size) (ok := fun k_ => (((True ∧ some k_ ≠ (.slice Ao10 t104.length co10 : Value).ownBlock) ∧ some k_ ≠ (.slice Ao12 t110.length co12 : Value).ownBlock) ∧ some k_ ≠ (.slice Ao24 t125.length co24 : Value).ownBlock)) (n := t117.length) (c := co17) ?_).2.2; exact (by exact (R4_ HO119.out BK129.out (by decide) _ _ _ _))); (case side2 => exact (Kd.R_reads' HO119.out).2.1); (case side3 => refine (Kd.R_reads' (e := 3) (base := w.heap.size) (ok := fun k_ => (((True ∧ some k_ ≠ (.slice Ao10 t104.length co10 : Value).ownBlock) ∧ some k_ ≠ (.slice Ao12 t110.length co12 : Value).ownBlock) ∧ some k_ ≠ (.slice Ao17 t117.length co17 : Value).ownBlock)) (n := t125.length) (c := co24) ?_).2.2; exact (by exact (R4_ HO127.out BK129.out (by decide) _ _ _ _))); (case side4 => exact (Kd.R_reads' HO127.out).2.1); rintro e w45 ⟨rfl, hb⟩; refine ⟨_, rfl, ?_⟩; replace HO106 := am_ (Kd.Q_below (by exact (Q4_ HO106.out BK129.out (by decide) _ _ _ _)) hb); replace HO109 := am_ (Kd.R_below (by exact (R4_ HO109.out BK129.out (by decide) _ _ _ _)) hb); replace HO112 := am_ (Kd.Q_below (by exact (Q4_ HO112.out BK129.out (by decide) _ _ _ _)) hb); replace HO119 := am_ (Kd.R_below (by exact (R4_ HO119.out BK129.out (by decide) _ _ _ _)) hb); replace HO127 := am_ (Kd.R_below (by exact (R4_ HO127.out BK129.out (by decide) _ _ _ _)) hb); replace BK113 := am_ (blk_below (by exact far4_ BK113.out NB113_129.out _ _ _ _) hb); replace BK121 := am_ (blk_below (by exact far4_ BK121.out NB121_129.out _ _ _ _) hb); replace BK129 := am_ (blk_below (by exact put4_ BK129.out _ _ _ _) hb); replace HB := am_ (below_step (by repeat (first | (with_reducible first | exact HB.out | apply below_alloc | apply pw_below_drewN | apply below_drew1 | refine below_set ?_ GE113.out | refine below_set ?_ GE121.out | refine below_set ?_ GE129.out) | exact HB.out)) hb); (try clear hb); (try clear hb2); (try clear hk); (try clear hi)))
   go_meet
   case rel => exact ⟨_, (true), (by first | rfl | (simp; done) | (simp [*]; done)), H', ⟨by first | omega | exact Nat.le_refl _⟩, ⟨by exact HO109.out⟩, ⟨by exact Kd.Q_mono HO112.out (fun _ hk => by first | exact ⟨hk.1.1, ⟨hk.1.2, hk.2⟩⟩ | simp only [hk, ne_eq, not_false_eq_true, and_self])⟩, ⟨by exact Kd.Q_mono HO106.out (fun _ hk => by first | exact ⟨hk.1.1, ⟨hk.1.2, hk.2⟩⟩ | simp only [hk, ne_eq, not_false_eq_true, and_self])⟩, ⟨Kd.Q_of_R (by exact Kd.R_mono HO119.out (fun _ hk => by first | exact ⟨hk.1.2, ⟨hk.1.1.2, hk.2⟩⟩ | simp only [hk, ne_eq, not_false_eq_true, and_self]))⟩, ⟨Kd.Q_of_R (by exact Kd.R_mono HO127.out (fun _ hk => by first | exact ⟨hk.1.2, ⟨hk.1.1.2, hk.2⟩⟩ | simp only [hk, ne_eq, not_false_eq_true, and_self]))⟩, ⟨by exact BK113.out⟩, ⟨by exact BK121.out⟩, ⟨by exact BK129.out⟩, ⟨by repeat (first | (with_reducible first | exact HB.out | apply below_alloc | apply pw_below_drewN | apply below_drew1 | refine below_set ?_ GE113.out | refine below_set ?_ GE121.out | refine below_set ?_ GE129.out) | exact HB.out)⟩⟩
  subst c26
  have H1 : (if (t120 != t128) = true then (laws_FnFillRegion.j0 k t107 t110 t120 t128 true t101 t102 t103 t104 t114 t115 t116 t117 t122 t123 t124 t125) else (laws_FnFillRegion.j0 k t107 t110 t120 t128 (!t120) t101 t102 t103 t104 t114 t115 t116 t117 t122 t123 t124 t125)) = some r := by rw [if_pos rfl] at H; exact H
  clear H
  have H := H1
  clear H1
  by_cases c27 : (t120 != t128) = true
  ·
   rw [if_pos c27] at H
   have c27b0 : (t120 != t128) = true := c27
   (try (have c27b1 : decide (t120 = t128) = false := by simpa using c27))
   (try (have c27b2 : (t120 == t128) = false := by simpa using c27))
   (try (have c27b3 : ¬ (t120 = t128) := by simpa using c27))
   clear c27
   (first | rw [c27b0] | (simp only [i64_w, i32_w]; rw [c27b0]) | skip)
   have H' := Aside0.mk H
   clear H
   have hnb28 := NB121_113.out
   have hnc28 := NB113_121.out
   have hnb29 := NB121_129.out
   have hnc29 := NB129_121.out
   obtain ⟨hcz30_0, hcz30_1, hcz30_2, hcz30_3, hfz30_0, hfz30_1, hfz30_2, hfz30_3⟩ := blk4_ BK121.out
   have hnb31 := NB129_113.out
   have hnc31 := NB113_129.out
   obtain ⟨hcz32_0, hcz32_1, hcz32_2, hcz32_3, hfz32_0, hfz32_1, hfz32_2, hfz32_3⟩ := blk4_ BK129.out
   go_wp2_with (first | ((with_reducible refine gate_callee (f := 15) rfl ?_); refine goesL_ (some 38) rfl rfl Try.func15 (by kernel_rfl) rfl #[.agg #[.int .i64 t114, .int .i64 t115, .int .i64 t116, .slice Ao17 t117.length co17], .agg #[.int .i64 t122, .int .i64 t123, .int .i64 t124, .slice Ao24 t125.length co24]] rfl (by simp only [List.map_toArray, List.map_cons, List.map_nil]; rfl) ?_; (with_reducible refine (laws_equalImage.calls k t114 t115 t116 _ _ t117 t122 t123 t124 _ _ t125 true _ ?side1 ?side2 ?side3 ?side4 A25.out).mono ?_); (case side1 => refine (Kd.R_reads' (e := 3) (base := w.heap.size) (ok := fun k_ => (((True ∧ some k_ ≠ (.slice Ao10 t104.length co10 : Value).ownBlock) ∧ some k_ ≠ (.slice Ao12 t110.length co12 : Value).ownBlock) ∧ some k_ ≠ (.slice Ao24 t125.length co24 : Value).ownBlock)) (n := t117.length) (c := co17) ?_).2.2; exact (by exact (R4_ HO119.out BK129.out (by decide) _ _ _ _))); (case side2 => exact (Kd.R_reads' HO119.out).2.1); (case side3 => refine (Kd.R_reads' (e := 3) (base := w.heap.size) (ok := fun k_ => (((True ∧ some k_ ≠ (.slice Ao10 t104.length co10 : Value).ownBlock) ∧ some k_ ≠ (.slice Ao12 t110.length co12 : Value).ownBlock) ∧ some k_ ≠ (.slice Ao17 t117.length co17 : Value).ownBlock)) (n := t125.length) (c := co24) ?_).2.2; exact (by exact (R4_ HO127.out BK129.out (by decide) _ _ _ _))); (case side4 => exact (Kd.R_reads' HO127.out).2.1); rintro e w33 ⟨rfl, hb⟩; refine ⟨_, rfl, ?_⟩; replace HO106 := am_ (Kd.Q_below (by exact (Q4_ HO106.out BK129.out (by decide) _ _ _ _)) hb); replace HO109 := am_ (Kd.R_below (by exact (R4_ HO109.out BK129.out (by decide) _ _ _ _)) hb); replace HO112 := am_ (Kd.Q_below (by exact (Q4_ HO112.out BK129.out (by decide) _ _ _ _)) hb); replace HO119 := am_ (Kd.R_below (by exact (R4_ HO119.out BK129.out (by decide) _ _ _ _)) hb); replace HO127 := am_ (Kd.R_below (by exact (R4_ HO127.out BK129.out (by decide) _ _ _ _)) hb); replace BK113 := am_ (blk_below (by exact far4_ BK113.out NB113_129.out _ _ _ _) hb); replace BK121 := am_ (blk_below (by exact far4_ BK121.out NB121_129.out _ _ _ _) hb); replace BK129 := am_ (blk_below (by exact put4_ BK129.out _ _ _ _) hb); replace HB := am_ (below_step (by repeat (first | (with_reducible first | exact HB.out | apply below_alloc | apply pw_below_drewN | apply below_drew1 | refine below_set ?_ GE113.out | refine below_set ?_ GE121.out | refine below_set ?_ GE129.out) | exact HB.out)) hb); (try clear hb); (try clear hb2); (try clear hk); (try clear hi)))
   go_meet
   case rel => exact ⟨_, (true), (by first | rfl | (simp; done) | (simp [*]; done)), H', ⟨by first | omega | exact Nat.le_refl _⟩, ⟨by exact HO109.out⟩, ⟨by exact Kd.Q_mono HO112.out (fun _ hk => by first | exact ⟨hk.1.1, ⟨hk.1.2, hk.2⟩⟩ | simp only [hk, ne_eq, not_false_eq_true, and_self])⟩, ⟨by exact Kd.Q_mono HO106.out (fun _ hk => by first | exact ⟨hk.1.1, ⟨hk.1.2, hk.2⟩⟩ | simp only [hk, ne_eq, not_false_eq_true, and_self])⟩, ⟨Kd.Q_of_R (by exact Kd.R_mono HO119.out (fun _ hk => by first | exact ⟨hk.1.2, ⟨hk.1.1.2, hk.2⟩⟩ | simp only [hk, ne_eq, not_false_eq_true, and_self]))⟩, ⟨Kd.Q_of_R (by exact Kd.R_mono HO127.out (fun _ hk => by first | exact ⟨hk.1.2, ⟨hk.1.1.2, hk.2⟩⟩ | simp only [hk, ne_eq, not_false_eq_true, and_self]))⟩, ⟨by exact BK113.out⟩, ⟨by exact BK121.out⟩, ⟨by exact BK129.out⟩, ⟨by repeat (first | (with_reducible first | exact HB.out | apply below_alloc | apply pw_below_drewN | apply below_drew1 | refine below_set ?_ GE113.out | refine below_set ?_ GE121.out | refine below_set ?_ GE129.out) | exact HB.out)⟩⟩
  rw [if_neg c27] at H
  have c27b0 : (t120 != t128) = false := by simpa using c27
  (try (have c27b1 : decide (t120 = t128) = true := by simpa using c27))
  (try (have c27b2 : (t120 == t128) = true := by simpa using c27))
  clear c27
  (first | rw [c27b0] | (simp only [i64_w, i32_w]; rw [c27b0]) | skip)
  have H' := Aside0.mk H
  clear H
  have hnb34 := NB121_113.out
  have hnc34 := NB113_121.out
  have hnb35 := NB121_129.out
  have hnc35 := NB129_121.out
  obtain ⟨hcz36_0, hcz36_1, hcz36_2, hcz36_3, hfz36_0, hfz36_1, hfz36_2, hfz36_3⟩ := blk4_ BK121.out
  have hnb37 := NB129_113.out
  have hnc37 := NB113_129.out
  obtain ⟨hcz38_0, hcz38_1, hcz38_2, hcz38_3, hfz38_0, hfz38_1, hfz38_2, hfz38_3⟩ := blk4_ BK129.out
  go_wp2_with (first | ((with_reducible refine gate_callee (f := 15) rfl ?_); refine goesL_ (some 38) rfl rfl Try.func15 (by kernel_rfl) rfl #[.agg #[.int .i64 t114, .int .i64 t115, .int .i64 t116, .slice Ao17 t117.length co17], .agg #[.int .i64 t122, .int .i64 t123, .int .i64 t124, .slice Ao24 t125.length co24]] rfl (by simp only [List.map_toArray, List.map_cons, List.map_nil]; rfl) ?_; (with_reducible refine (laws_equalImage.calls k t114 t115 t116 _ _ t117 t122 t123 t124 _ _ t125 true _ ?side1 ?side2 ?side3 ?side4 A25.out).mono ?_); (case side1 => refine (Kd.R_reads' (e := 3) (base := w.heap.size) (ok := fun k_ => (((True ∧ some k_ ≠ (.slice Ao10 t104.length co10 : Value).ownBlock) ∧ some k_ ≠ (.slice Ao12 t110.length co12 : Value).ownBlock) ∧ some k_ ≠ (.slice Ao24 t125.length co24 : Value).ownBlock)) (n := t117.length) (c := co17) ?_).2.2; exact (by exact (R4_ HO119.out BK129.out (by decide) _ _ _ _))); (case side2 => exact (Kd.R_reads' HO119.out).2.1); (case side3 => refine (Kd.R_reads' (e := 3) (base := w.heap.size) (ok := fun k_ => (((True ∧ some k_ ≠ (.slice Ao10 t104.length co10 : Value).ownBlock) ∧ some k_ ≠ (.slice Ao12 t110.length co12 : Value).ownBlock) ∧ some k_ ≠ (.slice Ao17 t117.length co17 : Value).ownBlock)) (n := t125.length) (c := co24) ?_).2.2; exact (by exact (R4_ HO127.out BK129.out (by decide) _ _ _ _))); (case side4 => exact (Kd.R_reads' HO127.out).2.1); rintro e w39 ⟨rfl, hb⟩; refine ⟨_, rfl, ?_⟩; replace HO106 := am_ (Kd.Q_below (by exact (Q4_ HO106.out BK129.out (by decide) _ _ _ _)) hb); replace HO109 := am_ (Kd.R_below (by exact (R4_ HO109.out BK129.out (by decide) _ _ _ _)) hb); replace HO112 := am_ (Kd.Q_below (by exact (Q4_ HO112.out BK129.out (by decide) _ _ _ _)) hb); replace HO119 := am_ (Kd.R_below (by exact (R4_ HO119.out BK129.out (by decide) _ _ _ _)) hb); replace HO127 := am_ (Kd.R_below (by exact (R4_ HO127.out BK129.out (by decide) _ _ _ _)) hb); replace BK113 := am_ (blk_below (by exact far4_ BK113.out NB113_129.out _ _ _ _) hb); replace BK121 := am_ (blk_below (by exact far4_ BK121.out NB121_129.out _ _ _ _) hb); replace BK129 := am_ (blk_below (by exact put4_ BK129.out _ _ _ _) hb); replace HB := am_ (below_step (by repeat (first | (with_reducible first | exact HB.out | apply below_alloc | apply pw_below_drewN | apply below_drew1 | refine below_set ?_ GE113.out | refine below_set ?_ GE121.out | refine below_set ?_ GE129.out) | exact HB.out)) hb); (try clear hb); (try clear hb2); (try clear hk); (try clear hi)))
  go_meet
  case rel => exact ⟨_, (!t120), (by first | rfl | (simp; done) | (simp [*]; done)), H', ⟨by first | omega | exact Nat.le_refl _⟩, ⟨by exact HO109.out⟩, ⟨by exact Kd.Q_mono HO112.out (fun _ hk => by first | exact ⟨hk.1.1, ⟨hk.1.2, hk.2⟩⟩ | simp only [hk, ne_eq, not_false_eq_true, and_self])⟩, ⟨by exact Kd.Q_mono HO106.out (fun _ hk => by first | exact ⟨hk.1.1, ⟨hk.1.2, hk.2⟩⟩ | simp only [hk, ne_eq, not_false_eq_true, and_self])⟩, ⟨Kd.Q_of_R (by exact Kd.R_mono HO119.out (fun _ hk => by first | exact ⟨hk.1.2, ⟨hk.1.1.2, hk.2⟩⟩ | simp only [hk, ne_eq, not_false_eq_true, and_self]))⟩, ⟨Kd.Q_of_R (by exact Kd.R_mono HO127.out (fun _ hk => by first | exact ⟨hk.1.2, ⟨hk.1.1.2, hk.2⟩⟩ | simp only [hk, ne_eq, not_false_eq_true, and_self]))⟩, ⟨by exact BK113.out⟩, ⟨by exact BK121.out⟩, ⟨by exact BK129.out⟩, ⟨by repeat (first | (with_reducible first | exact HB.out | apply below_alloc | apply pw_below_drewN | apply below_drew1 | refine below_set ?_ GE113.out | refine below_set ?_ GE121.out | refine below_set ?_ GE129.out) | exact HB.out)⟩⟩
 case rest =>
  clear HC6
  try clear c1
  try clear c2
  try clear c2b0
  try clear c2b1
  try clear p2
  try clear c3
  try clear c4
  try clear c7
  try clear c15
  try clear c21
  try clear c22
  try clear c26
  try clear c27
  try clear c27b0
  try clear c27b1
  try clear c27b2
  try clear c28
  try clear c29
  try clear c31
  try clear c32
  try clear c34
  try clear c35
  try clear c37
  try clear c40
  try clear c41
  try clear c43
  try clear hcz16_0
  try clear hcz16_1
  try clear hcz16_2
  try clear hcz16_3
  try clear hcz18_0
  try clear hcz18_1
  try clear hcz18_2
  try clear hcz18_3
  try clear hcz23_0
  try clear hcz23_1
  try clear hcz23_2
  try clear hcz23_3
  try clear hcz30_0
  try clear hcz30_1
  try clear hcz30_2
  try clear hcz30_3
  try clear hcz32_0
  try clear hcz32_1
  try clear hcz32_2
  try clear hcz32_3
  try clear hcz36_0
  try clear hcz36_1
  try clear hcz36_2
  try clear hcz36_3
  try clear hcz38_0
  try clear hcz38_1
  try clear hcz38_2
  try clear hcz38_3
  try clear hcz42_0
  try clear hcz42_1
  try clear hcz42_2
  try clear hcz42_3
  try clear hcz44_0
  try clear hcz44_1
  try clear hcz44_2
  try clear hcz44_3
  try clear hcz9_0
  try clear hcz9_1
  try clear hcz9_2
  try clear hcz9_3
  try clear hfz16_0
  try clear hfz16_1
  try clear hfz16_2
  try clear hfz16_3
  try clear hfz18_0
  try clear hfz18_1
  try clear hfz18_2
  try clear hfz18_3
  try clear hfz23_0
  try clear hfz23_1
  try clear hfz23_2
  try clear hfz23_3
  try clear hfz30_0
  try clear hfz30_1
  try clear hfz30_2
  try clear hfz30_3
  try clear hfz32_0
  try clear hfz32_1
  try clear hfz32_2
  try clear hfz32_3
  try clear hfz36_0
  try clear hfz36_1
  try clear hfz36_2
  try clear hfz36_3
  try clear hfz38_0
  try clear hfz38_1
  try clear hfz38_2
  try clear hfz38_3
  try clear hfz42_0
  try clear hfz42_1
  try clear hfz42_2
  try clear hfz42_3
  try clear hfz44_0
  try clear hfz44_1
  try clear hfz44_2
  try clear hfz44_3
  try clear hfz9_0
  try clear hfz9_1
  try clear hfz9_2
  try clear hfz9_3
  obtain ⟨kq, x48_5, rfl, HA, HJ5, HO_4, HO_5, HO_114003, HO_122003, HO_130003, BK113, BK121, BK129, HB⟩ := hcut
  cases kq with
  | zero => exact absurd HA.out (by simp [laws_FnFillRegion.j0])
  | succ kj5 =>
   have H := HA.out
   clear HA
   simp only [laws_FnFillRegion.j0] at H
   by_cases c46 : x48_5 = true
   ·
    subst c46
    have H1 : ((laws_equalImage.f kj5 t114 t115 t116 t117 t122 t123 t124 t125).bind fun t131 => (if t131 = true then (some (t120 == t128)) else (some false))) = some r := by rw [if_pos rfl] at H; exact H
    clear H
    have H := H1
    clear H1
    replace H := Option.bind_eq_some_iff.mp H
    obtain ⟨t131, A470, H⟩ := H
    replace H : (if t131 = true then (some (t120 == t128)) else (some false)) = some r := H
    have A47 := Aside0.mk A470
    clear A470
    by_cases c48 : t131 = true
    ·
     subst c48
     have H1 : (some (t120 == t128)) = some r := by rw [if_pos rfl] at H; exact H
     clear H
     have H := H1
     clear H1
     obtain rfl := Option.some.inj H
     have hnb49 := NB121_113.out
     have hnc49 := NB113_121.out
     have hnb50 := NB121_129.out
     have hnc50 := NB129_121.out
     obtain ⟨hcz51_0, hcz51_1, hcz51_2, hcz51_3, hfz51_0, hfz51_1, hfz51_2, hfz51_3⟩ := blk4_ BK121.out
     have hnb52 := NB129_113.out
     have hnc52 := NB113_129.out
     obtain ⟨hcz53_0, hcz53_1, hcz53_2, hcz53_3, hfz53_0, hfz53_1, hfz53_2, hfz53_3⟩ := blk4_ BK129.out
     go_wp2_with (first | ((with_reducible refine gate_callee (f := 15) rfl ?_); refine goesL_ (some 51) rfl rfl Try.func15 (by kernel_rfl) rfl #[.agg #[.int .i64 t114, .int .i64 t115, .int .i64 t116, .slice Ao17 t117.length co17], .agg #[.int .i64 t122, .int .i64 t123, .int .i64 t124, .slice Ao24 t125.length co24]] rfl (by simp only [List.map_toArray, List.map_cons, List.map_nil]; rfl) ?_; (with_reducible refine (laws_equalImage.calls kj5 t114 t115 t116 _ _ t117 t122 t123 t124 _ _ t125 true _ ?side1 ?side2 ?side3 ?side4 A47.out).mono ?_); (case side1 => repeat (first | exact (Kd.Q_reads' HO_122003.out).2.2 | (with_reducible refine Kd.C_alloc ?_ _) | (with_reducible refine Kd.C_drewN ?_ _) | (with_reducible refine Kd.C_drew ?_))); (case side2 => exact (Kd.Q_reads' HO_122003.out).2.1); (case side3 => repeat (first | exact (Kd.Q_reads' HO_130003.out).2.2 | (with_reducible refine Kd.C_alloc ?_ _) | (with_reducible refine Kd.C_drewN ?_ _) | (with_reducible refine Kd.C_drew ?_))); (case side4 => exact (Kd.Q_reads' HO_130003.out).2.1); rintro e w54 ⟨rfl, hb⟩; refine ⟨_, rfl, ?_⟩; replace HO_4 := am_ (Kd.R_below (by exact HO_4.out) hb); replace HO_5 := am_ (Kd.Q_below (by exact HO_5.out) hb); replace HO_114003 := am_ (Kd.Q_below (by exact HO_114003.out) hb); replace HO_122003 := am_ (Kd.Q_below (by exact HO_122003.out) hb); replace HO_130003 := am_ (Kd.Q_below (by exact HO_130003.out) hb); replace BK113 := am_ (blk_below (by exact BK113.out) hb); replace BK121 := am_ (blk_below (by exact BK121.out) hb); replace BK129 := am_ (blk_below (by exact BK129.out) hb); replace HB := am_ (below_step (by repeat (first | (with_reducible first | exact HB.out | apply below_alloc | apply pw_below_drewN | apply below_drew1 | refine below_set ?_ GE113.out | refine below_set ?_ GE121.out | refine below_set ?_ GE129.out) | exact HB.out)) hb); (try clear hb); (try clear hb2); (try clear hk); (try clear hi)))
     go_ret
     exact ⟨by first | rfl | (simp [errW_none, errW_some] <;> rfl) | (simp [*, errW_none, errW_some] <;> rfl), by repeat (first | (with_reducible first | exact HB.out | apply below_alloc | apply pw_below_drewN | apply below_drew1 | refine below_set ?_ GE113.out | refine below_set ?_ GE121.out | refine below_set ?_ GE129.out) | exact HB.out)⟩
    replace c48 := Bool.eq_false_iff.mpr c48
    subst c48
    have H1 : (some false) = some r := by rw [if_neg (show ¬ (false = true) by decide)] at H; exact H
    clear H
    have H := H1
    clear H1
    obtain rfl := Option.some.inj H
    have hnb55 := NB121_113.out
    have hnc55 := NB113_121.out
    have hnb56 := NB121_129.out
    have hnc56 := NB129_121.out
    obtain ⟨hcz57_0, hcz57_1, hcz57_2, hcz57_3, hfz57_0, hfz57_1, hfz57_2, hfz57_3⟩ := blk4_ BK121.out
    have hnb58 := NB129_113.out
    have hnc58 := NB113_129.out
    obtain ⟨hcz59_0, hcz59_1, hcz59_2, hcz59_3, hfz59_0, hfz59_1, hfz59_2, hfz59_3⟩ := blk4_ BK129.out
    go_wp2_with (first | ((with_reducible refine gate_callee (f := 15) rfl ?_); refine goesL_ (some 51) rfl rfl Try.func15 (by kernel_rfl) rfl #[.agg #[.int .i64 t114, .int .i64 t115, .int .i64 t116, .slice Ao17 t117.length co17], .agg #[.int .i64 t122, .int .i64 t123, .int .i64 t124, .slice Ao24 t125.length co24]] rfl (by simp only [List.map_toArray, List.map_cons, List.map_nil]; rfl) ?_; (with_reducible refine (laws_equalImage.calls kj5 t114 t115 t116 _ _ t117 t122 t123 t124 _ _ t125 false _ ?side1 ?side2 ?side3 ?side4 A47.out).mono ?_); (case side1 => repeat (first | exact (Kd.Q_reads' HO_122003.out).2.2 | (with_reducible refine Kd.C_alloc ?_ _) | (with_reducible refine Kd.C_drewN ?_ _) | (with_reducible refine Kd.C_drew ?_))); (case side2 => exact (Kd.Q_reads' HO_122003.out).2.1); (case side3 => repeat (first | exact (Kd.Q_reads' HO_130003.out).2.2 | (with_reducible refine Kd.C_alloc ?_ _) | (with_reducible refine Kd.C_drewN ?_ _) | (with_reducible refine Kd.C_drew ?_))); (case side4 => exact (Kd.Q_reads' HO_130003.out).2.1); rintro e w60 ⟨rfl, hb⟩; refine ⟨_, rfl, ?_⟩; replace HO_4 := am_ (Kd.R_below (by exact HO_4.out) hb); replace HO_5 := am_ (Kd.Q_below (by exact HO_5.out) hb); replace HO_114003 := am_ (Kd.Q_below (by exact HO_114003.out) hb); replace HO_122003 := am_ (Kd.Q_below (by exact HO_122003.out) hb); replace HO_130003 := am_ (Kd.Q_below (by exact HO_130003.out) hb); replace BK113 := am_ (blk_below (by exact BK113.out) hb); replace BK121 := am_ (blk_below (by exact BK121.out) hb); replace BK129 := am_ (blk_below (by exact BK129.out) hb); replace HB := am_ (below_step (by repeat (first | (with_reducible first | exact HB.out | apply below_alloc | apply pw_below_drewN | apply below_drew1 | refine below_set ?_ GE113.out | refine below_set ?_ GE121.out | refine below_set ?_ GE129.out) | exact HB.out)) hb); (try clear hb); (try clear hb2); (try clear hk); (try clear hi)))
    go_ret
    exact ⟨by first | rfl | (simp [errW_none, errW_some] <;> rfl) | (simp [*, errW_none, errW_some] <;> rfl), by repeat (first | (with_reducible first | exact HB.out | apply below_alloc | apply pw_below_drewN | apply below_drew1 | refine below_set ?_ GE113.out | refine below_set ?_ GE121.out | refine below_set ?_ GE129.out) | exact HB.out)⟩
   replace c46 := Bool.eq_false_iff.mpr c46
   subst c46
   have H1 : (laws_FnFillRegion.l0 kj5 t107 t110 0 t101 t102 t103 t104 t114 t115 t116 t117) = some r := by rw [if_neg (show ¬ (false = true) by decide)] at H; exact H
   clear H
   have H := H1
   clear H1
   have H' := Aside0.mk H
   clear H
   go_wp2
   go_loopg [10] kj5 (fun kq v10 w' => ∃ (x10_2 : Int), v10 = .int .i64 x10_2 ∧ Aside0 (laws_FnFillRegion.l0 kq t107 t110 x10_2 t101 t102 t103 t104 t114 t115 t116 t117 = some r) ∧ Aside0 (kq ≤ kj5) ∧ Aside0 (Kd.R k96 96 w' w.heap.size (fun _ => True) (.slice Ao11 t107.length co11) t107) ∧ Aside0 (Kd.Q (Kd.int .i64) 3 w' w.heap.size (fun k_ => some k_ ≠ ((.slice Ao10 t104.length co10) : Value).ownBlock ∧ some k_ ≠ ((.slice Ao17 t117.length co17) : Value).ownBlock ∧ some k_ ≠ ((.slice Ao24 t125.length co24) : Value).ownBlock) (.slice Ao12 t110.length co12) t110) ∧ Aside0 (Kd.Q (Kd.int .i64) 3 w' w.heap.size (fun k_ => some k_ ≠ ((.slice Ao12 t110.length co12) : Value).ownBlock ∧ some k_ ≠ ((.slice Ao17 t117.length co17) : Value).ownBlock ∧ some k_ ≠ ((.slice Ao24 t125.length co24) : Value).ownBlock) (.slice Ao10 t104.length co10) t104) ∧ Aside0 (Kd.Q (Kd.int .i64) 3 w' w.heap.size (fun k_ => some k_ ≠ ((.slice Ao12 t110.length co12) : Value).ownBlock ∧ some k_ ≠ ((.slice Ao10 t104.length co10) : Value).ownBlock ∧ some k_ ≠ ((.slice Ao24 t125.length co24) : Value).ownBlock) (.slice Ao17 t117.length co17) t117) ∧ Aside0 (Kd.Q (Kd.int .i64) 3 w' w.heap.size (fun k_ => some k_ ≠ ((.slice Ao12 t110.length co12) : Value).ownBlock ∧ some k_ ≠ ((.slice Ao10 t104.length co10) : Value).ownBlock ∧ some k_ ≠ ((.slice Ao17 t117.length co17) : Value).ownBlock) (.slice Ao24 t125.length co24) t125) ∧ Aside0 (w'.heap[gb113]? = some (.cells #[.int .i64 t101, .int .i64 t102, .int .i64 t103, (.slice Ao10 t104.length co10)] 25 (0, 0))) ∧ Aside0 (w'.heap[gb121]? = some (.cells #[.int .i64 t114, .int .i64 t115, .int .i64 t116, (.slice Ao17 t117.length co17)] 25 (0, 0))) ∧ Aside0 (w'.heap[gb129]? = some (.cells #[.int .i64 t122, .int .i64 t123, .int .i64 t124, (.slice Ao24 t125.length co24)] 25 (0, 0))) ∧ Aside0 (Below w.heap.size w w'))
   case atStart => exact ⟨(0), (by first | rfl | (simp; done) | (simp [*]; done)), H', ⟨Nat.le_refl _⟩, ⟨by exact HO_4.out⟩, ⟨by exact HO_5.out⟩, ⟨by exact HO_114003.out⟩, ⟨by exact HO_122003.out⟩, ⟨by exact HO_130003.out⟩, ⟨by exact BK113.out⟩, ⟨by exact BK121.out⟩, ⟨by exact BK129.out⟩, ⟨by repeat (first | (with_reducible first | exact HB.out | apply below_alloc | apply pw_below_drewN | apply below_drew1 | refine below_set ?_ GE113.out | refine below_set ?_ GE121.out | refine below_set ?_ GE129.out) | exact HB.out)⟩⟩
   case round =>
    clear H'
    try clear c1
    try clear c2
    try clear c2b0
    try clear c2b1
    try clear p2
    try clear c3
    try clear c4
    try clear c5
    try clear c7
    try clear c15
    try clear c21
    try clear c22
    try clear c26
    try clear c27
    try clear c27b0
    try clear c27b1
    try clear c27b2
    try clear c28
    try clear c29
    try clear c31
    try clear c32
    try clear c34
    try clear c35
    try clear c37
    try clear c40
    try clear c41
    try clear c43
    try clear c46
    try clear c48
    try clear c49
    try clear c50
    try clear c52
    try clear c55
    try clear c56
    try clear c58
    try clear hcz16_0
    try clear hcz16_1
    try clear hcz16_2
    try clear hcz16_3
    try clear hcz18_0
    try clear hcz18_1
    try clear hcz18_2
    try clear hcz18_3
    try clear hcz23_0
    try clear hcz23_1
    try clear hcz23_2
    try clear hcz23_3
    try clear hcz30_0
    try clear hcz30_1
    try clear hcz30_2
    try clear hcz30_3
    try clear hcz32_0
    try clear hcz32_1
    try clear hcz32_2
    try clear hcz32_3
    try clear hcz36_0
    try clear hcz36_1
    try clear hcz36_2
    try clear hcz36_3
    try clear hcz38_0
    try clear hcz38_1
    try clear hcz38_2
    try clear hcz38_3
    try clear hcz42_0
    try clear hcz42_1
    try clear hcz42_2
    try clear hcz42_3
    try clear hcz44_0
    try clear hcz44_1
    try clear hcz44_2
    try clear hcz44_3
    try clear hcz51_0
    try clear hcz51_1
    try clear hcz51_2
    try clear hcz51_3
    try clear hcz53_0
    try clear hcz53_1
    try clear hcz53_2
    try clear hcz53_3
    try clear hcz57_0
    try clear hcz57_1
    try clear hcz57_2
    try clear hcz57_3
    try clear hcz59_0
    try clear hcz59_1
    try clear hcz59_2
    try clear hcz59_3
    try clear hcz9_0
    try clear hcz9_1
    try clear hcz9_2
    try clear hcz9_3
    try clear hfz16_0
    try clear hfz16_1
    try clear hfz16_2
    try clear hfz16_3
    try clear hfz18_0
    try clear hfz18_1
    try clear hfz18_2
    try clear hfz18_3
    try clear hfz23_0
    try clear hfz23_1
    try clear hfz23_2
    try clear hfz23_3
    try clear hfz30_0
    try clear hfz30_1
    try clear hfz30_2
    try clear hfz30_3
    try clear hfz32_0
    try clear hfz32_1
    try clear hfz32_2
    try clear hfz32_3
    try clear hfz36_0
    try clear hfz36_1
    try clear hfz36_2
    try clear hfz36_3
    try clear hfz38_0
    try clear hfz38_1
    try clear hfz38_2
    try clear hfz38_3
    try clear hfz42_0
    try clear hfz42_1
    try clear hfz42_2
    try clear hfz42_3
    try clear hfz44_0
    try clear hfz44_1
    try clear hfz44_2
    try clear hfz44_3
    try clear hfz51_0
    try clear hfz51_1
    try clear hfz51_2
    try clear hfz51_3
    try clear hfz53_0
    try clear hfz53_1
    try clear hfz53_2
    try clear hfz53_3
    try clear hfz57_0
    try clear hfz57_1
    try clear hfz57_2
    try clear hfz57_3
    try clear hfz59_0
    try clear hfz59_1
    try clear hfz59_2
    try clear hfz59_3
    try clear hfz9_0
    try clear hfz9_1
    try clear hfz9_2
    try clear hfz9_3
    try clear p2
    obtain ⟨x10_2, rfl, HA, HK2, HO_4, HO_5, HO_114003, HO_122003, HO_130003, BK113, BK121, BK129, HB⟩ := hrel
    cases gk with
    | zero => exact absurd HA.out (by simp [laws_FnFillRegion.l0])
    | succ k2 =>
     have H := HA.out
     clear HA
     simp only [laws_FnFillRegion.l0] at H
     by_cases c61 : x10_2 < t102
     rotate_left
     ·
      rw [if_neg c61] at H
      have c61b0 : decide (x10_2 < t102) = false := decide_eq_false c61
      clear c61
      obtain rfl := Option.some.inj H
      have hnb93 := NB113_121.out
      have hnc93 := NB121_113.out
      have hnb94 := NB113_129.out
      have hnc94 := NB129_113.out
      obtain ⟨hcz95_0, hcz95_1, hcz95_2, hcz95_3, hfz95_0, hfz95_1, hfz95_2, hfz95_3⟩ := blk4_ BK113.out
      go_wp2
      go_ret
      exact ⟨by first | rfl | (simp [errW_none, errW_some] <;> rfl) | (simp [*, errW_none, errW_some] <;> rfl), by repeat (first | (with_reducible first | exact HB.out | apply below_alloc | apply pw_below_drewN | apply below_drew1 | refine below_set ?_ GE113.out | refine below_set ?_ GE121.out | refine below_set ?_ GE129.out) | exact HB.out)⟩
     rw [if_pos c61] at H
     have c61b0 : decide (x10_2 < t102) = true := decide_eq_true c61
     clear c61
     have H' := Aside0.mk H
     clear H
     have hnb62 := NB113_121.out
     have hnc62 := NB121_113.out
     have hnb63 := NB113_129.out
     have hnc63 := NB129_113.out
     obtain ⟨hcz64_0, hcz64_1, hcz64_2, hcz64_3, hfz64_0, hfz64_1, hfz64_2, hfz64_3⟩ := blk4_ BK113.out
     go_wp2
     go_loopg [11] k2 (fun kq v11 w' => ∃ (x11_3 : Int), v11 = .int .i64 x11_3 ∧ Aside0 (laws_FnFillRegion.l1 kq t107 t110 x10_2 x11_3 t101 t102 t103 t104 t114 t115 t116 t117 = some r) ∧ Aside0 (kq ≤ k2) ∧ Aside0 (Kd.R k96 96 w' w.heap.size (fun _ => True) (.slice Ao11 t107.length co11) t107) ∧ Aside0 (Kd.Q (Kd.int .i64) 3 w' w.heap.size (fun k_ => some k_ ≠ ((.slice Ao10 t104.length co10) : Value).ownBlock ∧ some k_ ≠ ((.slice Ao17 t117.length co17) : Value).ownBlock ∧ some k_ ≠ ((.slice Ao24 t125.length co24) : Value).ownBlock) (.slice Ao12 t110.length co12) t110) ∧ Aside0 (Kd.Q (Kd.int .i64) 3 w' w.heap.size (fun k_ => some k_ ≠ ((.slice Ao12 t110.length co12) : Value).ownBlock ∧ some k_ ≠ ((.slice Ao17 t117.length co17) : Value).ownBlock ∧ some k_ ≠ ((.slice Ao24 t125.length co24) : Value).ownBlock) (.slice Ao10 t104.length co10) t104) ∧ Aside0 (Kd.Q (Kd.int .i64) 3 w' w.heap.size (fun k_ => some k_ ≠ ((.slice Ao12 t110.length co12) : Value).ownBlock ∧ some k_ ≠ ((.slice Ao10 t104.length co10) : Value).ownBlock ∧ some k_ ≠ ((.slice Ao24 t125.length co24) : Value).ownBlock) (.slice Ao17 t117.length co17) t117) ∧ Aside0 (Kd.Q (Kd.int .i64) 3 w' w.heap.size (fun k_ => some k_ ≠ ((.slice Ao12 t110.length co12) : Value).ownBlock ∧ some k_ ≠ ((.slice Ao10 t104.length co10) : Value).ownBlock ∧ some k_ ≠ ((.slice Ao17 t117.length co17) : Value).ownBlock) (.slice Ao24 t125.length co24) t125) ∧ Aside0 (w'.heap[gb113]? = some (.cells #[.int .i64 t101, .int .i64 t102, .int .i64 t103, (.slice Ao10 t104.length co10)] 25 (0, 0))) ∧ Aside0 (w'.heap[gb121]? = some (.cells #[.int .i64 t114, .int .i64 t115, .int .i64 t116, (.slice Ao17 t117.length co17)] 25 (0, 0))) ∧ Aside0 (w'.heap[gb129]? = some (.cells #[.int .i64 t122, .int .i64 t123, .int .i64 t124, (.slice Ao24 t125.length co24)] 25 (0, 0))) ∧ Aside0 (Below w.heap.size w w'))
     case atStart => exact ⟨(0), (by first | rfl | (simp; done) | (simp [*]; done)), H', ⟨Nat.le_refl _⟩, ⟨by exact HO_4.out⟩, ⟨by exact HO_5.out⟩, ⟨by exact HO_114003.out⟩, ⟨by exact HO_122003.out⟩, ⟨by exact HO_130003.out⟩, ⟨by exact BK113.out⟩, ⟨by exact BK121.out⟩, ⟨by exact BK129.out⟩, ⟨by repeat (first | (with_reducible first | exact HB.out | apply below_alloc | apply pw_below_drewN | apply below_drew1 | refine below_set ?_ GE113.out | refine below_set ?_ GE121.out | refine below_set ?_ GE129.out) | exact HB.out)⟩⟩
     case round =>
      clear H'
      try clear c1
      try clear c2
      try clear c2b0
      try clear c2b1
      try clear p2
      try clear c3
      try clear c4
      try clear c5
      try clear c6
      try clear c7
      try clear c15
      try clear c21
      try clear c22
      try clear c26
      try clear c27
      try clear c27b0
      try clear c27b1
      try clear c27b2
      try clear c28
      try clear c29
      try clear c31
      try clear c32
      try clear c34
      try clear c35
      try clear c37
      try clear c40
      try clear c41
      try clear c43
      try clear c46
      try clear c48
      try clear c49
      try clear c50
      try clear c52
      try clear c55
      try clear c56
      try clear c58
      try clear c61
      try clear c61b0
      try clear c62
      try clear c63
      try clear hcz16_0
      try clear hcz16_1
      try clear hcz16_2
      try clear hcz16_3
      try clear hcz18_0
      try clear hcz18_1
      try clear hcz18_2
      try clear hcz18_3
      try clear hcz23_0
      try clear hcz23_1
      try clear hcz23_2
      try clear hcz23_3
      try clear hcz30_0
      try clear hcz30_1
      try clear hcz30_2
      try clear hcz30_3
      try clear hcz32_0
      try clear hcz32_1
      try clear hcz32_2
      try clear hcz32_3
      try clear hcz36_0
      try clear hcz36_1
      try clear hcz36_2
      try clear hcz36_3
      try clear hcz38_0
      try clear hcz38_1
      try clear hcz38_2
      try clear hcz38_3
      try clear hcz42_0
      try clear hcz42_1
      try clear hcz42_2
      try clear hcz42_3
      try clear hcz44_0
      try clear hcz44_1
      try clear hcz44_2
      try clear hcz44_3
      try clear hcz51_0
      try clear hcz51_1
      try clear hcz51_2
      try clear hcz51_3
      try clear hcz53_0
      try clear hcz53_1
      try clear hcz53_2
      try clear hcz53_3
      try clear hcz57_0
      try clear hcz57_1
      try clear hcz57_2
      try clear hcz57_3
      try clear hcz59_0
      try clear hcz59_1
      try clear hcz59_2
      try clear hcz59_3
      try clear hcz64_0
      try clear hcz64_1
      try clear hcz64_2
      try clear hcz64_3
      try clear hcz9_0
      try clear hcz9_1
      try clear hcz9_2
      try clear hcz9_3
      try clear hfz16_0
      try clear hfz16_1
      try clear hfz16_2
      try clear hfz16_3
      try clear hfz18_0
      try clear hfz18_1
      try clear hfz18_2
      try clear hfz18_3
      try clear hfz23_0
      try clear hfz23_1
      try clear hfz23_2
      try clear hfz23_3
      try clear hfz30_0
      try clear hfz30_1
      try clear hfz30_2
      try clear hfz30_3
      try clear hfz32_0
      try clear hfz32_1
      try clear hfz32_2
      try clear hfz32_3
      try clear hfz36_0
      try clear hfz36_1
      try clear hfz36_2
      try clear hfz36_3
      try clear hfz38_0
      try clear hfz38_1
      try clear hfz38_2
      try clear hfz38_3
      try clear hfz42_0
      try clear hfz42_1
      try clear hfz42_2
      try clear hfz42_3
      try clear hfz44_0
      try clear hfz44_1
      try clear hfz44_2
      try clear hfz44_3
      try clear hfz51_0
      try clear hfz51_1
      try clear hfz51_2
      try clear hfz51_3
      try clear hfz53_0
      try clear hfz53_1
      try clear hfz53_2
      try clear hfz53_3
      try clear hfz57_0
      try clear hfz57_1
      try clear hfz57_2
      try clear hfz57_3
      try clear hfz59_0
      try clear hfz59_1
      try clear hfz59_2
      try clear hfz59_3
      try clear hfz64_0
      try clear hfz64_1
      try clear hfz64_2
      try clear hfz64_3
      try clear hfz9_0
      try clear hfz9_1
      try clear hfz9_2
      try clear hfz9_3
      try clear p2
      obtain ⟨x11_3, rfl, HA, HK3, HO_4, HO_5, HO_114003, HO_122003, HO_130003, BK113, BK121, BK129, HB⟩ := hrel
      cases gk with
      | zero => exact absurd HA.out (by simp [laws_FnFillRegion.l1])
      | succ k3 =>
       have H := HA.out
       clear HA
       simp only [laws_FnFillRegion.l1] at H
       by_cases c65 : x11_3 < t101
       rotate_left
       ·
        rw [if_neg c65] at H
        have c65b0 : decide (x11_3 < t101) = false := decide_eq_false c65
        clear c65
        have H' := Aside0.mk H
        clear H
        have hnb90 := NB113_121.out
        have hnc90 := NB121_113.out
        have hnb91 := NB113_129.out
        have hnc91 := NB129_113.out
        obtain ⟨hcz92_0, hcz92_1, hcz92_2, hcz92_3, hfz92_0, hfz92_1, hfz92_2, hfz92_3⟩ := blk4_ BK113.out
        go_wp2
        go_roundg k3
        case measure => have := HJ5.out; have := HK2.out; have := HK3.out; omega
        case rel => exact ⟨(wrap64 (x10_2 + 1)), (by first | rfl | (simp; done) | (simp [*]; done)), H', ⟨by have := HJ5.out; have := HK2.out; have := HK3.out; omega⟩, ⟨by exact HO_4.out⟩, ⟨by exact HO_5.out⟩, ⟨by exact HO_114003.out⟩, ⟨by exact HO_122003.out⟩, ⟨by exact HO_130003.out⟩, ⟨by exact BK113.out⟩, ⟨by exact BK121.out⟩, ⟨by exact BK129.out⟩, ⟨by repeat (first | (with_reducible first | exact HB.out | apply below_alloc | apply pw_below_drewN | apply below_drew1 | refine below_set ?_ GE113.out | refine below_set ?_ GE121.out | refine below_set ?_ GE129.out) | exact HB.out)⟩⟩
       rw [if_pos c65] at H
       have c65b0 : decide (x11_3 < t101) = true := decide_eq_true c65
       clear c65
       replace H := Option.bind_eq_some_iff.mp H
       obtain ⟨t132, A660, H⟩ := H
       replace H : ((impl_RegionHas.f t107 x11_3 x10_2).bind fun t135 => (if t135 = true then (laws_FnFillRegion.j3 k3 t107 t110 x10_2 x11_3 t110 t101 t102 t103 t104 t114 t115 t116 t117) else (laws_FnFillRegion.j3 k3 t107 t110 x10_2 x11_3 t132 t101 t102 t103 t104 t114 t115 t116 t117))) = some r := H
       have A66 := Aside0.mk A660
       clear A660
       replace H := Option.bind_eq_some_iff.mp H
       obtain ⟨t135, A670, H⟩ := H
       replace H : (if t135 = true then (laws_FnFillRegion.j3 k3 t107 t110 x10_2 x11_3 t110 t101 t102 t103 t104 t114 t115 t116 t117) else (laws_FnFillRegion.j3 k3 t107 t110 x10_2 x11_3 t132 t101 t102 t103 t104 t114 t115 t116 t117)) = some r := H
       have A67 := Aside0.mk A670
       clear A670
       have HC68 := Aside0.mk H
       clear H
       have hnb69 := NB113_121.out
       have hnc69 := NB121_113.out
       have hnb70 := NB113_129.out
       have hnc70 := NB129_113.out
       obtain ⟨hcz71_0, hcz71_1, hcz71_2, hcz71_3, hfz71_0, hfz71_1, hfz71_2, hfz71_3⟩ := blk4_ BK113.out
       go_upto_if 76 with (first | ((with_reducible refine gate_callee (f := 33) rfl ?_); refine goesL_ (some 72) rfl rfl Try.func33 (by kernel_rfl) rfl #[.agg #[.int .i64 t101, .int .i64 t102, .int .i64 t103, .slice Ao10 t104.length co10], .int .i64 x11_3, .int .i64 x10_2] rfl (by simp only [List.map_toArray, List.map_cons, List.map_nil]; rfl) ?_; (with_reducible refine (impl_PixelAt.calls t101 t102 t103 _ _ t104 x11_3 x10_2 t132 _ ?side1 ?side2 A66.out).mono ?_); (case side1 => repeat (first | exact (Kd.Q_reads' HO_114003.out).2.2 | (with_reducible refine Kd.C_alloc ?_ _) | (with_reducible refine Kd.C_drewN ?_ _) | (with_reducible refine Kd.C_drew ?_))); (case side2 => exact (Kd.Q_reads' HO_114003.out).2.1); rintro e w72 ⟨v133, rfl, ho0, hb⟩; refine ⟨_, rfl, ?_⟩; replace HO_4 := am_ (Kd.R_below (by exact HO_4.out) hb); have HO134 := am_ (Kd.R_lower (Kd.R_new' (Kd.R_new' (Kd.R_new' (Kd.R_new' ho0 (Kd.Q_lt (by exact HO_5.out))) (Kd.Q_lt (by exact HO_114003.out))) (Kd.Q_lt (by exact HO_122003.out))) (Kd.Q_lt (by exact HO_130003.out))) (below_size (by repeat (first | (with_reducible first | exact HB.out | apply below_alloc | apply pw_below_drewN | apply below_drew1 | refine below_set ?_ GE113.out | refine below_set ?_ GE121.out | refine below_set ?_ GE129.out) | exact HB.out)))); replace HO_5 := am_ (Kd.Q_elder' (by exact HO_5.out) (Kd.R_base ho0) hb); replace HO_114003 := am_ (Kd.Q_elder' (by exact HO_114003.out) (Kd.R_base ho0) hb); replace HO_122003 := am_ (Kd.Q_elder' (by exact HO_122003.out) (Kd.R_base ho0) hb); replace HO_130003 := am_ (Kd.Q_elder' (by exact HO_130003.out) (Kd.R_base ho0) hb); replace BK113 := am_ (blk_below (by exact BK113.out) hb); replace BK121 := am_ (blk_below (by exact BK121.out) hb); replace BK129 := am_ (blk_below (by exact BK129.out) hb); replace HB := am_ (below_step (by repeat (first | (with_reducible first | exact HB.out | apply below_alloc | apply pw_below_drewN | apply below_drew1 | refine below_set ?_ GE113.out | refine below_set ?_ GE121.out | refine below_set ?_ GE129.out) | exact HB.out)) hb); (try clear hb); (try clear hb2); (try clear hk); (try clear hi); (try clear ho0)) | ((with_reducible refine gate_callee (f := 34) rfl ?_); refine goesL_ (some 76) rfl rfl Try.func34 (by kernel_rfl) rfl #[.slice Ao11 t107.length co11, .int .i64 x11_3, .int .i64 x10_2] rfl (by simp only [List.map_toArray, List.map_cons, List.map_nil]; rfl) ?_; (with_reducible refine (impl_RegionHas.calls _ _ t107 x11_3 x10_2 t135 _ ?side1 ?side2 A67.out).mono ?_); (case side1 => repeat (first | exact (Kd.R_reads' HO_4.out).2.2 | (with_reducible refine Kd.C_alloc ?_ _) | (with_reducible refine Kd.C_drewN ?_ _) | (with_reducible refine Kd.C_drew ?_))); (case side2 => exact (Kd.R_reads' HO_4.out).2.1); rintro e w73 ⟨rfl, hb⟩; refine ⟨_, rfl, ?_⟩; replace HO_4 := am_ (Kd.R_below (by exact HO_4.out) hb); replace HO_5 := am_ (Kd.Q_below (by exact HO_5.out) hb); replace HO_114003 := am_ (Kd.Q_below (by exact HO_114003.out) hb); replace HO_122003 := am_ (Kd.Q_below (by exact HO_122003.out) hb); replace HO_130003 := am_ (Kd.Q_below (by exact HO_130003.out) hb); replace HO134 := am_ (Kd.R_below (by exact HO134.out) hb); replace BK113 := am_ (blk_below (by exact BK113.out) hb); replace BK121 := am_ (blk_below (by exact BK121.out) hb); replace BK129 := am_ (blk_below (by exact BK129.out) hb); replace HB := am_ (below_step (by repeat (first | (with_reducible first | exact HB.out | apply below_alloc | apply pw_below_drewN | apply below_drew1 | refine below_set ?_ GE113.out | refine below_set ?_ GE121.out | refine below_set ?_ GE129.out) | exact HB.out)) hb); (try clear hb); (try clear hb2); (try clear hk); (try clear hi)))
       (try simp only [Act.put, List.setIfInBounds_toArray, List.set_cons_zero, List.set_cons_succ])
       go_cut [12] (fun v12 wc => ∃ (kq : Nat) (x12_67 : List Int), Aside0 (laws_FnFillRegion.j3 kq t107 t110 x10_2 x11_3 x12_67 t101 t102 t103 t104 t114 t115 t116 t117 = some r) ∧ Aside0 (kq ≤ k3) ∧ Aside0 (Kd.R k96 96 wc w.heap.size (fun _ => True) (.slice Ao11 t107.length co11) t107) ∧ Aside0 (Kd.Q (Kd.int .i64) 3 wc w.heap.size (fun k_ => some k_ ≠ ((.slice Ao10 t104.length co10) : Value).ownBlock ∧ some k_ ≠ ((.slice Ao17 t117.length co17) : Value).ownBlock ∧ some k_ ≠ ((.slice Ao24 t125.length co24) : Value).ownBlock) (.slice Ao12 t110.length co12) t110) ∧ Aside0 (Kd.Q (Kd.int .i64) 3 wc w.heap.size (fun k_ => some k_ ≠ ((.slice Ao10 t104.length co10) : Value).ownBlock ∧ some k_ ≠ ((.slice Ao17 t117.length co17) : Value).ownBlock ∧ some k_ ≠ ((.slice Ao24 t125.length co24) : Value).ownBlock) v12 x12_67) ∧ Aside0 (Kd.Q (Kd.int .i64) 3 wc w.heap.size (fun k_ => some k_ ≠ ((.slice Ao12 t110.length co12) : Value).ownBlock ∧ some k_ ≠ (v12 : Value).ownBlock ∧ some k_ ≠ ((.slice Ao17 t117.length co17) : Value).ownBlock ∧ some k_ ≠ ((.slice Ao24 t125.length co24) : Value).ownBlock) (.slice Ao10 t104.length co10) t104) ∧ Aside0 (Kd.Q (Kd.int .i64) 3 wc w.heap.size (fun k_ => some k_ ≠ ((.slice Ao12 t110.length co12) : Value).ownBlock ∧ some k_ ≠ (v12 : Value).ownBlock ∧ some k_ ≠ ((.slice Ao10 t104.length co10) : Value).ownBlock ∧ some k_ ≠ ((.slice Ao24 t125.length co24) : Value).ownBlock) (.slice Ao17 t117.length co17) t117) ∧ Aside0 (Kd.Q (Kd.int .i64) 3 wc w.heap.size (fun k_ => some k_ ≠ ((.slice Ao12 t110.length co12) : Value).ownBlock ∧ some k_ ≠ (v12 : Value).ownBlock ∧ some k_ ≠ ((.slice Ao10 t104.length co10) : Value).ownBlock ∧ some k_ ≠ ((.slice Ao17 t117.length co17) : Value).ownBlock) (.slice Ao24 t125.length co24) t125) ∧ Aside0 (wc.heap[gb113]? = some (.cells #[.int .i64 t101, .int .i64 t102, .int .i64 t103, (.slice Ao10 t104.length co10)] 25 (0, 0))) ∧ Aside0 (wc.heap[gb121]? = some (.cells #[.int .i64 t114, .int .i64 t115, .int .i64 t116, (.slice Ao17 t117.length co17)] 25 (0, 0))) ∧ Aside0 (wc.heap[gb129]? = some (.cells #[.int .i64 t122, .int .i64 t123, .int .i64 t124, (.slice Ao24 t125.length co24)] 25 (0, 0))) ∧ Aside0 (Below w.heap.size w wc))
       case first =>
        have H := HC68.out
        clear HC68
        by_cases c74 : t135 = true
        ·
         subst c74
         have H1 : (laws_FnFillRegion.j3 k3 t107 t110 x10_2 x11_3 t110 t101 t102 t103 t104 t114 t115 t116 t117) = some r := by rw [if_pos rfl] at H; exact H
         clear H
         have H := H1
         clear H1
         have H' := Aside0.mk H
         clear H
         go_wp2
         go_meet
         case rel => exact ⟨_, (t110), H', ⟨by have := HJ5.out; have := HK2.out; have := HK3.out; first | omega | exact Nat.le_refl _⟩, ⟨by exact HO_4.out⟩, ⟨by exact Kd.Q_mono HO_5.out (fun _ hk => by first | exact ⟨hk.1.1, ⟨hk.1.2.1, hk.1.2.2⟩⟩ | simp only [hk, ne_eq, not_false_eq_true, and_self])⟩, ⟨by exact Kd.Q_mono HO_5.out (fun _ hk => by first | exact ⟨hk.1.1, ⟨hk.1.2.1, hk.1.2.2⟩⟩ | simp only [hk, ne_eq, not_false_eq_true, and_self])⟩, ⟨by exact Kd.Q_mono HO_114003.out (fun _ hk => by first | exact ⟨hk.1.1, ⟨hk.1.1, ⟨hk.1.2.1, hk.1.2.2⟩⟩⟩ | simp only [hk, ne_eq, not_false_eq_true, and_self])⟩, ⟨by exact Kd.Q_mono HO_122003.out (fun _ hk => by first | exact ⟨hk.1.1, ⟨hk.1.1, ⟨hk.1.2.1, hk.1.2.2⟩⟩⟩ | simp only [hk, ne_eq, not_false_eq_true, and_self])⟩, ⟨by exact Kd.Q_mono HO_130003.out (fun _ hk => by first | exact ⟨hk.1.1, ⟨hk.1.1, ⟨hk.1.2.1, hk.1.2.2⟩⟩⟩ | simp only [hk, ne_eq, not_false_eq_true, and_self])⟩, ⟨by exact BK113.out⟩, ⟨by exact BK121.out⟩, ⟨by exact BK129.out⟩, ⟨by repeat (first | (with_reducible first | exact HB.out | apply below_alloc | apply pw_below_drewN | apply below_drew1 | refine below_set ?_ GE113.out | refine below_set ?_ GE121.out | refine below_set ?_ GE129.out) | exact HB.out)⟩⟩
        replace c74 := Bool.eq_false_iff.mpr c74
        subst c74
        have H1 : (laws_FnFillRegion.j3 k3 t107 t110 x10_2 x11_3 t132 t101 t102 t103 t104 t114 t115 t116 t117) = some r := by rw [if_neg (show ¬ (false = true) by decide)] at H; exact H
        clear H
        have H := H1
        clear H1
        have H' := Aside0.mk H
        clear H
        go_wp2
        go_meet
        case rel => exact ⟨_, (t132), H', ⟨by have := HJ5.out; have := HK2.out; have := HK3.out; first | omega | exact Nat.le_refl _⟩, ⟨by exact HO_4.out⟩, ⟨by exact Kd.Q_mono HO_5.out (fun _ hk => by first | exact ⟨hk.2, ⟨hk.1.1, ⟨hk.1.2.1, hk.1.2.2⟩⟩⟩ | simp only [hk, ne_eq, not_false_eq_true, and_self])⟩, ⟨Kd.Q_of_R (by exact Kd.R_mono HO134.out (fun _ hk => by first | exact ⟨hk.1.1.1.2, ⟨hk.1.1.2, ⟨hk.1.2, hk.2⟩⟩⟩ | simp only [hk, ne_eq, not_false_eq_true, and_self]))⟩, ⟨by exact Kd.Q_mono HO_114003.out (fun _ hk => by first | exact ⟨hk.1.1, ⟨hk.2, ⟨hk.1.2.1, hk.1.2.2⟩⟩⟩ | simp only [hk, ne_eq, not_false_eq_true, and_self])⟩, ⟨by exact Kd.Q_mono HO_122003.out (fun _ hk => by first | exact ⟨hk.1.1, ⟨hk.2, ⟨hk.1.2.1, hk.1.2.2⟩⟩⟩ | simp only [hk, ne_eq, not_false_eq_true, and_self])⟩, ⟨by exact Kd.Q_mono HO_130003.out (fun _ hk => by first | exact ⟨hk.1.1, ⟨hk.2, ⟨hk.1.2.1, hk.1.2.2⟩⟩⟩ | simp only [hk, ne_eq, not_false_eq_true, and_self])⟩, ⟨by exact BK113.out⟩, ⟨by exact BK121.out⟩, ⟨by exact BK129.out⟩, ⟨by repeat (first | (with_reducible first | exact HB.out | apply below_alloc | apply pw_below_drewN | apply below_drew1 | refine below_set ?_ GE113.out | refine below_set ?_ GE121.out | refine below_set ?_ GE129.out) | exact HB.out)⟩⟩
       case rest =>
        clear HC68
        try clear c1
        try clear c2
        try clear c2b0
        try clear c2b1
        try clear p2
        try clear c3
        try clear c4
        try clear c5
        try clear c6
        try clear c7
        try clear c15
        try clear c21
        try clear c22
        try clear c26
        try clear c27
        try clear c27b0
        try clear c27b1
        try clear c27b2
        try clear c28
        try clear c29
        try clear c31
        try clear c32
        try clear c33
        try clear c34
        try clear c35
        try clear c37
        try clear c40
        try clear c41
        try clear c43
        try clear c46
        try clear c48
        try clear c49
        try clear c50
        try clear c52
        try clear c55
        try clear c56
        try clear c58
        try clear c61
        try clear c61b0
        try clear c62
        try clear c63
        try clear c65
        try clear c65b0
        try clear c69
        try clear c70
        try clear c74
        try clear hcz16_0
        try clear hcz16_1
        try clear hcz16_2
        try clear hcz16_3
        try clear hcz18_0
        try clear hcz18_1
        try clear hcz18_2
        try clear hcz18_3
        try clear hcz23_0
        try clear hcz23_1
        try clear hcz23_2
        try clear hcz23_3
        try clear hcz30_0
        try clear hcz30_1
        try clear hcz30_2
        try clear hcz30_3
        try clear hcz32_0
        try clear hcz32_1
        try clear hcz32_2
        try clear hcz32_3
        try clear hcz36_0
        try clear hcz36_1
        try clear hcz36_2
        try clear hcz36_3
        try clear hcz38_0
        try clear hcz38_1
        try clear hcz38_2
        try clear hcz38_3
        try clear hcz42_0
        try clear hcz42_1
        try clear hcz42_2
        try clear hcz42_3
        try clear hcz44_0
        try clear hcz44_1
        try clear hcz44_2
        try clear hcz44_3
        try clear hcz51_0
        try clear hcz51_1
        try clear hcz51_2
        try clear hcz51_3
        try clear hcz53_0
        try clear hcz53_1
        try clear hcz53_2
        try clear hcz53_3
        try clear hcz57_0
        try clear hcz57_1
        try clear hcz57_2
        try clear hcz57_3
        try clear hcz59_0
        try clear hcz59_1
        try clear hcz59_2
        try clear hcz59_3
        try clear hcz64_0
        try clear hcz64_1
        try clear hcz64_2
        try clear hcz64_3
        try clear hcz71_0
        try clear hcz71_1
        try clear hcz71_2
        try clear hcz71_3
        try clear hcz9_0
        try clear hcz9_1
        try clear hcz9_2
        try clear hcz9_3
        try clear hfz16_0
        try clear hfz16_1
        try clear hfz16_2
        try clear hfz16_3
        try clear hfz18_0
        try clear hfz18_1
        try clear hfz18_2
        try clear hfz18_3
        try clear hfz23_0
        try clear hfz23_1
        try clear hfz23_2
        try clear hfz23_3
        try clear hfz30_0
        try clear hfz30_1
        try clear hfz30_2
        try clear hfz30_3
        try clear hfz32_0
        try clear hfz32_1
        try clear hfz32_2
        try clear hfz32_3
        try clear hfz36_0
        try clear hfz36_1
        try clear hfz36_2
        try clear hfz36_3
        try clear hfz38_0
        try clear hfz38_1
        try clear hfz38_2
        try clear hfz38_3
        try clear hfz42_0
        try clear hfz42_1
        try clear hfz42_2
        try clear hfz42_3
        try clear hfz44_0
        try clear hfz44_1
        try clear hfz44_2
        try clear hfz44_3
        try clear hfz51_0
        try clear hfz51_1
        try clear hfz51_2
        try clear hfz51_3
        try clear hfz53_0
        try clear hfz53_1
        try clear hfz53_2
        try clear hfz53_3
        try clear hfz57_0
        try clear hfz57_1
        try clear hfz57_2
        try clear hfz57_3
        try clear hfz59_0
        try clear hfz59_1
        try clear hfz59_2
        try clear hfz59_3
        try clear hfz64_0
        try clear hfz64_1
        try clear hfz64_2
        try clear hfz64_3
        try clear hfz71_0
        try clear hfz71_1
        try clear hfz71_2
        try clear hfz71_3
        try clear hfz9_0
        try clear hfz9_1
        try clear hfz9_2
        try clear hfz9_3
        try clear p2
        obtain ⟨kq, x12_67, HA, HJ67, HO_4, HO_5, HO_12, HO_114003, HO_122003, HO_130003, BK113, BK121, BK129, HB⟩ := hcut
        cases kq with
        | zero => exact absurd HA.out (by simp [laws_FnFillRegion.j3])
        | succ kj67 =>
         have H := HA.out
         clear HA
         simp only [laws_FnFillRegion.j3] at H
         replace H := Option.bind_eq_some_iff.mp H
         obtain ⟨t136, A750, H⟩ := H
         replace H : ((laws_equalInts.f kj67 t136 x12_67).bind fun t139 => (if t139 = true then (laws_FnFillRegion.l1 kj67 t107 t110 x10_2 (wrap64 (x11_3 + 1)) t101 t102 t103 t104 t114 t115 t116 t117) else (some false))) = some r := H
         have A75 := Aside0.mk A750
         clear A750
         replace H := Option.bind_eq_some_iff.mp H
         obtain ⟨t139, A760, H⟩ := H
         replace H : (if t139 = true then (laws_FnFillRegion.l1 kj67 t107 t110 x10_2 (wrap64 (x11_3 + 1)) t101 t102 t103 t104 t114 t115 t116 t117) else (some false)) = some r := H
         have A76 := Aside0.mk A760
         clear A760
         by_cases c77 : t139 = true
         ·
          subst c77
          have H1 : (laws_FnFillRegion.l1 kj67 t107 t110 x10_2 (wrap64 (x11_3 + 1)) t101 t102 t103 t104 t114 t115 t116 t117) = some r := by rw [if_pos rfl] at H; exact H
          clear H
          have H := H1
          clear H1
          have H' := Aside0.mk H
          clear H
          have hnb78 := NB121_113.out
          have hnc78 := NB113_121.out
          have hnb79 := NB121_129.out
          have hnc79 := NB129_121.out
          obtain ⟨hcz80_0, hcz80_1, hcz80_2, hcz80_3, hfz80_0, hfz80_1, hfz80_2, hfz80_3⟩ := blk4_ BK121.out
          go_wp2_with (first | ((with_reducible refine gate_callee (f := 33) rfl ?_); refine goesL_ (some 81) rfl rfl Try.func33 (by kernel_rfl) rfl #[.agg #[.int .i64 t114, .int .i64 t115, .int .i64 t116, .slice Ao17 t117.length co17], .int .i64 x11_3, .int .i64 x10_2] rfl (by simp only [List.map_toArray, List.map_cons, List.map_nil]; rfl) ?_; (with_reducible refine (impl_PixelAt.calls t114 t115 t116 _ _ t117 x11_3 x10_2 t136 _ ?side1 ?side2 A75.out).mono ?_); (case side1 => repeat (first | exact (Kd.Q_reads' HO_122003.out).2.2 | (with_reducible refine Kd.C_alloc ?_ _) | (with_reducible refine Kd.C_drewN ?_ _) | (with_reducible refine Kd.C_drew ?_))); (case side2 => exact (Kd.Q_reads' HO_122003.out).2.1); rintro e w81 ⟨v137, rfl, ho0, hb⟩; refine ⟨_, rfl, ?_⟩; replace HO_4 := am_ (Kd.R_below (by exact HO_4.out) hb); have HO138 := am_ (Kd.R_lower (Kd.R_new' (Kd.R_new' (Kd.R_new' (Kd.R_new' (Kd.R_new' ho0 (Kd.Q_lt (by exact HO_5.out))) (Kd.Q_lt (by exact HO_12.out))) (Kd.Q_lt (by exact HO_114003.out))) (Kd.Q_lt (by exact HO_122003.out))) (Kd.Q_lt (by exact HO_130003.out))) (below_size (by repeat (first | (with_reducible first | exact HB.out | apply below_alloc | apply pw_below_drewN | apply below_drew1 | refine below_set ?_ GE113.out | refine below_set ?_ GE121.out | refine below_set ?_ GE129.out) | exact HB.out)))); replace HO_5 := am_ (Kd.Q_elder' (by exact HO_5.out) (Kd.R_base ho0) hb); replace HO_12 := am_ (Kd.Q_elder' (by exact HO_12.out) (Kd.R_base ho0) hb); replace HO_114003 := am_ (Kd.Q_elder' (by exact HO_114003.out) (Kd.R_base ho0) hb); replace HO_122003 := am_ (Kd.Q_elder' (by exact HO_122003.out) (Kd.R_base ho0) hb); replace HO_130003 := am_ (Kd.Q_elder' (by exact HO_130003.out) (Kd.R_base ho0) hb); replace BK113 := am_ (blk_below (by exact BK113.out) hb); replace BK121 := am_ (blk_below (by exact BK121.out) hb); replace BK129 := am_ (blk_below (by exact BK129.out) hb); replace HB := am_ (below_step (by repeat (first | (with_reducible first | exact HB.out | apply below_alloc | apply pw_below_drewN | apply below_drew1 | refine below_set ?_ GE113.out | refine below_set ?_ GE121.out | refine below_set ?_ GE129.out) | exact HB.out)) hb); (try clear hb); (try clear hb2); (try clear hk); (try clear hi); (try clear ho0); obtain ⟨Ao82, co82, eo82⟩ := Kd.R_slice HO138.out; subst eo82; obtain ⟨Ao83, co83, eo83, _⟩ := Kd.Q_slice HO_12.out; subst eo83) | ((with_reducible refine gate_callee (f := 35) rfl ?_); refine goesL_ (some 83) rfl rfl Try.func35 (by kernel_rfl) rfl #[.slice Ao82 t136.length co82, .slice Ao83 x12_67.length co83] rfl (by simp only [List.map_toArray, List.map_cons, List.map_nil]; rfl) ?_; (with_reducible refine (laws_equalInts.calls kj67 _ _ t136 _ _ x12_67 true _ ?side1 ?side2 ?side3 ?side4 A76.out).mono ?_); (case side1 => repeat (first | exact (Kd.R_reads' HO138.out).2.2 | (with_reducible refine Kd.C_alloc ?_ _) | (with_reducible refine Kd.C_drewN ?_ _) | (with_reducible refine Kd.C_drew ?_))); (case side2 => exact (Kd.R_reads' HO138.out).2.1); (case side3 => repeat (first | exact (Kd.Q_reads' HO_12.out).2.2 | (with_reducible refine Kd.C_alloc ?_ _) | (with_reducible refine Kd.C_drewN ?_ _) | (with_reducible refine Kd.C_drew ?_))); (case side4 => exact (Kd.Q_reads' HO_12.out).2.1); rintro e w' ⟨rfl, ⟨nd, rfl⟩⟩; refine ⟨_, rfl, ?_⟩))
          go_roundg kj67
          case measure => have := HJ5.out; have := HK2.out; have := HK3.out; have := HJ67.out; omega
          case rel => exact ⟨(wrap64 (x11_3 + 1)), (by first | rfl | (simp; done) | (simp [*]; done)), H', ⟨by have := HJ5.out; have := HK2.out; have := HK3.out; have := HJ67.out; omega⟩, ⟨by exact HO_4.out⟩, ⟨by exact Kd.Q_mono HO_5.out (fun _ hk => by first | exact ⟨hk.1.2.1, ⟨hk.1.2.2.1, hk.1.2.2.2⟩⟩ | simp only [hk, ne_eq, not_false_eq_true, and_self])⟩, ⟨by exact Kd.Q_mono HO_114003.out (fun _ hk => by first | exact ⟨hk.1.1, ⟨hk.1.2.2.1, hk.1.2.2.2⟩⟩ | simp only [hk, ne_eq, not_false_eq_true, and_self])⟩, ⟨by exact Kd.Q_mono HO_122003.out (fun _ hk => by first | exact ⟨hk.1.1, ⟨hk.1.2.2.1, hk.1.2.2.2⟩⟩ | simp only [hk, ne_eq, not_false_eq_true, and_self])⟩, ⟨by exact Kd.Q_mono HO_130003.out (fun _ hk => by first | exact ⟨hk.1.1, ⟨hk.1.2.2.1, hk.1.2.2.2⟩⟩ | simp only [hk, ne_eq, not_false_eq_true, and_self])⟩, ⟨by exact BK113.out⟩, ⟨by exact BK121.out⟩, ⟨by exact BK129.out⟩, ⟨by repeat (first | (with_reducible first | exact HB.out | apply below_alloc | apply pw_below_drewN | apply below_drew1 | refine below_set ?_ GE113.out | refine below_set ?_ GE121.out | refine below_set ?_ GE129.out) | exact HB.out)⟩⟩
         replace c77 := Bool.eq_false_iff.mpr c77
         subst c77
         have H1 : (some false) = some r := by rw [if_neg (show ¬ (false = true) by decide)] at H; exact H
         clear H
         have H := H1
         clear H1
         obtain rfl := Option.some.inj H
         have hnb84 := NB121_113.out
         have hnc84 := NB113_121.out
         have hnb85 := NB121_129.out
         have hnc85 := NB129_121.out
         obtain ⟨hcz86_0, hcz86_1, hcz86_2, hcz86_3, hfz86_0, hfz86_1, hfz86_2, hfz86_3⟩ := blk4_ BK121.out
         go_wp2_with (first | ((with_reducible refine gate_callee (f := 33) rfl ?_); refine goesL_ (some 81) rfl rfl Try.func33 (by kernel_rfl) rfl #[.agg #[.int .i64 t114, .int .i64 t115, .int .i64 t116, .slice Ao17 t117.length co17], .int .i64 x11_3, .int .i64 x10_2] rfl (by simp only [List.map_toArray, List.map_cons, List.map_nil]; rfl) ?_; (with_reducible refine (impl_PixelAt.calls t114 t115 t116 _ _ t117 x11_3 x10_2 t136 _ ?side1 ?side2 A75.out).mono ?_); (case side1 => repeat (first | exact (Kd.Q_reads' HO_122003.out).2.2 | (with_reducible refine Kd.C_alloc ?_ _) | (with_reducible refine Kd.C_drewN ?_ _) | (with_reducible refine Kd.C_drew ?_))); (case side2 => exact (Kd.Q_reads' HO_122003.out).2.1); rintro e w87 ⟨v137, rfl, ho0, hb⟩; refine ⟨_, rfl, ?_⟩; replace HO_4 := am_ (Kd.R_below (by exact HO_4.out) hb); have HO138 := am_ (Kd.R_lower (Kd.R_new' (Kd.R_new' (Kd.R_new' (Kd.R_new' (Kd.R_new' ho0 (Kd.Q_lt (by exact HO_5.out))) (Kd.Q_lt (by exact HO_12.out))) (Kd.Q_lt (by exact HO_114003.out))) (Kd.Q_lt (by exact HO_122003.out))) (Kd.Q_lt (by exact HO_130003.out))) (below_size (by repeat (first | (with_reducible first | exact HB.out | apply below_alloc | apply pw_below_drewN | apply below_drew1 | refine below_set ?_ GE113.out | refine below_set ?_ GE121.out | refine below_set ?_ GE129.out) | exact HB.out)))); replace HO_5 := am_ (Kd.Q_elder' (by exact HO_5.out) (Kd.R_base ho0) hb); replace HO_12 := am_ (Kd.Q_elder' (by exact HO_12.out) (Kd.R_base ho0) hb); replace HO_114003 := am_ (Kd.Q_elder' (by exact HO_114003.out) (Kd.R_base ho0) hb); replace HO_122003 := am_ (Kd.Q_elder' (by exact HO_122003.out) (Kd.R_base ho0) hb); replace HO_130003 := am_ (Kd.Q_elder' (by exact HO_130003.out) (Kd.R_base ho0) hb); replace BK113 := am_ (blk_below (by exact BK113.out) hb); replace BK121 := am_ (blk_below (by exact BK121.out) hb); replace BK129 := am_ (blk_below (by exact BK129.out) hb); replace HB := am_ (below_step (by repeat (first | (with_reducible first | exact HB.out | apply below_alloc | apply pw_below_drewN | apply below_drew1 | refine below_set ?_ GE113.out | refine below_set ?_ GE121.out | refine below_set ?_ GE129.out) | exact HB.out)) hb); (try clear hb); (try clear hb2); (try clear hk); (try clear hi); (try clear ho0); obtain ⟨Ao88, co88, eo88⟩ := Kd.R_slice HO138.out; subst eo88; obtain ⟨Ao89, co89, eo89, _⟩ := Kd.Q_slice HO_12.out; subst eo89) | ((with_reducible refine gate_callee (f := 35) rfl ?_); refine goesL_ (some 83) rfl rfl Try.func35 (by kernel_rfl) rfl #[.slice Ao88 t136.length co88, .slice Ao89 x12_67.length co89] rfl (by simp only [List.map_toArray, List.map_cons, List.map_nil]; rfl) ?_; (with_reducible refine (laws_equalInts.calls kj67 _ _ t136 _ _ x12_67 false _ ?side1 ?side2 ?side3 ?side4 A76.out).mono ?_); (case side1 => repeat (first | exact (Kd.R_reads' HO138.out).2.2 | (with_reducible refine Kd.C_alloc ?_ _) | (with_reducible refine Kd.C_drewN ?_ _) | (with_reducible refine Kd.C_drew ?_))); (case side2 => exact (Kd.R_reads' HO138.out).2.1); (case side3 => repeat (first | exact (Kd.Q_reads' HO_12.out).2.2 | (with_reducible refine Kd.C_alloc ?_ _) | (with_reducible refine Kd.C_drewN ?_ _) | (with_reducible refine Kd.C_drew ?_))); (case side4 => exact (Kd.Q_reads' HO_12.out).2.1); rintro e w' ⟨rfl, ⟨nd, rfl⟩⟩; refine ⟨_, rfl, ?_⟩))
         go_ret
         exact ⟨by first | rfl | (simp [errW_none, errW_some] <;> rfl) | (simp [*, errW_none, errW_some] <;> rfl), by repeat (first | (with_reducible first | exact HB.out | apply below_alloc | apply pw_below_drewN | apply below_drew1 | refine below_set ?_ GE113.out | refine below_set ?_ GE121.out | refine below_set ?_ GE129.out) | exact HB.out)⟩

/-- THE ONE PURE STATEMENT of laws_FnFillRegion: yours. -/
def laws_FnFillRegion.Pure : Prop := ∀ (l0 : List Int), l0.length ≤ maxLen → l0.length * 1 ≤ 140737488351232 → (∀ x ∈ l0, (Lit.int .u8 x).wf = true) → ∃ k, laws_FnFillRegion.f k l0 = some true
theorem laws_FnFillRegion.walk (P : laws_FnFillRegion.Pure) (a0 : Option Addr) (len0 cap0 : Nat) (z0 : List Int) (w : World) (w0 : (a0 = none ∧ len0 = 0 ∧ cap0 = 0 ∧ z0 = []) ∨ ∃ x, a0 = some x ∧ len0 ≤ cap0 ∧ cap0 ≤ maxLen ∧ z0.length = cap0 ∧ (∀ i, i < z0.length → w.cell? (x.add i) = some (.int .u8 (z0.getD i 0))) ∧ ∀ n ∈ z0, (Lit.int .u8 n).wf = true) (y0 : len0 * 1 ≤ 140737488351232) :
  Calls Try.prog 7 #[.slice a0 len0 cap0] w fun e w' => e = .returned (.bool true) ∧ Below w.heap.size w w' := by
 obtain ⟨l0, rfl, hr0, hm0, hw0, hc0⟩ := ReadsInt.ofRowC w0
 obtain ⟨k, h⟩ := P l0 hm0 y0 hw0
 refine (laws_FnFillRegion.calls k _ _ l0 true w (Kd.C_of_reads (d := (0 : Int)) (h1 := fun _ => rfl) hr0) hc0 h).mono ?_
 rintro e w' ⟨rfl, hd⟩
 exact ⟨rfl, hd⟩

end Go.Proofs.Ytbciflelcmmldaa.Print
