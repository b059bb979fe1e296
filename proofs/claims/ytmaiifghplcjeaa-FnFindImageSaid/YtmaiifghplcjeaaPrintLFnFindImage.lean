-- laid by hp.py (a program of this work over the kit's print), with contracts by hand for what the print does not take
import Derived.Test.YtmaiifghplcjeaaPrint0
import Derived.Test.YtmaiifghplcjeaaPrintE0
import Derived.Test.YtmaiifghplcjeaaPrintHimplCropImage
import Derived.Test.YtmaiifghplcjeaaPrintHimplFindImage
import Derived.Test.YtmaiifghplcjeaaPrintHx0
import Derived.Test.YtmaiifghplcjeaaPrintR1x2
import Derived.Test.YtmaiifghplcjeaaPrintR1x6
import Derived.Test.YtmaiifghplcjeaaPrintR1x7
namespace Go.Proofs.Ytmaiifghplcjeaa.Print
open Go.RowKit Go.Proofs.YtmaiifghplcjeaaW.PrintWords Go.Proofs.YtmaiifghplcjeaaW.PrintLast Go.Proofs.YtmaiifghplcjeaaW.PrintMore
attribute [local go_sem] max2_int min2_int max_two min_two max_three min_three max_four min_four   -- for this text's walks alone
set_option linter.unusedVariables false
set_option linter.unusedSimpArgs false

attribute [local go_sem high] eqA40
/-! ### laws_FnFindImage: function 10 -/
mutual
def laws_FnFindImage.j0 : Nat → Int → Int → Bool → Int → Int → Int → List Int → Int → Int → Int → List Int → Int → Int → Int → Int → Int → Int → Int → Int → Option (Bool)
 | 0, _, _, _, _, _, _, _, _, _, _, _, _, _, _, _, _, _, _, _ => none
 | k + 1, x6, x8, x46, x114000, x114001, x114002, x114003, x115000, x115001, x115002, x115003, x121000, x121001, x121002, x121003, x127000, x127001, x127002, x127003 => if x46 = true then (if (x121000 == x127000 && (x121001 == x127001 && (x121002 == x127002 && (x121003 == x127003)))) = true then (some (x6 == x8)) else (some false)) else ((impl_CropImage.f x114000 x114001 x114002 x114003 x121000 x121001 x121002 x121003).bind fun bt127 => (laws_FnFindImage.l0 k x6 bt127.2.2.2.2 0 x114000 x114001 x114002 x114003 x115000 x115001 x115002 x115003 bt127.1 bt127.2.1 bt127.2.2.1 bt127.2.2.2.1))
def laws_FnFindImage.l0 : Nat → Int → Bool → Int → Int → Int → Int → List Int → Int → Int → Int → List Int → Int → Int → Int → List Int → Option (Bool)
 | 0, _, _, _, _, _, _, _, _, _, _, _, _, _, _, _ => none
 | k + 1, x6, x10, x11, x114000, x114001, x114002, x114003, x115000, x115001, x115002, x115003, x135000, x135001, x135002, x135003 => if (wrap64 (x11 + x115001)) ≤ x114001 then (laws_FnFindImage.l1 k x6 x10 x11 0 x114000 x114001 x114002 x114003 x115000 x115001 x115002 x115003 x135000 x135001 x135002 x135003) else (if x10 = true then ((impl_GapOf.f k x135000 x135001 x135002 x135003 x115000 x115001 x115002 x115003).bind fun t135 => (some (t135 == x6))) else (some false))
def laws_FnFindImage.l1 : Nat → Int → Bool → Int → Int → Int → Int → Int → List Int → Int → Int → Int → List Int → Int → Int → Int → List Int → Option (Bool)
 | 0, _, _, _, _, _, _, _, _, _, _, _, _, _, _, _, _ => none
 | k + 1, x6, x10, x11, x12, x114000, x114001, x114002, x114003, x115000, x115001, x115002, x115003, x135000, x135001, x135002, x135003 => if (wrap64 (x12 + x115000)) ≤ x114000 then ((impl_CropImage.f x114000 x114001 x114002 x114003 x12 x11 x115000 x115001).bind fun bt136 => (if bt136.2.2.2.2 = true then ((impl_GapOf.f k bt136.1 bt136.2.1 bt136.2.2.1 bt136.2.2.2.1 x115000 x115001 x115002 x115003).bind fun t144 => (if t144 < x6 then (some false) else (laws_FnFindImage.l1 k x6 x10 x11 (wrap64 (x12 + 1)) x114000 x114001 x114002 x114003 x115000 x115001 x115002 x115003 x135000 x135001 x135002 x135003))) else (some false))) else (laws_FnFindImage.l0 k x6 x10 (wrap64 (x11 + 1)) x114000 x114001 x114002 x114003 x115000 x115001 x115002 x115003 x135000 x135001 x135002 x135003)
end
def laws_FnFindImage.f (k : Nat) (l0 : List Int) : Option (Bool) := if (l0.length : Int) > 1048576 then (some true) else ((spec_DrawFindImage.f k l0).bind fun bt101 => ((impl_FindImage.f bt101.1 bt101.2.1 bt101.2.2.1 bt101.2.2.2.1 bt101.2.2.2.2.1 bt101.2.2.2.2.2.1 bt101.2.2.2.2.2.2.1 bt101.2.2.2.2.2.2.2).bind fun bt115 => ((spec_FindImage.f k bt101.1 bt101.2.1 bt101.2.2.1 bt101.2.2.2.1 bt101.2.2.2.2.1 bt101.2.2.2.2.2.1 bt101.2.2.2.2.2.2.1 bt101.2.2.2.2.2.2.2).bind fun bt121 => (if (!(bt115.1 == bt121.1) || (!(bt115.2.1 == bt121.2.1) || (!(bt115.2.2.1 == bt121.2.2.1) || (!(bt115.2.2.2.1 == bt121.2.2.2.1))))) = true then (laws_FnFindImage.j0 k bt115.2.2.2.2 bt121.2.2.2.2 true bt101.1 bt101.2.1 bt101.2.2.1 bt101.2.2.2.1 bt101.2.2.2.2.1 bt101.2.2.2.2.2.1 bt101.2.2.2.2.2.2.1 bt101.2.2.2.2.2.2.2 bt115.1 bt115.2.1 bt115.2.2.1 bt115.2.2.2.1 bt121.1 bt121.2.1 bt121.2.2.1 bt121.2.2.2.1) else (if bt115.2.2.2.2 = bt121.2.2.2.2 then (laws_FnFindImage.j0 k bt115.2.2.2.2 bt121.2.2.2.2 (decide (bt115.2.2.2.2 < 0)) bt101.1 bt101.2.1 bt101.2.2.1 bt101.2.2.2.1 bt101.2.2.2.2.1 bt101.2.2.2.2.2.1 bt101.2.2.2.2.2.2.1 bt101.2.2.2.2.2.2.2 bt115.1 bt115.2.1 bt115.2.2.1 bt115.2.2.2.1 bt121.1 bt121.2.1 bt121.2.2.1 bt121.2.2.2.1) else (laws_FnFindImage.j0 k bt115.2.2.2.2 bt121.2.2.2.2 true bt101.1 bt101.2.1 bt101.2.2.1 bt101.2.2.2.1 bt101.2.2.2.2.1 bt101.2.2.2.2.2.1 bt101.2.2.2.2.2.2.1 bt101.2.2.2.2.2.2.2 bt115.1 bt115.2.1 bt115.2.2.1 bt115.2.2.2.1 bt121.1 bt121.2.1 bt121.2.2.1 bt121.2.2.2.1))))))
theorem laws_FnFindImage.mono_l : ∀ k, (∀ y0 y1 y2 y3 y4 y5 y6 y7 y8 y9 y10 y11 y12 y13 y14 y15 y16 y17 y18, LeO (laws_FnFindImage.j0 k y0 y1 y2 y3 y4 y5 y6 y7 y8 y9 y10 y11 y12 y13 y14 y15 y16 y17 y18) (laws_FnFindImage.j0 (k + 1) y0 y1 y2 y3 y4 y5 y6 y7 y8 y9 y10 y11 y12 y13 y14 y15 y16 y17 y18)) ∧ (∀ y0 y1 y2 y3 y4 y5 y6 y7 y8 y9 y10 y11 y12 y13 y14, LeO (laws_FnFindImage.l0 k y0 y1 y2 y3 y4 y5 y6 y7 y8 y9 y10 y11 y12 y13 y14) (laws_FnFindImage.l0 (k + 1) y0 y1 y2 y3 y4 y5 y6 y7 y8 y9 y10 y11 y12 y13 y14)) ∧ (∀ y0 y1 y2 y3 y4 y5 y6 y7 y8 y9 y10 y11 y12 y13 y14 y15, LeO (laws_FnFindImage.l1 k y0 y1 y2 y3 y4 y5 y6 y7 y8 y9 y10 y11 y12 y13 y14 y15) (laws_FnFindImage.l1 (k + 1) y0 y1 y2 y3 y4 y5 y6 y7 y8 y9 y10 y11 y12 y13 y14 y15))
 | 0 => ⟨fun _ _ _ _ _ _ _ _ _ _ _ _ _ _ _ _ _ _ _ r h => by simp [laws_FnFindImage.j0] at h, fun _ _ _ _ _ _ _ _ _ _ _ _ _ _ _ r h => by simp [laws_FnFindImage.l0] at h, fun _ _ _ _ _ _ _ _ _ _ _ _ _ _ _ _ r h => by simp [laws_FnFindImage.l1] at h⟩
 | k + 1 => by
  obtain ⟨ih0, ih1, ih2⟩ := laws_FnFindImage.mono_l k
  refine ⟨?_, ?_, ?_⟩
  ·
   intro y0 y1 y2 y3 y4 y5 y6 y7 y8 y9 y10 y11 y12 y13 y14 y15 y16 y17 y18
   unfold laws_FnFindImage.j0
   repeat' first
   | (with_reducible exact ih0 _ _ _ _ _ _ _ _ _ _ _ _ _ _ _ _ _ _ _)
   | (with_reducible exact ih1 _ _ _ _ _ _ _ _ _ _ _ _ _ _ _)
   | (with_reducible exact ih2 _ _ _ _ _ _ _ _ _ _ _ _ _ _ _ _)
   | (with_reducible exact impl_GapOf.mono _ _ _ _ _ _ _ _ _)
   | (with_reducible exact spec_DrawFindImage.mono _ _)
   | (with_reducible exact spec_FindImage.mono _ _ _ _ _ _ _ _ _)
   | (with_reducible exact LeO.refl _)
   | (with_reducible exact LeO.none _)
   | (with_reducible refine LeO.ite ?_ ?_)
   | (with_reducible refine LeO.bind ?_ (fun _ => ?_))
   | exact ih0 _ _ _ _ _ _ _ _ _ _ _ _ _ _ _ _ _ _ _
   | exact ih1 _ _ _ _ _ _ _ _ _ _ _ _ _ _ _
   | exact ih2 _ _ _ _ _ _ _ _ _ _ _ _ _ _ _ _
   | exact impl_GapOf.mono _ _ _ _ _ _ _ _ _
   | exact spec_DrawFindImage.mono _ _
   | exact spec_FindImage.mono _ _ _ _ _ _ _ _ _
   | exact LeO.none _
   | refine LeO.ite ?_ ?_
   | refine LeO.bind ?_ (fun _ => ?_)
  ·
   intro y0 y1 y2 y3 y4 y5 y6 y7 y8 y9 y10 y11 y12 y13 y14
   unfold laws_FnFindImage.l0
   repeat' first
   | (with_reducible exact ih0 _ _ _ _ _ _ _ _ _ _ _ _ _ _ _ _ _ _ _)
   | (with_reducible exact ih1 _ _ _ _ _ _ _ _ _ _ _ _ _ _ _)
   | (with_reducible exact ih2 _ _ _ _ _ _ _ _ _ _ _ _ _ _ _ _)
   | (with_reducible exact impl_GapOf.mono _ _ _ _ _ _ _ _ _)
   | (with_reducible exact spec_DrawFindImage.mono _ _)
   | (with_reducible exact spec_FindImage.mono _ _ _ _ _ _ _ _ _)
   | (with_reducible exact LeO.refl _)
   | (with_reducible exact LeO.none _)
   | (with_reducible refine LeO.ite ?_ ?_)
   | (with_reducible refine LeO.bind ?_ (fun _ => ?_))
   | exact ih0 _ _ _ _ _ _ _ _ _ _ _ _ _ _ _ _ _ _ _
   | exact ih1 _ _ _ _ _ _ _ _ _ _ _ _ _ _ _
   | exact ih2 _ _ _ _ _ _ _ _ _ _ _ _ _ _ _ _
   | exact impl_GapOf.mono _ _ _ _ _ _ _ _ _
   | exact spec_DrawFindImage.mono _ _
   | exact spec_FindImage.mono _ _ _ _ _ _ _ _ _
   | exact LeO.none _
   | refine LeO.ite ?_ ?_
   | refine LeO.bind ?_ (fun _ => ?_)
  intro y0 y1 y2 y3 y4 y5 y6 y7 y8 y9 y10 y11 y12 y13 y14 y15
  unfold laws_FnFindImage.l1
  repeat' first
  | (with_reducible exact ih0 _ _ _ _ _ _ _ _ _ _ _ _ _ _ _ _ _ _ _)
  | (with_reducible exact ih1 _ _ _ _ _ _ _ _ _ _ _ _ _ _ _)
  | (with_reducible exact ih2 _ _ _ _ _ _ _ _ _ _ _ _ _ _ _ _)
  | (with_reducible exact impl_GapOf.mono _ _ _ _ _ _ _ _ _)
  | (with_reducible exact spec_DrawFindImage.mono _ _)
  | (with_reducible exact spec_FindImage.mono _ _ _ _ _ _ _ _ _)
  | (with_reducible exact LeO.refl _)
  | (with_reducible exact LeO.none _)
  | (with_reducible refine LeO.ite ?_ ?_)
  | (with_reducible refine LeO.bind ?_ (fun _ => ?_))
  | exact ih0 _ _ _ _ _ _ _ _ _ _ _ _ _ _ _ _ _ _ _
  | exact ih1 _ _ _ _ _ _ _ _ _ _ _ _ _ _ _
  | exact ih2 _ _ _ _ _ _ _ _ _ _ _ _ _ _ _ _
  | exact impl_GapOf.mono _ _ _ _ _ _ _ _ _
  | exact spec_DrawFindImage.mono _ _
  | exact spec_FindImage.mono _ _ _ _ _ _ _ _ _
  | exact LeO.none _
  | refine LeO.ite ?_ ?_
  | refine LeO.bind ?_ (fun _ => ?_)
theorem laws_FnFindImage.mono : ∀ a0 k, LeO (laws_FnFindImage.f k a0) (laws_FnFindImage.f (k + 1) a0) := by
 intro a0 k
 obtain ⟨ih0, ih1, ih2⟩ := laws_FnFindImage.mono_l k
 unfold laws_FnFindImage.f
 repeat' first
   | (with_reducible exact ih0 _ _ _ _ _ _ _ _ _ _ _ _ _ _ _ _ _ _ _)
   | (with_reducible exact ih1 _ _ _ _ _ _ _ _ _ _ _ _ _ _ _)
   | (with_reducible exact ih2 _ _ _ _ _ _ _ _ _ _ _ _ _ _ _ _)
   | (with_reducible exact impl_GapOf.mono _ _ _ _ _ _ _ _ _)
   | (with_reducible exact spec_DrawFindImage.mono _ _)
   | (with_reducible exact spec_FindImage.mono _ _ _ _ _ _ _ _ _)
   | (with_reducible exact LeO.refl _)
   | (with_reducible exact LeO.none _)
   | (with_reducible refine LeO.ite ?_ ?_)
   | (with_reducible refine LeO.bind ?_ (fun _ => ?_))
   | exact ih0 _ _ _ _ _ _ _ _ _ _ _ _ _ _ _ _ _ _ _
   | exact ih1 _ _ _ _ _ _ _ _ _ _ _ _ _ _ _
   | exact ih2 _ _ _ _ _ _ _ _ _ _ _ _ _ _ _ _
   | exact impl_GapOf.mono _ _ _ _ _ _ _ _ _
   | exact spec_DrawFindImage.mono _ _
   | exact spec_FindImage.mono _ _ _ _ _ _ _ _ _
   | exact LeO.none _
   | refine LeO.ite ?_ ?_
   | refine LeO.bind ?_ (fun _ => ?_)
set_option maxHeartbeats 8000000 in
set_option maxRecDepth 100000 in
theorem laws_FnFindImage.calls (k : Nat) (A0 : Option Addr) (c0 : Nat) (l0 : List Int) (r : Bool) (w : World) (hr0 : Kd.C (Kd.int .u8) w A0 l0.length l0) (hc0 : l0.length ≤ c0) (h : laws_FnFindImage.f k l0 = some r) :
  Calls Try.prog 10 #[.slice A0 l0.length c0] w fun e w' => e = .returned (.bool r) ∧ Below w.heap.size w w' := by
 have hu26 := Try.underlying26
 have hu40 := Try.underlying40
 have HR0 := Aside0.mk hr0
 have HC0 := Aside0.mk hc0
 clear hr0 hc0
 have HB := Aside0.mk (Below.refl w.heap.size w)
 have H : (if (l0.length : Int) > 1048576 then (some true) else ((spec_DrawFindImage.f k l0).bind fun bt101 => ((impl_FindImage.f bt101.1 bt101.2.1 bt101.2.2.1 bt101.2.2.2.1 bt101.2.2.2.2.1 bt101.2.2.2.2.2.1 bt101.2.2.2.2.2.2.1 bt101.2.2.2.2.2.2.2).bind fun bt115 => ((spec_FindImage.f k bt101.1 bt101.2.1 bt101.2.2.1 bt101.2.2.2.1 bt101.2.2.2.2.1 bt101.2.2.2.2.2.1 bt101.2.2.2.2.2.2.1 bt101.2.2.2.2.2.2.2).bind fun bt121 => (if (!(bt115.1 == bt121.1) || (!(bt115.2.1 == bt121.2.1) || (!(bt115.2.2.1 == bt121.2.2.1) || (!(bt115.2.2.2.1 == bt121.2.2.2.1))))) = true then (laws_FnFindImage.j0 k bt115.2.2.2.2 bt121.2.2.2.2 true bt101.1 bt101.2.1 bt101.2.2.1 bt101.2.2.2.1 bt101.2.2.2.2.1 bt101.2.2.2.2.2.1 bt101.2.2.2.2.2.2.1 bt101.2.2.2.2.2.2.2 bt115.1 bt115.2.1 bt115.2.2.1 bt115.2.2.2.1 bt121.1 bt121.2.1 bt121.2.2.1 bt121.2.2.2.1) else (if bt115.2.2.2.2 = bt121.2.2.2.2 then (laws_FnFindImage.j0 k bt115.2.2.2.2 bt121.2.2.2.2 (decide (bt115.2.2.2.2 < 0)) bt101.1 bt101.2.1 bt101.2.2.1 bt101.2.2.2.1 bt101.2.2.2.2.1 bt101.2.2.2.2.2.1 bt101.2.2.2.2.2.2.1 bt101.2.2.2.2.2.2.2 bt115.1 bt115.2.1 bt115.2.2.1 bt115.2.2.2.1 bt121.1 bt121.2.1 bt121.2.2.1 bt121.2.2.2.1) else (laws_FnFindImage.j0 k bt115.2.2.2.2 bt121.2.2.2.2 true bt101.1 bt101.2.1 bt101.2.2.1 bt101.2.2.2.1 bt101.2.2.2.2.1 bt101.2.2.2.2.2.1 bt101.2.2.2.2.2.2.1 bt101.2.2.2.2.2.2.2 bt115.1 bt115.2.1 bt115.2.2.1 bt115.2.2.2.1 bt121.1 bt121.2.1 bt121.2.2.1 bt121.2.2.2.1))))))) = some r := h
 clear h
 by_cases c2 : (l0.length : Int) > 1048576
 ·
  rw [if_pos c2] at H
  have c2b0 : decide (1048576 < (l0.length : Int)) = true := decide_eq_true c2
  have c2b1 : decide (1048576 < l0.length) = true := decide_eq_true (by omega)
  clear c2
  obtain rfl := Option.some.inj H
  go_enter Try.func10, Try.ntmps10
  go_wp2
  go_ret
  exact ⟨by first | rfl | (simp [errW_none, errW_some] <;> rfl) | (simp [*, errW_none, errW_some] <;> rfl), by repeat (first | (with_reducible first | exact HB.out | apply below_alloc | apply pw_below_drewN | apply below_drew1) | exact HB.out)⟩
 rw [if_neg c2] at H
 have c2b0 : decide (1048576 < (l0.length : Int)) = false := decide_eq_false c2
 have c2b1 : decide (1048576 < l0.length) = false := decide_eq_false (by omega)
 clear c2
 replace H := Option.bind_eq_some_iff.mp H
 obtain ⟨⟨t101, t102, t103, t104, t107, t108, t109, t110⟩, A30, H⟩ := H
 replace H : ((impl_FindImage.f t101 t102 t103 t104 t107 t108 t109 t110).bind fun bt115 => ((spec_FindImage.f k t101 t102 t103 t104 t107 t108 t109 t110).bind fun bt121 => (if (!(bt115.1 == bt121.1) || (!(bt115.2.1 == bt121.2.1) || (!(bt115.2.2.1 == bt121.2.2.1) || (!(bt115.2.2.2.1 == bt121.2.2.2.1))))) = true then (laws_FnFindImage.j0 k bt115.2.2.2.2 bt121.2.2.2.2 true t101 t102 t103 t104 t107 t108 t109 t110 bt115.1 bt115.2.1 bt115.2.2.1 bt115.2.2.2.1 bt121.1 bt121.2.1 bt121.2.2.1 bt121.2.2.2.1) else (if bt115.2.2.2.2 = bt121.2.2.2.2 then (laws_FnFindImage.j0 k bt115.2.2.2.2 bt121.2.2.2.2 (decide (bt115.2.2.2.2 < 0)) t101 t102 t103 t104 t107 t108 t109 t110 bt115.1 bt115.2.1 bt115.2.2.1 bt115.2.2.2.1 bt121.1 bt121.2.1 bt121.2.2.1 bt121.2.2.2.1) else (laws_FnFindImage.j0 k bt115.2.2.2.2 bt121.2.2.2.2 true t101 t102 t103 t104 t107 t108 t109 t110 bt115.1 bt115.2.1 bt115.2.2.1 bt115.2.2.2.1 bt121.1 bt121.2.1 bt121.2.2.1 bt121.2.2.2.1))))) = some r := H
 have A3 := Aside0.mk A30
 clear A30
 replace H := Option.bind_eq_some_iff.mp H
 obtain ⟨⟨t115, t116, t117, t118, t119⟩, A40, H⟩ := H
 replace H : ((spec_FindImage.f k t101 t102 t103 t104 t107 t108 t109 t110).bind fun bt121 => (if (!(t115 == bt121.1) || (!(t116 == bt121.2.1) || (!(t117 == bt121.2.2.1) || (!(t118 == bt121.2.2.2.1))))) = true then (laws_FnFindImage.j0 k t119 bt121.2.2.2.2 true t101 t102 t103 t104 t107 t108 t109 t110 t115 t116 t117 t118 bt121.1 bt121.2.1 bt121.2.2.1 bt121.2.2.2.1) else (if t119 = bt121.2.2.2.2 then (laws_FnFindImage.j0 k t119 bt121.2.2.2.2 (decide (t119 < 0)) t101 t102 t103 t104 t107 t108 t109 t110 t115 t116 t117 t118 bt121.1 bt121.2.1 bt121.2.2.1 bt121.2.2.2.1) else (laws_FnFindImage.j0 k t119 bt121.2.2.2.2 true t101 t102 t103 t104 t107 t108 t109 t110 t115 t116 t117 t118 bt121.1 bt121.2.1 bt121.2.2.1 bt121.2.2.2.1)))) = some r := H
 have A4 := Aside0.mk A40
 clear A40
 replace H := Option.bind_eq_some_iff.mp H
 obtain ⟨⟨t121, t122, t123, t124, t125⟩, A50, H⟩ := H
 replace H : (if (!(t115 == t121) || (!(t116 == t122) || (!(t117 == t123) || (!(t118 == t124))))) = true then (laws_FnFindImage.j0 k t119 t125 true t101 t102 t103 t104 t107 t108 t109 t110 t115 t116 t117 t118 t121 t122 t123 t124) else (if t119 = t125 then (laws_FnFindImage.j0 k t119 t125 (decide (t119 < 0)) t101 t102 t103 t104 t107 t108 t109 t110 t115 t116 t117 t118 t121 t122 t123 t124) else (laws_FnFindImage.j0 k t119 t125 true t101 t102 t103 t104 t107 t108 t109 t110 t115 t116 t117 t118 t121 t122 t123 t124))) = some r := H
 have A5 := Aside0.mk A50
 clear A50
 have HC6 := Aside0.mk H
 clear H
 go_enter Try.func10, Try.ntmps10
 go_upto_region 6 with (first | ((with_reducible refine gate_callee (f := 37) rfl ?_); refine goesL_ (some 20) rfl rfl Try.func37 (by kernel_rfl) rfl #[.slice A0 l0.length c0] rfl (by simp only [List.map_toArray, List.map_cons, List.map_nil]; rfl) ?_; (with_reducible refine (spec_DrawFindImage.calls k _ _ l0 t101 t102 t103 t104 t107 t108 t109 t110 _ ?side1 ?side2 A3.out).mono ?_); (case side1 => repeat (first | exact HR0.out | (with_reducible refine Kd.C_alloc ?_ _) | (with_reducible refine Kd.C_drewN ?_ _) | (with_reducible refine Kd.C_drew ?_))); (case side2 => exact HC0.out); rintro e w7 ⟨v105, v111, rfl, ho0, ho1, hb⟩; refine ⟨_, rfl, ?_⟩; have HO106 := am_ (Kd.Q_lower ho0 (below_size (by repeat (first | (with_reducible first | exact HB.out | apply below_alloc | apply pw_below_drewN | apply below_drew1) | exact HB.out)))); have HO112 := am_ (Kd.Q_lower ho1 (below_size (by repeat (first | (with_reducible first | exact HB.out | apply below_alloc | apply pw_below_drewN | apply below_drew1) | exact HB.out)))); replace HB := am_ (below_step (by repeat (first | (with_reducible first | exact HB.out | apply below_alloc | apply pw_below_drewN | apply below_drew1) | exact HB.out)) hb); (try clear hb); (try clear hb2); (try clear hk); (try clear hi); (try clear ho0); (try clear ho1)) | ((with_reducible refine gate_dst (N := 3) rfl ?_); refine box_event ?hg (N := 3) ?hd (cs := #[.int .i64 0, .int .i64 0, .int .i64 0, .slice none 0 0]) (t := 26) ?hr ?_; (case hd => rfl); (case hg => rfl); (case hr => first | (go_simp; done) | (go_simp; rfl)); intro gb113 hg w8 hbox hb; replace HO106 := am_ (Kd.Q_below (by exact HO106.out) hb); replace HO112 := am_ (Kd.Q_below (by exact HO112.out) hb); have BK113 := am_ (hbox); have GW113 := am_ ((by rw [hg]; exact (below_size (by repeat (first | (with_reducible first | exact HB.out | apply below_alloc | apply pw_below_drewN | apply below_drew1) | exact HB.out))) : w.heap.size ≤ gb113)); have GE113 := GW113; replace HB := am_ (below_step (by repeat (first | (with_reducible first | exact HB.out | apply below_alloc | apply pw_below_drewN | apply below_drew1) | exact HB.out)) hb); clear hb hbox hg) | ((with_reducible refine gate_dst (N := 4) rfl ?_); refine box_event ?hg (N := 4) ?hd (cs := #[.int .i64 0, .int .i64 0, .int .i64 0, .slice none 0 0]) (t := 26) ?hr ?_; (case hd => rfl); (case hg => rfl); (case hr => first | (go_simp; done) | (go_simp; rfl)); intro gb114 hg w9 hbox hb; replace HO106 := am_ (Kd.Q_below (by exact HO106.out) hb); replace HO112 := am_ (Kd.Q_below (by exact HO112.out) hb); have BK114 := am_ (hbox); have GW114 := am_ ((by rw [hg]; exact (below_size (by repeat (first | (with_reducible first | exact HB.out | apply below_alloc | apply pw_below_drewN | apply below_drew1 | refine below_set ?_ GE113.out) | exact HB.out))) : w.heap.size ≤ gb114)); have GE114 := GW114; replace HB := am_ (below_step (by repeat (first | (with_reducible first | exact HB.out | apply below_alloc | apply pw_below_drewN | apply below_drew1 | refine below_set ?_ GE113.out) | exact HB.out)) hb); have NB113_114 := am_ ((by rw [hg]; exact Nat.ne_of_lt (blk_lt (by exact BK113.out)) : gb113 ≠ gb114)); have NB114_113 := am_ ((by rw [hg]; exact Nat.ne_of_gt (blk_lt (by exact BK113.out)) : gb114 ≠ gb113)); replace BK113 := am_ (blk_below (by exact BK113.out) hb); clear hb hbox hg; have hnb10 := NB113_114.out; have hnc10 := NB114_113.out; obtain ⟨hcz11_0, hcz11_1, hcz11_2, hcz11_3, hfz11_0, hfz11_1, hfz11_2, hfz11_3⟩ := blk4_ BK113.out; obtain ⟨Ao12, co12, eo12, _⟩ := Kd.Q_slice HO106.out; subst eo12; obtain ⟨hcz13_0, hcz13_1, hcz13_2, hcz13_3, hfz13_0, hfz13_1, hfz13_2, hfz13_3⟩ := blk4_ BK114.out; obtain ⟨Ao14, co14, eo14, _⟩ := Kd.Q_slice HO112.out; subst eo14) | ((with_reducible refine gate_callee (f := 35) rfl ?_); refine goesL_ (some 26) rfl rfl Try.func35 (by kernel_rfl) rfl #[.agg #[.int .i64 t101, .int .i64 t102, .int .i64 t103, .slice Ao12 t104.length co12], .agg #[.int .i64 t107, .int .i64 t108, .int .i64 t109, .slice Ao14 t110.length co14]] rfl (by simp only [List.map_toArray, List.map_cons, List.map_nil]; rfl) ?_; (with_reducible refine (impl_FindImage.calls t101 t102 t103 _ _ t104 t107 t108 t109 _ _ t110 t115 t116 t117 t118 t119 _ ?side1 ?side2 ?side3 ?side4 A4.out).mono ?_); (case side1 => refine (Kd.Q_reads' (e := 3) (base := w.heap.size) (ok := fun k_ => some k_ ≠ (.slice Ao14 t110.length co14 : Value).ownBlock) (n := t104.length) (c := co12) ?_).2.2; exact (by exact (Kd.Q_mono (Kd.Q_mono (Kd.Q_far (p := ⟨gb114, 3, none⟩) (Kd.Q_far (p := ⟨gb114, 2, none⟩) (Kd.Q_far (p := ⟨gb114, 1, none⟩) (Kd.Q_far (p := ⟨gb114, 0, none⟩) (Kd.Q_far (p := ⟨gb113, 3, none⟩) (Kd.Q_far (p := ⟨gb113, 2, none⟩) (Kd.Q_far (p := ⟨gb113, 1, none⟩) (Kd.Q_far (p := ⟨gb113, 0, none⟩) (Kd.Q_types (Kd.Q_types HO106.out BK113.out (by decide)) BK114.out (by decide)) (fun _ hk => hk.1.2) (.int .i64 t101)) (fun _ hk => hk.1.2) (.int .i64 t102)) (fun _ hk => hk.1.2) (.int .i64 t103)) (fun _ hk => hk.1.2) (.slice Ao12 t104.length co12)) (fun _ hk => hk.2) (.int .i64 t107)) (fun _ hk => hk.2) (.int .i64 t108)) (fun _ hk => hk.2) (.int .i64 t109)) (fun _ hk => hk.2) (.slice Ao14 t110.length co14)) (fun _ h_ => h_.1)) (fun _ h_ => h_.1)))); (case side2 => exact (Kd.Q_reads' HO106.out).2.1); (case side3 => refine (Kd.Q_reads' (e := 3) (base := w.heap.size) (ok := fun k_ => some k_ ≠ (.slice Ao12 t104.length co12 : Value).ownBlock) (n := t110.length) (c := co14) ?_).2.2; exact (by exact (Kd.Q_mono (Kd.Q_mono (Kd.Q_far (p := ⟨gb114, 3, none⟩) (Kd.Q_far (p := ⟨gb114, 2, none⟩) (Kd.Q_far (p := ⟨gb114, 1, none⟩) (Kd.Q_far (p := ⟨gb114, 0, none⟩) (Kd.Q_far (p := ⟨gb113, 3, none⟩) (Kd.Q_far (p := ⟨gb113, 2, none⟩) (Kd.Q_far (p := ⟨gb113, 1, none⟩) (Kd.Q_far (p := ⟨gb113, 0, none⟩) (Kd.Q_types (Kd.Q_types HO112.out BK113.out (by decide)) BK114.out (by decide)) (fun _ hk => hk.1.2) (.int .i64 t101)) (fun _ hk => hk.1.2) (.int .i64 t102)) (fun _ hk => hk.1.2) (.int .i64 t103)) (fun _ hk => hk.1.2) (.slice Ao12 t104.length co12)) (fun _ hk => hk.2) (.int .i64 t107)) (fun _ hk => hk.2) (.int .i64 t108)) (fun _ hk => hk.2) (.int .i64 t109)) (fun _ hk => hk.2) (.slice Ao14 t110.length co14)) (fun _ h_ => h_.1)) (fun _ h_ => h_.1)))); (case side4 => exact (Kd.Q_reads' HO112.out).2.1); rintro e w15 ⟨rfl, hb⟩; refine ⟨_, rfl, ?_⟩; replace HO106 := am_ (Kd.Q_below (by exact (Kd.Q_mono (Kd.Q_mono (Kd.Q_far (p := ⟨gb114, 3, none⟩) (Kd.Q_far (p := ⟨gb114, 2, none⟩) (Kd.Q_far (p := ⟨gb114, 1, none⟩) (Kd.Q_far (p := ⟨gb114, 0, none⟩) (Kd.Q_far (p := ⟨gb113, 3, none⟩) (Kd.Q_far (p := ⟨gb113, 2, none⟩) (Kd.Q_far (p := ⟨gb113, 1, none⟩) (Kd.Q_far (p := ⟨gb113, 0, none⟩) (Kd.Q_types (Kd.Q_types HO106.out BK113.out (by decide)) BK114.out (by decide)) (fun _ hk => hk.1.2) (.int .i64 t101)) (fun _ hk => hk.1.2) (.int .i64 t102)) (fun _ hk => hk.1.2) (.int .i64 t103)) (fun _ hk => hk.1.2) (.slice Ao12 t104.length co12)) (fun _ hk => hk.2) (.int .i64 t107)) (fun _ hk => hk.2) (.int .i64 t108)) (fun _ hk => hk.2) (.int .i64 t109)) (fun _ hk => hk.2) (.slice Ao14 t110.length co14)) (fun _ h_ => h_.1)) (fun _ h_ => h_.1))) hb); replace HO112 := am_ (Kd.Q_below (by exact (Kd.Q_mono (Kd.Q_mono (Kd.Q_far (p := ⟨gb114, 3, none⟩) (Kd.Q_far (p := ⟨gb114, 2, none⟩) (Kd.Q_far (p := ⟨gb114, 1, none⟩) (Kd.Q_far (p := ⟨gb114, 0, none⟩) (Kd.Q_far (p := ⟨gb113, 3, none⟩) (Kd.Q_far (p := ⟨gb113, 2, none⟩) (Kd.Q_far (p := ⟨gb113, 1, none⟩) (Kd.Q_far (p := ⟨gb113, 0, none⟩) (Kd.Q_types (Kd.Q_types HO112.out BK113.out (by decide)) BK114.out (by decide)) (fun _ hk => hk.1.2) (.int .i64 t101)) (fun _ hk => hk.1.2) (.int .i64 t102)) (fun _ hk => hk.1.2) (.int .i64 t103)) (fun _ hk => hk.1.2) (.slice Ao12 t104.length co12)) (fun _ hk => hk.2) (.int .i64 t107)) (fun _ hk => hk.2) (.int .i64 t108)) (fun _ hk => hk.2) (.int .i64 t109)) (fun _ hk => hk.2) (.slice Ao14 t110.length co14)) (fun _ h_ => h_.1)) (fun _ h_ => h_.1))) hb); replace BK113 := am_ (blk_below (g := gb113) (o := .cells #[.int .i64 t101, .int .i64 t102, .int .i64 t103, .slice Ao12 t104.length co12] 26 (0, 0)) (by (with_reducible repeat (first | refine blk_drewN ?_ _ | refine blk_drew ?_ | refine blk_alloc ?_ _)); refine blk_far ?_ NB113_114.out _; (with_reducible repeat (first | refine blk_drewN ?_ _ | refine blk_drew ?_ | refine blk_alloc ?_ _)); refine blk_far ?_ NB113_114.out _; (with_reducible repeat (first | refine blk_drewN ?_ _ | refine blk_drew ?_ | refine blk_alloc ?_ _)); refine blk_far ?_ NB113_114.out _; (with_reducible repeat (first | refine blk_drewN ?_ _ | refine blk_drew ?_ | refine blk_alloc ?_ _)); refine blk_far ?_ NB113_114.out _; (with_reducible repeat (first | refine blk_drewN ?_ _ | refine blk_drew ?_ | refine blk_alloc ?_ _)); refine blk_put (cs := #[.int .i64 t101, .int .i64 t102, .int .i64 t103, .slice none 0 0]) ?_ 3 _ rfl; (with_reducible repeat (first | refine blk_drewN ?_ _ | refine blk_drew ?_ | refine blk_alloc ?_ _)); refine blk_put (cs := #[.int .i64 t101, .int .i64 t102, .int .i64 0, .slice none 0 0]) ?_ 2 _ rfl; (with_reducible repeat (first | refine blk_drewN ?_ _ | refine blk_drew ?_ | refine blk_alloc ?_ _)); refine blk_put (cs := #[.int .i64 t101, .int .i64 0, .int .i64 0, .slice none 0 0]) ?_ 1 _ rfl; (with_reducible repeat (first | refine blk_drewN ?_ _ | refine blk_drew ?_ | refine blk_alloc ?_ _)); refine blk_put (cs := #[.int .i64 0, .int .i64 0, .int .i64 0, .slice none 0 0]) ?_ 0 _ rfl; (with_reducible repeat (first | refine blk_drewN ?_ _ | refine blk_drew ?_ | refine blk_alloc ?_ _)); exact BK113.out) hb); replace BK114 := am_ (blk_below (g := gb114) (o := .cells #[.int .i64 t107, .int .i64 t108, .int .i64 t109, .slice Ao14 t110.length co14] 26 (0, 0)) (by (with_reducible repeat (first | refine blk_drewN ?_ _ | refine blk_drew ?_ | refine blk_alloc ?_ _)); refine blk_put (cs := #[.int .i64 t107, .int .i64 t108, .int .i64 t109, .slice none 0 0]) ?_ 3 _ rfl; (with_reducible repeat (first | refine blk_drewN ?_ _ | refine blk_drew ?_ | refine blk_alloc ?_ _)); refine blk_put (cs := #[.int .i64 t107, .int .i64 t108, .int .i64 0, .slice none 0 0]) ?_ 2 _ rfl; (with_reducible repeat (first | refine blk_drewN ?_ _ | refine blk_drew ?_ | refine blk_alloc ?_ _)); refine blk_put (cs := #[.int .i64 t107, .int .i64 0, .int .i64 0, .slice none 0 0]) ?_ 1 _ rfl; (with_reducible repeat (first | refine blk_drewN ?_ _ | refine blk_drew ?_ | refine blk_alloc ?_ _)); refine blk_put (cs := #[.int .i64 0, .int .i64 0, .int .i64 0, .slice none 0 0]) ?_ 0 _ rfl; (with_reducible repeat (first | refine blk_drewN ?_ _ | refine blk_drew ?_ | refine blk_alloc ?_ _)); refine blk_far ?_ NB114_113.out _; (with_reducible repeat (first | refine blk_drewN ?_ _ | refine blk_drew ?_ | refine blk_alloc ?_ _)); refine blk_far ?_ NB114_113.out _; (with_reducible repeat (first | refine blk_drewN ?_ _ | refine blk_drew ?_ | refine blk_alloc ?_ _)); refine blk_far ?_ NB114_113.out _; (with_reducible repeat (first | refine blk_drewN ?_ _ | refine blk_drew ?_ | refine blk_alloc ?_ _)); refine blk_far ?_ NB114_113.out _; (with_reducible repeat (first | refine blk_drewN ?_ _ | refine blk_drew ?_ | refine blk_alloc ?_ _)); exact BK114.out) hb); replace HB := am_ (below_step (by repeat (first | (with_reducible first | exact HB.out | apply below_alloc | apply pw_below_drewN | apply below_drew1 | refine below_set ?_ GE113.out | refine below_set ?_ GE114.out) | exact HB.out)) hb); (try clear hb); (try clear hb2); (try clear hk); (try clear hi)) | ((with_reducible refine gate_dst (N := 5) rfl ?_); refine box_event ?hg (N := 5) ?hd (cs := #[.int .i64 0, .int .i64 0, .int .i64 0, .int .i64 0]) (t := 40) ?hr ?_; (case hd => rfl); (case hg => rfl); (case hr => first | (go_simp; done) | (go_simp; rfl)); intro gb120 hg w16 hbox hb; replace HO106 := am_ (Kd.Q_below (by exact HO106.out) hb); replace HO112 := am_ (Kd.Q_below (by exact HO112.out) hb); have BK120 := am_ (hbox); have GW120 := am_ ((by rw [hg]; exact (below_size (by repeat (first | (with_reducible first | exact HB.out | apply below_alloc | apply pw_below_drewN | apply below_drew1 | refine below_set ?_ GE113.out | refine below_set ?_ GE114.out) | exact HB.out))) : w.heap.size ≤ gb120)); have GE120 := GW120; replace HB := am_ (below_step (by repeat (first | (with_reducible first | exact HB.out | apply below_alloc | apply pw_below_drewN | apply below_drew1 | refine below_set ?_ GE113.out | refine below_set ?_ GE114.out) | exact HB.out)) hb); have NB113_120 := am_ ((by rw [hg]; exact Nat.ne_of_lt (blk_lt (by exact BK113.out)) : gb113 ≠ gb120)); have NB120_113 := am_ ((by rw [hg]; exact Nat.ne_of_gt (blk_lt (by exact BK113.out)) : gb120 ≠ gb113)); replace BK113 := am_ (blk_below (by exact BK113.out) hb); have NB114_120 := am_ ((by rw [hg]; exact Nat.ne_of_lt (blk_lt (by exact BK114.out)) : gb114 ≠ gb120)); have NB120_114 := am_ ((by rw [hg]; exact Nat.ne_of_gt (blk_lt (by exact BK114.out)) : gb120 ≠ gb114)); replace BK114 := am_ (blk_below (by exact BK114.out) hb); clear hb hbox hg; have hnb17 := NB120_113.out; have hnc17 := NB113_120.out; have hnb18 := NB120_114.out; have hnc18 := NB114_120.out; obtain ⟨hcz19_0, hcz19_1, hcz19_2, hcz19_3, hfz19_0, hfz19_1, hfz19_2, hfz19_3⟩ := blk4_ BK120.out; obtain ⟨hcz20_0, hcz20_1, hcz20_2, hcz20_3, hfz20_0, hfz20_1, hfz20_2, hfz20_3⟩ := blk4_ BK113.out; obtain ⟨hcz21_0, hcz21_1, hcz21_2, hcz21_3, hfz21_0, hfz21_1, hfz21_2, hfz21_3⟩ := blk4_ BK114.out) | ((with_reducible refine gate_callee (f := 34) rfl ?_); refine goesL_ (some 32) rfl rfl Try.func34 (by kernel_rfl) rfl #[.agg #[.int .i64 t101, .int .i64 t102, .int .i64 t103, .slice Ao12 t104.length co12], .agg #[.int .i64 t107, .int .i64 t108, .int .i64 t109, .slice Ao14 t110.length co14]] rfl (by simp only [List.map_toArray, List.map_cons, List.map_nil]; rfl) ?_; (with_reducible refine (spec_FindImage.calls k t101 t102 t103 _ _ t104 t107 t108 t109 _ _ t110 t121 t122 t123 t124 t125 _ ?side1 ?side2 ?side3 ?side4 A5.out).mono ?_); (case side1 => refine (Kd.Q_reads' (e := 3) (base := w.heap.size) (ok := fun k_ => some k_ ≠ (.slice Ao14 t110.length co14 : Value).ownBlock) (n := t104.length) (c := co12) ?_).2.2; exact (by exact (Q4_ HO106.out BK120.out (by decide) _ _ _ _))); (case side2 => exact (Kd.Q_reads' HO106.out).2.1); (case side3 => refine (Kd.Q_reads' (e := 3) (base := w.heap.size) (ok := fun k_ => some k_ ≠ (.slice Ao12 t104.length co12 : Value).ownBlock) (n := t110.length) (c := co14) ?_).2.2; exact (by exact (Q4_ HO112.out BK120.out (by decide) _ _ _ _))); (case side4 => exact (Kd.Q_reads' HO112.out).2.1); rintro e w22 ⟨rfl, hb⟩; refine ⟨_, rfl, ?_⟩; replace HO106 := am_ (Kd.Q_below (by exact (Q4_ HO106.out BK120.out (by decide) _ _ _ _)) hb); replace HO112 := am_ (Kd.Q_below (by exact (Q4_ HO112.out BK120.out (by decide) _ _ _ _)) hb); replace BK113 := am_ (blk_below (by exact far4_ BK113.out NB113_120.out _ _ _ _) hb); replace BK114 := am_ (blk_below (by exact far4_ BK114.out NB114_120.out _ _ _ _) hb); replace BK120 := am_ (blk_below (by exact put4_ BK120.out _ _ _ _) hb); replace HB := am_ (below_step (by repeat (first | (with_reducible first | exact HB.out | apply below_alloc | apply pw_below_drewN | apply below_drew1 | refine below_set ?_ GE113.out | refine below_set ?_ GE114.out | refine below_set ?_ GE120.out) | exact HB.out)) hb); (try clear hb); (try clear hb2); (try clear hk); (try clear hi)) | ((with_reducible refine gate_dst (N := 7) rfl ?_); refine box_event ?hg (N := 7) ?hd (cs := #[.int .i64 0, .int .i64 0, .int .i64 0, .int .i64 0]) (t := 40) ?hr ?_; (case hd => rfl); (case hg => rfl); (case hr => first | (go_simp; done) | (go_simp; rfl)); intro gb126 hg w23 hbox hb; replace HO106 := am_ (Kd.Q_below (by exact HO106.out) hb); replace HO112 := am_ (Kd.Q_below (by exact HO112.out) hb); have BK126 := am_ (hbox); have GW126 := am_ ((by rw [hg]; exact (below_size (by repeat (first | (with_reducible first | exact HB.out | apply below_alloc | apply pw_below_drewN | apply below_drew1 | refine below_set ?_ GE113.out | refine below_set ?_ GE114.out | refine below_set ?_ GE120.out) | exact HB.out))) : w.heap.size ≤ gb126)); have GE126 := GW126; replace HB := am_ (below_step (by repeat (first | (with_reducible first | exact HB.out | apply below_alloc | apply pw_below_drewN | apply below_drew1 | refine below_set ?_ GE113.out | refine below_set ?_ GE114.out | refine below_set ?_ GE120.out) | exact HB.out)) hb); have NB113_126 := am_ ((by rw [hg]; exact Nat.ne_of_lt (blk_lt (by exact BK113.out)) : gb113 ≠ gb126)); have NB126_113 := am_ ((by rw [hg]; exact Nat.ne_of_gt (blk_lt (by exact BK113.out)) : gb126 ≠ gb113)); replace BK113 := am_ (blk_below (by exact BK113.out) hb); have NB114_126 := am_ ((by rw [hg]; exact Nat.ne_of_lt (blk_lt (by exact BK114.out)) : gb114 ≠ gb126)); have NB126_114 := am_ ((by rw [hg]; exact Nat.ne_of_gt (blk_lt (by exact BK114.out)) : gb126 ≠ gb114)); replace BK114 := am_ (blk_below (by exact BK114.out) hb); have NB120_126 := am_ ((by rw [hg]; exact Nat.ne_of_lt (blk_lt (by exact BK120.out)) : gb120 ≠ gb126)); have NB126_120 := am_ ((by rw [hg]; exact Nat.ne_of_gt (blk_lt (by exact BK120.out)) : gb126 ≠ gb120)); replace BK120 := am_ (blk_below (by exact BK120.out) hb); clear hb hbox hg; have hnb24 := NB126_113.out; have hnc24 := NB113_126.out; have hnb25 := NB126_114.out; have hnc25 := NB114_126.out; have hnb26 := NB126_120.out; have hnc26 := NB120_126.out; obtain ⟨hcz27_0, hcz27_1, hcz27_2, hcz27_3, hfz27_0, hfz27_1, hfz27_2, hfz27_3⟩ := blk4_ BK126.out))
 (try simp only [Act.put, List.setIfInBounds_toArray, List.set_cons_zero, List.set_cons_succ])
 go_cut [46] (fun v46 wc => ∃ (kq : Nat) (x46_5 : Bool), v46 = .bool x46_5 ∧ Aside0 (laws_FnFindImage.j0 kq t119 t125 x46_5 t101 t102 t103 t104 t107 t108 t109 t110 t115 t116 t117 t118 t121 t122 t123 t124 = some r) ∧ Aside0 (kq ≤ k) ∧ Aside0 (Kd.Q (Kd.int .i64) 3 wc w.heap.size (fun k_ => some k_ ≠ ((.slice Ao14 t110.length co14) : Value).ownBlock) (.slice Ao12 t104.length co12) t104) ∧ Aside0 (Kd.Q (Kd.int .i64) 3 wc w.heap.size (fun k_ => some k_ ≠ ((.slice Ao12 t104.length co12) : Value).ownBlock) (.slice Ao14 t110.length co14) t110) ∧ Aside0 (wc.heap[gb113]? = some (.cells #[.int .i64 t101, .int .i64 t102, .int .i64 t103, (.slice Ao12 t104.length co12)] 26 (0, 0))) ∧ Aside0 (wc.heap[gb114]? = some (.cells #[.int .i64 t107, .int .i64 t108, .int .i64 t109, (.slice Ao14 t110.length co14)] 26 (0, 0))) ∧ Aside0 (wc.heap[gb120]? = some (.cells #[.int .i64 t115, .int .i64 t116, .int .i64 t117, .int .i64 t118] 40 (0, 0))) ∧ Aside0 (wc.heap[gb126]? = some (.cells #[.int .i64 t121, .int .i64 t122, .int .i64 t123, .int .i64 t124] 40 (0, 0))) ∧ Aside0 (Below w.heap.size w wc))
 case first =>
  have H := HC6.out
  clear HC6
  by_cases c28 : (!(t115 == t121) || (!(t116 == t122) || (!(t117 == t123) || (!(t118 == t124))))) = true
  ·
   rw [if_pos c28] at H
   have c28b0 : (!(t115 == t121) || (!(t116 == t122) || (!(t117 == t123) || (!(t118 == t124))))) = true := c28
   clear c28
   (first | rw [c28b0] | (simp only [i64_w, i32_w]; rw [c28b0]) | skip)
   have H' := Aside0.mk H
   clear H
   have hnb29 := NB120_113.out
   have hnc29 := NB113_120.out
   have hnb30 := NB120_114.out
   have hnc30 := NB114_120.out
   have hnb31 := NB120_126.out
   have hnc31 := NB126_120.out
   obtain ⟨hcz32_0, hcz32_1, hcz32_2, hcz32_3, hfz32_0, hfz32_1, hfz32_2, hfz32_3⟩ := blk4_ BK120.out
   have hnb33 := NB126_113.out
   have hnc33 := NB113_126.out
   have hnb34 := NB126_114.out
   have hnc34 := NB114_126.out
   obtain ⟨hcz35_0, hcz35_1, hcz35_2, hcz35_3, hfz35_0, hfz35_1, hfz35_2, hfz35_3⟩ := blk4_ BK126.out
   go_wp2
   go_meet
   case rel => exact ⟨_, (true), (by first | rfl | (simp; done) | (simp [*]; done)), H', ⟨by first | omega | exact Nat.le_refl _⟩, ⟨by exact Kd.Q_mono (Kd.Q_far (p := ⟨gb126, 3, none⟩) (Kd.Q_far (p := ⟨gb126, 2, none⟩) (Kd.Q_far (p := ⟨gb126, 1, none⟩) (Kd.Q_far (p := ⟨gb126, 0, none⟩) (Kd.Q_types HO106.out BK126.out (by decide)) (fun _ hk => hk.2) (.int .i64 t121)) (fun _ hk => hk.2) (.int .i64 t122)) (fun _ hk => hk.2) (.int .i64 t123)) (fun _ hk => hk.2) (.int .i64 t124)) (fun _ hk => hk.1)⟩, ⟨by exact Kd.Q_mono (Kd.Q_far (p := ⟨gb126, 3, none⟩) (Kd.Q_far (p := ⟨gb126, 2, none⟩) (Kd.Q_far (p := ⟨gb126, 1, none⟩) (Kd.Q_far (p := ⟨gb126, 0, none⟩) (Kd.Q_types HO112.out BK126.out (by decide)) (fun _ hk => hk.2) (.int .i64 t121)) (fun _ hk => hk.2) (.int .i64 t122)) (fun _ hk => hk.2) (.int .i64 t123)) (fun _ hk => hk.2) (.int .i64 t124)) (fun _ hk => hk.1)⟩, ⟨by exact far4_ BK113.out NB113_126.out _ _ _ _⟩, ⟨by exact far4_ BK114.out NB114_126.out _ _ _ _⟩, ⟨by exact far4_ BK120.out NB120_126.out _ _ _ _⟩, ⟨by exact put4_ BK126.out _ _ _ _⟩, ⟨by repeat (first | (with_reducible first | exact HB.out | apply below_alloc | apply pw_below_drewN | apply below_drew1 | refine below_set ?_ GE113.out | refine below_set ?_ GE114.out | refine below_set ?_ GE120.out | refine below_set ?_ GE126.out) | exact HB.out)⟩⟩
  rw [if_neg c28] at H
  have c28b0 : (!(t115 == t121) || (!(t116 == t122) || (!(t117 == t123) || (!(t118 == t124))))) = false := by simpa using c28
  clear c28
  (first | rw [c28b0] | (simp only [i64_w, i32_w]; rw [c28b0]) | skip)
  by_cases c36 : t119 = t125
  ·
   rw [if_pos c36] at H
   have c36b0 : (t119 == t125) = true := beq_iff_eq.mpr c36
   have c36b1 : (t119 != t125) = false := bne_eq_false_iff_eq.mpr c36
   clear c36
   have H' := Aside0.mk H
   clear H
   have hnb37 := NB120_113.out
   have hnc37 := NB113_120.out
   have hnb38 := NB120_114.out
   have hnc38 := NB114_120.out
   have hnb39 := NB120_126.out
   have hnc39 := NB126_120.out
   obtain ⟨hcz40_0, hcz40_1, hcz40_2, hcz40_3, hfz40_0, hfz40_1, hfz40_2, hfz40_3⟩ := blk4_ BK120.out
   have hnb41 := NB126_113.out
   have hnc41 := NB113_126.out
   have hnb42 := NB126_114.out
   have hnc42 := NB114_126.out
   obtain ⟨hcz43_0, hcz43_1, hcz43_2, hcz43_3, hfz43_0, hfz43_1, hfz43_2, hfz43_3⟩ := blk4_ BK126.out
   go_wp2
   go_meet
   case rel => exact ⟨_, (decide (t119 < 0)), (by first | rfl | (simp; done) | (simp [*]; done)), H', ⟨by first | omega | exact Nat.le_refl _⟩, ⟨by exact Kd.Q_mono (Kd.Q_far (p := ⟨gb126, 3, none⟩) (Kd.Q_far (p := ⟨gb126, 2, none⟩) (Kd.Q_far (p := ⟨gb126, 1, none⟩) (Kd.Q_far (p := ⟨gb126, 0, none⟩) (Kd.Q_types HO106.out BK126.out (by decide)) (fun _ hk => hk.2) (.int .i64 t121)) (fun _ hk => hk.2) (.int .i64 t122)) (fun _ hk => hk.2) (.int .i64 t123)) (fun _ hk => hk.2) (.int .i64 t124)) (fun _ hk => hk.1)⟩, ⟨by exact Kd.Q_mono (Kd.Q_far (p := ⟨gb126, 3, none⟩) (Kd.Q_far (p := ⟨gb126, 2, none⟩) (Kd.Q_far (p := ⟨gb126, 1, none⟩) (Kd.Q_far (p := ⟨gb126, 0, none⟩) (Kd.Q_types HO112.out BK126.out (by decide)) (fun _ hk => hk.2) (.int .i64 t121)) (fun _ hk => hk.2) (.int .i64 t122)) (fun _ hk => hk.2) (.int .i64 t123)) (fun _ hk => hk.2) (.int .i64 t124)) (fun _ hk => hk.1)⟩, ⟨by exact far4_ BK113.out NB113_126.out _ _ _ _⟩, ⟨by exact far4_ BK114.out NB114_126.out _ _ _ _⟩, ⟨by exact far4_ BK120.out NB120_126.out _ _ _ _⟩, ⟨by exact put4_ BK126.out _ _ _ _⟩, ⟨by repeat (first | (with_reducible first | exact HB.out | apply below_alloc | apply pw_below_drewN | apply below_drew1 | refine below_set ?_ GE113.out | refine below_set ?_ GE114.out | refine below_set ?_ GE120.out | refine below_set ?_ GE126.out) | exact HB.out)⟩⟩
  rw [if_neg c36] at H
  have c36b0 : (t119 == t125) = false := beq_eq_false_iff_ne.mpr c36
  have c36b1 : (t119 != t125) = true := bne_iff_ne.mpr c36
  have H' := Aside0.mk H
  clear H
  have hnb44 := NB120_113.out
  have hnc44 := NB113_120.out
  have hnb45 := NB120_114.out
  have hnc45 := NB114_120.out
  have hnb46 := NB120_126.out
  have hnc46 := NB126_120.out
  obtain ⟨hcz47_0, hcz47_1, hcz47_2, hcz47_3, hfz47_0, hfz47_1, hfz47_2, hfz47_3⟩ := blk4_ BK120.out
  have hnb48 := NB126_113.out
  have hnc48 := NB113_126.out
  have hnb49 := NB126_114.out
  have hnc49 := NB114_126.out
  obtain ⟨hcz50_0, hcz50_1, hcz50_2, hcz50_3, hfz50_0, hfz50_1, hfz50_2, hfz50_3⟩ := blk4_ BK126.out
  go_wp2
  go_meet
  case rel => exact ⟨_, (true), (by first | rfl | (simp; done) | (simp [*]; done)), H', ⟨by first | omega | exact Nat.le_refl _⟩, ⟨by exact Kd.Q_mono (Kd.Q_far (p := ⟨gb126, 3, none⟩) (Kd.Q_far (p := ⟨gb126, 2, none⟩) (Kd.Q_far (p := ⟨gb126, 1, none⟩) (Kd.Q_far (p := ⟨gb126, 0, none⟩) (Kd.Q_types HO106.out BK126.out (by decide)) (fun _ hk => hk.2) (.int .i64 t121)) (fun _ hk => hk.2) (.int .i64 t122)) (fun _ hk => hk.2) (.int .i64 t123)) (fun _ hk => hk.2) (.int .i64 t124)) (fun _ hk => hk.1)⟩, ⟨by exact Kd.Q_mono (Kd.Q_far (p := ⟨gb126, 3, none⟩) (Kd.Q_far (p := ⟨gb126, 2, none⟩) (Kd.Q_far (p := ⟨gb126, 1, none⟩) (Kd.Q_far (p := ⟨gb126, 0, none⟩) (Kd.Q_types HO112.out BK126.out (by decide)) (fun _ hk => hk.2) (.int .i64 t121)) (fun _ hk => hk.2) (.int .i64 t122)) (fun _ hk => hk.2) (.int .i64 t123)) (fun _ hk => hk.2) (.int .i64 t124)) (fun _ hk => hk.1)⟩, ⟨by exact far4_ BK113.out NB113_126.out _ _ _ _⟩, ⟨by exact far4_ BK114.out NB114_126.out _ _ _ _⟩, ⟨by exact far4_ BK120.out NB120_126.out _ _ _ _⟩, ⟨by exact put4_ BK126.out _ _ _ _⟩, ⟨by repeat (first | (with_reducible first | exact HB.out | apply below_alloc | apply pw_below_drewN | apply below_drew1 | refine below_set ?_ GE113.out | refine below_set ?_ GE114.out | refine below_set ?_ GE120.out | refine below_set ?_ GE126.out) | exact HB.out)⟩⟩
 case rest =>
  clear HC6
  try clear c1
  try clear c2
  try clear c2b0
  try clear c2b1
  try clear p2
  try clear c3
  try clear c4
  try clear c10
  try clear c17
  try clear c18
  try clear c24
  try clear c25
  try clear c26
  try clear c28
  try clear c28b0
  try clear c29
  try clear c30
  try clear c31
  try clear c33
  try clear c34
  try clear c35
  try clear c36
  try clear c36b0
  try clear c36b1
  try clear c37
  try clear c38
  try clear c39
  try clear c41
  try clear c42
  try clear c44
  try clear c45
  try clear c46
  try clear c48
  try clear c49
  try clear hcz11_0
  try clear hcz11_1
  try clear hcz11_2
  try clear hcz11_3
  try clear hcz13_0
  try clear hcz13_1
  try clear hcz13_2
  try clear hcz13_3
  try clear hcz19_0
  try clear hcz19_1
  try clear hcz19_2
  try clear hcz19_3
  try clear hcz20_0
  try clear hcz20_1
  try clear hcz20_2
  try clear hcz20_3
  try clear hcz21_0
  try clear hcz21_1
  try clear hcz21_2
  try clear hcz21_3
  try clear hcz27_0
  try clear hcz27_1
  try clear hcz27_2
  try clear hcz27_3
  try clear hcz32_0
  try clear hcz32_1
  try clear hcz32_2
  try clear hcz32_3
  try clear hcz35_0
  try clear hcz35_1
  try clear hcz35_2
  try clear hcz35_3
  try clear hcz40_0
  try clear hcz40_1
  try clear hcz40_2
  try clear hcz40_3
  try clear hcz43_0
  try clear hcz43_1
  try clear hcz43_2
  try clear hcz43_3
  try clear hcz47_0
  try clear hcz47_1
  try clear hcz47_2
  try clear hcz47_3
  try clear hcz50_0
  try clear hcz50_1
  try clear hcz50_2
  try clear hcz50_3
  try clear hfz11_0
  try clear hfz11_1
  try clear hfz11_2
  try clear hfz11_3
  try clear hfz13_0
  try clear hfz13_1
  try clear hfz13_2
  try clear hfz13_3
  try clear hfz19_0
  try clear hfz19_1
  try clear hfz19_2
  try clear hfz19_3
  try clear hfz20_0
  try clear hfz20_1
  try clear hfz20_2
  try clear hfz20_3
  try clear hfz21_0
  try clear hfz21_1
  try clear hfz21_2
  try clear hfz21_3
  try clear hfz27_0
  try clear hfz27_1
  try clear hfz27_2
  try clear hfz27_3
  try clear hfz32_0
  try clear hfz32_1
  try clear hfz32_2
  try clear hfz32_3
  try clear hfz35_0
  try clear hfz35_1
  try clear hfz35_2
  try clear hfz35_3
  try clear hfz40_0
  try clear hfz40_1
  try clear hfz40_2
  try clear hfz40_3
  try clear hfz43_0
  try clear hfz43_1
  try clear hfz43_2
  try clear hfz43_3
  try clear hfz47_0
  try clear hfz47_1
  try clear hfz47_2
  try clear hfz47_3
  try clear hfz50_0
  try clear hfz50_1
  try clear hfz50_2
  try clear hfz50_3
  obtain ⟨kq, x46_5, rfl, HA, HJ5, HO_114003, HO_115003, BK113, BK114, BK120, BK126, HB⟩ := hcut
  cases kq with
  | zero => exact absurd HA.out (by simp [laws_FnFindImage.j0])
  | succ kj5 =>
   have H := HA.out
   clear HA
   simp only [laws_FnFindImage.j0] at H
   by_cases c51 : x46_5 = true
   ·
    subst c51
    have H1 : (if (t115 == t121 && (t116 == t122 && (t117 == t123 && (t118 == t124)))) = true then (some (t119 == t125)) else (some false)) = some r := by rw [if_pos rfl] at H; exact H
    clear H
    have H := H1
    clear H1
    by_cases c52 : (t115 == t121 && (t116 == t122 && (t117 == t123 && (t118 == t124)))) = true
    ·
     rw [if_pos c52] at H
     have c52b0 : (t115 == t121 && (t116 == t122 && (t117 == t123 && (t118 == t124)))) = true := c52
     (try (have c52b1 : decide (t115 = t121 && (t116 == t122 && (t117 == t123 && (t118 == t124)))) = true := by simpa using c52))
     (try (have c52b2 : (t115 == t121 && (t116 == t122 && (t117 == t123 && (t118 == t124)))) = true := by simpa using c52))
     clear c52
     obtain rfl := Option.some.inj H
     have hnb53 := NB120_113.out
     have hnc53 := NB113_120.out
     have hnb54 := NB120_114.out
     have hnc54 := NB114_120.out
     have hnb55 := NB120_126.out
     have hnc55 := NB126_120.out
     obtain ⟨hcz56_0, hcz56_1, hcz56_2, hcz56_3, hfz56_0, hfz56_1, hfz56_2, hfz56_3⟩ := blk4_ BK120.out
     have hnb57 := NB126_113.out
     have hnc57 := NB113_126.out
     have hnb58 := NB126_114.out
     have hnc58 := NB114_126.out
     obtain ⟨hcz59_0, hcz59_1, hcz59_2, hcz59_3, hfz59_0, hfz59_1, hfz59_2, hfz59_3⟩ := blk4_ BK126.out
     go_wp2
     go_ret
     exact ⟨by first | rfl | (simp [errW_none, errW_some] <;> rfl) | (simp [*, errW_none, errW_some] <;> rfl), by repeat (first | (with_reducible first | exact HB.out | apply below_alloc | apply pw_below_drewN | apply below_drew1 | refine below_set ?_ GE113.out | refine below_set ?_ GE114.out | refine below_set ?_ GE120.out | refine below_set ?_ GE126.out) | exact HB.out)⟩
    rw [if_neg c52] at H
    have c52b0 : (t115 == t121 && (t116 == t122 && (t117 == t123 && (t118 == t124)))) = false := by simpa using c52
    (try (have c52b1 : decide (t115 = t121 && (t116 == t122 && (t117 == t123 && (t118 == t124)))) = false := by simpa using c52))
    (try (have c52b2 : (t115 == t121 && (t116 == t122 && (t117 == t123 && (t118 == t124)))) = false := by simpa using c52))
    (try (have c52b3 : ¬ (t115 = t121 && (t116 == t122 && (t117 == t123 && (t118 == t124)))) := by simpa using c52))
    clear c52
    obtain rfl := Option.some.inj H
    have hnb60 := NB120_113.out
    have hnc60 := NB113_120.out
    have hnb61 := NB120_114.out
    have hnc61 := NB114_120.out
    have hnb62 := NB120_126.out
    have hnc62 := NB126_120.out
    obtain ⟨hcz63_0, hcz63_1, hcz63_2, hcz63_3, hfz63_0, hfz63_1, hfz63_2, hfz63_3⟩ := blk4_ BK120.out
    have hnb64 := NB126_113.out
    have hnc64 := NB113_126.out
    have hnb65 := NB126_114.out
    have hnc65 := NB114_126.out
    obtain ⟨hcz66_0, hcz66_1, hcz66_2, hcz66_3, hfz66_0, hfz66_1, hfz66_2, hfz66_3⟩ := blk4_ BK126.out
    go_wp2
    go_ret
    exact ⟨by first | rfl | (simp [errW_none, errW_some] <;> rfl) | (simp [*, errW_none, errW_some] <;> rfl), by repeat (first | (with_reducible first | exact HB.out | apply below_alloc | apply pw_below_drewN | apply below_drew1 | refine below_set ?_ GE113.out | refine below_set ?_ GE114.out | refine below_set ?_ GE120.out | refine below_set ?_ GE126.out) | exact HB.out)⟩
   replace c51 := Bool.eq_false_iff.mpr c51
   subst c51
   have H1 : ((impl_CropImage.f t101 t102 t103 t104 t115 t116 t117 t118).bind fun bt127 => (laws_FnFindImage.l0 kj5 t119 bt127.2.2.2.2 0 t101 t102 t103 t104 t107 t108 t109 t110 bt127.1 bt127.2.1 bt127.2.2.1 bt127.2.2.2.1)) = some r := by rw [if_neg (show ¬ (false = true) by decide)] at H; exact H
   clear H
   have H := H1
   clear H1
   replace H := Option.bind_eq_some_iff.mp H
   obtain ⟨⟨t127, t128, t129, t130, t133⟩, A670, H⟩ := H
   replace H : (laws_FnFindImage.l0 kj5 t119 t133 0 t101 t102 t103 t104 t107 t108 t109 t110 t127 t128 t129 t130) = some r := H
   have A67 := Aside0.mk A670
   clear A670
   have H' := Aside0.mk H
   clear H
   have hnb68 := NB113_114.out
   have hnc68 := NB114_113.out
   have hnb69 := NB113_120.out
   have hnc69 := NB120_113.out
   have hnb70 := NB113_126.out
   have hnc70 := NB126_113.out
   obtain ⟨hcz71_0, hcz71_1, hcz71_2, hcz71_3, hfz71_0, hfz71_1, hfz71_2, hfz71_3⟩ := blk4_ BK113.out
   have hnb72 := NB120_114.out
   have hnc72 := NB114_120.out
   have hnb73 := NB120_126.out
   have hnc73 := NB126_120.out
   obtain ⟨hcz74_0, hcz74_1, hcz74_2, hcz74_3, hfz74_0, hfz74_1, hfz74_2, hfz74_3⟩ := blk4_ BK120.out
   go_wp2_with (first | ((with_reducible refine gate_callee (f := 25) rfl ?_); refine goesL_ (some 58) rfl rfl Try.func25 (by kernel_rfl) rfl #[.agg #[.int .i64 t101, .int .i64 t102, .int .i64 t103, .slice Ao12 t104.length co12], .agg #[.int .i64 t115, .int .i64 t116, .int .i64 t117, .int .i64 t118]] rfl (by simp only [List.map_toArray, List.map_cons, List.map_nil]; rfl) ?_; (with_reducible refine (impl_CropImage.calls t101 t102 t103 _ _ t104 t115 t116 t117 t118 t127 t128 t129 t130 t133 _ ?side1 ?side2 A67.out).mono ?_); (case side1 => repeat (first | exact (Kd.Q_reads' HO_114003.out).2.2 | (with_reducible refine Kd.C_alloc ?_ _) | (with_reducible refine Kd.C_drewN ?_ _) | (with_reducible refine Kd.C_drew ?_))); (case side2 => exact (Kd.Q_reads' HO_114003.out).2.1); rintro e w75 ⟨v131, rfl, ho0, hb⟩; refine ⟨_, rfl, ?_⟩; have HO132 := am_ (Kd.R_lower (Kd.R_new' (Kd.R_new' ho0 (Kd.Q_lt (by exact HO_114003.out))) (Kd.Q_lt (by exact HO_115003.out))) (below_size (by repeat (first | (with_reducible first | exact HB.out | apply below_alloc | apply pw_below_drewN | apply below_drew1 | refine below_set ?_ GE113.out | refine below_set ?_ GE114.out | refine below_set ?_ GE120.out | refine below_set ?_ GE126.out) | exact HB.out)))); replace HO_114003 := am_ (Kd.Q_elder' (by exact HO_114003.out) (Kd.R_base ho0) hb); replace HO_115003 := am_ (Kd.Q_elder' (by exact HO_115003.out) (Kd.R_base ho0) hb); replace BK113 := am_ (blk_below (by exact BK113.out) hb); replace BK114 := am_ (blk_below (by exact BK114.out) hb); replace BK120 := am_ (blk_below (by exact BK120.out) hb); replace BK126 := am_ (blk_below (by exact BK126.out) hb); replace HB := am_ (below_step (by repeat (first | (with_reducible first | exact HB.out | apply below_alloc | apply pw_below_drewN | apply below_drew1 | refine below_set ?_ GE113.out | refine below_set ?_ GE114.out | refine below_set ?_ GE120.out | refine below_set ?_ GE126.out) | exact HB.out)) hb); (try clear hb); (try clear hb2); (try clear hk); (try clear hi); (try clear ho0)) | ((with_reducible refine gate_dst (N := 9) rfl ?_); refine box_event ?hg (N := 9) ?hd (cs := #[.int .i64 0, .int .i64 0, .int .i64 0, .slice none 0 0]) (t := 26) ?hr ?_; (case hd => rfl); (case hg => rfl); (case hr => first | (go_simp; done) | (go_simp; rfl)); intro gb134 hg w76 hbox hb; replace HO_114003 := am_ (Kd.Q_below (by exact HO_114003.out) hb); replace HO_115003 := am_ (Kd.Q_below (by exact HO_115003.out) hb); replace HO132 := am_ (Kd.R_below (by exact HO132.out) hb); have BK134 := am_ (hbox); have GW134 := am_ ((by rw [hg]; exact (below_size (by repeat (first | (with_reducible first | exact HB.out | apply below_alloc | apply pw_below_drewN | apply below_drew1 | refine below_set ?_ GE113.out | refine below_set ?_ GE114.out | refine below_set ?_ GE120.out | refine below_set ?_ GE126.out) | exact HB.out))) : w.heap.size ≤ gb134)); have GE134 := GW134; replace HB := am_ (below_step (by repeat (first | (with_reducible first | exact HB.out | apply below_alloc | apply pw_below_drewN | apply below_drew1 | refine below_set ?_ GE113.out | refine below_set ?_ GE114.out | refine below_set ?_ GE120.out | refine below_set ?_ GE126.out) | exact HB.out)) hb); have NB113_134 := am_ ((by rw [hg]; exact Nat.ne_of_lt (blk_lt (by exact BK113.out)) : gb113 ≠ gb134)); have NB134_113 := am_ ((by rw [hg]; exact Nat.ne_of_gt (blk_lt (by exact BK113.out)) : gb134 ≠ gb113)); replace BK113 := am_ (blk_below (by exact BK113.out) hb); have NB114_134 := am_ ((by rw [hg]; exact Nat.ne_of_lt (blk_lt (by exact BK114.out)) : gb114 ≠ gb134)); have NB134_114 := am_ ((by rw [hg]; exact Nat.ne_of_gt (blk_lt (by exact BK114.out)) : gb134 ≠ gb114)); replace BK114 := am_ (blk_below (by exact BK114.out) hb); have NB120_134 := am_ ((by rw [hg]; exact Nat.ne_of_lt (blk_lt (by exact BK120.out)) : gb120 ≠ gb134)); have NB134_120 := am_ ((by rw [hg]; exact Nat.ne_of_gt (blk_lt (by exact BK120.out)) : gb134 ≠ gb120)); replace BK120 := am_ (blk_below (by exact BK120.out) hb); have NB126_134 := am_ ((by rw [hg]; exact Nat.ne_of_lt (blk_lt (by exact BK126.out)) : gb126 ≠ gb134)); have NB134_126 := am_ ((by rw [hg]; exact Nat.ne_of_gt (blk_lt (by exact BK126.out)) : gb134 ≠ gb126)); replace BK126 := am_ (blk_below (by exact BK126.out) hb); clear hb hbox hg; have hnb77 := NB134_113.out; have hnc77 := NB113_134.out; have hnb78 := NB134_114.out; have hnc78 := NB114_134.out; have hnb79 := NB134_120.out; have hnc79 := NB120_134.out; have hnb80 := NB134_126.out; have hnc80 := NB126_134.out; obtain ⟨hcz81_0, hcz81_1, hcz81_2, hcz81_3, hfz81_0, hfz81_1, hfz81_2, hfz81_3⟩ := blk4_ BK134.out; obtain ⟨Ao82, co82, eo82⟩ := Kd.R_slice HO132.out; subst eo82))
   go_loopg [11] kj5 (fun kq v11 w' => ∃ (x11_2 : Int), v11 = .int .i64 x11_2 ∧ Aside0 (laws_FnFindImage.l0 kq t119 t133 x11_2 t101 t102 t103 t104 t107 t108 t109 t110 t127 t128 t129 t130 = some r) ∧ Aside0 (kq ≤ kj5) ∧ Aside0 (Kd.Q (Kd.int .i64) 3 w' w.heap.size (fun k_ => some k_ ≠ ((.slice Ao14 t110.length co14) : Value).ownBlock ∧ some k_ ≠ ((.slice Ao82 t130.length co82) : Value).ownBlock) (.slice Ao12 t104.length co12) t104) ∧ Aside0 (Kd.Q (Kd.int .i64) 3 w' w.heap.size (fun k_ => some k_ ≠ ((.slice Ao12 t104.length co12) : Value).ownBlock ∧ some k_ ≠ ((.slice Ao82 t130.length co82) : Value).ownBlock) (.slice Ao14 t110.length co14) t110) ∧ Aside0 (Kd.Q (Kd.int .i64) 3 w' w.heap.size (fun k_ => some k_ ≠ ((.slice Ao12 t104.length co12) : Value).ownBlock ∧ some k_ ≠ ((.slice Ao14 t110.length co14) : Value).ownBlock) (.slice Ao82 t130.length co82) t130) ∧ Aside0 (w'.heap[gb113]? = some (.cells #[.int .i64 t101, .int .i64 t102, .int .i64 t103, (.slice Ao12 t104.length co12)] 26 (0, 0))) ∧ Aside0 (w'.heap[gb114]? = some (.cells #[.int .i64 t107, .int .i64 t108, .int .i64 t109, (.slice Ao14 t110.length co14)] 26 (0, 0))) ∧ Aside0 (w'.heap[gb120]? = some (.cells #[.int .i64 t115, .int .i64 t116, .int .i64 t117, .int .i64 t118] 40 (0, 0))) ∧ Aside0 (w'.heap[gb126]? = some (.cells #[.int .i64 t121, .int .i64 t122, .int .i64 t123, .int .i64 t124] 40 (0, 0))) ∧ Aside0 (w'.heap[gb134]? = some (.cells #[.int .i64 t127, .int .i64 t128, .int .i64 t129, (.slice Ao82 t130.length co82)] 26 (0, 0))) ∧ Aside0 (Below w.heap.size w w'))
   case atStart => exact ⟨(0), (by first | rfl | (simp; done) | (simp [*]; done)), H', ⟨Nat.le_refl _⟩, ⟨by exact Kd.Q_mono (Kd.Q_far (p := ⟨gb134, 3, none⟩) (Kd.Q_far (p := ⟨gb134, 2, none⟩) (Kd.Q_far (p := ⟨gb134, 1, none⟩) (Kd.Q_far (p := ⟨gb134, 0, none⟩) (Kd.Q_types HO_114003.out BK134.out (by decide)) (fun _ hk => hk.2) (.int .i64 t127)) (fun _ hk => hk.2) (.int .i64 t128)) (fun _ hk => hk.2) (.int .i64 t129)) (fun _ hk => hk.2) (.slice Ao82 t130.length co82)) (fun _ hk => ⟨hk.1.1, hk.1.2⟩)⟩, ⟨by exact Kd.Q_mono (Kd.Q_far (p := ⟨gb134, 3, none⟩) (Kd.Q_far (p := ⟨gb134, 2, none⟩) (Kd.Q_far (p := ⟨gb134, 1, none⟩) (Kd.Q_far (p := ⟨gb134, 0, none⟩) (Kd.Q_types HO_115003.out BK134.out (by decide)) (fun _ hk => hk.2) (.int .i64 t127)) (fun _ hk => hk.2) (.int .i64 t128)) (fun _ hk => hk.2) (.int .i64 t129)) (fun _ hk => hk.2) (.slice Ao82 t130.length co82)) (fun _ hk => ⟨hk.1.1, hk.1.2⟩)⟩, ⟨Kd.Q_of_R (by exact Kd.R_mono (Kd.R_far (p := ⟨gb134, 3, none⟩) (Kd.R_far (p := ⟨gb134, 2, none⟩) (Kd.R_far (p := ⟨gb134, 1, none⟩) (Kd.R_far (p := ⟨gb134, 0, none⟩) (Kd.R_types HO132.out BK134.out (by decide)) (fun _ hk => hk.2) (.int .i64 t127)) (fun _ hk => hk.2) (.int .i64 t128)) (fun _ hk => hk.2) (.int .i64 t129)) (fun _ hk => hk.2) (.slice Ao82 t130.length co82)) (fun _ hk => ⟨hk.1.1.2, hk.1.2⟩))⟩, ⟨by exact far4_ BK113.out NB113_134.out _ _ _ _⟩, ⟨by exact far4_ BK114.out NB114_134.out _ _ _ _⟩, ⟨by exact far4_ BK120.out NB120_134.out _ _ _ _⟩, ⟨by exact far4_ BK126.out NB126_134.out _ _ _ _⟩, ⟨by exact put4_ BK134.out _ _ _ _⟩, ⟨by repeat (first | (with_reducible first | exact HB.out | apply below_alloc | apply pw_below_drewN | apply below_drew1 | refine below_set ?_ GE113.out | refine below_set ?_ GE114.out | refine below_set ?_ GE120.out | refine below_set ?_ GE126.out | refine below_set ?_ GE134.out) | exact HB.out)⟩⟩
   case round =>
    clear H'
    try clear c1
    try clear c2
    try clear c2b0
    try clear c2b1
    try clear p2
    try clear c3
    try clear c4
    try clear c5
    try clear c6
    try clear c7
    try clear c8
    try clear c10
    try clear c17
    try clear c18
    try clear c24
    try clear c25
    try clear c26
    try clear c28
    try clear c28b0
    try clear c29
    try clear c30
    try clear c31
    try clear c33
    try clear c34
    try clear c35
    try clear c36
    try clear c36b0
    try clear c36b1
    try clear c37
    try clear c38
    try clear c39
    try clear c41
    try clear c42
    try clear c44
    try clear c45
    try clear c46
    try clear c48
    try clear c49
    try clear c51
    try clear c52
    try clear c52b0
    try clear c52b1
    try clear c52b2
    try clear c53
    try clear c54
    try clear c55
    try clear c57
    try clear c58
    try clear c60
    try clear c61
    try clear c62
    try clear c64
    try clear c65
    try clear c68
    try clear c69
    try clear c70
    try clear c72
    try clear c73
    try clear c77
    try clear c78
    try clear c79
    try clear c80
    try clear hcz11_0
    try clear hcz11_1
    try clear hcz11_2
    try clear hcz11_3
    try clear hcz13_0
    try clear hcz13_1
    try clear hcz13_2
    try clear hcz13_3
    try clear hcz19_0
    try clear hcz19_1
    try clear hcz19_2
    try clear hcz19_3
    try clear hcz20_0
    try clear hcz20_1
    try clear hcz20_2
    try clear hcz20_3
    try clear hcz21_0
    try clear hcz21_1
    try clear hcz21_2
    try clear hcz21_3
    try clear hcz27_0
    try clear hcz27_1
    try clear hcz27_2
    try clear hcz27_3
    try clear hcz32_0
    try clear hcz32_1
    try clear hcz32_2
    try clear hcz32_3
    try clear hcz35_0
    try clear hcz35_1
    try clear hcz35_2
    try clear hcz35_3
    try clear hcz40_0
    try clear hcz40_1
    try clear hcz40_2
    try clear hcz40_3
    try clear hcz43_0
    try clear hcz43_1
    try clear hcz43_2
    try clear hcz43_3
    try clear hcz47_0
    try clear hcz47_1
    try clear hcz47_2
    try clear hcz47_3
    try clear hcz50_0
    try clear hcz50_1
    try clear hcz50_2
    try clear hcz50_3
    try clear hcz56_0
    try clear hcz56_1
    try clear hcz56_2
    try clear hcz56_3
    try clear hcz59_0
    try clear hcz59_1
    try clear hcz59_2
    try clear hcz59_3
    try clear hcz63_0
    try clear hcz63_1
    try clear hcz63_2
    try clear hcz63_3
    try clear hcz66_0
    try clear hcz66_1
    try clear hcz66_2
    try clear hcz66_3
    try clear hcz71_0
    try clear hcz71_1
    try clear hcz71_2
    try clear hcz71_3
    try clear hcz74_0
    try clear hcz74_1
    try clear hcz74_2
    try clear hcz74_3
    try clear hcz81_0
    try clear hcz81_1
    try clear hcz81_2
    try clear hcz81_3
    try clear hfz11_0
    try clear hfz11_1
    try clear hfz11_2
    try clear hfz11_3
    try clear hfz13_0
    try clear hfz13_1
    try clear hfz13_2
    try clear hfz13_3
    try clear hfz19_0
    try clear hfz19_1
    try clear hfz19_2
    try clear hfz19_3
    try clear hfz20_0
    try clear hfz20_1
    try clear hfz20_2
    try clear hfz20_3
    try clear hfz21_0
    try clear hfz21_1
    try clear hfz21_2
    try clear hfz21_3
    try clear hfz27_0
    try clear hfz27_1
    try clear hfz27_2
    try clear hfz27_3
    try clear hfz32_0
    try clear hfz32_1
    try clear hfz32_2
    try clear hfz32_3
    try clear hfz35_0
    try clear hfz35_1
    try clear hfz35_2
    try clear hfz35_3
    try clear hfz40_0
    try clear hfz40_1
    try clear hfz40_2
    try clear hfz40_3
    try clear hfz43_0
    try clear hfz43_1
    try clear hfz43_2
    try clear hfz43_3
    try clear hfz47_0
    try clear hfz47_1
    try clear hfz47_2
    try clear hfz47_3
    try clear hfz50_0
    try clear hfz50_1
    try clear hfz50_2
    try clear hfz50_3
    try clear hfz56_0
    try clear hfz56_1
    try clear hfz56_2
    try clear hfz56_3
    try clear hfz59_0
    try clear hfz59_1
    try clear hfz59_2
    try clear hfz59_3
    try clear hfz63_0
    try clear hfz63_1
    try clear hfz63_2
    try clear hfz63_3
    try clear hfz66_0
    try clear hfz66_1
    try clear hfz66_2
    try clear hfz66_3
    try clear hfz71_0
    try clear hfz71_1
    try clear hfz71_2
    try clear hfz71_3
    try clear hfz74_0
    try clear hfz74_1
    try clear hfz74_2
    try clear hfz74_3
    try clear hfz81_0
    try clear hfz81_1
    try clear hfz81_2
    try clear hfz81_3
    try clear p2
    obtain ⟨x11_2, rfl, HA, HK2, HO_114003, HO_115003, HO_135003, BK113, BK114, BK120, BK126, BK134, HB⟩ := hrel
    cases gk with
    | zero => exact absurd HA.out (by simp [laws_FnFindImage.l0])
    | succ k2 =>
     have H := HA.out
     clear HA
     simp only [laws_FnFindImage.l0] at H
     by_cases c83 : (wrap64 (x11_2 + t108)) ≤ t102
     rotate_left
     ·
      rw [if_neg c83] at H
      have c83b0 : decide ((wrap64 (x11_2 + t108)) ≤ t102) = false := decide_eq_false c83
      clear c83
      by_cases c165 : t133 = true
      ·
       subst c165
       have H1 : ((impl_GapOf.f k2 t127 t128 t129 t130 t107 t108 t109 t110).bind fun t135 => (some (t135 == t119))) = some r := by rw [if_pos rfl] at H; exact H
       clear H
       have H := H1
       clear H1
       replace H := Option.bind_eq_some_iff.mp H
       obtain ⟨t135, A1660, H⟩ := H
       replace H : (some (t135 == t119)) = some r := H
       have A166 := Aside0.mk A1660
       clear A1660
       obtain rfl := Option.some.inj H
       have hnb167 := NB114_113.out
       have hnc167 := NB113_114.out
       have hnb168 := NB114_120.out
       have hnc168 := NB120_114.out
       have hnb169 := NB114_126.out
       have hnc169 := NB126_114.out
       have hnb170 := NB114_134.out
       have hnc170 := NB134_114.out
       obtain ⟨hcz171_0, hcz171_1, hcz171_2, hcz171_3, hfz171_0, hfz171_1, hfz171_2, hfz171_3⟩ := blk4_ BK114.out
       have hnb172 := NB113_120.out
       have hnc172 := NB120_113.out
       have hnb173 := NB113_126.out
       have hnc173 := NB126_113.out
       have hnb174 := NB113_134.out
       have hnc174 := NB134_113.out
       obtain ⟨hcz175_0, hcz175_1, hcz175_2, hcz175_3, hfz175_0, hfz175_1, hfz175_2, hfz175_3⟩ := blk4_ BK113.out
       have hnb176 := NB134_120.out
       have hnc176 := NB120_134.out
       have hnb177 := NB134_126.out
       have hnc177 := NB126_134.out
       obtain ⟨hcz178_0, hcz178_1, hcz178_2, hcz178_3, hfz178_0, hfz178_1, hfz178_2, hfz178_3⟩ := blk4_ BK134.out
       go_wp2_with (first | (go_at_call 38; (with_reducible refine (impl_GapOf.calls k2 t127 t128 t129 _ _ t130 t107 t108 t109 _ _ t110 t135 _ ?side1 ?side2 ?side3 ?side4 A166.out).mono ?_); (case side1 => repeat (first | exact (Kd.Q_reads' HO_135003.out).2.2 | (with_reducible refine Kd.C_alloc ?_ _) | (with_reducible refine Kd.C_drewN ?_ _) | (with_reducible refine Kd.C_drew ?_))); (case side2 => exact (Kd.Q_reads' HO_135003.out).2.1); (case side3 => repeat (first | exact (Kd.Q_reads' HO_115003.out).2.2 | (with_reducible refine Kd.C_alloc ?_ _) | (with_reducible refine Kd.C_drewN ?_ _) | (with_reducible refine Kd.C_drew ?_))); (case side4 => exact (Kd.Q_reads' HO_115003.out).2.1); rintro e w179 ⟨rfl, hb⟩; replace HO_114003 := am_ (Kd.Q_below (by exact HO_114003.out) hb); replace HO_115003 := am_ (Kd.Q_below (by exact HO_115003.out) hb); replace HO_135003 := am_ (Kd.Q_below (by exact HO_135003.out) hb); replace BK113 := am_ (blk_below (by exact BK113.out) hb); replace BK114 := am_ (blk_below (by exact BK114.out) hb); replace BK120 := am_ (blk_below (by exact BK120.out) hb); replace BK126 := am_ (blk_below (by exact BK126.out) hb); replace BK134 := am_ (blk_below (by exact BK134.out) hb); replace HB := am_ (below_step (by repeat (first | (with_reducible first | exact HB.out | apply below_alloc | apply pw_below_drewN | apply below_drew1 | refine below_set ?_ GE113.out | refine below_set ?_ GE114.out | refine below_set ?_ GE120.out | refine below_set ?_ GE126.out | refine below_set ?_ GE134.out) | exact HB.out)) hb); (try clear hb); (try clear hb2); (try clear hk); (try clear hi)))
       go_ret
       exact ⟨by first | rfl | (simp [errW_none, errW_some] <;> rfl) | (simp [*, errW_none, errW_some] <;> rfl), by repeat (first | (with_reducible first | exact HB.out | apply below_alloc | apply pw_below_drewN | apply below_drew1 | refine below_set ?_ GE113.out | refine below_set ?_ GE114.out | refine below_set ?_ GE120.out | refine below_set ?_ GE126.out | refine below_set ?_ GE134.out) | exact HB.out)⟩
      replace c165 := Bool.eq_false_iff.mpr c165
      subst c165
      have H1 : (some false) = some r := by rw [if_neg (show ¬ (false = true) by decide)] at H; exact H
      clear H
      have H := H1
      clear H1
      obtain rfl := Option.some.inj H
      have hnb180 := NB114_113.out
      have hnc180 := NB113_114.out
      have hnb181 := NB114_120.out
      have hnc181 := NB120_114.out
      have hnb182 := NB114_126.out
      have hnc182 := NB126_114.out
      have hnb183 := NB114_134.out
      have hnc183 := NB134_114.out
      obtain ⟨hcz184_0, hcz184_1, hcz184_2, hcz184_3, hfz184_0, hfz184_1, hfz184_2, hfz184_3⟩ := blk4_ BK114.out
      have hnb185 := NB113_120.out
      have hnc185 := NB120_113.out
      have hnb186 := NB113_126.out
      have hnc186 := NB126_113.out
      have hnb187 := NB113_134.out
      have hnc187 := NB134_113.out
      obtain ⟨hcz188_0, hcz188_1, hcz188_2, hcz188_3, hfz188_0, hfz188_1, hfz188_2, hfz188_3⟩ := blk4_ BK113.out
      go_wp2
      go_ret
      exact ⟨by first | rfl | (simp [errW_none, errW_some] <;> rfl) | (simp [*, errW_none, errW_some] <;> rfl), by repeat (first | (with_reducible first | exact HB.out | apply below_alloc | apply pw_below_drewN | apply below_drew1 | refine below_set ?_ GE113.out | refine below_set ?_ GE114.out | refine below_set ?_ GE120.out | refine below_set ?_ GE126.out | refine below_set ?_ GE134.out) | exact HB.out)⟩
     rw [if_pos c83] at H
     have c83b0 : decide ((wrap64 (x11_2 + t108)) ≤ t102) = true := decide_eq_true c83
     clear c83
     have H' := Aside0.mk H
     clear H
     have hnb84 := NB114_113.out
     have hnc84 := NB113_114.out
     have hnb85 := NB114_120.out
     have hnc85 := NB120_114.out
     have hnb86 := NB114_126.out
     have hnc86 := NB126_114.out
     have hnb87 := NB114_134.out
     have hnc87 := NB134_114.out
     obtain ⟨hcz88_0, hcz88_1, hcz88_2, hcz88_3, hfz88_0, hfz88_1, hfz88_2, hfz88_3⟩ := blk4_ BK114.out
     have hnb89 := NB113_120.out
     have hnc89 := NB120_113.out
     have hnb90 := NB113_126.out
     have hnc90 := NB126_113.out
     have hnb91 := NB113_134.out
     have hnc91 := NB134_113.out
     obtain ⟨hcz92_0, hcz92_1, hcz92_2, hcz92_3, hfz92_0, hfz92_1, hfz92_2, hfz92_3⟩ := blk4_ BK113.out
     go_wp2
     go_loopg [12] k2 (fun kq v12 w' => ∃ (x12_3 : Int), v12 = .int .i64 x12_3 ∧ Aside0 (laws_FnFindImage.l1 kq t119 t133 x11_2 x12_3 t101 t102 t103 t104 t107 t108 t109 t110 t127 t128 t129 t130 = some r) ∧ Aside0 (kq ≤ k2) ∧ Aside0 (Kd.Q (Kd.int .i64) 3 w' w.heap.size (fun k_ => some k_ ≠ ((.slice Ao14 t110.length co14) : Value).ownBlock ∧ some k_ ≠ ((.slice Ao82 t130.length co82) : Value).ownBlock) (.slice Ao12 t104.length co12) t104) ∧ Aside0 (Kd.Q (Kd.int .i64) 3 w' w.heap.size (fun k_ => some k_ ≠ ((.slice Ao12 t104.length co12) : Value).ownBlock ∧ some k_ ≠ ((.slice Ao82 t130.length co82) : Value).ownBlock) (.slice Ao14 t110.length co14) t110) ∧ Aside0 (Kd.Q (Kd.int .i64) 3 w' w.heap.size (fun k_ => some k_ ≠ ((.slice Ao12 t104.length co12) : Value).ownBlock ∧ some k_ ≠ ((.slice Ao14 t110.length co14) : Value).ownBlock) (.slice Ao82 t130.length co82) t130) ∧ Aside0 (w'.heap[gb113]? = some (.cells #[.int .i64 t101, .int .i64 t102, .int .i64 t103, (.slice Ao12 t104.length co12)] 26 (0, 0))) ∧ Aside0 (w'.heap[gb114]? = some (.cells #[.int .i64 t107, .int .i64 t108, .int .i64 t109, (.slice Ao14 t110.length co14)] 26 (0, 0))) ∧ Aside0 (w'.heap[gb120]? = some (.cells #[.int .i64 t115, .int .i64 t116, .int .i64 t117, .int .i64 t118] 40 (0, 0))) ∧ Aside0 (w'.heap[gb126]? = some (.cells #[.int .i64 t121, .int .i64 t122, .int .i64 t123, .int .i64 t124] 40 (0, 0))) ∧ Aside0 (w'.heap[gb134]? = some (.cells #[.int .i64 t127, .int .i64 t128, .int .i64 t129, (.slice Ao82 t130.length co82)] 26 (0, 0))) ∧ Aside0 (Below w.heap.size w w'))
     case atStart => exact ⟨(0), (by first | rfl | (simp; done) | (simp [*]; done)), H', ⟨Nat.le_refl _⟩, ⟨by exact HO_114003.out⟩, ⟨by exact HO_115003.out⟩, ⟨by exact HO_135003.out⟩, ⟨by exact BK113.out⟩, ⟨by exact BK114.out⟩, ⟨by exact BK120.out⟩, ⟨by exact BK126.out⟩, ⟨by exact BK134.out⟩, ⟨by repeat (first | (with_reducible first | exact HB.out | apply below_alloc | apply pw_below_drewN | apply below_drew1 | refine below_set ?_ GE113.out | refine below_set ?_ GE114.out | refine below_set ?_ GE120.out | refine below_set ?_ GE126.out | refine below_set ?_ GE134.out) | exact HB.out)⟩⟩
     case round =>
      clear H'
      try clear c1
      try clear c2
      try clear c2b0
      try clear c2b1
      try clear p2
      try clear c3
      try clear c4
      try clear c5
      try clear c6
      try clear p6
      try clear c7
      try clear c8
      try clear c9
      try clear c10
      try clear c17
      try clear c18
      try clear c24
      try clear c25
      try clear c26
      try clear c28
      try clear c28b0
      try clear c29
      try clear c30
      try clear c31
      try clear c33
      try clear c34
      try clear c35
      try clear c36
      try clear c36b0
      try clear c36b1
      try clear c37
      try clear c38
      try clear c39
      try clear c41
      try clear c42
      try clear c44
      try clear c45
      try clear c46
      try clear c48
      try clear c49
      try clear c51
      try clear c52
      try clear c52b0
      try clear c52b1
      try clear c52b2
      try clear c53
      try clear c54
      try clear c55
      try clear c57
      try clear c58
      try clear c60
      try clear c61
      try clear c62
      try clear c64
      try clear p64
      try clear c65
      try clear c68
      try clear c69
      try clear c70
      try clear c72
      try clear c73
      try clear c77
      try clear c78
      try clear c79
      try clear c80
      try clear c83
      try clear c83b0
      try clear c84
      try clear c85
      try clear c86
      try clear c87
      try clear c89
      try clear c90
      try clear c91
      try clear hcz11_0
      try clear hcz11_1
      try clear hcz11_2
      try clear hcz11_3
      try clear hcz13_0
      try clear hcz13_1
      try clear hcz13_2
      try clear hcz13_3
      try clear hcz19_0
      try clear hcz19_1
      try clear hcz19_2
      try clear hcz19_3
      try clear hcz20_0
      try clear hcz20_1
      try clear hcz20_2
      try clear hcz20_3
      try clear hcz21_0
      try clear hcz21_1
      try clear hcz21_2
      try clear hcz21_3
      try clear hcz27_0
      try clear hcz27_1
      try clear hcz27_2
      try clear hcz27_3
      try clear hcz32_0
      try clear hcz32_1
      try clear hcz32_2
      try clear hcz32_3
      try clear hcz35_0
      try clear hcz35_1
      try clear hcz35_2
      try clear hcz35_3
      try clear hcz40_0
      try clear hcz40_1
      try clear hcz40_2
      try clear hcz40_3
      try clear hcz43_0
      try clear hcz43_1
      try clear hcz43_2
      try clear hcz43_3
      try clear hcz47_0
      try clear hcz47_1
      try clear hcz47_2
      try clear hcz47_3
      try clear hcz50_0
      try clear hcz50_1
      try clear hcz50_2
      try clear hcz50_3
      try clear hcz56_0
      try clear hcz56_1
      try clear hcz56_2
      try clear hcz56_3
      try clear hcz59_0
      try clear hcz59_1
      try clear hcz59_2
      try clear hcz59_3
      try clear hcz63_0
      try clear hcz63_1
      try clear hcz63_2
      try clear hcz63_3
      try clear hcz66_0
      try clear hcz66_1
      try clear hcz66_2
      try clear hcz66_3
      try clear hcz71_0
      try clear hcz71_1
      try clear hcz71_2
      try clear hcz71_3
      try clear hcz74_0
      try clear hcz74_1
      try clear hcz74_2
      try clear hcz74_3
      try clear hcz81_0
      try clear hcz81_1
      try clear hcz81_2
      try clear hcz81_3
      try clear hcz88_0
      try clear hcz88_1
      try clear hcz88_2
      try clear hcz88_3
      try clear hcz92_0
      try clear hcz92_1
      try clear hcz92_2
      try clear hcz92_3
      try clear hfz11_0
      try clear hfz11_1
      try clear hfz11_2
      try clear hfz11_3
      try clear hfz13_0
      try clear hfz13_1
      try clear hfz13_2
      try clear hfz13_3
      try clear hfz19_0
      try clear hfz19_1
      try clear hfz19_2
      try clear hfz19_3
      try clear hfz20_0
      try clear hfz20_1
      try clear hfz20_2
      try clear hfz20_3
      try clear hfz21_0
      try clear hfz21_1
      try clear hfz21_2
      try clear hfz21_3
      try clear hfz27_0
      try clear hfz27_1
      try clear hfz27_2
      try clear hfz27_3
      try clear hfz32_0
      try clear hfz32_1
      try clear hfz32_2
      try clear hfz32_3
      try clear hfz35_0
      try clear hfz35_1
      try clear hfz35_2
      try clear hfz35_3
      try clear hfz40_0
      try clear hfz40_1
      try clear hfz40_2
      try clear hfz40_3
      try clear hfz43_0
      try clear hfz43_1
      try clear hfz43_2
      try clear hfz43_3
      try clear hfz47_0
      try clear hfz47_1
      try clear hfz47_2
      try clear hfz47_3
      try clear hfz50_0
      try clear hfz50_1
      try clear hfz50_2
      try clear hfz50_3
      try clear hfz56_0
      try clear hfz56_1
      try clear hfz56_2
      try clear hfz56_3
      try clear hfz59_0
      try clear hfz59_1
      try clear hfz59_2
      try clear hfz59_3
      try clear hfz63_0
      try clear hfz63_1
      try clear hfz63_2
      try clear hfz63_3
      try clear hfz66_0
      try clear hfz66_1
      try clear hfz66_2
      try clear hfz66_3
      try clear hfz71_0
      try clear hfz71_1
      try clear hfz71_2
      try clear hfz71_3
      try clear hfz74_0
      try clear hfz74_1
      try clear hfz74_2
      try clear hfz74_3
      try clear hfz81_0
      try clear hfz81_1
      try clear hfz81_2
      try clear hfz81_3
      try clear hfz88_0
      try clear hfz88_1
      try clear hfz88_2
      try clear hfz88_3
      try clear hfz92_0
      try clear hfz92_1
      try clear hfz92_2
      try clear hfz92_3
      try clear p2
      obtain ⟨x12_3, rfl, HA, HK3, HO_114003, HO_115003, HO_135003, BK113, BK114, BK120, BK126, BK134, HB⟩ := hrel
      cases gk with
      | zero => exact absurd HA.out (by simp [laws_FnFindImage.l1])
      | succ k3 =>
       have H := HA.out
       clear HA
       simp only [laws_FnFindImage.l1] at H
       by_cases c93 : (wrap64 (x12_3 + t107)) ≤ t101
       rotate_left
       ·
        rw [if_neg c93] at H
        have c93b0 : decide ((wrap64 (x12_3 + t107)) ≤ t101) = false := decide_eq_false c93
        clear c93
        have H' := Aside0.mk H
        clear H
        have hnb156 := NB114_113.out
        have hnc156 := NB113_114.out
        have hnb157 := NB114_120.out
        have hnc157 := NB120_114.out
        have hnb158 := NB114_126.out
        have hnc158 := NB126_114.out
        have hnb159 := NB114_134.out
        have hnc159 := NB134_114.out
        obtain ⟨hcz160_0, hcz160_1, hcz160_2, hcz160_3, hfz160_0, hfz160_1, hfz160_2, hfz160_3⟩ := blk4_ BK114.out
        have hnb161 := NB113_120.out
        have hnc161 := NB120_113.out
        have hnb162 := NB113_126.out
        have hnc162 := NB126_113.out
        have hnb163 := NB113_134.out
        have hnc163 := NB134_113.out
        obtain ⟨hcz164_0, hcz164_1, hcz164_2, hcz164_3, hfz164_0, hfz164_1, hfz164_2, hfz164_3⟩ := blk4_ BK113.out
        go_wp2
        go_roundg k3
        case measure => have := HJ5.out; have := HK2.out; have := HK3.out; omega
        case rel => exact ⟨(wrap64 (x11_2 + 1)), (by first | rfl | (simp; done) | (simp [*]; done)), H', ⟨by have := HJ5.out; have := HK2.out; have := HK3.out; omega⟩, ⟨by exact HO_114003.out⟩, ⟨by exact HO_115003.out⟩, ⟨by exact HO_135003.out⟩, ⟨by exact BK113.out⟩, ⟨by exact BK114.out⟩, ⟨by exact BK120.out⟩, ⟨by exact BK126.out⟩, ⟨by exact BK134.out⟩, ⟨by repeat (first | (with_reducible first | exact HB.out | apply below_alloc | apply pw_below_drewN | apply below_drew1 | refine below_set ?_ GE113.out | refine below_set ?_ GE114.out | refine below_set ?_ GE120.out | refine below_set ?_ GE126.out | refine below_set ?_ GE134.out) | exact HB.out)⟩⟩
       rw [if_pos c93] at H
       have c93b0 : decide ((wrap64 (x12_3 + t107)) ≤ t101) = true := decide_eq_true c93
       clear c93
       replace H := Option.bind_eq_some_iff.mp H
       obtain ⟨⟨t136, t137, t138, t139, t142⟩, A940, H⟩ := H
       replace H : (if t142 = true then ((impl_GapOf.f k3 t136 t137 t138 t139 t107 t108 t109 t110).bind fun t144 => (if t144 < t119 then (some false) else (laws_FnFindImage.l1 k3 t119 t133 x11_2 (wrap64 (x12_3 + 1)) t101 t102 t103 t104 t107 t108 t109 t110 t127 t128 t129 t130))) else (some false)) = some r := H
       have A94 := Aside0.mk A940
       clear A940
       by_cases c95 : t142 = true
       rotate_left
       ·
        replace c95 := Bool.eq_false_iff.mpr c95
        subst c95
        have H1 : (some false) = some r := by rw [if_neg (show ¬ (false = true) by decide)] at H; exact H
        clear H
        have H := H1
        clear H1
        obtain rfl := Option.some.inj H
        have hnb138 := NB114_113.out
        have hnc138 := NB113_114.out
        have hnb139 := NB114_120.out
        have hnc139 := NB120_114.out
        have hnb140 := NB114_126.out
        have hnc140 := NB126_114.out
        have hnb141 := NB114_134.out
        have hnc141 := NB134_114.out
        obtain ⟨hcz142_0, hcz142_1, hcz142_2, hcz142_3, hfz142_0, hfz142_1, hfz142_2, hfz142_3⟩ := blk4_ BK114.out
        have hnb143 := NB113_120.out
        have hnc143 := NB120_113.out
        have hnb144 := NB113_126.out
        have hnc144 := NB126_113.out
        have hnb145 := NB113_134.out
        have hnc145 := NB134_113.out
        obtain ⟨hcz146_0, hcz146_1, hcz146_2, hcz146_3, hfz146_0, hfz146_1, hfz146_2, hfz146_3⟩ := blk4_ BK113.out
        go_wp2_with (first | ((with_reducible refine gate_callee (f := 25) rfl ?_); refine goesL_ (some 88) rfl rfl Try.func25 (by kernel_rfl) rfl #[.agg #[.int .i64 t101, .int .i64 t102, .int .i64 t103, .slice Ao12 t104.length co12], .agg #[.int .i64 x12_3, .int .i64 x11_2, .int .i64 t107, .int .i64 t108]] rfl (by simp only [List.map_toArray, List.map_cons, List.map_nil]; rfl) ?_; (with_reducible refine (impl_CropImage.calls t101 t102 t103 _ _ t104 x12_3 x11_2 t107 t108 t136 t137 t138 t139 false _ ?side1 ?side2 A94.out).mono ?_); (case side1 => repeat (first | exact (Kd.Q_reads' HO_114003.out).2.2 | (with_reducible refine Kd.C_alloc ?_ _) | (with_reducible refine Kd.C_drewN ?_ _) | (with_reducible refine Kd.C_drew ?_))); (case side2 => exact (Kd.Q_reads' HO_114003.out).2.1); rintro e w147 ⟨v140, rfl, ho0, hb⟩; refine ⟨_, rfl, ?_⟩; have HO141 := am_ (Kd.R_lower (Kd.R_new' (Kd.R_new' (Kd.R_new' ho0 (Kd.Q_lt (by exact HO_114003.out))) (Kd.Q_lt (by exact HO_115003.out))) (Kd.Q_lt (by exact HO_135003.out))) (below_size (by repeat (first | (with_reducible first | exact HB.out | apply below_alloc | apply pw_below_drewN | apply below_drew1 | refine below_set ?_ GE113.out | refine below_set ?_ GE114.out | refine below_set ?_ GE120.out | refine below_set ?_ GE126.out | refine below_set ?_ GE134.out) | exact HB.out)))); replace HO_114003 := am_ (Kd.Q_elder' (by exact HO_114003.out) (Kd.R_base ho0) hb); replace HO_115003 := am_ (Kd.Q_elder' (by exact HO_115003.out) (Kd.R_base ho0) hb); replace HO_135003 := am_ (Kd.Q_elder' (by exact HO_135003.out) (Kd.R_base ho0) hb); replace BK113 := am_ (blk_below (by exact BK113.out) hb); replace BK114 := am_ (blk_below (by exact BK114.out) hb); replace BK120 := am_ (blk_below (by exact BK120.out) hb); replace BK126 := am_ (blk_below (by exact BK126.out) hb); replace BK134 := am_ (blk_below (by exact BK134.out) hb); replace HB := am_ (below_step (by repeat (first | (with_reducible first | exact HB.out | apply below_alloc | apply pw_below_drewN | apply below_drew1 | refine below_set ?_ GE113.out | refine below_set ?_ GE114.out | refine below_set ?_ GE120.out | refine below_set ?_ GE126.out | refine below_set ?_ GE134.out) | exact HB.out)) hb); (try clear hb); (try clear hb2); (try clear hk); (try clear hi); (try clear ho0)) | ((with_reducible refine gate_dst (N := 13) rfl ?_); refine box_event ?hg (N := 13) ?hd (cs := #[.int .i64 0, .int .i64 0, .int .i64 0, .slice none 0 0]) (t := 26) ?hr ?_; (case hd => rfl); (case hg => rfl); (case hr => first | (go_simp; done) | (go_simp; rfl)); intro gb143 hg w148 hbox hb; replace HO_114003 := am_ (Kd.Q_below (by exact HO_114003.out) hb); replace HO_115003 := am_ (Kd.Q_below (by exact HO_115003.out) hb); replace HO_135003 := am_ (Kd.Q_below (by exact HO_135003.out) hb); replace HO141 := am_ (Kd.R_below (by exact HO141.out) hb); have BK143 := am_ (hbox); have GW143 := am_ ((by rw [hg]; exact (below_size (by repeat (first | (with_reducible first | exact HB.out | apply below_alloc | apply pw_below_drewN | apply below_drew1 | refine below_set ?_ GE113.out | refine below_set ?_ GE114.out | refine below_set ?_ GE120.out | refine below_set ?_ GE126.out | refine below_set ?_ GE134.out) | exact HB.out))) : w.heap.size ≤ gb143)); have GE143 := GW143; replace HB := am_ (below_step (by repeat (first | (with_reducible first | exact HB.out | apply below_alloc | apply pw_below_drewN | apply below_drew1 | refine below_set ?_ GE113.out | refine below_set ?_ GE114.out | refine below_set ?_ GE120.out | refine below_set ?_ GE126.out | refine below_set ?_ GE134.out) | exact HB.out)) hb); have NB113_143 := am_ ((by rw [hg]; exact Nat.ne_of_lt (blk_lt (by exact BK113.out)) : gb113 ≠ gb143)); have NB143_113 := am_ ((by rw [hg]; exact Nat.ne_of_gt (blk_lt (by exact BK113.out)) : gb143 ≠ gb113)); replace BK113 := am_ (blk_below (by exact BK113.out) hb); have NB114_143 := am_ ((by rw [hg]; exact Nat.ne_of_lt (blk_lt (by exact BK114.out)) : gb114 ≠ gb143)); have NB143_114 := am_ ((by rw [hg]; exact Nat.ne_of_gt (blk_lt (by exact BK114.out)) : gb143 ≠ gb114)); replace BK114 := am_ (blk_below (by exact BK114.out) hb); have NB120_143 := am_ ((by rw [hg]; exact Nat.ne_of_lt (blk_lt (by exact BK120.out)) : gb120 ≠ gb143)); have NB143_120 := am_ ((by rw [hg]; exact Nat.ne_of_gt (blk_lt (by exact BK120.out)) : gb143 ≠ gb120)); replace BK120 := am_ (blk_below (by exact BK120.out) hb); have NB126_143 := am_ ((by rw [hg]; exact Nat.ne_of_lt (blk_lt (by exact BK126.out)) : gb126 ≠ gb143)); have NB143_126 := am_ ((by rw [hg]; exact Nat.ne_of_gt (blk_lt (by exact BK126.out)) : gb143 ≠ gb126)); replace BK126 := am_ (blk_below (by exact BK126.out) hb); have NB134_143 := am_ ((by rw [hg]; exact Nat.ne_of_lt (blk_lt (by exact BK134.out)) : gb134 ≠ gb143)); have NB143_134 := am_ ((by rw [hg]; exact Nat.ne_of_gt (blk_lt (by exact BK134.out)) : gb143 ≠ gb134)); replace BK134 := am_ (blk_below (by exact BK134.out) hb); clear hb hbox hg; have hnb149 := NB143_113.out; have hnc149 := NB113_143.out; have hnb150 := NB143_114.out; have hnc150 := NB114_143.out; have hnb151 := NB143_120.out; have hnc151 := NB120_143.out; have hnb152 := NB143_126.out; have hnc152 := NB126_143.out; have hnb153 := NB143_134.out; have hnc153 := NB134_143.out; obtain ⟨hcz154_0, hcz154_1, hcz154_2, hcz154_3, hfz154_0, hfz154_1, hfz154_2, hfz154_3⟩ := blk4_ BK143.out; obtain ⟨Ao155, co155, eo155⟩ := Kd.R_slice HO141.out; subst eo155))
        go_ret
        exact ⟨by first | rfl | (simp [errW_none, errW_some] <;> rfl) | (simp [*, errW_none, errW_some] <;> rfl), by repeat (first | (with_reducible first | exact HB.out | apply below_alloc | apply pw_below_drewN | apply below_drew1 | refine below_set ?_ GE113.out | refine below_set ?_ GE114.out | refine below_set ?_ GE120.out | refine below_set ?_ GE126.out | refine below_set ?_ GE134.out | refine below_set ?_ GE143.out) | exact HB.out)⟩
       subst c95
       have H1 : ((impl_GapOf.f k3 t136 t137 t138 t139 t107 t108 t109 t110).bind fun t144 => (if t144 < t119 then (some false) else (laws_FnFindImage.l1 k3 t119 t133 x11_2 (wrap64 (x12_3 + 1)) t101 t102 t103 t104 t107 t108 t109 t110 t127 t128 t129 t130))) = some r := by rw [if_pos rfl] at H; exact H
       clear H
       have H := H1
       clear H1
       replace H := Option.bind_eq_some_iff.mp H
       obtain ⟨t144, A960, H⟩ := H
       replace H : (if t144 < t119 then (some false) else (laws_FnFindImage.l1 k3 t119 t133 x11_2 (wrap64 (x12_3 + 1)) t101 t102 t103 t104 t107 t108 t109 t110 t127 t128 t129 t130)) = some r := H
       have A96 := Aside0.mk A960
       clear A960
       by_cases c97 : t144 < t119
       ·
        rw [if_pos c97] at H
        have c97b0 : decide (t144 < t119) = true := decide_eq_true c97
        clear c97
        obtain rfl := Option.some.inj H
        have hnb98 := NB114_113.out
        have hnc98 := NB113_114.out
        have hnb99 := NB114_120.out
        have hnc99 := NB120_114.out
        have hnb100 := NB114_126.out
        have hnc100 := NB126_114.out
        have hnb101 := NB114_134.out
        have hnc101 := NB134_114.out
        obtain ⟨hcz102_0, hcz102_1, hcz102_2, hcz102_3, hfz102_0, hfz102_1, hfz102_2, hfz102_3⟩ := blk4_ BK114.out
        have hnb103 := NB113_120.out
        have hnc103 := NB120_113.out
        have hnb104 := NB113_126.out
        have hnc104 := NB126_113.out
        have hnb105 := NB113_134.out
        have hnc105 := NB134_113.out
        obtain ⟨hcz106_0, hcz106_1, hcz106_2, hcz106_3, hfz106_0, hfz106_1, hfz106_2, hfz106_3⟩ := blk4_ BK113.out
        go_wp2_with (first | ((with_reducible refine gate_callee (f := 25) rfl ?_); refine goesL_ (some 88) rfl rfl Try.func25 (by kernel_rfl) rfl #[.agg #[.int .i64 t101, .int .i64 t102, .int .i64 t103, .slice Ao12 t104.length co12], .agg #[.int .i64 x12_3, .int .i64 x11_2, .int .i64 t107, .int .i64 t108]] rfl (by simp only [List.map_toArray, List.map_cons, List.map_nil]; rfl) ?_; (with_reducible refine (impl_CropImage.calls t101 t102 t103 _ _ t104 x12_3 x11_2 t107 t108 t136 t137 t138 t139 true _ ?side1 ?side2 A94.out).mono ?_); (case side1 => repeat (first | exact (Kd.Q_reads' HO_114003.out).2.2 | (with_reducible refine Kd.C_alloc ?_ _) | (with_reducible refine Kd.C_drewN ?_ _) | (with_reducible refine Kd.C_drew ?_))); (case side2 => exact (Kd.Q_reads' HO_114003.out).2.1); rintro e w107 ⟨v140, rfl, ho0, hb⟩; refine ⟨_, rfl, ?_⟩; have HO141 := am_ (Kd.R_lower (Kd.R_new' (Kd.R_new' (Kd.R_new' ho0 (Kd.Q_lt (by exact HO_114003.out))) (Kd.Q_lt (by exact HO_115003.out))) (Kd.Q_lt (by exact HO_135003.out))) (below_size (by repeat (first | (with_reducible first | exact HB.out | apply below_alloc | apply pw_below_drewN | apply below_drew1 | refine below_set ?_ GE113.out | refine below_set ?_ GE114.out | refine below_set ?_ GE120.out | refine below_set ?_ GE126.out | refine below_set ?_ GE134.out) | exact HB.out)))); replace HO_114003 := am_ (Kd.Q_elder' (by exact HO_114003.out) (Kd.R_base ho0) hb); replace HO_115003 := am_ (Kd.Q_elder' (by exact HO_115003.out) (Kd.R_base ho0) hb); replace HO_135003 := am_ (Kd.Q_elder' (by exact HO_135003.out) (Kd.R_base ho0) hb); replace BK113 := am_ (blk_below (by exact BK113.out) hb); replace BK114 := am_ (blk_below (by exact BK114.out) hb); replace BK120 := am_ (blk_below (by exact BK120.out) hb); replace BK126 := am_ (blk_below (by exact BK126.out) hb); replace BK134 := am_ (blk_below (by exact BK134.out) hb); replace HB := am_ (below_step (by repeat (first | (with_reducible first | exact HB.out | apply below_alloc | apply pw_below_drewN | apply below_drew1 | refine below_set ?_ GE113.out | refine below_set ?_ GE114.out | refine below_set ?_ GE120.out | refine below_set ?_ GE126.out | refine below_set ?_ GE134.out) | exact HB.out)) hb); (try clear hb); (try clear hb2); (try clear hk); (try clear hi); (try clear ho0)) | ((with_reducible refine gate_dst (N := 13) rfl ?_); refine box_event ?hg (N := 13) ?hd (cs := #[.int .i64 0, .int .i64 0, .int .i64 0, .slice none 0 0]) (t := 26) ?hr ?_; (case hd => rfl); (case hg => rfl); (case hr => first | (go_simp; done) | (go_simp; rfl)); intro gb143 hg w108 hbox hb; replace HO_114003 := am_ (Kd.Q_below (by exact HO_114003.out) hb); replace HO_115003 := am_ (Kd.Q_below (by exact HO_115003.out) hb); replace HO_135003 := am_ (Kd.Q_below (by exact HO_135003.out) hb); replace HO141 := am_ (Kd.R_below (by exact HO141.out) hb); have BK143 := am_ (hbox); have GW143 := am_ ((by rw [hg]; exact (below_size (by repeat (first | (with_reducible first | exact HB.out | apply below_alloc | apply pw_below_drewN | apply below_drew1 | refine below_set ?_ GE113.out | refine below_set ?_ GE114.out | refine below_set ?_ GE120.out | refine below_set ?_ GE126.out | refine below_set ?_ GE134.out) | exact HB.out))) : w.heap.size ≤ gb143)); have GE143 := GW143; replace HB := am_ (below_step (by repeat (first | (with_reducible first | exact HB.out | apply below_alloc | apply pw_below_drewN | apply below_drew1 | refine below_set ?_ GE113.out | refine below_set ?_ GE114.out | refine below_set ?_ GE120.out | refine below_set ?_ GE126.out | refine below_set ?_ GE134.out) | exact HB.out)) hb); have NB113_143 := am_ ((by rw [hg]; exact Nat.ne_of_lt (blk_lt (by exact BK113.out)) : gb113 ≠ gb143)); have NB143_113 := am_ ((by rw [hg]; exact Nat.ne_of_gt (blk_lt (by exact BK113.out)) : gb143 ≠ gb113)); replace BK113 := am_ (blk_below (by exact BK113.out) hb); have NB114_143 := am_ ((by rw [hg]; exact Nat.ne_of_lt (blk_lt (by exact BK114.out)) : gb114 ≠ gb143)); have NB143_114 := am_ ((by rw [hg]; exact Nat.ne_of_gt (blk_lt (by exact BK114.out)) : gb143 ≠ gb114)); replace BK114 := am_ (blk_below (by exact BK114.out) hb); have NB120_143 := am_ ((by rw [hg]; exact Nat.ne_of_lt (blk_lt (by exact BK120.out)) : gb120 ≠ gb143)); have NB143_120 := am_ ((by rw [hg]; exact Nat.ne_of_gt (blk_lt (by exact BK120.out)) : gb143 ≠ gb120)); replace BK120 := am_ (blk_below (by exact BK120.out) hb); have NB126_143 := am_ ((by rw [hg]; exact Nat.ne_of_lt (blk_lt (by exact BK126.out)) : gb126 ≠ gb143)); have NB143_126 := am_ ((by rw [hg]; exact Nat.ne_of_gt (blk_lt (by exact BK126.out)) : gb143 ≠ gb126)); replace BK126 := am_ (blk_below (by exact BK126.out) hb); have NB134_143 := am_ ((by rw [hg]; exact Nat.ne_of_lt (blk_lt (by exact BK134.out)) : gb134 ≠ gb143)); have NB143_134 := am_ ((by rw [hg]; exact Nat.ne_of_gt (blk_lt (by exact BK134.out)) : gb143 ≠ gb134)); replace BK134 := am_ (blk_below (by exact BK134.out) hb); clear hb hbox hg; have hnb109 := NB143_113.out; have hnc109 := NB113_143.out; have hnb110 := NB143_114.out; have hnc110 := NB114_143.out; have hnb111 := NB143_120.out; have hnc111 := NB120_143.out; have hnb112 := NB143_126.out; have hnc112 := NB126_143.out; have hnb113 := NB143_134.out; have hnc113 := NB134_143.out; obtain ⟨hcz114_0, hcz114_1, hcz114_2, hcz114_3, hfz114_0, hfz114_1, hfz114_2, hfz114_3⟩ := blk4_ BK143.out; obtain ⟨Ao115, co115, eo115⟩ := Kd.R_slice HO141.out; subst eo115; obtain ⟨hcz116_0, hcz116_1, hcz116_2, hcz116_3, hfz116_0, hfz116_1, hfz116_2, hfz116_3⟩ := blk4_ BK114.out) | (go_at_call 38; (with_reducible refine (impl_GapOf.calls k3 t136 t137 t138 _ _ t139 t107 t108 t109 _ _ t110 t144 _ ?side1 ?side2 ?side3 ?side4 A96.out).mono ?_); (case side1 => refine (Kd.R_reads' (e := 3) (base := w.heap.size) (ok := fun k_ => (((True ∧ some k_ ≠ (.slice Ao12 t104.length co12 : Value).ownBlock) ∧ some k_ ≠ (.slice Ao14 t110.length co14 : Value).ownBlock) ∧ some k_ ≠ (.slice Ao82 t130.length co82 : Value).ownBlock)) (n := t139.length) (c := co115) ?_).2.2; exact (by exact (R4_ HO141.out BK143.out (by decide) _ _ _ _))); (case side2 => exact (Kd.R_reads' HO141.out).2.1); (case side3 => refine (Kd.Q_reads' (e := 3) (base := w.heap.size) (ok := fun k_ => ((some k_ ≠ (.slice Ao12 t104.length co12 : Value).ownBlock ∧ some k_ ≠ (.slice Ao82 t130.length co82 : Value).ownBlock) ∧ some k_ ≠ (.slice Ao115 t139.length co115 : Value).ownBlock)) (n := t110.length) (c := co14) ?_).2.2; exact (by exact (Q4_ HO_115003.out BK143.out (by decide) _ _ _ _))); (case side4 => exact (Kd.Q_reads' HO_115003.out).2.1); rintro e w117 ⟨rfl, hb⟩; replace HO_114003 := am_ (Kd.Q_below (by exact (Q4_ HO_114003.out BK143.out (by decide) _ _ _ _)) hb); replace HO_115003 := am_ (Kd.Q_below (by exact (Q4_ HO_115003.out BK143.out (by decide) _ _ _ _)) hb); replace HO_135003 := am_ (Kd.Q_below (by exact (Q4_ HO_135003.out BK143.out (by decide) _ _ _ _)) hb); replace HO141 := am_ (Kd.R_below (by exact (R4_ HO141.out BK143.out (by decide) _ _ _ _)) hb); replace BK113 := am_ (blk_below (by exact far4_ BK113.out NB113_143.out _ _ _ _) hb); replace BK114 := am_ (blk_below (by exact far4_ BK114.out NB114_143.out _ _ _ _) hb); replace BK120 := am_ (blk_below (by exact far4_ BK120.out NB120_143.out _ _ _ _) hb); replace BK126 := am_ (blk_below (by exact far4_ BK126.out NB126_143.out _ _ _ _) hb); replace BK134 := am_ (blk_below (by exact far4_ BK134.out NB134_143.out _ _ _ _) hb); replace BK143 := am_ (blk_below (by exact put4_ BK143.out _ _ _ _) hb); replace HB := am_ (below_step (by repeat (first | (with_reducible first | exact HB.out | apply below_alloc | apply pw_below_drewN | apply below_drew1 | refine below_set ?_ GE113.out | refine below_set ?_ GE114.out | refine below_set ?_ GE120.out | refine below_set ?_ GE126.out | refine below_set ?_ GE134.out | refine below_set ?_ GE143.out) | exact HB.out)) hb); (try clear hb); (try clear hb2); (try clear hk); (try clear hi)))
        go_ret
        exact ⟨by first | rfl | (simp [errW_none, errW_some] <;> rfl) | (simp [*, errW_none, errW_some] <;> rfl), by repeat (first | (with_reducible first | exact HB.out | apply below_alloc | apply pw_below_drewN | apply below_drew1 | refine below_set ?_ GE113.out | refine below_set ?_ GE114.out | refine below_set ?_ GE120.out | refine below_set ?_ GE126.out | refine below_set ?_ GE134.out | refine below_set ?_ GE143.out) | exact HB.out)⟩
       rw [if_neg c97] at H
       have c97b0 : decide (t144 < t119) = false := decide_eq_false c97
       clear c97
       have H' := Aside0.mk H
       clear H
       have hnb118 := NB114_113.out
       have hnc118 := NB113_114.out
       have hnb119 := NB114_120.out
       have hnc119 := NB120_114.out
       have hnb120 := NB114_126.out
       have hnc120 := NB126_114.out
       have hnb121 := NB114_134.out
       have hnc121 := NB134_114.out
       obtain ⟨hcz122_0, hcz122_1, hcz122_2, hcz122_3, hfz122_0, hfz122_1, hfz122_2, hfz122_3⟩ := blk4_ BK114.out
       have hnb123 := NB113_120.out
       have hnc123 := NB120_113.out
       have hnb124 := NB113_126.out
       have hnc124 := NB126_113.out
       have hnb125 := NB113_134.out
       have hnc125 := NB134_113.out
       obtain ⟨hcz126_0, hcz126_1, hcz126_2, hcz126_3, hfz126_0, hfz126_1, hfz126_2, hfz126_3⟩ := blk4_ BK113.out
       go_wp2_with (first | ((with_reducible refine gate_callee (f := 25) rfl ?_); refine goesL_ (some 88) rfl rfl Try.func25 (by kernel_rfl) rfl #[.agg #[.int .i64 t101, .int .i64 t102, .int .i64 t103, .slice Ao12 t104.length co12], .agg #[.int .i64 x12_3, .int .i64 x11_2, .int .i64 t107, .int .i64 t108]] rfl (by simp only [List.map_toArray, List.map_cons, List.map_nil]; rfl) ?_; (with_reducible refine (impl_CropImage.calls t101 t102 t103 _ _ t104 x12_3 x11_2 t107 t108 t136 t137 t138 t139 true _ ?side1 ?side2 A94.out).mono ?_); (case side1 => repeat (first | exact (Kd.Q_reads' HO_114003.out).2.2 | (with_reducible refine Kd.C_alloc ?_ _) | (with_reducible refine Kd.C_drewN ?_ _) | (with_reducible refine Kd.C_drew ?_))); (case side2 => exact (Kd.Q_reads' HO_114003.out).2.1); rintro e w127 ⟨v140, rfl, ho0, hb⟩; refine ⟨_, rfl, ?_⟩; have HO141 := am_ (Kd.R_lower (Kd.R_new' (Kd.R_new' (Kd.R_new' ho0 (Kd.Q_lt (by exact HO_114003.out))) (Kd.Q_lt (by exact HO_115003.out))) (Kd.Q_lt (by exact HO_135003.out))) (below_size (by repeat (first | (with_reducible first | exact HB.out | apply below_alloc | apply pw_below_drewN | apply below_drew1 | refine below_set ?_ GE113.out | refine below_set ?_ GE114.out | refine below_set ?_ GE120.out | refine below_set ?_ GE126.out | refine below_set ?_ GE134.out) | exact HB.out)))); replace HO_114003 := am_ (Kd.Q_elder' (by exact HO_114003.out) (Kd.R_base ho0) hb); replace HO_115003 := am_ (Kd.Q_elder' (by exact HO_115003.out) (Kd.R_base ho0) hb); replace HO_135003 := am_ (Kd.Q_elder' (by exact HO_135003.out) (Kd.R_base ho0) hb); replace BK113 := am_ (blk_below (by exact BK113.out) hb); replace BK114 := am_ (blk_below (by exact BK114.out) hb); replace BK120 := am_ (blk_below (by exact BK120.out) hb); replace BK126 := am_ (blk_below (by exact BK126.out) hb); replace BK134 := am_ (blk_below (by exact BK134.out) hb); replace HB := am_ (below_step (by repeat (first | (with_reducible first | exact HB.out | apply below_alloc | apply pw_below_drewN | apply below_drew1 | refine below_set ?_ GE113.out | refine below_set ?_ GE114.out | refine below_set ?_ GE120.out | refine below_set ?_ GE126.out | refine below_set ?_ GE134.out) | exact HB.out)) hb); (try clear hb); (try clear hb2); (try clear hk); (try clear hi); (try clear ho0)) | ((with_reducible refine gate_dst (N := 13) rfl ?_); refine box_event ?hg (N := 13) ?hd (cs := #[.int .i64 0, .int .i64 0, .int .i64 0, .slice none 0 0]) (t := 26) ?hr ?_; (case hd => rfl); (case hg => rfl); (case hr => first | (go_simp; done) | (go_simp; rfl)); intro gb143 hg w128 hbox hb; replace HO_114003 := am_ (Kd.Q_below (by exact HO_114003.out) hb); replace HO_115003 := am_ (Kd.Q_below (by exact HO_115003.out) hb); replace HO_135003 := am_ (Kd.Q_below (by exact HO_135003.out) hb); replace HO141 := am_ (Kd.R_below (by exact HO141.out) hb); have BK143 := am_ (hbox); have GW143 := am_ ((by rw [hg]; exact (below_size (by repeat (first | (with_reducible first | exact HB.out | apply below_alloc | apply pw_below_drewN | apply below_drew1 | refine below_set ?_ GE113.out | refine below_set ?_ GE114.out | refine below_set ?_ GE120.out | refine below_set ?_ GE126.out | refine below_set ?_ GE134.out) | exact HB.out))) : w.heap.size ≤ gb143)); have GE143 := GW143; replace HB := am_ (below_step (by repeat (first | (with_reducible first | exact HB.out | apply below_alloc | apply pw_below_drewN | apply below_drew1 | refine below_set ?_ GE113.out | refine below_set ?_ GE114.out | refine below_set ?_ GE120.out | refine below_set ?_ GE126.out | refine below_set ?_ GE134.out) | exact HB.out)) hb); have NB113_143 := am_ ((by rw [hg]; exact Nat.ne_of_lt (blk_lt (by exact BK113.out)) : gb113 ≠ gb143)); have NB143_113 := am_ ((by rw [hg]; exact Nat.ne_of_gt (blk_lt (by exact BK113.out)) : gb143 ≠ gb113)); replace BK113 := am_ (blk_below (by exact BK113.out) hb); have NB114_143 := am_ ((by rw [hg]; exact Nat.ne_of_lt (blk_lt (by exact BK114.out)) : gb114 ≠ gb143)); have NB143_114 := am_ ((by rw [hg]; exact Nat.ne_of_gt (blk_lt (by exact BK114.out)) : gb143 ≠ gb114)); replace BK114 := am_ (blk_below (by exact BK114.out) hb); have NB120_143 := am_ ((by rw [hg]; exact Nat.ne_of_lt (blk_lt (by exact BK120.out)) : gb120 ≠ gb143)); have NB143_120 := am_ ((by rw [hg]; exact Nat.ne_of_gt (blk_lt (by exact BK120.out)) : gb143 ≠ gb120)); replace BK120 := am_ (blk_below (by exact BK120.out) hb); have NB126_143 := am_ ((by rw [hg]; exact Nat.ne_of_lt (blk_lt (by exact BK126.out)) : gb126 ≠ gb143)); have NB143_126 := am_ ((by rw [hg]; exact Nat.ne_of_gt (blk_lt (by exact BK126.out)) : gb143 ≠ gb126)); replace BK126 := am_ (blk_below (by exact BK126.out) hb); have NB134_143 := am_ ((by rw [hg]; exact Nat.ne_of_lt (blk_lt (by exact BK134.out)) : gb134 ≠ gb143)); have NB143_134 := am_ ((by rw [hg]; exact Nat.ne_of_gt (blk_lt (by exact BK134.out)) : gb143 ≠ gb134)); replace BK134 := am_ (blk_below (by exact BK134.out) hb); clear hb hbox hg; have hnb129 := NB143_113.out; have hnc129 := NB113_143.out; have hnb130 := NB143_114.out; have hnc130 := NB114_143.out; have hnb131 := NB143_120.out; have hnc131 := NB120_143.out; have hnb132 := NB143_126.out; have hnc132 := NB126_143.out; have hnb133 := NB143_134.out; have hnc133 := NB134_143.out; obtain ⟨hcz134_0, hcz134_1, hcz134_2, hcz134_3, hfz134_0, hfz134_1, hfz134_2, hfz134_3⟩ := blk4_ BK143.out; obtain ⟨Ao135, co135, eo135⟩ := Kd.R_slice HO141.out; subst eo135; obtain ⟨hcz136_0, hcz136_1, hcz136_2, hcz136_3, hfz136_0, hfz136_1, hfz136_2, hfz136_3⟩ := blk4_ BK114.out) | (go_at_call 38; (with_reducible refine (impl_GapOf.calls k3 t136 t137 t138 _ _ t139 t107 t108 t109 _ _ t110 t144 _ ?side1 ?side2 ?side3 ?side4 A96.out).mono ?_); (case side1 => refine (Kd.R_reads' (e := 3) (base := w.heap.size) (ok := fun k_ => (((True ∧ some k_ ≠ (.slice Ao12 t104.length co12 : Value).ownBlock) ∧ some k_ ≠ (.slice Ao14 t110.length co14 : Value).ownBlock) ∧ some k_ ≠ (.slice Ao82 t130.length co82 : Value).ownBlock)) (n := t139.length) (c := co135) ?_).2.2; exact (by exact (R4_ HO141.out BK143.out (by decide) _ _ _ _))); (case side2 => exact (Kd.R_reads' HO141.out).2.1); (case side3 => refine (Kd.Q_reads' (e := 3) (base := w.heap.size) (ok := fun k_ => ((some k_ ≠ (.slice Ao12 t104.length co12 : Value).ownBlock ∧ some k_ ≠ (.slice Ao82 t130.length co82 : Value).ownBlock) ∧ some k_ ≠ (.slice Ao135 t139.length co135 : Value).ownBlock)) (n := t110.length) (c := co14) ?_).2.2; exact (by exact (Q4_ HO_115003.out BK143.out (by decide) _ _ _ _))); (case side4 => exact (Kd.Q_reads' HO_115003.out).2.1); rintro e w137 ⟨rfl, hb⟩; replace HO_114003 := am_ (Kd.Q_below (by exact (Q4_ HO_114003.out BK143.out (by decide) _ _ _ _)) hb); replace HO_115003 := am_ (Kd.Q_below (by exact (Q4_ HO_115003.out BK143.out (by decide) _ _ _ _)) hb); replace HO_135003 := am_ (Kd.Q_below (by exact (Q4_ HO_135003.out BK143.out (by decide) _ _ _ _)) hb); replace HO141 := am_ (Kd.R_below (by exact (R4_ HO141.out BK143.out (by decide) _ _ _ _)) hb); replace BK113 := am_ (blk_below (by exact far4_ BK113.out NB113_143.out _ _ _ _) hb); replace BK114 := am_ (blk_below (by exact far4_ BK114.out NB114_143.out _ _ _ _) hb); replace BK120 := am_ (blk_below (by exact far4_ BK120.out NB120_143.out _ _ _ _) hb); replace BK126 := am_ (blk_below (by exact far4_ BK126.out NB126_143.out _ _ _ _) hb); replace BK134 := am_ (blk_below (by exact far4_ BK134.out NB134_143.out _ _ _ _) hb); replace BK143 := am_ (blk_below (by exact put4_ BK143.out _ _ _ _) hb); replace HB := am_ (below_step (by repeat (first | (with_reducible first | exact HB.out | apply below_alloc | apply pw_below_drewN | apply below_drew1 | refine below_set ?_ GE113.out | refine below_set ?_ GE114.out | refine below_set ?_ GE120.out | refine below_set ?_ GE126.out | refine below_set ?_ GE134.out | refine below_set ?_ GE143.out) | exact HB.out)) hb); (try clear hb); (try clear hb2); (try clear hk); (try clear hi)))
       go_roundg k3
       case measure => have := HJ5.out; have := HK2.out; have := HK3.out; omega
       case rel => exact ⟨(wrap64 (x12_3 + 1)), (by first | rfl | (simp; done) | (simp [*]; done)), H', ⟨by have := HJ5.out; have := HK2.out; have := HK3.out; omega⟩, ⟨by exact Kd.Q_mono HO_114003.out (fun _ hk => ⟨hk.1.1, hk.1.2⟩)⟩, ⟨by exact Kd.Q_mono HO_115003.out (fun _ hk => ⟨hk.1.1, hk.1.2⟩)⟩, ⟨by exact Kd.Q_mono HO_135003.out (fun _ hk => ⟨hk.1.1, hk.1.2⟩)⟩, ⟨by exact BK113.out⟩, ⟨by exact BK114.out⟩, ⟨by exact BK120.out⟩, ⟨by exact BK126.out⟩, ⟨by exact BK134.out⟩, ⟨by repeat (first | (with_reducible first | exact HB.out | apply below_alloc | apply pw_below_drewN | apply below_drew1 | refine below_set ?_ GE113.out | refine below_set ?_ GE114.out | refine below_set ?_ GE120.out | refine below_set ?_ GE126.out | refine below_set ?_ GE134.out | refine below_set ?_ GE143.out) | exact HB.out)⟩⟩

/-- THE ONE PURE STATEMENT of laws_FnFindImage: yours. -/
def laws_FnFindImage.Pure : Prop := ∀ (l0 : List Int), l0.length ≤ maxLen → l0.length * 1 ≤ 140737488351232 → (∀ x ∈ l0, (Lit.int .u8 x).wf = true) → ∃ k, laws_FnFindImage.f k l0 = some true
theorem laws_FnFindImage.walk (P : laws_FnFindImage.Pure) (a0 : Option Addr) (len0 cap0 : Nat) (z0 : List Int) (w : World) (w0 : (a0 = none ∧ len0 = 0 ∧ cap0 = 0 ∧ z0 = []) ∨ ∃ x, a0 = some x ∧ len0 ≤ cap0 ∧ cap0 ≤ maxLen ∧ z0.length = cap0 ∧ (∀ i, i < z0.length → w.cell? (x.add i) = some (.int .u8 (z0.getD i 0))) ∧ ∀ n ∈ z0, (Lit.int .u8 n).wf = true) (y0 : len0 * 1 ≤ 140737488351232) :
  Calls Try.prog 10 #[.slice a0 len0 cap0] w fun e w' => e = .returned (.bool true) ∧ Below w.heap.size w w' := by
 obtain ⟨l0, rfl, hr0, hm0, hw0, hc0⟩ := ReadsInt.ofRowC w0
 obtain ⟨k, h⟩ := P l0 hm0 y0 hw0
 refine (laws_FnFindImage.calls k _ _ l0 true w (Kd.C_of_reads (d := (0 : Int)) (h1 := fun _ => rfl) hr0) hc0 h).mono ?_
 rintro e w' ⟨rfl, hd⟩
 exact ⟨rfl, hd⟩

end Go.Proofs.Ytmaiifghplcjeaa.Print
