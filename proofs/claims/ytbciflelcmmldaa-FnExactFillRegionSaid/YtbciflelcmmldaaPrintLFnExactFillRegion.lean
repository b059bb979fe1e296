-- laid by hp.py (a program of this work over the kit's print), with contracts by hand for what the print does not take
import Derived.Test.YtbciflelcmmldaaPrint0
import Derived.Test.YtbciflelcmmldaaPrintHimplFillRegion
import Derived.Test.YtbciflelcmmldaaPrintHx0
import Derived.Test.YtbciflelcmmldaaPrintR0x0
import Derived.Test.YtbciflelcmmldaaPrintR1x0
import Derived.Test.YtbciflelcmmldaaPrintR1x1
import Derived.Test.YtbciflelcmmldaaPrintR1x2
import Derived.Test.YtbciflelcmmldaaPrintR1x4
namespace Go.Proofs.Ytbciflelcmmldaa.Print
open Go.RowKit Go.Proofs.YtbciflelcmmldaaW.PrintWords Go.Proofs.YtbciflelcmmldaaW.PrintLast Go.Proofs.YtbciflelcmmldaaW.PrintMore
attribute [local go_sem] max2_int min2_int max_two min_two max_three min_three max_four min_four   -- for this text's walks alone
set_option linter.unusedVariables false
set_option linter.unusedSimpArgs false

/-! ### laws_FnExactFillRegion: function 6 -/
mutual
def laws_FnExactFillRegion.j0 : Nat → List (S103) → List Int → Bool → List (S96) → List Int → Bool → Bool → Int → Int → Int → List Int → Int → Int → Int → List Int → Int → Int → Int → List Int → Int → Int → Int → List Int → Option (Bool)
 | 0, _, _, _, _, _, _, _, _, _, _, _, _, _, _, _, _, _, _, _, _, _, _, _ => none
 | k + 1, x1, x2, x9, x11, x12, x14, x64, x102000, x102001, x102002, x102003, x124000, x124001, x124002, x124003, x131000, x131001, x131002, x131003, x145000, x145001, x145002, x145003 => if x64 = true then (some false) else ((laws_toImage.f k x102000 x102001 x102002 x102003).bind fun bt146 => ((laws_eqImage.f k x131000 x131001 x131002 x131003 bt146.1 bt146.2.1 bt146.2.2.1 bt146.2.2.2).bind fun t152 => (if t152 = true then ((laws_toRunS.f k x1).bind fun t153 => ((laws_eqRunS.f k x11 t153).bind fun t156 => (if t156 = true then ((laws_toIntS.f k x2).bind fun t157 => ((laws_eqIntS.f k x12 t157).bind fun t160 => (if t160 = true then ((laws_markImage.f k x131000 x131001 x131002 x131003 1).bind fun bt161 => ((laws_markRunS.f k x11 bt161.1).bind fun bt163 => ((laws_markIntS.f k x12 bt163.1).bind fun bt165 => (if bt165.1 < 0 then (laws_FnExactFillRegion.j1 k x1 x2 x9 true x102000 x102001 x102002 x102003 x124000 x124001 x124002 x124003 x145000 x145001 x145002 x145003) else ((laws_eqImage.f k x145000 x145001 x145002 x145003 x124000 x124001 x124002 x124003).bind fun t167 => (if t167 = true then (laws_FnExactFillRegion.j1 k x1 x2 x9 (x14 != x9) x102000 x102001 x102002 x102003 x124000 x124001 x124002 x124003 x145000 x145001 x145002 x145003) else (laws_FnExactFillRegion.j1 k x1 x2 x9 true x102000 x102001 x102002 x102003 x124000 x124001 x124002 x124003 x145000 x145001 x145002 x145003))))))) else (some false)))) else (some false)))) else (some false))))
def laws_FnExactFillRegion.j1 : Nat → List (S103) → List Int → Bool → Bool → Int → Int → Int → List Int → Int → Int → Int → List Int → Int → Int → Int → List Int → Option (Bool)
 | 0, _, _, _, _, _, _, _, _, _, _, _, _, _, _, _, _ => none
 | k + 1, x1, x2, x9, x101, x102000, x102001, x102002, x102003, x124000, x124001, x124002, x124003, x145000, x145001, x145002, x145003 => if x101 = true then (some false) else ((laws_markImage.f k x145000 x145001 x145002 x145003 1).bind fun bt168 => ((laws_heldImage.f k x145000 x145001 x145002 bt168.2 1).bind fun t170 => (if t170 < 0 then (some false) else (if t170 = bt168.1 then ((laws_toImage.f k x102000 x102001 x102002 x102003).bind fun bt171 => ((laws_toRunS.f k x1).bind fun t177 => ((laws_toIntS.f k x2).bind fun t180 => ((impl_FillRegion.f bt171.1 bt171.2.1 bt171.2.2.1 bt171.2.2.2 t177 t180).bind fun bt183 => ((laws_eqImage.f k bt183.1 bt183.2.1 bt183.2.2.1 bt183.2.2.2.1 x124000 x124001 x124002 x124003).bind fun t191 => (if t191 = true then (laws_FnExactFillRegion.j2 k bt168.1 (bt183.2.2.2.2 != x9) x145000 x145001 x145002 bt168.2) else (laws_FnExactFillRegion.j2 k bt168.1 true x145000 x145001 x145002 bt168.2))))))) else (some false)))))
def laws_FnExactFillRegion.j2 : Nat → Int → Bool → Int → Int → Int → List Int → Option (Bool)
 | 0, _, _, _, _, _, _ => none
 | k + 1, x16, x131, x145000, x145001, x145002, x145003 => if x131 = true then (some false) else ((laws_heldImage.f k x145000 x145001 x145002 x145003 1).bind fun t192 => (if t192 < 0 then (some false) else (if t192 = x16 then (some true) else (some false))))
end
def laws_FnExactFillRegion.f (k : Nat) (a0_0 : Int) (a0_1 : Int) (a0_2 : Int) (l0_3 : List Int) (l1 : List (S103)) (l2 : List Int) : Option (Bool) := if (l2.length : Int) > 1048576 then (some true) else ((laws_szImage.f a0_0 a0_1 a0_2 l0_3 1048576).bind fun t102 => (if t102 < 0 then (some true) else ((laws_szRunS.f l1 t102).bind fun t103 => (if t103 < 0 then (some true) else ((laws_toImage.f k a0_0 a0_1 a0_2 l0_3).bind fun bt104 => ((laws_toRunS.f k l1).bind fun t110 => ((laws_toIntS.f k l2).bind fun t113 => ((spec_FillRegion.f k bt104.1 bt104.2.1 bt104.2.2.1 bt104.2.2.2 t110 t113).bind fun bt116 => ((laws_toImage.f k a0_0 a0_1 a0_2 l0_3).bind fun bt124 => ((laws_toRunS.f k l1).bind fun t131 => ((laws_toIntS.f k l2).bind fun t134 => ((impl_FillRegion.f bt124.1 bt124.2.1 bt124.2.2.1 bt124.2.2.2 t131 t134).bind fun bt137 => ((laws_eqImage.f k bt137.1 bt137.2.1 bt137.2.2.1 bt137.2.2.2.1 bt116.1 bt116.2.1 bt116.2.2.1 bt116.2.2.2.1).bind fun t145 => (if t145 = true then (laws_FnExactFillRegion.j0 k l1 l2 bt116.2.2.2.2 t131 t134 bt137.2.2.2.2 (bt137.2.2.2.2 != bt116.2.2.2.2) a0_0 a0_1 a0_2 l0_3 bt116.1 bt116.2.1 bt116.2.2.1 bt116.2.2.2.1 bt124.1 bt124.2.1 bt124.2.2.1 bt124.2.2.2 bt137.1 bt137.2.1 bt137.2.2.1 bt137.2.2.2.1) else (laws_FnExactFillRegion.j0 k l1 l2 bt116.2.2.2.2 t131 t134 bt137.2.2.2.2 true a0_0 a0_1 a0_2 l0_3 bt116.1 bt116.2.1 bt116.2.2.1 bt116.2.2.2.1 bt124.1 bt124.2.1 bt124.2.2.1 bt124.2.2.2 bt137.1 bt137.2.1 bt137.2.2.1 bt137.2.2.2.1)))))))))))))))
theorem laws_FnExactFillRegion.mono_l : ∀ k, (∀ y0 y1 y2 y3 y4 y5 y6 y7 y8 y9 y10 y11 y12 y13 y14 y15 y16 y17 y18 y19 y20 y21 y22, LeO (laws_FnExactFillRegion.j0 k y0 y1 y2 y3 y4 y5 y6 y7 y8 y9 y10 y11 y12 y13 y14 y15 y16 y17 y18 y19 y20 y21 y22) (laws_FnExactFillRegion.j0 (k + 1) y0 y1 y2 y3 y4 y5 y6 y7 y8 y9 y10 y11 y12 y13 y14 y15 y16 y17 y18 y19 y20 y21 y22)) ∧ (∀ y0 y1 y2 y3 y4 y5 y6 y7 y8 y9 y10 y11 y12 y13 y14 y15, LeO (laws_FnExactFillRegion.j1 k y0 y1 y2 y3 y4 y5 y6 y7 y8 y9 y10 y11 y12 y13 y14 y15) (laws_FnExactFillRegion.j1 (k + 1) y0 y1 y2 y3 y4 y5 y6 y7 y8 y9 y10 y11 y12 y13 y14 y15)) ∧ (∀ y0 y1 y2 y3 y4 y5, LeO (laws_FnExactFillRegion.j2 k y0 y1 y2 y3 y4 y5) (laws_FnExactFillRegion.j2 (k + 1) y0 y1 y2 y3 y4 y5))
 | 0 => ⟨fun _ _ _ _ _ _ _ _ _ _ _ _ _ _ _ _ _ _ _ _ _ _ _ r h => by simp [laws_FnExactFillRegion.j0] at h, fun _ _ _ _ _ _ _ _ _ _ _ _ _ _ _ _ r h => by simp [laws_FnExactFillRegion.j1] at h, fun _ _ _ _ _ _ r h => by simp [laws_FnExactFillRegion.j2] at h⟩
 | k + 1 => by
  obtain ⟨ih0, ih1, ih2⟩ := laws_FnExactFillRegion.mono_l k
  refine ⟨?_, ?_, ?_⟩
  ·
   intro y0 y1 y2 y3 y4 y5 y6 y7 y8 y9 y10 y11 y12 y13 y14 y15 y16 y17 y18 y19 y20 y21 y22
   unfold laws_FnExactFillRegion.j0
   repeat' first
   | (with_reducible exact ih0 _ _ _ _ _ _ _ _ _ _ _ _ _ _ _ _ _ _ _ _ _ _ _)
   | (with_reducible exact ih1 _ _ _ _ _ _ _ _ _ _ _ _ _ _ _ _)
   | (with_reducible exact ih2 _ _ _ _ _ _)
   | (with_reducible exact laws_eqImage.mono _ _ _ _ _ _ _ _ _)
   | (with_reducible exact laws_eqIntS.mono _ _ _)
   | (with_reducible exact laws_eqRunS.mono _ _ _)
   | (with_reducible exact laws_heldImage.mono _ _ _ _ _ _)
   | (with_reducible exact laws_markImage.mono _ _ _ _ _ _)
   | (with_reducible exact laws_markIntS.mono _ _ _)
   | (with_reducible exact laws_markRunS.mono _ _ _)
   | (with_reducible exact laws_toImage.mono _ _ _ _ _)
   | (with_reducible exact laws_toIntS.mono _ _)
   | (with_reducible exact laws_toRunS.mono _ _)
   | (with_reducible exact spec_FillRegion.mono _ _ _ _ _ _ _)
   | (with_reducible exact LeO.refl _)
   | (with_reducible exact LeO.none _)
   | (with_reducible refine LeO.ite ?_ ?_)
   | (with_reducible refine LeO.bind ?_ (fun _ => ?_))
   | exact ih0 _ _ _ _ _ _ _ _ _ _ _ _ _ _ _ _ _ _ _ _ _ _ _
   | exact ih1 _ _ _ _ _ _ _ _ _ _ _ _ _ _ _ _
   | exact ih2 _ _ _ _ _ _
   | exact laws_eqImage.mono _ _ _ _ _ _ _ _ _
   | exact laws_eqIntS.mono _ _ _
   | exact laws_eqRunS.mono _ _ _
   | exact laws_heldImage.mono _ _ _ _ _ _
   | exact laws_markImage.mono _ _ _ _ _ _
   | exact laws_markIntS.mono _ _ _
   | exact laws_markRunS.mono _ _ _
   | exact laws_toImage.mono _ _ _ _ _
   | exact laws_toIntS.mono _ _
   | exact laws_toRunS.mono _ _
   | exact spec_FillRegion.mono _ _ _ _ _ _ _
   | exact LeO.none _
   | refine LeO.ite ?_ ?_
   | refine LeO.bind ?_ (fun _ => ?_)
  ·
   intro y0 y1 y2 y3 y4 y5 y6 y7 y8 y9 y10 y11 y12 y13 y14 y15
   unfold laws_FnExactFillRegion.j1
   repeat' first
   | (with_reducible exact ih0 _ _ _ _ _ _ _ _ _ _ _ _ _ _ _ _ _ _ _ _ _ _ _)
   | (with_reducible exact ih1 _ _ _ _ _ _ _ _ _ _ _ _ _ _ _ _)
   | (with_reducible exact ih2 _ _ _ _ _ _)
   | (with_reducible exact laws_eqImage.mono _ _ _ _ _ _ _ _ _)
   | (with_reducible exact laws_eqIntS.mono _ _ _)
   | (with_reducible exact laws_eqRunS.mono _ _ _)
   | (with_reducible exact laws_heldImage.mono _ _ _ _ _ _)
   | (with_reducible exact laws_markImage.mono _ _ _ _ _ _)
   | (with_reducible exact laws_markIntS.mono _ _ _)
   | (with_reducible exact laws_markRunS.mono _ _ _)
   | (with_reducible exact laws_toImage.mono _ _ _ _ _)
   | (with_reducible exact laws_toIntS.mono _ _)
   | (with_reducible exact laws_toRunS.mono _ _)
   | (with_reducible exact spec_FillRegion.mono _ _ _ _ _ _ _)
   | (with_reducible exact LeO.refl _)
   | (with_reducible exact LeO.none _)
   | (with_reducible refine LeO.ite ?_ ?_)
   | (with_reducible refine LeO.bind ?_ (fun _ => ?_))
   | exact ih0 _ _ _ _ _ _ _ _ _ _ _ _ _ _ _ _ _ _ _ _ _ _ _
   | exact ih1 _ _ _ _ _ _ _ _ _ _ _ _ _ _ _ _
   | exact ih2 _ _ _ _ _ _
   | exact laws_eqImage.mono _ _ _ _ _ _ _ _ _
   | exact laws_eqIntS.mono _ _ _
   | exact laws_eqRunS.mono _ _ _
   | exact laws_heldImage.mono _ _ _ _ _ _
   | exact laws_markImage.mono _ _ _ _ _ _
   | exact laws_markIntS.mono _ _ _
   | exact laws_markRunS.mono _ _ _
   | exact laws_toImage.mono _ _ _ _ _
   | exact laws_toIntS.mono _ _
   | exact laws_toRunS.mono _ _
   | exact spec_FillRegion.mono _ _ _ _ _ _ _
   | exact LeO.none _
   | refine LeO.ite ?_ ?_
   | refine LeO.bind ?_ (fun _ => ?_)
  intro y0 y1 y2 y3 y4 y5
  unfold laws_FnExactFillRegion.j2
  repeat' first
  | (with_reducible exact ih0 _ _ _ _ _ _ _ _ _ _ _ _ _ _ _ _ _ _ _ _ _ _ _)
  | (with_reducible exact ih1 _ _ _ _ _ _ _ _ _ _ _ _ _ _ _ _)
  | (with_reducible exact ih2 _ _ _ _ _ _)
  | (with_reducible exact laws_eqImage.mono _ _ _ _ _ _ _ _ _)
  | (with_reducible exact laws_eqIntS.mono _ _ _)
  | (with_reducible exact laws_eqRunS.mono _ _ _)
  | (with_reducible exact laws_heldImage.mono _ _ _ _ _ _)
  | (with_reducible exact laws_markImage.mono _ _ _ _ _ _)
  | (with_reducible exact laws_markIntS.mono _ _ _)
  | (with_reducible exact laws_markRunS.mono _ _ _)
  | (with_reducible exact laws_toImage.mono _ _ _ _ _)
  | (with_reducible exact laws_toIntS.mono _ _)
  | (with_reducible exact laws_toRunS.mono _ _)
  | (with_reducible exact spec_FillRegion.mono _ _ _ _ _ _ _)
  | (with_reducible exact LeO.refl _)
  | (with_reducible exact LeO.none _)
  | (with_reducible refine LeO.ite ?_ ?_)
  | (with_reducible refine LeO.bind ?_ (fun _ => ?_))
  | exact ih0 _ _ _ _ _ _ _ _ _ _ _ _ _ _ _ _ _ _ _ _ _ _ _
  | exact ih1 _ _ _ _ _ _ _ _ _ _ _ _ _ _ _ _
  | exact ih2 _ _ _ _ _ _
  | exact laws_eqImage.mono _ _ _ _ _ _ _ _ _
  | exact laws_eqIntS.mono _ _ _
  | exact laws_eqRunS.mono _ _ _
  | exact laws_heldImage.mono _ _ _ _ _ _
  | exact laws_markImage.mono _ _ _ _ _ _
  | exact laws_markIntS.mono _ _ _
  | exact laws_markRunS.mono _ _ _
  | exact laws_toImage.mono _ _ _ _ _
  | exact laws_toIntS.mono _ _
  | exact laws_toRunS.mono _ _
  | exact spec_FillRegion.mono _ _ _ _ _ _ _
  | exact LeO.none _
  | refine LeO.ite ?_ ?_
  | refine LeO.bind ?_ (fun _ => ?_)
theorem laws_FnExactFillRegion.mono : ∀ a0 a1 a2 a3 a4 a5 k, LeO (laws_FnExactFillRegion.f k a0 a1 a2 a3 a4 a5) (laws_FnExactFillRegion.f (k + 1) a0 a1 a2 a3 a4 a5) := by
 intro a0 a1 a2 a3 a4 a5 k
 obtain ⟨ih0, ih1, ih2⟩ := laws_FnExactFillRegion.mono_l k
 unfold laws_FnExactFillRegion.f
 repeat' first
   | (with_reducible exact ih0 _ _ _ _ _ _ _ _ _ _ _ _ _ _ _ _ _ _ _ _ _ _ _)
   | (with_reducible exact ih1 _ _ _ _ _ _ _ _ _ _ _ _ _ _ _ _)
   | (with_reducible exact ih2 _ _ _ _ _ _)
   | (with_reducible exact laws_eqImage.mono _ _ _ _ _ _ _ _ _)
   | (with_reducible exact laws_eqIntS.mono _ _ _)
   | (with_reducible exact laws_eqRunS.mono _ _ _)
   | (with_reducible exact laws_heldImage.mono _ _ _ _ _ _)
   | (with_reducible exact laws_markImage.mono _ _ _ _ _ _)
   | (with_reducible exact laws_markIntS.mono _ _ _)
   | (with_reducible exact laws_markRunS.mono _ _ _)
   | (with_reducible exact laws_toImage.mono _ _ _ _ _)
   | (with_reducible exact laws_toIntS.mono _ _)
   | (with_reducible exact laws_toRunS.mono _ _)
   | (with_reducible exact spec_FillRegion.mono _ _ _ _ _ _ _)
   | (with_reducible exact LeO.refl _)
   | (with_reducible exact LeO.none _)
   | (with_reducible refine LeO.ite ?_ ?_)
   | (with_reducible refine LeO.bind ?_ (fun _ => ?_))
   | exact ih0 _ _ _ _ _ _ _ _ _ _ _ _ _ _ _ _ _ _ _ _ _ _ _
   | exact ih1 _ _ _ _ _ _ _ _ _ _ _ _ _ _ _ _
   | exact ih2 _ _ _ _ _ _
   | exact laws_eqImage.mono _ _ _ _ _ _ _ _ _
   | exact laws_eqIntS.mono _ _ _
   | exact laws_eqRunS.mono _ _ _
   | exact laws_heldImage.mono _ _ _ _ _ _
   | exact laws_markImage.mono _ _ _ _ _ _
   | exact laws_markIntS.mono _ _ _
   | exact laws_markRunS.mono _ _ _
   | exact laws_toImage.mono _ _ _ _ _
   | exact laws_toIntS.mono _ _
   | exact laws_toRunS.mono _ _
   | exact spec_FillRegion.mono _ _ _ _ _ _ _
   | exact LeO.none _
   | refine LeO.ite ?_ ?_
   | refine LeO.bind ?_ (fun _ => ?_)
set_option maxHeartbeats 8000000 in
set_option maxRecDepth 100000 in
theorem laws_FnExactFillRegion.calls (k : Nat) (a0_0 : Int) (a0_1 : Int) (a0_2 : Int) (A0_3 : Option Addr) (c0_3 : Nat) (l0_3 : List Int) (A1 : Option Addr) (c1 : Nat) (l1 : List (S103)) (A2 : Option Addr) (c2 : Nat) (l2 : List Int) (r : Bool) (w : World) (hr0_3 : Kd.C (Kd.int .i64) w A0_3 l0_3.length l0_3) (hc0_3 : l0_3.length ≤ c0_3) (hr1 : Kd.C k103 w A1 l1.length l1) (hc1 : l1.length ≤ c1) (hr2 : Kd.C (Kd.int .i64) w A2 l2.length l2) (hc2 : l2.length ≤ c2) (h : laws_FnExactFillRegion.f k a0_0 a0_1 a0_2 l0_3 l1 l2 = some r) :
  Calls Try.prog 6 #[.agg #[.int .i64 a0_0, .int .i64 a0_1, .int .i64 a0_2, .slice A0_3 l0_3.length c0_3], .slice A1 l1.length c1, .slice A2 l2.length c2] w fun e w' => e = .returned (.bool r) ∧ Below w.heap.size w w' := by
 have hu38 := Try.underlying38
 have hu25 := Try.underlying25
 have HR0_3 := Aside0.mk hr0_3
 have HC0_3 := Aside0.mk hc0_3
 clear hr0_3 hc0_3
 have HR1 := Aside0.mk hr1
 have HC1 := Aside0.mk hc1
 clear hr1 hc1
 have HR2 := Aside0.mk hr2
 have HC2 := Aside0.mk hc2
 clear hr2 hc2
 have HB := Aside0.mk (Below.refl w.heap.size w)
 have H : (if (l2.length : Int) > 1048576 then (some true) else ((laws_szImage.f a0_0 a0_1 a0_2 l0_3 1048576).bind fun t102 => (if t102 < 0 then (some true) else ((laws_szRunS.f l1 t102).bind fun t103 => (if t103 < 0 then (some true) else ((laws_toImage.f k a0_0 a0_1 a0_2 l0_3).bind fun bt104 => ((laws_toRunS.f k l1).bind fun t110 => ((laws_toIntS.f k l2).bind fun t113 => ((spec_FillRegion.f k bt104.1 bt104.2.1 bt104.2.2.1 bt104.2.2.2 t110 t113).bind fun bt116 => ((laws_toImage.f k a0_0 a0_1 a0_2 l0_3).bind fun bt124 => ((laws_toRunS.f k l1).bind fun t131 => ((laws_toIntS.f k l2).bind fun t134 => ((impl_FillRegion.f bt124.1 bt124.2.1 bt124.2.2.1 bt124.2.2.2 t131 t134).bind fun bt137 => ((laws_eqImage.f k bt137.1 bt137.2.1 bt137.2.2.1 bt137.2.2.2.1 bt116.1 bt116.2.1 bt116.2.2.1 bt116.2.2.2.1).bind fun t145 => (if t145 = true then (laws_FnExactFillRegion.j0 k l1 l2 bt116.2.2.2.2 t131 t134 bt137.2.2.2.2 (bt137.2.2.2.2 != bt116.2.2.2.2) a0_0 a0_1 a0_2 l0_3 bt116.1 bt116.2.1 bt116.2.2.1 bt116.2.2.2.1 bt124.1 bt124.2.1 bt124.2.2.1 bt124.2.2.2 bt137.1 bt137.2.1 bt137.2.2.1 bt137.2.2.2.1) else (laws_FnExactFillRegion.j0 k l1 l2 bt116.2.2.2.2 t131 t134 bt137.2.2.2.2 true a0_0 a0_1 a0_2 l0_3 bt116.1 bt116.2.1 bt116.2.2.1 bt116.2.2.2.1 bt124.1 bt124.2.1 bt124.2.2.1 bt124.2.2.2 bt137.1 bt137.2.1 bt137.2.2.1 bt137.2.2.2.1)))))))))))))))) = some r := h
 clear h
 by_cases c4 : (l2.length : Int) > 1048576
 ·
  rw [if_pos c4] at H
  have c4b0 : decide (1048576 < (l2.length : Int)) = true := decide_eq_true c4
  have c4b1 : decide (1048576 < l2.length) = true := decide_eq_true (by omega)
  clear c4
  obtain rfl := Option.some.inj H
  go_enter Try.func6, Try.ntmps6
  go_wp2_with (first | ((with_reducible refine gate_dst (N := 3) rfl ?_); refine box_event ?hg (N := 3) ?hd (cs := #[.int .i64 a0_0, .int .i64 a0_1, .int .i64 a0_2, .slice A0_3 l0_3.length c0_3]) (t := 38) ?hr ?_; (case hd => rfl); (case hg => rfl); (case hr => first | (go_simp; done) | (go_simp; rfl)); intro gb101 hg w5 hbox hb; have BK101 := am_ (hbox); have GW101 := am_ ((by rw [hg]; exact (below_size (by repeat (first | (with_reducible first | exact HB.out | apply below_alloc | apply pw_below_drewN | apply below_drew1) | exact HB.out))) : w.heap.size ≤ gb101)); have GE101 := GW101; replace HB := am_ (below_step (by repeat (first | (with_reducible first | exact HB.out | apply below_alloc | apply pw_below_drewN | apply below_drew1) | exact HB.out)) hb); clear hb hbox hg))
  go_ret
  exact ⟨by first | rfl | (simp [errW_none, errW_some] <;> rfl) | (simp [*, errW_none, errW_some] <;> rfl), by repeat (first | (with_reducible first | exact HB.out | apply below_alloc | apply pw_below_drewN | apply below_drew1 | refine below_set ?_ GE101.out) | exact HB.out)⟩
 rw [if_neg c4] at H
 have c4b0 : decide (1048576 < (l2.length : Int)) = false := decide_eq_false c4
 have c4b1 : decide (1048576 < l2.length) = false := decide_eq_false (by omega)
 clear c4
 replace H := Option.bind_eq_some_iff.mp H
 obtain ⟨t102, A60, H⟩ := H
 replace H : (if t102 < 0 then (some true) else ((laws_szRunS.f l1 t102).bind fun t103 => (if t103 < 0 then (some true) else ((laws_toImage.f k a0_0 a0_1 a0_2 l0_3).bind fun bt104 => ((laws_toRunS.f k l1).bind fun t110 => ((laws_toIntS.f k l2).bind fun t113 => ((spec_FillRegion.f k bt104.1 bt104.2.1 bt104.2.2.1 bt104.2.2.2 t110 t113).bind fun bt116 => ((laws_toImage.f k a0_0 a0_1 a0_2 l0_3).bind fun bt124 => ((laws_toRunS.f k l1).bind fun t131 => ((laws_toIntS.f k l2).bind fun t134 => ((impl_FillRegion.f bt124.1 bt124.2.1 bt124.2.2.1 bt124.2.2.2 t131 t134).bind fun bt137 => ((laws_eqImage.f k bt137.1 bt137.2.1 bt137.2.2.1 bt137.2.2.2.1 bt116.1 bt116.2.1 bt116.2.2.1 bt116.2.2.2.1).bind fun t145 => (if t145 = true then (laws_FnExactFillRegion.j0 k l1 l2 bt116.2.2.2.2 t131 t134 bt137.2.2.2.2 (bt137.2.2.2.2 != bt116.2.2.2.2) a0_0 a0_1 a0_2 l0_3 bt116.1 bt116.2.1 bt116.2.2.1 bt116.2.2.2.1 bt124.1 bt124.2.1 bt124.2.2.1 bt124.2.2.2 bt137.1 bt137.2.1 bt137.2.2.1 bt137.2.2.2.1) else (laws_FnExactFillRegion.j0 k l1 l2 bt116.2.2.2.2 t131 t134 bt137.2.2.2.2 true a0_0 a0_1 a0_2 l0_3 bt116.1 bt116.2.1 bt116.2.2.1 bt116.2.2.2.1 bt124.1 bt124.2.1 bt124.2.2.1 bt124.2.2.2 bt137.1 bt137.2.1 bt137.2.2.1 bt137.2.2.2.1)))))))))))))) = some r := H
 have A6 := Aside0.mk A60
 clear A60
 by_cases c7 : t102 < 0
 ·
  rw [if_pos c7] at H
  have c7b0 : decide (t102 < 0) = true := decide_eq_true c7
  clear c7
  obtain rfl := Option.some.inj H
  go_enter Try.func6, Try.ntmps6
  go_wp2_with (first | ((with_reducible refine gate_dst (N := 3) rfl ?_); refine box_event ?hg (N := 3) ?hd (cs := #[.int .i64 a0_0, .int .i64 a0_1, .int .i64 a0_2, .slice A0_3 l0_3.length c0_3]) (t := 38) ?hr ?_; (case hd => rfl); (case hg => rfl); (case hr => first | (go_simp; done) | (go_simp; rfl)); intro gb101 hg w8 hbox hb; have BK101 := am_ (hbox); have GW101 := am_ ((by rw [hg]; exact (below_size (by repeat (first | (with_reducible first | exact HB.out | apply below_alloc | apply pw_below_drewN | apply below_drew1) | exact HB.out))) : w.heap.size ≤ gb101)); have GE101 := GW101; replace HB := am_ (below_step (by repeat (first | (with_reducible first | exact HB.out | apply below_alloc | apply pw_below_drewN | apply below_drew1) | exact HB.out)) hb); clear hb hbox hg; obtain ⟨hcz9_0, hcz9_1, hcz9_2, hcz9_3, hfz9_0, hfz9_1, hfz9_2, hfz9_3⟩ := blk4_ BK101.out) | ((with_reducible refine gate_callee (f := 18) rfl ?_); refine goesL_ (some 25) rfl rfl Try.func18 (by kernel_rfl) rfl #[.agg #[.int .i64 a0_0, .int .i64 a0_1, .int .i64 a0_2, .slice A0_3 l0_3.length c0_3], .int .i64 1048576] rfl (by simp only [List.map_toArray, List.map_cons, List.map_nil]; rfl) ?_; (with_reducible refine (laws_szImage.calls a0_0 a0_1 a0_2 _ _ l0_3 1048576 t102 _ ?side1 ?side2 A6.out).mono ?_); (case side1 => repeat (first | exact (Kd.C_below HR0_3.out HB.out) | (with_reducible refine Kd.C_alloc ?_ _) | (with_reducible refine Kd.C_drewN ?_ _) | (with_reducible refine Kd.C_drew ?_))); (case side2 => exact HC0_3.out); rintro e w10 ⟨rfl, hb⟩; refine ⟨_, rfl, ?_⟩; replace BK101 := am_ (blk_below (by exact BK101.out) hb); replace HB := am_ (below_step (by repeat (first | (with_reducible first | exact HB.out | apply below_alloc | apply pw_below_drewN | apply below_drew1 | refine below_set ?_ GE101.out) | exact HB.out)) hb); (try clear hb); (try clear hb2); (try clear hk); (try clear hi)))
  go_ret
  exact ⟨by first | rfl | (simp [errW_none, errW_some] <;> rfl) | (simp [*, errW_none, errW_some] <;> rfl), by repeat (first | (with_reducible first | exact HB.out | apply below_alloc | apply pw_below_drewN | apply below_drew1 | refine below_set ?_ GE101.out) | exact HB.out)⟩
 rw [if_neg c7] at H
 have c7b0 : decide (t102 < 0) = false := decide_eq_false c7
 clear c7
 replace H := Option.bind_eq_some_iff.mp H
 obtain ⟨t103, A110, H⟩ := H
 replace H : (if t103 < 0 then (some true) else ((laws_toImage.f k a0_0 a0_1 a0_2 l0_3).bind fun bt104 => ((laws_toRunS.f k l1).bind fun t110 => ((laws_toIntS.f k l2).bind fun t113 => ((spec_FillRegion.f k bt104.1 bt104.2.1 bt104.2.2.1 bt104.2.2.2 t110 t113).bind fun bt116 => ((laws_toImage.f k a0_0 a0_1 a0_2 l0_3).bind fun bt124 => ((laws_toRunS.f k l1).bind fun t131 => ((laws_toIntS.f k l2).bind fun t134 => ((impl_FillRegion.f bt124.1 bt124.2.1 bt124.2.2.1 bt124.2.2.2 t131 t134).bind fun bt137 => ((laws_eqImage.f k bt137.1 bt137.2.1 bt137.2.2.1 bt137.2.2.2.1 bt116.1 bt116.2.1 bt116.2.2.1 bt116.2.2.2.1).bind fun t145 => (if t145 = true then (laws_FnExactFillRegion.j0 k l1 l2 bt116.2.2.2.2 t131 t134 bt137.2.2.2.2 (bt137.2.2.2.2 != bt116.2.2.2.2) a0_0 a0_1 a0_2 l0_3 bt116.1 bt116.2.1 bt116.2.2.1 bt116.2.2.2.1 bt124.1 bt124.2.1 bt124.2.2.1 bt124.2.2.2 bt137.1 bt137.2.1 bt137.2.2.1 bt137.2.2.2.1) else (laws_FnExactFillRegion.j0 k l1 l2 bt116.2.2.2.2 t131 t134 bt137.2.2.2.2 true a0_0 a0_1 a0_2 l0_3 bt116.1 bt116.2.1 bt116.2.2.1 bt116.2.2.2.1 bt124.1 bt124.2.1 bt124.2.2.1 bt124.2.2.2 bt137.1 bt137.2.1 bt137.2.2.1 bt137.2.2.2.1)))))))))))) = some r := H
 have A11 := Aside0.mk A110
 clear A110
 by_cases c12 : t103 < 0
 ·
  rw [if_pos c12] at H
  have c12b0 : decide (t103 < 0) = true := decide_eq_true c12
  clear c12
  obtain rfl := Option.some.inj H
  go_enter Try.func6, Try.ntmps6
  go_wp2_with (first | ((with_reducible refine gate_dst (N := 3) rfl ?_); refine box_event ?hg (N := 3) ?hd (cs := #[.int .i64 a0_0, .int .i64 a0_1, .int .i64 a0_2, .slice A0_3 l0_3.length c0_3]) (t := 38) ?hr ?_; (case hd => rfl); (case hg => rfl); (case hr => first | (go_simp; done) | (go_simp; rfl)); intro gb101 hg w13 hbox hb; have BK101 := am_ (hbox); have GW101 := am_ ((by rw [hg]; exact (below_size (by repeat (first | (with_reducible first | exact HB.out | apply below_alloc | apply pw_below_drewN | apply below_drew1) | exact HB.out))) : w.heap.size ≤ gb101)); have GE101 := GW101; replace HB := am_ (below_step (by repeat (first | (with_reducible first | exact HB.out | apply below_alloc | apply pw_below_drewN | apply below_drew1) | exact HB.out)) hb); clear hb hbox hg; obtain ⟨hcz14_0, hcz14_1, hcz14_2, hcz14_3, hfz14_0, hfz14_1, hfz14_2, hfz14_3⟩ := blk4_ BK101.out) | ((with_reducible refine gate_callee (f := 18) rfl ?_); refine goesL_ (some 25) rfl rfl Try.func18 (by kernel_rfl) rfl #[.agg #[.int .i64 a0_0, .int .i64 a0_1, .int .i64 a0_2, .slice A0_3 l0_3.length c0_3], .int .i64 1048576] rfl (by simp only [List.map_toArray, List.map_cons, List.map_nil]; rfl) ?_; (with_reducible refine (laws_szImage.calls a0_0 a0_1 a0_2 _ _ l0_3 1048576 t102 _ ?side1 ?side2 A6.out).mono ?_); (case side1 => repeat (first | exact (Kd.C_below HR0_3.out HB.out) | (with_reducible refine Kd.C_alloc ?_ _) | (with_reducible refine Kd.C_drewN ?_ _) | (with_reducible refine Kd.C_drew ?_))); (case side2 => exact HC0_3.out); rintro e w15 ⟨rfl, hb⟩; refine ⟨_, rfl, ?_⟩; replace BK101 := am_ (blk_below (by exact BK101.out) hb); replace HB := am_ (below_step (by repeat (first | (with_reducible first | exact HB.out | apply below_alloc | apply pw_below_drewN | apply below_drew1 | refine below_set ?_ GE101.out) | exact HB.out)) hb); (try clear hb); (try clear hb2); (try clear hk); (try clear hi)) | ((with_reducible refine gate_callee (f := 19) rfl ?_); refine goesL_ (some 30) rfl rfl Try.func19 (by kernel_rfl) rfl #[.slice A1 l1.length c1, .int .i64 t102] rfl (by simp only [List.map_toArray, List.map_cons, List.map_nil]; rfl) ?_; (with_reducible refine (laws_szRunS.calls _ _ l1 t102 t103 _ ?side1 ?side2 A11.out).mono ?_); (case side1 => repeat (first | exact (Kd.C_below HR1.out HB.out) | (with_reducible refine Kd.C_alloc ?_ _) | (with_reducible refine Kd.C_drewN ?_ _) | (with_reducible refine Kd.C_drew ?_))); (case side2 => exact HC1.out); rintro e w' ⟨rfl, ⟨nd, rfl⟩⟩; refine ⟨_, rfl, ?_⟩))
  go_ret
  exact ⟨by first | rfl | (simp [errW_none, errW_some] <;> rfl) | (simp [*, errW_none, errW_some] <;> rfl), by repeat (first | (with_reducible first | exact HB.out | apply below_alloc | apply pw_below_drewN | apply below_drew1 | refine below_set ?_ GE101.out) | exact HB.out)⟩
 rw [if_neg c12] at H
 have c12b0 : decide (t103 < 0) = false := decide_eq_false c12
 clear c12
 replace H := Option.bind_eq_some_iff.mp H
 obtain ⟨⟨t104, t105, t106, t107⟩, A160, H⟩ := H
 replace H : ((laws_toRunS.f k l1).bind fun t110 => ((laws_toIntS.f k l2).bind fun t113 => ((spec_FillRegion.f k t104 t105 t106 t107 t110 t113).bind fun bt116 => ((laws_toImage.f k a0_0 a0_1 a0_2 l0_3).bind fun bt124 => ((laws_toRunS.f k l1).bind fun t131 => ((laws_toIntS.f k l2).bind fun t134 => ((impl_FillRegion.f bt124.1 bt124.2.1 bt124.2.2.1 bt124.2.2.2 t131 t134).bind fun bt137 => ((laws_eqImage.f k bt137.1 bt137.2.1 bt137.2.2.1 bt137.2.2.2.1 bt116.1 bt116.2.1 bt116.2.2.1 bt116.2.2.2.1).bind fun t145 => (if t145 = true then (laws_FnExactFillRegion.j0 k l1 l2 bt116.2.2.2.2 t131 t134 bt137.2.2.2.2 (bt137.2.2.2.2 != bt116.2.2.2.2) a0_0 a0_1 a0_2 l0_3 bt116.1 bt116.2.1 bt116.2.2.1 bt116.2.2.2.1 bt124.1 bt124.2.1 bt124.2.2.1 bt124.2.2.2 bt137.1 bt137.2.1 bt137.2.2.1 bt137.2.2.2.1) else (laws_FnExactFillRegion.j0 k l1 l2 bt116.2.2.2.2 t131 t134 bt137.2.2.2.2 true a0_0 a0_1 a0_2 l0_3 bt116.1 bt116.2.1 bt116.2.2.1 bt116.2.2.2.1 bt124.1 bt124.2.1 bt124.2.2.1 bt124.2.2.2 bt137.1 bt137.2.1 bt137.2.2.1 bt137.2.2.2.1)))))))))) = some r := H
 have A16 := Aside0.mk A160
 clear A160
 replace H := Option.bind_eq_some_iff.mp H
 obtain ⟨t110, A170, H⟩ := H
 replace H : ((laws_toIntS.f k l2).bind fun t113 => ((spec_FillRegion.f k t104 t105 t106 t107 t110 t113).bind fun bt116 => ((laws_toImage.f k a0_0 a0_1 a0_2 l0_3).bind fun bt124 => ((laws_toRunS.f k l1).bind fun t131 => ((laws_toIntS.f k l2).bind fun t134 => ((impl_FillRegion.f bt124.1 bt124.2.1 bt124.2.2.1 bt124.2.2.2 t131 t134).bind fun bt137 => ((laws_eqImage.f k bt137.1 bt137.2.1 bt137.2.2.1 bt137.2.2.2.1 bt116.1 bt116.2.1 bt116.2.2.1 bt116.2.2.2.1).bind fun t145 => (if t145 = true then (laws_FnExactFillRegion.j0 k l1 l2 bt116.2.2.2.2 t131 t134 bt137.2.2.2.2 (bt137.2.2.2.2 != bt116.2.2.2.2) a0_0 a0_1 a0_2 l0_3 bt116.1 bt116.2.1 bt116.2.2.1 bt116.2.2.2.1 bt124.1 bt124.2.1 bt124.2.2.1 bt124.2.2.2 bt137.1 bt137.2.1 bt137.2.2.1 bt137.2.2.2.1) else (laws_FnExactFillRegion.j0 k l1 l2 bt116.2.2.2.2 t131 t134 bt137.2.2.2.2 true a0_0 a0_1 a0_2 l0_3 bt116.1 bt116.2.1 bt116.2.2.1 bt116.2.2.2.1 bt124.1 bt124.2.1 bt124.2.2.1 bt124.2.2.2 bt137.1 bt137.2.1 bt137.2.2.1 bt137.2.2.2.1))))))))) = some r := H
 have A17 := Aside0.mk A170
 clear A170
 replace H := Option.bind_eq_some_iff.mp H
 obtain ⟨t113, A180, H⟩ := H
 replace H : ((spec_FillRegion.f k t104 t105 t106 t107 t110 t113).bind fun bt116 => ((laws_toImage.f k a0_0 a0_1 a0_2 l0_3).bind fun bt124 => ((laws_toRunS.f k l1).bind fun t131 => ((laws_toIntS.f k l2).bind fun t134 => ((impl_FillRegion.f bt124.1 bt124.2.1 bt124.2.2.1 bt124.2.2.2 t131 t134).bind fun bt137 => ((laws_eqImage.f k bt137.1 bt137.2.1 bt137.2.2.1 bt137.2.2.2.1 bt116.1 bt116.2.1 bt116.2.2.1 bt116.2.2.2.1).bind fun t145 => (if t145 = true then (laws_FnExactFillRegion.j0 k l1 l2 bt116.2.2.2.2 t131 t134 bt137.2.2.2.2 (bt137.2.2.2.2 != bt116.2.2.2.2) a0_0 a0_1 a0_2 l0_3 bt116.1 bt116.2.1 bt116.2.2.1 bt116.2.2.2.1 bt124.1 bt124.2.1 bt124.2.2.1 bt124.2.2.2 bt137.1 bt137.2.1 bt137.2.2.1 bt137.2.2.2.1) else (laws_FnExactFillRegion.j0 k l1 l2 bt116.2.2.2.2 t131 t134 bt137.2.2.2.2 true a0_0 a0_1 a0_2 l0_3 bt116.1 bt116.2.1 bt116.2.2.1 bt116.2.2.2.1 bt124.1 bt124.2.1 bt124.2.2.1 bt124.2.2.2 bt137.1 bt137.2.1 bt137.2.2.1 bt137.2.2.2.1)))))))) = some r := H
 have A18 := Aside0.mk A180
 clear A180
 replace H := Option.bind_eq_some_iff.mp H
 obtain ⟨⟨t116, t117, t118, t119, t122⟩, A190, H⟩ := H
 replace H : ((laws_toImage.f k a0_0 a0_1 a0_2 l0_3).bind fun bt124 => ((laws_toRunS.f k l1).bind fun t131 => ((laws_toIntS.f k l2).bind fun t134 => ((impl_FillRegion.f bt124.1 bt124.2.1 bt124.2.2.1 bt124.2.2.2 t131 t134).bind fun bt137 => ((laws_eqImage.f k bt137.1 bt137.2.1 bt137.2.2.1 bt137.2.2.2.1 t116 t117 t118 t119).bind fun t145 => (if t145 = true then (laws_FnExactFillRegion.j0 k l1 l2 t122 t131 t134 bt137.2.2.2.2 (bt137.2.2.2.2 != t122) a0_0 a0_1 a0_2 l0_3 t116 t117 t118 t119 bt124.1 bt124.2.1 bt124.2.2.1 bt124.2.2.2 bt137.1 bt137.2.1 bt137.2.2.1 bt137.2.2.2.1) else (laws_FnExactFillRegion.j0 k l1 l2 t122 t131 t134 bt137.2.2.2.2 true a0_0 a0_1 a0_2 l0_3 t116 t117 t118 t119 bt124.1 bt124.2.1 bt124.2.2.1 bt124.2.2.2 bt137.1 bt137.2.1 bt137.2.2.1 bt137.2.2.2.1))))))) = some r := H
 have A19 := Aside0.mk A190
 clear A190
 replace H := Option.bind_eq_some_iff.mp H
 obtain ⟨⟨t124, t125, t126, t127⟩, A200, H⟩ := H
 replace H : ((laws_toRunS.f k l1).bind fun t131 => ((laws_toIntS.f k l2).bind fun t134 => ((impl_FillRegion.f t124 t125 t126 t127 t131 t134).bind fun bt137 => ((laws_eqImage.f k bt137.1 bt137.2.1 bt137.2.2.1 bt137.2.2.2.1 t116 t117 t118 t119).bind fun t145 => (if t145 = true then (laws_FnExactFillRegion.j0 k l1 l2 t122 t131 t134 bt137.2.2.2.2 (bt137.2.2.2.2 != t122) a0_0 a0_1 a0_2 l0_3 t116 t117 t118 t119 t124 t125 t126 t127 bt137.1 bt137.2.1 bt137.2.2.1 bt137.2.2.2.1) else (laws_FnExactFillRegion.j0 k l1 l2 t122 t131 t134 bt137.2.2.2.2 true a0_0 a0_1 a0_2 l0_3 t116 t117 t118 t119 t124 t125 t126 t127 bt137.1 bt137.2.1 bt137.2.2.1 bt137.2.2.2.1)))))) = some r := H
 have A20 := Aside0.mk A200
 clear A200
 replace H := Option.bind_eq_some_iff.mp H
 obtain ⟨t131, A210, H⟩ := H
 replace H : ((laws_toIntS.f k l2).bind fun t134 => ((impl_FillRegion.f t124 t125 t126 t127 t131 t134).bind fun bt137 => ((laws_eqImage.f k bt137.1 bt137.2.1 bt137.2.2.1 bt137.2.2.2.1 t116 t117 t118 t119).bind fun t145 => (if t145 = true then (laws_FnExactFillRegion.j0 k l1 l2 t122 t131 t134 bt137.2.2.2.2 (bt137.2.2.2.2 != t122) a0_0 a0_1 a0_2 l0_3 t116 t117 t118 t119 t124 t125 t126 t127 bt137.1 bt137.2.1 bt137.2.2.1 bt137.2.2.2.1) else (laws_FnExactFillRegion.j0 k l1 l2 t122 t131 t134 bt137.2.2.2.2 true a0_0 a0_1 a0_2 l0_3 t116 t117 t118 t119 t124 t125 t126 t127 bt137.1 bt137.2.1 bt137.2.2.1 bt137.2.2.2.1))))) = some r := H
 have A21 := Aside0.mk A210
 clear A210
 replace H := Option.bind_eq_some_iff.mp H
 obtain ⟨t134, A220, H⟩ := H
 replace H : ((impl_FillRegion.f t124 t125 t126 t127 t131 t134).bind fun bt137 => ((laws_eqImage.f k bt137.1 bt137.2.1 bt137.2.2.1 bt137.2.2.2.1 t116 t117 t118 t119).bind fun t145 => (if t145 = true then (laws_FnExactFillRegion.j0 k l1 l2 t122 t131 t134 bt137.2.2.2.2 (bt137.2.2.2.2 != t122) a0_0 a0_1 a0_2 l0_3 t116 t117 t118 t119 t124 t125 t126 t127 bt137.1 bt137.2.1 bt137.2.2.1 bt137.2.2.2.1) else (laws_FnExactFillRegion.j0 k l1 l2 t122 t131 t134 bt137.2.2.2.2 true a0_0 a0_1 a0_2 l0_3 t116 t117 t118 t119 t124 t125 t126 t127 bt137.1 bt137.2.1 bt137.2.2.1 bt137.2.2.2.1)))) = some r := H
 have A22 := Aside0.mk A220
 clear A220
 replace H := Option.bind_eq_some_iff.mp H
 obtain ⟨⟨t137, t138, t139, t140, t143⟩, A230, H⟩ := H
 replace H : ((laws_eqImage.f k t137 t138 t139 t140 t116 t117 t118 t119).bind fun t145 => (if t145 = true then (laws_FnExactFillRegion.j0 k l1 l2 t122 t131 t134 t143 (t143 != t122) a0_0 a0_1 a0_2 l0_3 t116 t117 t118 t119 t124 t125 t126 t127 t137 t138 t139 t140) else (laws_FnExactFillRegion.j0 k l1 l2 t122 t131 t134 t143 true a0_0 a0_1 a0_2 l0_3 t116 t117 t118 t119 t124 t125 t126 t127 t137 t138 t139 t140))) = some r := H
 have A23 := Aside0.mk A230
 clear A230
 have HC24 := Aside0.mk H
 clear H
 go_enter Try.func6, Try.ntmps6
 go_upto_region 15 with (first | ((with_reducible refine gate_dst (N := 3) rfl ?_); refine box_event ?hg (N := 3) ?hd (cs := #[.int .i64 a0_0, .int .i64 a0_1, .int .i64 a0_2, .slice A0_3 l0_3.length c0_3]) (t := 38) ?hr ?_; (case hd => rfl); (case hg => rfl); (case hr => first | (go_simp; done) | (go_simp; rfl)); intro gb101 hg w25 hbox hb; have BK101 := am_ (hbox); have GW101 := am_ ((by rw [hg]; exact (below_size (by repeat (first | (with_reducible first | exact HB.out | apply below_alloc | apply pw_below_drewN | apply below_drew1) | exact HB.out))) : w.heap.size ≤ gb101)); have GE101 := GW101; replace HB := am_ (below_step (by repeat (first | (with_reducible first | exact HB.out | apply below_alloc | apply pw_below_drewN | apply below_drew1) | exact HB.out)) hb); clear hb hbox hg; obtain ⟨hcz26_0, hcz26_1, hcz26_2, hcz26_3, hfz26_0, hfz26_1, hfz26_2, hfz26_3⟩ := blk4_ BK101.out) | ((with_reducible refine gate_callee (f := 18) rfl ?_); refine goesL_ (some 25) rfl rfl Try.func18 (by kernel_rfl) rfl #[.agg #[.int .i64 a0_0, .int .i64 a0_1, .int .i64 a0_2, .slice A0_3 l0_3.length c0_3], .int .i64 1048576] rfl (by simp only [List.map_toArray, List.map_cons, List.map_nil]; rfl) ?_; (with_reducible refine (laws_szImage.calls a0_0 a0_1 a0_2 _ _ l0_3 1048576 t102 _ ?side1 ?side2 A6.out).mono ?_); (case side1 => repeat (first | exact (Kd.C_below HR0_3.out HB.out) | (with_reducible refine Kd.C_alloc ?_ _) | (with_reducible refine Kd.C_drewN ?_ _) | (with_reducible refine Kd.C_drew ?_))); (case side2 => exact HC0_3.out); rintro e w27 ⟨rfl, hb⟩; refine ⟨_, rfl, ?_⟩; replace BK101 := am_ (blk_below (by exact BK101.out) hb); replace HB := am_ (below_step (by repeat (first | (with_reducible first | exact HB.out | apply below_alloc | apply pw_below_drewN | apply below_drew1 | refine below_set ?_ GE101.out) | exact HB.out)) hb); (try clear hb); (try clear hb2); (try clear hk); (try clear hi)) | ((with_reducible refine gate_callee (f := 19) rfl ?_); refine goesL_ (some 30) rfl rfl Try.func19 (by kernel_rfl) rfl #[.slice A1 l1.length c1, .int .i64 t102] rfl (by simp only [List.map_toArray, List.map_cons, List.map_nil]; rfl) ?_; (with_reducible refine (laws_szRunS.calls _ _ l1 t102 t103 _ ?side1 ?side2 A11.out).mono ?_); (case side1 => repeat (first | exact (Kd.C_below HR1.out HB.out) | (with_reducible refine Kd.C_alloc ?_ _) | (with_reducible refine Kd.C_drewN ?_ _) | (with_reducible refine Kd.C_drew ?_))); (case side2 => exact HC1.out); rintro e w' ⟨rfl, ⟨nd, rfl⟩⟩; refine ⟨_, rfl, ?_⟩; (try (rw [drewN_self w27]; generalize hq_ : World.drewN w27 _ = w27; have n0_ : Aside0 (w27.heap[gb101]? = some (.cells #[.int .i64 a0_0, .int .i64 a0_1, .int .i64 a0_2, .slice A0_3 l0_3.length c0_3] 38 (0, 0))) := ⟨by rw [← hq_]; exact (by exact BK101.out)⟩; have n1_ : Aside0 (Below w.heap.size w w27) := ⟨by rw [← hq_]; exact (by repeat (first | (with_reducible first | exact HB.out | apply below_alloc | apply pw_below_drewN | apply below_drew1 | refine below_set ?_ GE101.out) | exact HB.out))⟩; clear BK101 HB hq_; have BK101 := n0_; have HB := n1_; clear n0_ n1_)); obtain ⟨hcz28_0, hcz28_1, hcz28_2, hcz28_3, hfz28_0, hfz28_1, hfz28_2, hfz28_3⟩ := blk4_ BK101.out) | ((with_reducible refine gate_callee (f := 20) rfl ?_); refine goesL_ (some 35) rfl rfl Try.func20 (by kernel_rfl) rfl #[.agg #[.int .i64 a0_0, .int .i64 a0_1, .int .i64 a0_2, .slice A0_3 l0_3.length c0_3]] rfl (by simp only [List.map_toArray, List.map_cons, List.map_nil]; rfl) ?_; (with_reducible refine (laws_toImage.calls k a0_0 a0_1 a0_2 _ _ l0_3 t104 t105 t106 t107 _ ?side1 ?side2 A16.out).mono ?_); (case side1 => repeat (first | exact (Kd.C_below HR0_3.out HB.out) | (with_reducible refine Kd.C_alloc ?_ _) | (with_reducible refine Kd.C_drewN ?_ _) | (with_reducible refine Kd.C_drew ?_))); (case side2 => exact HC0_3.out); rintro e w29 ⟨v108, rfl, ho0, hb⟩; refine ⟨_, rfl, ?_⟩; have HO109 := am_ (Kd.R_lower ho0 (below_size (by repeat (first | (with_reducible first | exact HB.out | apply below_alloc | apply pw_below_drewN | apply below_drew1 | refine below_set ?_ GE101.out) | exact HB.out)))); replace BK101 := am_ (blk_below (by exact BK101.out) hb); replace HB := am_ (below_step (by repeat (first | (with_reducible first | exact HB.out | apply below_alloc | apply pw_below_drewN | apply below_drew1 | refine below_set ?_ GE101.out) | exact HB.out)) hb); (try clear hb); (try clear hb2); (try clear hk); (try clear hi); (try clear ho0)) | ((with_reducible refine gate_callee (f := 21) rfl ?_); refine goesL_ (some 37) rfl rfl Try.func21 (by kernel_rfl) rfl #[.slice A1 l1.length c1] rfl (by simp only [List.map_toArray, List.map_cons, List.map_nil]; rfl) ?_; (with_reducible refine (laws_toRunS.calls k _ _ l1 t110 _ ?side1 ?side2 A17.out).mono ?_); (case side1 => repeat (first | exact (Kd.C_below HR1.out HB.out) | (with_reducible refine Kd.C_alloc ?_ _) | (with_reducible refine Kd.C_drewN ?_ _) | (with_reducible refine Kd.C_drew ?_))); (case side2 => exact HC1.out); rintro e w30 ⟨v111, rfl, ho0, hb⟩; refine ⟨_, rfl, ?_⟩; replace HO109 := am_ (Kd.R_below (by exact HO109.out) hb); have HO112 := am_ (Kd.R_lower ho0 (below_size (by repeat (first | (with_reducible first | exact HB.out | apply below_alloc | apply pw_below_drewN | apply below_drew1 | refine below_set ?_ GE101.out) | exact HB.out)))); replace BK101 := am_ (blk_below (by exact BK101.out) hb); replace HB := am_ (below_step (by repeat (first | (with_reducible first | exact HB.out | apply below_alloc | apply pw_below_drewN | apply below_drew1 | refine below_set ?_ GE101.out) | exact HB.out)) hb); (try clear hb); (try clear hb2); (try clear hk); (try clear hi); (try clear ho0)) | ((with_reducible refine gate_callee (f := 28) rfl ?_); refine goesL_ (some 39) rfl rfl Try.func28 (by kernel_rfl) rfl #[.slice A2 l2.length c2] rfl (by simp only [List.map_toArray, List.map_cons, List.map_nil]; rfl) ?_; (with_reducible refine (laws_toIntS.calls k _ _ l2 t113 _ ?side1 ?side2 A18.out).mono ?_); (case side1 => repeat (first | exact (Kd.C_below HR2.out HB.out) | (with_reducible refine Kd.C_alloc ?_ _) | (with_reducible refine Kd.C_drewN ?_ _) | (with_reducible refine Kd.C_drew ?_))); (case side2 => exact HC2.out); rintro e w31 ⟨v114, rfl, ho0, hb⟩; refine ⟨_, rfl, ?_⟩; replace HO112 := am_ (Kd.R_below (by exact HO112.out) hb); have HO115 := am_ (Kd.R_lower (Kd.R_new' ho0 (Kd.R_lt (by exact HO109.out))) (below_size (by repeat (first | (with_reducible first | exact HB.out | apply below_alloc | apply pw_below_drewN | apply below_drew1 | refine below_set ?_ GE101.out) | exact HB.out)))); replace HO109 := am_ (Kd.R_elder' (by exact HO109.out) (Kd.R_base ho0) hb); replace BK101 := am_ (blk_below (by exact BK101.out) hb); replace HB := am_ (below_step (by repeat (first | (with_reducible first | exact HB.out | apply below_alloc | apply pw_below_drewN | apply below_drew1 | refine below_set ?_ GE101.out) | exact HB.out)) hb); (try clear hb); (try clear hb2); (try clear hk); (try clear hi); (try clear ho0); obtain ⟨Ao32, co32, eo32⟩ := Kd.R_slice HO109.out; subst eo32; obtain ⟨Ao33, co33, eo33⟩ := Kd.R_slice HO112.out; subst eo33; obtain ⟨Ao34, co34, eo34⟩ := Kd.R_slice HO115.out; subst eo34) | ((with_reducible refine gate_callee (f := 27) rfl ?_); refine goesL_ (some 40) rfl rfl Try.func27 (by kernel_rfl) rfl #[.agg #[.int .i64 t104, .int .i64 t105, .int .i64 t106, .slice Ao32 t107.length co32], .slice Ao33 t110.length co33, .slice Ao34 t113.length co34] rfl (by simp only [List.map_toArray, List.map_cons, List.map_nil]; rfl) ?_; (with_reducible refine (spec_FillRegion.calls k t104 t105 t106 _ _ t107 _ _ t110 _ _ t113 t116 t117 t118 t119 t122 _ ?side1 ?side2 ?side3 ?side4 ?side5 ?side6 A19.out).mono ?_); (case side1 => repeat (first | exact (Kd.R_reads' HO109.out).2.2 | (with_reducible refine Kd.C_alloc ?_ _) | (with_reducible refine Kd.C_drewN ?_ _) | (with_reducible refine Kd.C_drew ?_))); (case side2 => exact (Kd.R_reads' HO109.out).2.1); (case side3 => repeat (first | exact (Kd.R_reads' HO112.out).2.2 | (with_reducible refine Kd.C_alloc ?_ _) | (with_reducible refine Kd.C_drewN ?_ _) | (with_reducible refine Kd.C_drew ?_))); (case side4 => exact (Kd.R_reads' HO112.out).2.1); (case side5 => repeat (first | exact (Kd.R_reads' HO115.out).2.2 | (with_reducible refine Kd.C_alloc ?_ _) | (with_reducible refine Kd.C_drewN ?_ _) | (with_reducible refine Kd.C_drew ?_))); (case side6 => exact (Kd.R_reads' HO115.out).2.1); rintro e w35 ⟨v120, rfl, ho0, hb⟩; refine ⟨_, rfl, ?_⟩; replace HO112 := am_ (Kd.R_below (by exact HO112.out) hb); have HO121 := am_ (Kd.R_lower (Kd.R_new' (Kd.R_new' ho0 (Kd.R_lt (by exact HO109.out))) (Kd.R_lt (by exact HO115.out))) (below_size (by repeat (first | (with_reducible first | exact HB.out | apply below_alloc | apply pw_below_drewN | apply below_drew1 | refine below_set ?_ GE101.out) | exact HB.out)))); replace HO109 := am_ (Kd.R_elder' (by exact HO109.out) (Kd.R_base ho0) hb); replace HO115 := am_ (Kd.R_elder' (by exact HO115.out) (Kd.R_base ho0) hb); replace BK101 := am_ (blk_below (by exact BK101.out) hb); replace HB := am_ (below_step (by repeat (first | (with_reducible first | exact HB.out | apply below_alloc | apply pw_below_drewN | apply below_drew1 | refine below_set ?_ GE101.out) | exact HB.out)) hb); (try clear hb); (try clear hb2); (try clear hk); (try clear hi); (try clear ho0)) | ((with_reducible refine gate_dst (N := 8) rfl ?_); refine box_event ?hg (N := 8) ?hd (cs := #[.int .i64 0, .int .i64 0, .int .i64 0, .slice none 0 0]) (t := 25) ?hr ?_; (case hd => rfl); (case hg => rfl); (case hr => first | (go_simp; done) | (go_simp; rfl)); intro gb123 hg w36 hbox hb; replace HO109 := am_ (Kd.R_below (by exact HO109.out) hb); replace HO112 := am_ (Kd.R_below (by exact HO112.out) hb); replace HO115 := am_ (Kd.R_below (by exact HO115.out) hb); replace HO121 := am_ (Kd.R_below (by exact HO121.out) hb); have BK123 := am_ (hbox); have GW123 := am_ ((by rw [hg]; exact (below_size (by repeat (first | (with_reducible first | exact HB.out | apply below_alloc | apply pw_below_drewN | apply below_drew1 | refine below_set ?_ GE101.out) | exact HB.out))) : w.heap.size ≤ gb123)); have GE123 := GW123; replace HB := am_ (below_step (by repeat (first | (with_reducible first | exact HB.out | apply below_alloc | apply pw_below_drewN | apply below_drew1 | refine below_set ?_ GE101.out) | exact HB.out)) hb); have NB101_123 := am_ ((by rw [hg]; exact Nat.ne_of_lt (blk_lt (by exact BK101.out)) : gb101 ≠ gb123)); have NB123_101 := am_ ((by rw [hg]; exact Nat.ne_of_gt (blk_lt (by exact BK101.out)) : gb123 ≠ gb101)); replace BK101 := am_ (blk_below (by exact BK101.out) hb); clear hb hbox hg; have hnb37 := NB123_101.out; have hnc37 := NB101_123.out; obtain ⟨hcz38_0, hcz38_1, hcz38_2, hcz38_3, hfz38_0, hfz38_1, hfz38_2, hfz38_3⟩ := blk4_ BK123.out; obtain ⟨Ao39, co39, eo39⟩ := Kd.R_slice HO121.out; subst eo39; obtain ⟨hcz40_0, hcz40_1, hcz40_2, hcz40_3, hfz40_0, hfz40_1, hfz40_2, hfz40_3⟩ := blk4_ BK101.out) | ((with_reducible refine gate_callee (f := 20) rfl ?_); refine goesL_ (some 44) rfl rfl Try.func20 (by kernel_rfl) rfl #[.agg #[.int .i64 a0_0, .int .i64 a0_1, .int .i64 a0_2, .slice A0_3 l0_3.length c0_3]] rfl (by simp only [List.map_toArray, List.map_cons, List.map_nil]; rfl) ?_; (with_reducible refine (laws_toImage.calls k a0_0 a0_1 a0_2 _ _ l0_3 t124 t125 t126 t127 _ ?side1 ?side2 A20.out).mono ?_); (case side1 => exact Kd.C_below HR0_3.out (by repeat (first | (with_reducible first | exact HB.out | apply below_alloc | apply pw_below_drewN | apply below_drew1 | refine below_set ?_ GE101.out | refine below_set ?_ GE123.out) | exact HB.out))); (case side2 => exact HC0_3.out); rintro e w41 ⟨v128, rfl, ho0, hb⟩; refine ⟨_, rfl, ?_⟩; replace HO112 := am_ (Kd.R_below (by exact (R4_ HO112.out BK123.out (by decide) _ _ _ _)) hb); have HO129 := am_ (Kd.R_lower (Kd.R_new' (Kd.R_new' (Kd.R_new' ho0 (Kd.R_lt (by exact (R4_ HO109.out BK123.out (by decide) _ _ _ _)))) (Kd.R_lt (by exact (R4_ HO115.out BK123.out (by decide) _ _ _ _)))) (Kd.R_lt (by exact (R4_ HO121.out BK123.out (by decide) _ _ _ _)))) (below_size (by repeat (first | (with_reducible first | exact HB.out | apply below_alloc | apply pw_below_drewN | apply below_drew1 | refine below_set ?_ GE101.out | refine below_set ?_ GE123.out) | exact HB.out)))); replace HO109 := am_ (Kd.R_elder' (by exact (R4_ HO109.out BK123.out (by decide) _ _ _ _)) (Kd.R_base ho0) hb); replace HO115 := am_ (Kd.R_elder' (by exact (R4_ HO115.out BK123.out (by decide) _ _ _ _)) (Kd.R_base ho0) hb); replace HO121 := am_ (Kd.R_elder' (by exact (R4_ HO121.out BK123.out (by decide) _ _ _ _)) (Kd.R_base ho0) hb); replace BK101 := am_ (blk_below (by exact far4_ BK101.out NB101_123.out _ _ _ _) hb); replace BK123 := am_ (blk_below (by exact put4_ BK123.out _ _ _ _) hb); replace HB := am_ (below_step (by repeat (first | (with_reducible first | exact HB.out | apply below_alloc | apply pw_below_drewN | apply below_drew1 | refine below_set ?_ GE101.out | refine below_set ?_ GE123.out) | exact HB.out)) hb); (try clear hb); (try clear hb2); (try clear hk); (try clear hi); (try clear ho0)) | ((with_reducible refine gate_dst (N := 10) rfl ?_); refine box_event ?hg (N := 10) ?hd (cs := #[.int .i64 0, .int .i64 0, .int .i64 0, .slice none 0 0]) (t := 25) ?hr ?_; (case hd => rfl); (case hg => rfl); (case hr => first | (go_simp; done) | (go_simp; rfl)); intro gb130 hg w42 hbox hb; replace HO109 := am_ (Kd.R_below (by exact HO109.out) hb); replace HO112 := am_ (Kd.R_below (by exact HO112.out) hb); replace HO115 := am_ (Kd.R_below (by exact HO115.out) hb); replace HO121 := am_ (Kd.R_below (by exact HO121.out) hb); replace HO129 := am_ (Kd.R_below (by exact HO129.out) hb); have BK130 := am_ (hbox); have GW130 := am_ ((by rw [hg]; exact (below_size (by repeat (first | (with_reducible first | exact HB.out | apply below_alloc | apply pw_below_drewN | apply below_drew1 | refine below_set ?_ GE101.out | refine below_set ?_ GE123.out) | exact HB.out))) : w.heap.size ≤ gb130)); have GE130 := GW130; replace HB := am_ (below_step (by repeat (first | (with_reducible first | exact HB.out | apply below_alloc | apply pw_below_drewN | apply below_drew1 | refine below_set ?_ GE101.out | refine below_set ?_ GE123.out) | exact HB.out)) hb); have NB101_130 := am_ ((by rw [hg]; exact Nat.ne_of_lt (blk_lt (by exact BK101.out)) : gb101 ≠ gb130)); have NB130_101 := am_ ((by rw [hg]; exact Nat.ne_of_gt (blk_lt (by exact BK101.out)) : gb130 ≠ gb101)); replace BK101 := am_ (blk_below (by exact BK101.out) hb); have NB123_130 := am_ ((by rw [hg]; exact Nat.ne_of_lt (blk_lt (by exact BK123.out)) : gb123 ≠ gb130)); have NB130_123 := am_ ((by rw [hg]; exact Nat.ne_of_gt (blk_lt (by exact BK123.out)) : gb130 ≠ gb123)); replace BK123 := am_ (blk_below (by exact BK123.out) hb); clear hb hbox hg; have hnb43 := NB130_101.out; have hnc43 := NB101_130.out; have hnb44 := NB130_123.out; have hnc44 := NB123_130.out; obtain ⟨hcz45_0, hcz45_1, hcz45_2, hcz45_3, hfz45_0, hfz45_1, hfz45_2, hfz45_3⟩ := blk4_ BK130.out; obtain ⟨Ao46, co46, eo46⟩ := Kd.R_slice HO129.out; subst eo46) | ((with_reducible refine gate_callee (f := 21) rfl ?_); refine goesL_ (some 46) rfl rfl Try.func21 (by kernel_rfl) rfl #[.slice A1 l1.length c1] rfl (by simp only [List.map_toArray, List.map_cons, List.map_nil]; rfl) ?_; (with_reducible refine (laws_toRunS.calls k _ _ l1 t131 _ ?side1 ?side2 A21.out).mono ?_); (case side1 => exact Kd.C_below HR1.out (by repeat (first | (with_reducible first | exact HB.out | apply below_alloc | apply pw_below_drewN | apply below_drew1 | refine below_set ?_ GE101.out | refine below_set ?_ GE123.out | refine below_set ?_ GE130.out) | exact HB.out))); (case side2 => exact HC1.out); rintro e w47 ⟨v132, rfl, ho0, hb⟩; refine ⟨_, rfl, ?_⟩; replace HO109 := am_ (Kd.R_below (by exact (R4_ HO109.out BK130.out (by decide) _ _ _ _)) hb); replace HO115 := am_ (Kd.R_below (by exact (R4_ HO115.out BK130.out (by decide) _ _ _ _)) hb); replace HO121 := am_ (Kd.R_below (by exact (R4_ HO121.out BK130.out (by decide) _ _ _ _)) hb); replace HO129 := am_ (Kd.R_below (by exact (R4_ HO129.out BK130.out (by decide) _ _ _ _)) hb); have HO133 := am_ (Kd.R_lower (Kd.R_new' ho0 (Kd.R_lt (by exact (R4_ HO112.out BK130.out (by decide) _ _ _ _)))) (below_size (by repeat (first | (with_reducible first | exact HB.out | apply below_alloc | apply pw_below_drewN | apply below_drew1 | refine below_set ?_ GE101.out | refine below_set ?_ GE123.out | refine below_set ?_ GE130.out) | exact HB.out)))); replace HO112 := am_ (Kd.R_elder' (by exact (R4_ HO112.out BK130.out (by decide) _ _ _ _)) (Kd.R_base ho0) hb); replace BK101 := am_ (blk_below (by exact far4_ BK101.out NB101_130.out _ _ _ _) hb); replace BK123 := am_ (blk_below (by exact far4_ BK123.out NB123_130.out _ _ _ _) hb); replace BK130 := am_ (blk_below (by exact put4_ BK130.out _ _ _ _) hb); replace HB := am_ (below_step (by repeat (first | (with_reducible first | exact HB.out | apply below_alloc | apply pw_below_drewN | apply below_drew1 | refine below_set ?_ GE101.out | refine below_set ?_ GE123.out | refine below_set ?_ GE130.out) | exact HB.out)) hb); (try clear hb); (try clear hb2); (try clear hk); (try clear hi); (try clear ho0)) | ((with_reducible refine gate_callee (f := 28) rfl ?_); refine goesL_ (some 48) rfl rfl Try.func28 (by kernel_rfl) rfl #[.slice A2 l2.length c2] rfl (by simp only [List.map_toArray, List.map_cons, List.map_nil]; rfl) ?_; (with_reducible refine (laws_toIntS.calls k _ _ l2 t134 _ ?side1 ?side2 A22.out).mono ?_); (case side1 => repeat (first | exact (Kd.C_below HR2.out HB.out) | (with_reducible refine Kd.C_alloc ?_ _) | (with_reducible refine Kd.C_drewN ?_ _) | (with_reducible refine Kd.C_drew ?_))); (case side2 => exact HC2.out); rintro e w48 ⟨v135, rfl, ho0, hb⟩; refine ⟨_, rfl, ?_⟩; replace HO112 := am_ (Kd.R_below (by exact HO112.out) hb); replace HO133 := am_ (Kd.R_below (by exact HO133.out) hb); have HO136 := am_ (Kd.R_lower (Kd.R_new' (Kd.R_new' (Kd.R_new' (Kd.R_new' ho0 (Kd.R_lt (by exact HO109.out))) (Kd.R_lt (by exact HO115.out))) (Kd.R_lt (by exact HO121.out))) (Kd.R_lt (by exact HO129.out))) (below_size (by repeat (first | (with_reducible first | exact HB.out | apply below_alloc | apply pw_below_drewN | apply below_drew1 | refine below_set ?_ GE101.out | refine below_set ?_ GE123.out | refine below_set ?_ GE130.out) | exact HB.out)))); replace HO109 := am_ (Kd.R_elder' (by exact HO109.out) (Kd.R_base ho0) hb); replace HO115 := am_ (Kd.R_elder' (by exact HO115.out) (Kd.R_base ho0) hb); replace HO121 := am_ (Kd.R_elder' (by exact HO121.out) (Kd.R_base ho0) hb); replace HO129 := am_ (Kd.R_elder' (by exact HO129.out) (Kd.R_base ho0) hb); replace BK101 := am_ (blk_below (by exact BK101.out) hb); replace BK123 := am_ (blk_below (by exact BK123.out) hb); replace BK130 := am_ (blk_below (by exact BK130.out) hb); replace HB := am_ (below_step (by repeat (first | (with_reducible first | exact HB.out | apply below_alloc | apply pw_below_drewN | apply below_drew1 | refine below_set ?_ GE101.out | refine below_set ?_ GE123.out | refine below_set ?_ GE130.out) | exact HB.out)) hb); (try clear hb); (try clear hb2); (try clear hk); (try clear hi); (try clear ho0); obtain ⟨hcz49_0, hcz49_1, hcz49_2, hcz49_3, hfz49_0, hfz49_1, hfz49_2, hfz49_3⟩ := blk4_ BK130.out; obtain ⟨Ao50, co50, eo50⟩ := Kd.R_slice HO133.out; subst eo50; obtain ⟨Ao51, co51, eo51⟩ := Kd.R_slice HO136.out; subst eo51) | ((with_reducible refine gate_callee (f := 29) rfl ?_); refine goesL_ (some 53) rfl rfl Try.func29 (by kernel_rfl) rfl #[.agg #[.int .i64 t124, .int .i64 t125, .int .i64 t126, .slice Ao46 t127.length co46], .slice Ao50 t131.length co50, .slice Ao51 t134.length co51] rfl (by simp only [List.map_toArray, List.map_cons, List.map_nil]; rfl) ?_; (with_reducible refine (impl_FillRegion.calls t124 t125 t126 _ _ t127 _ _ t131 _ _ t134 t137 t138 t139 t140 t143 _ ?side1 ?side2 ?side3 ?side4 ?side5 ?side6 A23.out).mono ?_); (case side1 => repeat (first | exact (Kd.R_reads' HO129.out).2.2 | (with_reducible refine Kd.C_alloc ?_ _) | (with_reducible refine Kd.C_drewN ?_ _) | (with_reducible refine Kd.C_drew ?_))); (case side2 => exact (Kd.R_reads' HO129.out).2.1); (case side3 => repeat (first | exact (Kd.R_reads' HO133.out).2.2 | (with_reducible refine Kd.C_alloc ?_ _) | (with_reducible refine Kd.C_drewN ?_ _) | (with_reducible refine Kd.C_drew ?_))); (case side4 => exact (Kd.R_reads' HO133.out).2.1); (case side5 => repeat (first | exact (Kd.R_reads' HO136.out).2.2 | (with_reducible refine Kd.C_alloc ?_ _) | (with_reducible refine Kd.C_drewN ?_ _) | (with_reducible refine Kd.C_drew ?_))); (case side6 => exact (Kd.R_reads' HO136.out).2.1); rintro e w52 ⟨v141, rfl, ho0, hb⟩; refine ⟨_, rfl, ?_⟩; replace HO112 := am_ (Kd.R_below (by exact HO112.out) hb); replace HO133 := am_ (Kd.R_below (by exact HO133.out) hb); have HO142 := am_ (Kd.R_lower (Kd.R_new' (Kd.R_new' (Kd.R_new' (Kd.R_new' (Kd.R_new' ho0 (Kd.R_lt (by exact HO109.out))) (Kd.R_lt (by exact HO115.out))) (Kd.R_lt (by exact HO121.out))) (Kd.R_lt (by exact HO129.out))) (Kd.R_lt (by exact HO136.out))) (below_size (by repeat (first | (with_reducible first | exact HB.out | apply below_alloc | apply pw_below_drewN | apply below_drew1 | refine below_set ?_ GE101.out | refine below_set ?_ GE123.out | refine below_set ?_ GE130.out) | exact HB.out)))); replace HO109 := am_ (Kd.R_elder' (by exact HO109.out) (Kd.R_base ho0) hb); replace HO115 := am_ (Kd.R_elder' (by exact HO115.out) (Kd.R_base ho0) hb); replace HO121 := am_ (Kd.R_elder' (by exact HO121.out) (Kd.R_base ho0) hb); replace HO129 := am_ (Kd.R_elder' (by exact HO129.out) (Kd.R_base ho0) hb); replace HO136 := am_ (Kd.R_elder' (by exact HO136.out) (Kd.R_base ho0) hb); replace BK101 := am_ (blk_below (by exact BK101.out) hb); replace BK123 := am_ (blk_below (by exact BK123.out) hb); replace BK130 := am_ (blk_below (by exact BK130.out) hb); replace HB := am_ (below_step (by repeat (first | (with_reducible first | exact HB.out | apply below_alloc | apply pw_below_drewN | apply below_drew1 | refine below_set ?_ GE101.out | refine below_set ?_ GE123.out | refine below_set ?_ GE130.out) | exact HB.out)) hb); (try clear hb); (try clear hb2); (try clear hk); (try clear hi); (try clear ho0)) | ((with_reducible refine gate_dst (N := 13) rfl ?_); refine box_event ?hg (N := 13) ?hd (cs := #[.int .i64 0, .int .i64 0, .int .i64 0, .slice none 0 0]) (t := 25) ?hr ?_; (case hd => rfl); (case hg => rfl); (case hr => first | (go_simp; done) | (go_simp; rfl)); intro gb144 hg w53 hbox hb; replace HO109 := am_ (Kd.R_below (by exact HO109.out) hb); replace HO112 := am_ (Kd.R_below (by exact HO112.out) hb); replace HO115 := am_ (Kd.R_below (by exact HO115.out) hb); replace HO121 := am_ (Kd.R_below (by exact HO121.out) hb); replace HO129 := am_ (Kd.R_below (by exact HO129.out) hb); replace HO133 := am_ (Kd.R_below (by exact HO133.out) hb); replace HO136 := am_ (Kd.R_below (by exact HO136.out) hb); replace HO142 := am_ (Kd.R_below (by exact HO142.out) hb); have BK144 := am_ (hbox); have GW144 := am_ ((by rw [hg]; exact (below_size (by repeat (first | (with_reducible first | exact HB.out | apply below_alloc | apply pw_below_drewN | apply below_drew1 | refine below_set ?_ GE101.out | refine below_set ?_ GE123.out | refine below_set ?_ GE130.out) | exact HB.out))) : w.heap.size ≤ gb144)); have GE144 := GW144; replace HB := am_ (below_step (by repeat (first | (with_reducible first | exact HB.out | apply below_alloc | apply pw_below_drewN | apply below_drew1 | refine below_set ?_ GE101.out | refine below_set ?_ GE123.out | refine below_set ?_ GE130.out) | exact HB.out)) hb); have NB101_144 := am_ ((by rw [hg]; exact Nat.ne_of_lt (blk_lt (by exact BK101.out)) : gb101 ≠ gb144)); have NB144_101 := am_ ((by rw [hg]; exact Nat.ne_of_gt (blk_lt (by exact BK101.out)) : gb144 ≠ gb101)); replace BK101 := am_ (blk_below (by exact BK101.out) hb); have NB123_144 := am_ ((by rw [hg]; exact Nat.ne_of_lt (blk_lt (by exact BK123.out)) : gb123 ≠ gb144)); have NB144_123 := am_ ((by rw [hg]; exact Nat.ne_of_gt (blk_lt (by exact BK123.out)) : gb144 ≠ gb123)); replace BK123 := am_ (blk_below (by exact BK123.out) hb); have NB130_144 := am_ ((by rw [hg]; exact Nat.ne_of_lt (blk_lt (by exact BK130.out)) : gb130 ≠ gb144)); have NB144_130 := am_ ((by rw [hg]; exact Nat.ne_of_gt (blk_lt (by exact BK130.out)) : gb144 ≠ gb130)); replace BK130 := am_ (blk_below (by exact BK130.out) hb); clear hb hbox hg; have hnb54 := NB144_101.out; have hnc54 := NB101_144.out; have hnb55 := NB144_123.out; have hnc55 := NB123_144.out; have hnb56 := NB144_130.out; have hnc56 := NB130_144.out; obtain ⟨hcz57_0, hcz57_1, hcz57_2, hcz57_3, hfz57_0, hfz57_1, hfz57_2, hfz57_3⟩ := blk4_ BK144.out; obtain ⟨Ao58, co58, eo58⟩ := Kd.R_slice HO142.out; subst eo58))
 (try simp only [Act.put, List.setIfInBounds_toArray, List.set_cons_zero, List.set_cons_succ])
 go_cut [64] (fun v64 wc => ∃ (kq : Nat) (x64_23 : Bool), v64 = .bool x64_23 ∧ Aside0 (laws_FnExactFillRegion.j0 kq l1 l2 t122 t131 t134 t143 x64_23 a0_0 a0_1 a0_2 l0_3 t116 t117 t118 t119 t124 t125 t126 t127 t137 t138 t139 t140 = some r) ∧ Aside0 (kq ≤ k) ∧ Aside0 (Kd.R k96 96 wc w.heap.size (fun _ => True) (.slice Ao50 t131.length co50) t131) ∧ Aside0 (Kd.R (Kd.int .i64) 3 wc w.heap.size (fun k_ => some k_ ≠ ((.slice Ao39 t119.length co39) : Value).ownBlock ∧ some k_ ≠ ((.slice Ao46 t127.length co46) : Value).ownBlock ∧ some k_ ≠ ((.slice Ao58 t140.length co58) : Value).ownBlock) (.slice Ao51 t134.length co51) t134) ∧ Aside0 (Kd.R (Kd.int .i64) 3 wc w.heap.size (fun k_ => some k_ ≠ ((.slice Ao51 t134.length co51) : Value).ownBlock ∧ some k_ ≠ ((.slice Ao46 t127.length co46) : Value).ownBlock ∧ some k_ ≠ ((.slice Ao58 t140.length co58) : Value).ownBlock) (.slice Ao39 t119.length co39) t119) ∧ Aside0 (Kd.R (Kd.int .i64) 3 wc w.heap.size (fun k_ => some k_ ≠ ((.slice Ao51 t134.length co51) : Value).ownBlock ∧ some k_ ≠ ((.slice Ao39 t119.length co39) : Value).ownBlock ∧ some k_ ≠ ((.slice Ao58 t140.length co58) : Value).ownBlock) (.slice Ao46 t127.length co46) t127) ∧ Aside0 (Kd.R (Kd.int .i64) 3 wc w.heap.size (fun k_ => some k_ ≠ ((.slice Ao51 t134.length co51) : Value).ownBlock ∧ some k_ ≠ ((.slice Ao39 t119.length co39) : Value).ownBlock ∧ some k_ ≠ ((.slice Ao46 t127.length co46) : Value).ownBlock) (.slice Ao58 t140.length co58) t140) ∧ Aside0 (wc.heap[gb101]? = some (.cells #[.int .i64 a0_0, .int .i64 a0_1, .int .i64 a0_2, (.slice A0_3 l0_3.length c0_3)] 38 (0, 0))) ∧ Aside0 (wc.heap[gb123]? = some (.cells #[.int .i64 t116, .int .i64 t117, .int .i64 t118, (.slice Ao39 t119.length co39)] 25 (0, 0))) ∧ Aside0 (wc.heap[gb130]? = some (.cells #[.int .i64 t124, .int .i64 t125, .int .i64 t126, (.slice Ao46 t127.length co46)] 25 (0, 0))) ∧ Aside0 (wc.heap[gb144]? = some (.cells #[.int .i64 t137, .int .i64 t138, .int .i64 t139, (.slice Ao58 t140.length co58)] 25 (0, 0))) ∧ Aside0 (Below w.heap.size w wc))
 case first =>
  have H := HC24.out
  clear HC24
  replace H := Option.bind_eq_some_iff.mp H
  obtain ⟨t145, A590, H⟩ := H
  replace H : (if t145 = true then (laws_FnExactFillRegion.j0 k l1 l2 t122 t131 t134 t143 (t143 != t122) a0_0 a0_1 a0_2 l0_3 t116 t117 t118 t119 t124 t125 t126 t127 t137 t138 t139 t140) else (laws_FnExactFillRegion.j0 k l1 l2 t122 t131 t134 t143 true a0_0 a0_1 a0_2 l0_3 t116 t117 t118 t119 t124 t125 t126 t127 t137 t138 t139 t140)) = some r := H
  have A59 := Aside0.mk A590
  clear A590
  by_cases c60 : t145 = true
  ·
   subst c60
   have H1 : (laws_FnExactFillRegion.j0 k l1 l2 t122 t131 t134 t143 (t143 != t122) a0_0 a0_1 a0_2 l0_3 t116 t117 t118 t119 t124 t125 t126 t127 t137 t138 t139 t140) = some r := by rw [if_pos rfl] at H; exact H
   clear H
   have H := H1
   clear H1
   have H' := Aside0.mk H
   clear H
   have hnb61 := NB144_101.out
   have hnc61 := NB101_144.out
   have hnb62 := NB144_123.out
   have hnc62 := NB123_144.out
   have hnb63 := NB144_130.out
   have hnc63 := NB130_144.out
   obtain ⟨hcz64_0, hcz64_1, hcz64_2, hcz64_3, hfz64_0, hfz64_1, hfz64_2, hfz64_3⟩ := blk4_ BK144.out
   have hnb65 := NB123_101.out
   have hnc65 := NB101_123.out
   have hnb66 := NB123_130.out
   have hnc66 := NB130_123.out
   obtain ⟨hcz67_0, hcz67_1, hcz67_2, hcz67_3, hfz67_0, hfz67_1, hfz67_2, hfz67_3⟩ := blk4_ BK123.out
   go_wp2_with (first | ((with_reducible refine gate_callee (f := 22) rfl ?_); refine goesL_ (some 58) rfl rfl Try.func22 (by kernel_rfl) rfl #[.agg #[.int .i64 t137, .int .i64 t138, .int .i64 t139, .slice Ao58 t140.length co58], .agg #[.int .i64 t116, .int .i64 t117, .int .i64 t118, .slice Ao39 t119.length co39]] rfl (by simp only [List.map_toArray, List.map_cons, List.map_nil]; rfl) ?_; (with_reducible refine (laws_eqImage.calls k t137 t138 t139 _ _ t140 t116 t117 t118 _ _ t119 true _ ?side1 ?side2 ?side3 ?side4 A59.out).mono ?_); (case side1 => refine (Kd.R_reads' (e := 3) (base := w.heap.size) (ok := fun k_ => (((((True ∧ some k_ ≠ (.slice Ao32 t107.length co32 : Value).ownBlock) ∧ some k_ ≠ (.slice Ao34 t113.length co34 : Value).ownBlock) ∧ some k_ ≠ (.slice Ao39 t119.length co39 : Value).ownBlock) ∧ some k_ ≠ (.slice Ao46 t127.length co46 : Value).ownBlock) ∧ some k_ ≠ (.slice Ao51 t134.length co51 : Value).ownBlock)) (n := t140.length) (c := co58) ?_).2.2; exact (by exact (R4_ HO142.out BK144.out (by decide) _ _ _ _))); (case side2 => exact (Kd.R_reads' HO142.out).2.1); (case side3 => refine (Kd.R_reads' (e := 3) (base := w.heap.size) (ok := fun k_ => (((((True ∧ some k_ ≠ (.slice Ao32 t107.length co32 : Value).ownBlock) ∧ some k_ ≠ (.slice Ao34 t113.length co34 : Value).ownBlock) ∧ some k_ ≠ (.slice Ao46 t127.length co46 : Value).ownBlock) ∧ some k_ ≠ (.slice Ao51 t134.length co51 : Value).ownBlock) ∧ some k_ ≠ (.slice Ao58 t140.length co58 : Value).ownBlock)) (n := t119.length) (c := co39) ?_).2.2; exact (by exact (R4_ HO121.out BK144.out (by decide) _ _ _ _))); (case side4 => exact (Kd.R_reads' HO121.out).2.1); rintro e w68 ⟨rfl, hb⟩; refine ⟨_, rfl, ?_⟩; replace HO109 := am_ (Kd.R_below (by exact (R4_ HO109.out BK144.out (by decide) _ _ _ _)) hb); replace HO112 := am_ (Kd.R_below (by exact (R4_ HO112.out BK144.out (by decide) _ _ _ _)) hb); replace HO115 := am_ (Kd.R_below (by exact (R4_ HO115.out BK144.out (by decide) _ _ _ _)) hb); replace HO121 := am_ (Kd.R_below (by exact (R4_ HO121.out BK144.out (by decide) _ _ _ _)) hb); replace HO129 := am_ (Kd.R_below (by exact (R4_ HO129.out BK144.out (by decide) _ _ _ _)) hb); replace HO133 := am_ (Kd.R_below (by exact (R4_ HO133.out BK144.out (by decide) _ _ _ _)) hb); replace HO136 := am_ (Kd.R_below (by exact (R4_ HO136.out BK144.out (by decide) _ _ _ _)) hb); replace HO142 := am_ (Kd.R_below (by exact (R4_ HO142.out BK144.out (by decide) _ _ _ _)) hb); replace BK101 := am_ (blk_below (by exact far4_ BK101.out NB101_144.out _ _ _ _) hb); replace BK123 := am_ (blk_below (by exact far4_ BK123.out NB123_144.out _ _ _ _) hb); replace BK130 := am_ (blk_below (by exact far4_ BK130.out NB130_144.out _ _ _ _) hb); replace BK144 := am_ (blk_below (by exact put4_ BK144.out _ _ _ _) hb); replace HB := am_ (below_step (by repeat (first | (with_reducible first | exact HB.out | apply below_alloc | apply pw_below_drewN | apply below_drew1 | refine below_set ?_ GE101.out | refine below_set ?_ GE123.out | refine below_set ?_ GE130.out | refine below_set ?_ GE144.out) | exact HB.out)) hb); (try clear hb); (try clear hb2); (try clear hk); (try clear hi)))
   go_meet
   case rel => exact ⟨_, ((t143 != t122)), (by first | rfl | (simp; done) | (simp [*]; done)), H', ⟨by first | omega | exact Nat.le_refl _⟩, ⟨by exact Kd.R_mono HO133.out (fun _ hk => trivial)⟩, ⟨by exact Kd.R_mono HO136.out (fun _ hk => ⟨hk.1.1.2, ⟨hk.1.2, hk.2⟩⟩)⟩, ⟨by exact Kd.R_mono HO121.out (fun _ hk => ⟨hk.1.2, ⟨hk.1.1.2, hk.2⟩⟩)⟩, ⟨by exact Kd.R_mono HO129.out (fun _ hk => ⟨hk.1.2, ⟨hk.1.1.2, hk.2⟩⟩)⟩, ⟨by exact Kd.R_mono HO142.out (fun _ hk => ⟨hk.2, ⟨hk.1.1.2, hk.1.2⟩⟩)⟩, ⟨by exact BK101.out⟩, ⟨by exact BK123.out⟩, ⟨by exact BK130.out⟩, ⟨by exact BK144.out⟩, ⟨by repeat (first | (with_reducible first | exact HB.out | apply below_alloc | apply pw_below_drewN | apply below_drew1 | refine below_set ?_ GE101.out | refine below_set ?_ GE123.out | refine below_set ?_ GE130.out | refine below_set ?_ GE144.out) | exact HB.out)⟩⟩
  replace c60 := Bool.eq_false_iff.mpr c60
  subst c60
  have H1 : (laws_FnExactFillRegion.j0 k l1 l2 t122 t131 t134 t143 true a0_0 a0_1 a0_2 l0_3 t116 t117 t118 t119 t124 t125 t126 t127 t137 t138 t139 t140) = some r := by rw [if_neg (show ¬ (false = true) by decide)] at H; exact H
  clear H
  have H := H1
  clear H1
  have H' := Aside0.mk H
  clear H
  have hnb69 := NB144_101.out
  have hnc69 := NB101_144.out
  have hnb70 := NB144_123.out
  have hnc70 := NB123_144.out
  have hnb71 := NB144_130.out
  have hnc71 := NB130_144.out
  obtain ⟨hcz72_0, hcz72_1, hcz72_2, hcz72_3, hfz72_0, hfz72_1, hfz72_2, hfz72_3⟩ := blk4_ BK144.out
  have hnb73 := NB123_101.out
  have hnc73 := NB101_123.out
  have hnb74 := NB123_130.out
  have hnc74 := NB130_123.out
  obtain ⟨hcz75_0, hcz75_1, hcz75_2, hcz75_3, hfz75_0, hfz75_1, hfz75_2, hfz75_3⟩ := blk4_ BK123.out
  go_wp2_with (first | ((with_reducible refine gate_callee (f := 22) rfl ?_); refine goesL_ (some 58) rfl rfl Try.func22 (by kernel_rfl) rfl #[.agg #[.int .i64 t137, .int .i64 t138, .int .i64 t139, .slice Ao58 t140.length co58], .agg #[.int .i64 t116, .int .i64 t117, .int .i64 t118, .slice Ao39 t119.length co39]] rfl (by simp only [List.map_toArray, List.map_cons, List.map_nil]; rfl) ?_; (with_reducible refine (laws_eqImage.calls k t137 t138 t139 _ _ t140 t116 t117 t118 _ _ t119 false _ ?side1 ?side2 ?side3 ?side4 A59.out).mono ?_); (case side1 => refine (Kd.R_reads' (e := 3) (base := w.heap.size) (ok := fun k_ => (((((True ∧ some k_ ≠ (.slice Ao32 t107.length co32 : Value).ownBlock) ∧ some k_ ≠ (.slice Ao34 t113.length co34 : Value).ownBlock) ∧ some k_ ≠ (.slice Ao39 t119.length co39 : Value).ownBlock) ∧ some k_ ≠ (.slice Ao46 t127.length co46 : Value).ownBlock) ∧ some k_ ≠ (.slice Ao51 t134.length co51 : Value).ownBlock)) (n := t140.length) (c := co58) ?_).2.2; exact (by exact (R4_ HO142.out BK144.out (by decide) _ _ _ _))); (case side2 => exact (Kd.R_reads' HO142.out).2.1); (case side3 => refine (Kd.R_reads' (e := 3) (base := w.heap.size) (ok := fun k_ => (((((True ∧ some k_ ≠ (.slice Ao32 t107.length co32 : Value).ownBlock) ∧ some k_ ≠ (.slice Ao34 t113.length co34 : Value).ownBlock) ∧ some k_ ≠ (.slice Ao46 t127.length co46 : Value).ownBlock) ∧ some k_ ≠ (.slice Ao51 t134.length co51 : Value).ownBlock) ∧ some k_ ≠ (.slice Ao58 t140.length co58 : Value).ownBlock)) (n := t119.length) (c := co39) ?_).2.2; exact (by exact (R4_ HO121.out BK144.out (by decide) _ _ _ _))); (case side4 => exact (Kd.R_reads' HO121.out).2.1); rintro e w76 ⟨rfl, hb⟩; refine ⟨_, rfl, ?_⟩; replace HO109 := am_ (Kd.R_below (by exact (R4_ HO109.out BK144.out (by decide) _ _ _ _)) hb); replace HO112 := am_ (Kd.R_below (by exact (R4_ HO112.out BK144.out (by decide) _ _ _ _)) hb); replace HO115 := am_ (Kd.R_below (by exact (R4_ HO115.out BK144.out (by decide) _ _ _ _)) hb); replace HO121 := am_ (Kd.R_below (by exact (R4_ HO121.out BK144.out (by decide) _ _ _ _)) hb); replace HO129 := am_ (Kd.R_below (by exact (R4_ HO129.out BK144.out (by decide) _ _ _ _)) hb); replace HO133 := am_ (Kd.R_below (by exact (R4_ HO133.out BK144.out (by decide) _ _ _ _)) hb); replace HO136 := am_ (Kd.R_below (by exact (R4_ HO136.out BK144.out (by decide) _ _ _ _)) hb); replace HO142 := am_ (Kd.R_below (by exact (R4_ HO142.out BK144.out (by decide) _ _ _ _)) hb); replace BK101 := am_ (blk_below (by exact far4_ BK101.out NB101_144.out _ _ _ _) hb); replace BK123 := am_ (blk_below (by exact far4_ BK123.out NB123_144.out _ _ _ _) hb); replace BK130 := am_ (blk_below (by exact far4_ BK130.out NB130_144.out _ _ _ _) hb); replace BK144 := am_ (blk_below (by exact put4_ BK144.out _ _ _ _) hb); replace HB := am_ (below_step (by repeat (first | (with_reducible first | exact HB.out | apply below_alloc | apply pw_below_drewN | apply below_drew1 | refine below_set ?_ GE101.out | refine below_set ?_ GE123.out | refine below_set ?_ GE130.out | refine below_set ?_ GE144.out) | exact HB.out)) hb); (try clear hb); (try clear hb2); (try clear hk); (try clear hi)))
  go_meet
  case rel => exact ⟨_, (true), (by first | rfl | (simp; done) | (simp [*]; done)), H', ⟨by first | omega | exact Nat.le_refl _⟩, ⟨by exact Kd.R_mono HO133.out (fun _ hk => trivial)⟩, ⟨by exact Kd.R_mono HO136.out (fun _ hk => ⟨hk.1.1.2, ⟨hk.1.2, hk.2⟩⟩)⟩, ⟨by exact Kd.R_mono HO121.out (fun _ hk => ⟨hk.1.2, ⟨hk.1.1.2, hk.2⟩⟩)⟩, ⟨by exact Kd.R_mono HO129.out (fun _ hk => ⟨hk.1.2, ⟨hk.1.1.2, hk.2⟩⟩)⟩, ⟨by exact Kd.R_mono HO142.out (fun _ hk => ⟨hk.2, ⟨hk.1.1.2, hk.1.2⟩⟩)⟩, ⟨by exact BK101.out⟩, ⟨by exact BK123.out⟩, ⟨by exact BK130.out⟩, ⟨by exact BK144.out⟩, ⟨by repeat (first | (with_reducible first | exact HB.out | apply below_alloc | apply pw_below_drewN | apply below_drew1 | refine below_set ?_ GE101.out | refine below_set ?_ GE123.out | refine below_set ?_ GE130.out | refine below_set ?_ GE144.out) | exact HB.out)⟩⟩
 case rest =>
  clear HC24
  try clear c1
  try clear c2
  try clear p2
  try clear c3
  try clear c4
  try clear c4b0
  try clear c4b1
  try clear c5
  try clear c6
  try clear c7
  try clear c7b0
  try clear c12
  try clear c12b0
  try clear c18
  try clear c19
  try clear c20
  try clear c21
  try clear c22
  try clear c27
  try clear c28
  try clear c29
  try clear c37
  try clear c43
  try clear c44
  try clear c54
  try clear c55
  try clear c56
  try clear c60
  try clear c61
  try clear c62
  try clear c63
  try clear c65
  try clear c66
  try clear c69
  try clear c70
  try clear c71
  try clear c73
  try clear c74
  try clear hcz14_0
  try clear hcz14_1
  try clear hcz14_2
  try clear hcz14_3
  try clear hcz26_0
  try clear hcz26_1
  try clear hcz26_2
  try clear hcz26_3
  try clear hcz28_0
  try clear hcz28_1
  try clear hcz28_2
  try clear hcz28_3
  try clear hcz38_0
  try clear hcz38_1
  try clear hcz38_2
  try clear hcz38_3
  try clear hcz40_0
  try clear hcz40_1
  try clear hcz40_2
  try clear hcz40_3
  try clear hcz45_0
  try clear hcz45_1
  try clear hcz45_2
  try clear hcz45_3
  try clear hcz49_0
  try clear hcz49_1
  try clear hcz49_2
  try clear hcz49_3
  try clear hcz57_0
  try clear hcz57_1
  try clear hcz57_2
  try clear hcz57_3
  try clear hcz64_0
  try clear hcz64_1
  try clear hcz64_2
  try clear hcz64_3
  try clear hcz67_0
  try clear hcz67_1
  try clear hcz67_2
  try clear hcz67_3
  try clear hcz72_0
  try clear hcz72_1
  try clear hcz72_2
  try clear hcz72_3
  try clear hcz75_0
  try clear hcz75_1
  try clear hcz75_2
  try clear hcz75_3
  try clear hcz9_0
  try clear hcz9_1
  try clear hcz9_2
  try clear hcz9_3
  try clear hfz14_0
  try clear hfz14_1
  try clear hfz14_2
  try clear hfz14_3
  try clear hfz26_0
  try clear hfz26_1
  try clear hfz26_2
  try clear hfz26_3
  try clear hfz28_0
  try clear hfz28_1
  try clear hfz28_2
  try clear hfz28_3
  try clear hfz38_0
  try clear hfz38_1
  try clear hfz38_2
  try clear hfz38_3
  try clear hfz40_0
  try clear hfz40_1
  try clear hfz40_2
  try clear hfz40_3
  try clear hfz45_0
  try clear hfz45_1
  try clear hfz45_2
  try clear hfz45_3
  try clear hfz49_0
  try clear hfz49_1
  try clear hfz49_2
  try clear hfz49_3
  try clear hfz57_0
  try clear hfz57_1
  try clear hfz57_2
  try clear hfz57_3
  try clear hfz64_0
  try clear hfz64_1
  try clear hfz64_2
  try clear hfz64_3
  try clear hfz67_0
  try clear hfz67_1
  try clear hfz67_2
  try clear hfz67_3
  try clear hfz72_0
  try clear hfz72_1
  try clear hfz72_2
  try clear hfz72_3
  try clear hfz75_0
  try clear hfz75_1
  try clear hfz75_2
  try clear hfz75_3
  try clear hfz9_0
  try clear hfz9_1
  try clear hfz9_2
  try clear hfz9_3
  obtain ⟨kq, x64_23, rfl, HA, HJ23, HO_11, HO_12, HO_124003, HO_131003, HO_145003, BK101, BK123, BK130, BK144, HB⟩ := hcut
  cases kq with
  | zero => exact absurd HA.out (by simp [laws_FnExactFillRegion.j0])
  | succ kj23 =>
   have H := HA.out
   clear HA
   simp only [laws_FnExactFillRegion.j0] at H
   by_cases c77 : x64_23 = true
   ·
    subst c77
    have H1 : (some false) = some r := by rw [if_pos rfl] at H; exact H
    clear H
    have H := H1
    clear H1
    obtain rfl := Option.some.inj H
    go_wp2
    go_ret
    exact ⟨by first | rfl | (simp [errW_none, errW_some] <;> rfl) | (simp [*, errW_none, errW_some] <;> rfl), by repeat (first | (with_reducible first | exact HB.out | apply below_alloc | apply pw_below_drewN | apply below_drew1 | refine below_set ?_ GE101.out | refine below_set ?_ GE123.out | refine below_set ?_ GE130.out | refine below_set ?_ GE144.out) | exact HB.out)⟩
   replace c77 := Bool.eq_false_iff.mpr c77
   subst c77
   have H1 : ((laws_toImage.f kj23 a0_0 a0_1 a0_2 l0_3).bind fun bt146 => ((laws_eqImage.f kj23 t124 t125 t126 t127 bt146.1 bt146.2.1 bt146.2.2.1 bt146.2.2.2).bind fun t152 => (if t152 = true then ((laws_toRunS.f kj23 l1).bind fun t153 => ((laws_eqRunS.f kj23 t131 t153).bind fun t156 => (if t156 = true then ((laws_toIntS.f kj23 l2).bind fun t157 => ((laws_eqIntS.f kj23 t134 t157).bind fun t160 => (if t160 = true then ((laws_markImage.f kj23 t124 t125 t126 t127 1).bind fun bt161 => ((laws_markRunS.f kj23 t131 bt161.1).bind fun bt163 => ((laws_markIntS.f kj23 t134 bt163.1).bind fun bt165 => (if bt165.1 < 0 then (laws_FnExactFillRegion.j1 kj23 l1 l2 t122 true a0_0 a0_1 a0_2 l0_3 t116 t117 t118 t119 t137 t138 t139 t140) else ((laws_eqImage.f kj23 t137 t138 t139 t140 t116 t117 t118 t119).bind fun t167 => (if t167 = true then (laws_FnExactFillRegion.j1 kj23 l1 l2 t122 (t143 != t122) a0_0 a0_1 a0_2 l0_3 t116 t117 t118 t119 t137 t138 t139 t140) else (laws_FnExactFillRegion.j1 kj23 l1 l2 t122 true a0_0 a0_1 a0_2 l0_3 t116 t117 t118 t119 t137 t138 t139 t140))))))) else (some false)))) else (some false)))) else (some false)))) = some r := by rw [if_neg (show ¬ (false = true) by decide)] at H; exact H
   clear H
   have H := H1
   clear H1
   replace H := Option.bind_eq_some_iff.mp H
   obtain ⟨⟨t146, t147, t148, t149⟩, A780, H⟩ := H
   replace H : ((laws_eqImage.f kj23 t124 t125 t126 t127 t146 t147 t148 t149).bind fun t152 => (if t152 = true then ((laws_toRunS.f kj23 l1).bind fun t153 => ((laws_eqRunS.f kj23 t131 t153).bind fun t156 => (if t156 = true then ((laws_toIntS.f kj23 l2).bind fun t157 => ((laws_eqIntS.f kj23 t134 t157).bind fun t160 => (if t160 = true then ((laws_markImage.f kj23 t124 t125 t126 t127 1).bind fun bt161 => ((laws_markRunS.f kj23 t131 bt161.1).bind fun bt163 => ((laws_markIntS.f kj23 t134 bt163.1).bind fun bt165 => (if bt165.1 < 0 then (laws_FnExactFillRegion.j1 kj23 l1 l2 t122 true a0_0 a0_1 a0_2 l0_3 t116 t117 t118 t119 t137 t138 t139 t140) else ((laws_eqImage.f kj23 t137 t138 t139 t140 t116 t117 t118 t119).bind fun t167 => (if t167 = true then (laws_FnExactFillRegion.j1 kj23 l1 l2 t122 (t143 != t122) a0_0 a0_1 a0_2 l0_3 t116 t117 t118 t119 t137 t138 t139 t140) else (laws_FnExactFillRegion.j1 kj23 l1 l2 t122 true a0_0 a0_1 a0_2 l0_3 t116 t117 t118 t119 t137 t138 t139 t140))))))) else (some false)))) else (some false)))) else (some false))) = some r := H
   have A78 := Aside0.mk A780
   clear A780
   replace H := Option.bind_eq_some_iff.mp H
   obtain ⟨t152, A790, H⟩ := H
   replace H : (if t152 = true then ((laws_toRunS.f kj23 l1).bind fun t153 => ((laws_eqRunS.f kj23 t131 t153).bind fun t156 => (if t156 = true then ((laws_toIntS.f kj23 l2).bind fun t157 => ((laws_eqIntS.f kj23 t134 t157).bind fun t160 => (if t160 = true then ((laws_markImage.f kj23 t124 t125 t126 t127 1).bind fun bt161 => ((laws_markRunS.f kj23 t131 bt161.1).bind fun bt163 => ((laws_markIntS.f kj23 t134 bt163.1).bind fun bt165 => (if bt165.1 < 0 then (laws_FnExactFillRegion.j1 kj23 l1 l2 t122 true a0_0 a0_1 a0_2 l0_3 t116 t117 t118 t119 t137 t138 t139 t140) else ((laws_eqImage.f kj23 t137 t138 t139 t140 t116 t117 t118 t119).bind fun t167 => (if t167 = true then (laws_FnExactFillRegion.j1 kj23 l1 l2 t122 (t143 != t122) a0_0 a0_1 a0_2 l0_3 t116 t117 t118 t119 t137 t138 t139 t140) else (laws_FnExactFillRegion.j1 kj23 l1 l2 t122 true a0_0 a0_1 a0_2 l0_3 t116 t117 t118 t119 t137 t138 t139 t140))))))) else (some false)))) else (some false)))) else (some false)) = some r := H
   have A79 := Aside0.mk A790
   clear A790
   by_cases c80 : t152 = true
   rotate_left
   ·
    replace c80 := Bool.eq_false_iff.mpr c80
    subst c80
    have H1 : (some false) = some r := by rw [if_neg (show ¬ (false = true) by decide)] at H; exact H
    clear H
    have H := H1
    clear H1
    obtain rfl := Option.some.inj H
    try go_wp2
    replace HO_11 := am_ (Kd.R_drew HO_11.out)
    replace HO_12 := am_ (Kd.R_drew HO_12.out)
    replace HO_124003 := am_ (Kd.R_drew HO_124003.out)
    replace HO_131003 := am_ (Kd.R_drew HO_131003.out)
    replace HO_145003 := am_ (Kd.R_drew HO_145003.out)
    replace BK101 := am_ (blk_drew BK101.out)
    replace BK123 := am_ (blk_drew BK123.out)
    replace BK130 := am_ (blk_drew BK130.out)
    replace BK144 := am_ (blk_drew BK144.out)
    replace HB := am_ (below_drew1 HB.out)
    refine start_ (n := 5) (S := fun w' => w'.cell? ⟨gb130, 0, none⟩ = some (.int .i64 t124) ∧ w'.cell? ⟨gb130, 1, none⟩ = some (.int .i64 t125) ∧ w'.cell? ⟨gb130, 2, none⟩ = some (.int .i64 t126) ∧ w'.cell? ⟨gb130, 3, none⟩ = some (.slice Ao46 t127.length co46) ∧ w'.cell? ⟨gb101, 0, none⟩ = some (.int .i64 a0_0) ∧ w'.cell? ⟨gb101, 1, none⟩ = some (.int .i64 a0_1) ∧ w'.cell? ⟨gb101, 2, none⟩ = some (.int .i64 a0_2) ∧ w'.cell? ⟨gb101, 3, none⟩ = some (.slice A0_3 l0_3.length c0_3)) (ds := []) #[false, false, false, false, false] (by kernel_rfl) rfl rfl ⟨(blk_cell BK130.out 0).trans rfl, (blk_cell BK130.out 1).trans rfl, (blk_cell BK130.out 2).trans rfl, (blk_cell BK130.out 3).trans rfl, (blk_cell BK101.out 0).trans rfl, (blk_cell BK101.out 1).trans rfl, (blk_cell BK101.out 2).trans rfl, (blk_cell BK101.out 3).trans rfl⟩ (fun hHeld => ?_)
    generalize wc.drew = w234 at HO_11 HO_12 HO_124003 HO_131003 HO_145003 BK101 BK123 BK130 BK144 HB hHeld ⊢
    refine take_ (i := 0) (N := some 65) (v := ?_) (a' := ?_) #[true, false, false, false, false] rfl rfl (by kernel_rfl) (fun _ _ _ h => h) (Or.inl ⟨by rfl, ?_⟩) hHeld ?_ ?_
    rotate_left
    ·
     rintro w' ⟨s0, s1, s2, s3, s4, s5, s6, s7⟩
     go_simp
     with_reducible rfl
    rotate_left
    ·
     simp only [Act.put, List.setIfInBounds_toArray, List.set_cons_zero, List.set_cons_succ, i64_w, i32_w]
     rfl
    refine take_ (i := 1) (N := some 66) (v := ?_) (a' := ?_) #[true, true, false, false, false] rfl rfl (by kernel_rfl) (fun _ _ _ h => h) (Or.inl ⟨by rfl, ?_⟩) hHeld ?_ ?_
    rotate_left
    ·
     rintro w' ⟨s0, s1, s2, s3, s4, s5, s6, s7⟩
     go_simp
     with_reducible rfl
    rotate_left
    ·
     simp only [Act.put, List.setIfInBounds_toArray, List.set_cons_zero, List.set_cons_succ, i64_w, i32_w]
     rfl
    refine one_ (i := 2) (N := some 67) #[true, true, true, false, false] rfl rfl (by kernel_rfl) (by decide) (fun K hK => ?_)
    refine goes_ Try.func20 (by kernel_rfl) rfl #[.agg #[.int .i64 a0_0, .int .i64 a0_1, .int .i64 a0_2, .slice A0_3 l0_3.length c0_3]] (by rfl) rfl rfl (by simp only [List.map_toArray, List.map_cons, List.map_nil]; rfl) ?_
    with_reducible refine (laws_toImage.calls kj23 a0_0 a0_1 a0_2 _ _ l0_3 t146 t147 t148 t149 _ ?side1 ?side2 A78.out).mono ?_
    (case side1 => repeat (first | exact (Kd.C_below HR0_3.out HB.out) | (with_reducible refine Kd.C_alloc ?_ _) | (with_reducible refine Kd.C_drewN ?_ _) | (with_reducible refine Kd.C_drew ?_)))
    (case side2 => exact HC0_3.out)
    rintro e w235 ⟨v150, rfl, ho0, hb⟩
    refine ⟨_, rfl, ?_⟩
    replace HO_11 := am_ (Kd.R_below (by exact HO_11.out) hb)
    have HO151 := am_ (Kd.R_lower (Kd.R_new' (Kd.R_new' (Kd.R_new' (Kd.R_new' ho0 (Kd.R_lt (by exact HO_12.out))) (Kd.R_lt (by exact HO_124003.out))) (Kd.R_lt (by exact HO_131003.out))) (Kd.R_lt (by exact HO_145003.out))) (below_size (by repeat (first | (with_reducible first | exact HB.out | apply below_alloc | apply pw_below_drewN | apply below_drew1 | refine below_set ?_ GE101.out | refine below_set ?_ GE123.out | refine below_set ?_ GE130.out | refine below_set ?_ GE144.out) | exact HB.out))))
    replace HO_12 := am_ (Kd.R_elder' (by exact HO_12.out) (Kd.R_base ho0) hb)
    replace HO_124003 := am_ (Kd.R_elder' (by exact HO_124003.out) (Kd.R_base ho0) hb)
    replace HO_131003 := am_ (Kd.R_elder' (by exact HO_131003.out) (Kd.R_base ho0) hb)
    replace HO_145003 := am_ (Kd.R_elder' (by exact HO_145003.out) (Kd.R_base ho0) hb)
    replace BK101 := am_ (blk_below (by exact BK101.out) hb)
    replace BK123 := am_ (blk_below (by exact BK123.out) hb)
    replace BK130 := am_ (blk_below (by exact BK130.out) hb)
    replace BK144 := am_ (blk_below (by exact BK144.out) hb)
    replace HB := am_ (below_step (by repeat (first | (with_reducible first | exact HB.out | apply below_alloc | apply pw_below_drewN | apply below_drew1 | refine below_set ?_ GE101.out | refine below_set ?_ GE123.out | refine below_set ?_ GE130.out | refine below_set ?_ GE144.out) | exact HB.out)) hb)
    (try clear hb)
    (try clear hb2)
    (try clear hk)
    (try clear hi)
    (try clear ho0)
    obtain ⟨Ao236, co236, eo236⟩ := Kd.R_slice HO151.out
    (first | subst eo236 | (injection eo236 with f1_ f2_ f3_; have f4_ := f1_.symm; have f5_ := f3_.symm; clear f1_ f2_ f3_; subst f4_; subst f5_))
    refine hK.out _ _ ⟨(blk_cell BK130.out 0).trans rfl, (blk_cell BK130.out 1).trans rfl, (blk_cell BK130.out 2).trans rfl, (blk_cell BK130.out 3).trans rfl, (blk_cell BK101.out 0).trans rfl, (blk_cell BK101.out 1).trans rfl, (blk_cell BK101.out 2).trans rfl, (blk_cell BK101.out 3).trans rfl⟩ (fun hHeld => ?_)
    clear hK K
    refine norm_ (a' := ?_) ?_ ?_
    rotate_left
    ·
     show Act.put _ (some 67) _ = _
     simp only [Act.put, List.setIfInBounds_toArray, List.set_cons_zero, List.set_cons_succ, i64_w, i32_w]
     rfl
    refine one_ (i := 3) (N := some 68) #[true, true, true, true, false] rfl rfl (by kernel_rfl) (by decide) (fun K hK => ?_)
    refine goes_ Try.func22 (by kernel_rfl) rfl #[.agg #[.int .i64 t124, .int .i64 t125, .int .i64 t126, .slice Ao46 t127.length co46], .agg #[.int .i64 t146, .int .i64 t147, .int .i64 t148, .slice Ao236 t149.length co236]] (by rfl) rfl rfl (by simp only [List.map_toArray, List.map_cons, List.map_nil]; rfl) ?_
    with_reducible refine (laws_eqImage.calls kj23 t124 t125 t126 _ _ t127 t146 t147 t148 _ _ t149 false _ ?side1 ?side2 ?side3 ?side4 A79.out).mono ?_
    (case side1 => repeat (first | exact (Kd.R_reads' HO_131003.out).2.2 | (with_reducible refine Kd.C_alloc ?_ _) | (with_reducible refine Kd.C_drewN ?_ _) | (with_reducible refine Kd.C_drew ?_)))
    (case side2 => exact (Kd.R_reads' HO_131003.out).2.1)
    (case side3 => repeat (first | exact (Kd.R_reads' HO151.out).2.2 | (with_reducible refine Kd.C_alloc ?_ _) | (with_reducible refine Kd.C_drewN ?_ _) | (with_reducible refine Kd.C_drew ?_)))
    (case side4 => exact (Kd.R_reads' HO151.out).2.1)
    rintro e w237 ⟨rfl, hb⟩
    refine ⟨_, rfl, ?_⟩
    replace HO_11 := am_ (Kd.R_below (by exact HO_11.out) hb)
    replace HO_12 := am_ (Kd.R_below (by exact HO_12.out) hb)
    replace HO_124003 := am_ (Kd.R_below (by exact HO_124003.out) hb)
    replace HO_131003 := am_ (Kd.R_below (by exact HO_131003.out) hb)
    replace HO_145003 := am_ (Kd.R_below (by exact HO_145003.out) hb)
    replace HO151 := am_ (Kd.R_below (by exact HO151.out) hb)
    replace BK101 := am_ (blk_below (by exact BK101.out) hb)
    replace BK123 := am_ (blk_below (by exact BK123.out) hb)
    replace BK130 := am_ (blk_below (by exact BK130.out) hb)
    replace BK144 := am_ (blk_below (by exact BK144.out) hb)
    replace HB := am_ (below_step (by repeat (first | (with_reducible first | exact HB.out | apply below_alloc | apply pw_below_drewN | apply below_drew1 | refine below_set ?_ GE101.out | refine below_set ?_ GE123.out | refine below_set ?_ GE130.out | refine below_set ?_ GE144.out) | exact HB.out)) hb)
    (try clear hb)
    (try clear hb2)
    (try clear hk)
    (try clear hi)
    refine hK.out _ _ ⟨(blk_cell BK130.out 0).trans rfl, (blk_cell BK130.out 1).trans rfl, (blk_cell BK130.out 2).trans rfl, (blk_cell BK130.out 3).trans rfl, (blk_cell BK101.out 0).trans rfl, (blk_cell BK101.out 1).trans rfl, (blk_cell BK101.out 2).trans rfl, (blk_cell BK101.out 3).trans rfl⟩ (fun hHeld => ?_)
    clear hK K
    refine norm_ (a' := ?_) ?_ ?_
    rotate_left
    ·
     show Act.put _ (some 68) _ = _
     simp only [Act.put, List.setIfInBounds_toArray, List.set_cons_zero, List.set_cons_succ, i64_w, i32_w]
     rfl
    refine pure_ (i := 4) (N := some 69) (v := ?_) (a' := ?_) #[true, true, true, true, true] rfl rfl (by kernel_rfl) (fun _ _ _ h => h) (Or.inl ⟨by rfl, ?_⟩) ?_ ?_
    rotate_left
    ·
     intro w'
     go_simp
     with_reducible rfl
    rotate_left
    ·
     simp only [Act.put, List.setIfInBounds_toArray, List.set_cons_zero, List.set_cons_succ, i64_w, i32_w]
     rfl
    refine done_ (by kernel_rfl) ?_
    try go_wp2
    go_ret
    exact ⟨by first | rfl | (simp [errW_none, errW_some] <;> rfl) | (simp [*, errW_none, errW_some] <;> rfl), by repeat (first | (with_reducible first | exact HB.out | apply below_alloc | apply pw_below_drewN | apply below_drew1 | refine below_set ?_ GE101.out | refine below_set ?_ GE123.out | refine below_set ?_ GE130.out | refine below_set ?_ GE144.out) | exact HB.out)⟩
   subst c80
   have H1 : ((laws_toRunS.f kj23 l1).bind fun t153 => ((laws_eqRunS.f kj23 t131 t153).bind fun t156 => (if t156 = true then ((laws_toIntS.f kj23 l2).bind fun t157 => ((laws_eqIntS.f kj23 t134 t157).bind fun t160 => (if t160 = true then ((laws_markImage.f kj23 t124 t125 t126 t127 1).bind fun bt161 => ((laws_markRunS.f kj23 t131 bt161.1).bind fun bt163 => ((laws_markIntS.f kj23 t134 bt163.1).bind fun bt165 => (if bt165.1 < 0 then (laws_FnExactFillRegion.j1 kj23 l1 l2 t122 true a0_0 a0_1 a0_2 l0_3 t116 t117 t118 t119 t137 t138 t139 t140) else ((laws_eqImage.f kj23 t137 t138 t139 t140 t116 t117 t118 t119).bind fun t167 => (if t167 = true then (laws_FnExactFillRegion.j1 kj23 l1 l2 t122 (t143 != t122) a0_0 a0_1 a0_2 l0_3 t116 t117 t118 t119 t137 t138 t139 t140) else (laws_FnExactFillRegion.j1 kj23 l1 l2 t122 true a0_0 a0_1 a0_2 l0_3 t116 t117 t118 t119 t137 t138 t139 t140))))))) else (some false)))) else (some false)))) = some r := by rw [if_pos rfl] at H; exact H
   clear H
   have H := H1
   clear H1
   replace H := Option.bind_eq_some_iff.mp H
   obtain ⟨t153, A810, H⟩ := H
   replace H : ((laws_eqRunS.f kj23 t131 t153).bind fun t156 => (if t156 = true then ((laws_toIntS.f kj23 l2).bind fun t157 => ((laws_eqIntS.f kj23 t134 t157).bind fun t160 => (if t160 = true then ((laws_markImage.f kj23 t124 t125 t126 t127 1).bind fun bt161 => ((laws_markRunS.f kj23 t131 bt161.1).bind fun bt163 => ((laws_markIntS.f kj23 t134 bt163.1).bind fun bt165 => (if bt165.1 < 0 then (laws_FnExactFillRegion.j1 kj23 l1 l2 t122 true a0_0 a0_1 a0_2 l0_3 t116 t117 t118 t119 t137 t138 t139 t140) else ((laws_eqImage.f kj23 t137 t138 t139 t140 t116 t117 t118 t119).bind fun t167 => (if t167 = true then (laws_FnExactFillRegion.j1 kj23 l1 l2 t122 (t143 != t122) a0_0 a0_1 a0_2 l0_3 t116 t117 t118 t119 t137 t138 t139 t140) else (laws_FnExactFillRegion.j1 kj23 l1 l2 t122 true a0_0 a0_1 a0_2 l0_3 t116 t117 t118 t119 t137 t138 t139 t140))))))) else (some false)))) else (some false))) = some r := H
   have A81 := Aside0.mk A810
   clear A810
   replace H := Option.bind_eq_some_iff.mp H
   obtain ⟨t156, A820, H⟩ := H
   replace H : (if t156 = true then ((laws_toIntS.f kj23 l2).bind fun t157 => ((laws_eqIntS.f kj23 t134 t157).bind fun t160 => (if t160 = true then ((laws_markImage.f kj23 t124 t125 t126 t127 1).bind fun bt161 => ((laws_markRunS.f kj23 t131 bt161.1).bind fun bt163 => ((laws_markIntS.f kj23 t134 bt163.1).bind fun bt165 => (if bt165.1 < 0 then (laws_FnExactFillRegion.j1 kj23 l1 l2 t122 true a0_0 a0_1 a0_2 l0_3 t116 t117 t118 t119 t137 t138 t139 t140) else ((laws_eqImage.f kj23 t137 t138 t139 t140 t116 t117 t118 t119).bind fun t167 => (if t167 = true then (laws_FnExactFillRegion.j1 kj23 l1 l2 t122 (t143 != t122) a0_0 a0_1 a0_2 l0_3 t116 t117 t118 t119 t137 t138 t139 t140) else (laws_FnExactFillRegion.j1 kj23 l1 l2 t122 true a0_0 a0_1 a0_2 l0_3 t116 t117 t118 t119 t137 t138 t139 t140))))))) else (some false)))) else (some false)) = some r := H
   have A82 := Aside0.mk A820
   clear A820
   by_cases c83 : t156 = true
   rotate_left
   ·
    replace c83 := Bool.eq_false_iff.mpr c83
    subst c83
    have H1 : (some false) = some r := by rw [if_neg (show ¬ (false = true) by decide)] at H; exact H
    clear H
    have H := H1
    clear H1
    obtain rfl := Option.some.inj H
    try go_wp2
    replace HO_11 := am_ (Kd.R_drew HO_11.out)
    replace HO_12 := am_ (Kd.R_drew HO_12.out)
    replace HO_124003 := am_ (Kd.R_drew HO_124003.out)
    replace HO_131003 := am_ (Kd.R_drew HO_131003.out)
    replace HO_145003 := am_ (Kd.R_drew HO_145003.out)
    replace BK101 := am_ (blk_drew BK101.out)
    replace BK123 := am_ (blk_drew BK123.out)
    replace BK130 := am_ (blk_drew BK130.out)
    replace BK144 := am_ (blk_drew BK144.out)
    replace HB := am_ (below_drew1 HB.out)
    refine start_ (n := 5) (S := fun w' => w'.cell? ⟨gb130, 0, none⟩ = some (.int .i64 t124) ∧ w'.cell? ⟨gb130, 1, none⟩ = some (.int .i64 t125) ∧ w'.cell? ⟨gb130, 2, none⟩ = some (.int .i64 t126) ∧ w'.cell? ⟨gb130, 3, none⟩ = some (.slice Ao46 t127.length co46) ∧ w'.cell? ⟨gb101, 0, none⟩ = some (.int .i64 a0_0) ∧ w'.cell? ⟨gb101, 1, none⟩ = some (.int .i64 a0_1) ∧ w'.cell? ⟨gb101, 2, none⟩ = some (.int .i64 a0_2) ∧ w'.cell? ⟨gb101, 3, none⟩ = some (.slice A0_3 l0_3.length c0_3)) (ds := []) #[false, false, false, false, false] (by kernel_rfl) rfl rfl ⟨(blk_cell BK130.out 0).trans rfl, (blk_cell BK130.out 1).trans rfl, (blk_cell BK130.out 2).trans rfl, (blk_cell BK130.out 3).trans rfl, (blk_cell BK101.out 0).trans rfl, (blk_cell BK101.out 1).trans rfl, (blk_cell BK101.out 2).trans rfl, (blk_cell BK101.out 3).trans rfl⟩ (fun hHeld => ?_)
    generalize wc.drew = w227 at HO_11 HO_12 HO_124003 HO_131003 HO_145003 BK101 BK123 BK130 BK144 HB hHeld ⊢
    refine take_ (i := 0) (N := some 65) (v := ?_) (a' := ?_) #[true, false, false, false, false] rfl rfl (by kernel_rfl) (fun _ _ _ h => h) (Or.inl ⟨by rfl, ?_⟩) hHeld ?_ ?_
    rotate_left
    ·
     rintro w' ⟨s0, s1, s2, s3, s4, s5, s6, s7⟩
     go_simp
     with_reducible rfl
    rotate_left
    ·
     simp only [Act.put, List.setIfInBounds_toArray, List.set_cons_zero, List.set_cons_succ, i64_w, i32_w]
     rfl
    refine take_ (i := 1) (N := some 66) (v := ?_) (a' := ?_) #[true, true, false, false, false] rfl rfl (by kernel_rfl) (fun _ _ _ h => h) (Or.inl ⟨by rfl, ?_⟩) hHeld ?_ ?_
    rotate_left
    ·
     rintro w' ⟨s0, s1, s2, s3, s4, s5, s6, s7⟩
     go_simp
     with_reducible rfl
    rotate_left
    ·
     simp only [Act.put, List.setIfInBounds_toArray, List.set_cons_zero, List.set_cons_succ, i64_w, i32_w]
     rfl
    refine one_ (i := 2) (N := some 67) #[true, true, true, false, false] rfl rfl (by kernel_rfl) (by decide) (fun K hK => ?_)
    refine goes_ Try.func20 (by kernel_rfl) rfl #[.agg #[.int .i64 a0_0, .int .i64 a0_1, .int .i64 a0_2, .slice A0_3 l0_3.length c0_3]] (by rfl) rfl rfl (by simp only [List.map_toArray, List.map_cons, List.map_nil]; rfl) ?_
    with_reducible refine (laws_toImage.calls kj23 a0_0 a0_1 a0_2 _ _ l0_3 t146 t147 t148 t149 _ ?side1 ?side2 A78.out).mono ?_
    (case side1 => repeat (first | exact (Kd.C_below HR0_3.out HB.out) | (with_reducible refine Kd.C_alloc ?_ _) | (with_reducible refine Kd.C_drewN ?_ _) | (with_reducible refine Kd.C_drew ?_)))
    (case side2 => exact HC0_3.out)
    rintro e w228 ⟨v150, rfl, ho0, hb⟩
    refine ⟨_, rfl, ?_⟩
    replace HO_11 := am_ (Kd.R_below (by exact HO_11.out) hb)
    have HO151 := am_ (Kd.R_lower (Kd.R_new' (Kd.R_new' (Kd.R_new' (Kd.R_new' ho0 (Kd.R_lt (by exact HO_12.out))) (Kd.R_lt (by exact HO_124003.out))) (Kd.R_lt (by exact HO_131003.out))) (Kd.R_lt (by exact HO_145003.out))) (below_size (by repeat (first | (with_reducible first | exact HB.out | apply below_alloc | apply pw_below_drewN | apply below_drew1 | refine below_set ?_ GE101.out | refine below_set ?_ GE123.out | refine below_set ?_ GE130.out | refine below_set ?_ GE144.out) | exact HB.out))))
    replace HO_12 := am_ (Kd.R_elder' (by exact HO_12.out) (Kd.R_base ho0) hb)
    replace HO_124003 := am_ (Kd.R_elder' (by exact HO_124003.out) (Kd.R_base ho0) hb)
    replace HO_131003 := am_ (Kd.R_elder' (by exact HO_131003.out) (Kd.R_base ho0) hb)
    replace HO_145003 := am_ (Kd.R_elder' (by exact HO_145003.out) (Kd.R_base ho0) hb)
    replace BK101 := am_ (blk_below (by exact BK101.out) hb)
    replace BK123 := am_ (blk_below (by exact BK123.out) hb)
    replace BK130 := am_ (blk_below (by exact BK130.out) hb)
    replace BK144 := am_ (blk_below (by exact BK144.out) hb)
    replace HB := am_ (below_step (by repeat (first | (with_reducible first | exact HB.out | apply below_alloc | apply pw_below_drewN | apply below_drew1 | refine below_set ?_ GE101.out | refine below_set ?_ GE123.out | refine below_set ?_ GE130.out | refine below_set ?_ GE144.out) | exact HB.out)) hb)
    (try clear hb)
    (try clear hb2)
    (try clear hk)
    (try clear hi)
    (try clear ho0)
    obtain ⟨Ao229, co229, eo229⟩ := Kd.R_slice HO151.out
    (first | subst eo229 | (injection eo229 with f1_ f2_ f3_; have f4_ := f1_.symm; have f5_ := f3_.symm; clear f1_ f2_ f3_; subst f4_; subst f5_))
    refine hK.out _ _ ⟨(blk_cell BK130.out 0).trans rfl, (blk_cell BK130.out 1).trans rfl, (blk_cell BK130.out 2).trans rfl, (blk_cell BK130.out 3).trans rfl, (blk_cell BK101.out 0).trans rfl, (blk_cell BK101.out 1).trans rfl, (blk_cell BK101.out 2).trans rfl, (blk_cell BK101.out 3).trans rfl⟩ (fun hHeld => ?_)
    clear hK K
    refine norm_ (a' := ?_) ?_ ?_
    rotate_left
    ·
     show Act.put _ (some 67) _ = _
     simp only [Act.put, List.setIfInBounds_toArray, List.set_cons_zero, List.set_cons_succ, i64_w, i32_w]
     rfl
    refine one_ (i := 3) (N := some 68) #[true, true, true, true, false] rfl rfl (by kernel_rfl) (by decide) (fun K hK => ?_)
    refine goes_ Try.func22 (by kernel_rfl) rfl #[.agg #[.int .i64 t124, .int .i64 t125, .int .i64 t126, .slice Ao46 t127.length co46], .agg #[.int .i64 t146, .int .i64 t147, .int .i64 t148, .slice Ao229 t149.length co229]] (by rfl) rfl rfl (by simp only [List.map_toArray, List.map_cons, List.map_nil]; rfl) ?_
    with_reducible refine (laws_eqImage.calls kj23 t124 t125 t126 _ _ t127 t146 t147 t148 _ _ t149 true _ ?side1 ?side2 ?side3 ?side4 A79.out).mono ?_
    (case side1 => repeat (first | exact (Kd.R_reads' HO_131003.out).2.2 | (with_reducible refine Kd.C_alloc ?_ _) | (with_reducible refine Kd.C_drewN ?_ _) | (with_reducible refine Kd.C_drew ?_)))
    (case side2 => exact (Kd.R_reads' HO_131003.out).2.1)
    (case side3 => repeat (first | exact (Kd.R_reads' HO151.out).2.2 | (with_reducible refine Kd.C_alloc ?_ _) | (with_reducible refine Kd.C_drewN ?_ _) | (with_reducible refine Kd.C_drew ?_)))
    (case side4 => exact (Kd.R_reads' HO151.out).2.1)
    rintro e w230 ⟨rfl, hb⟩
    refine ⟨_, rfl, ?_⟩
    replace HO_11 := am_ (Kd.R_below (by exact HO_11.out) hb)
    replace HO_12 := am_ (Kd.R_below (by exact HO_12.out) hb)
    replace HO_124003 := am_ (Kd.R_below (by exact HO_124003.out) hb)
    replace HO_131003 := am_ (Kd.R_below (by exact HO_131003.out) hb)
    replace HO_145003 := am_ (Kd.R_below (by exact HO_145003.out) hb)
    replace HO151 := am_ (Kd.R_below (by exact HO151.out) hb)
    replace BK101 := am_ (blk_below (by exact BK101.out) hb)
    replace BK123 := am_ (blk_below (by exact BK123.out) hb)
    replace BK130 := am_ (blk_below (by exact BK130.out) hb)
    replace BK144 := am_ (blk_below (by exact BK144.out) hb)
    replace HB := am_ (below_step (by repeat (first | (with_reducible first | exact HB.out | apply below_alloc | apply pw_below_drewN | apply below_drew1 | refine below_set ?_ GE101.out | refine below_set ?_ GE123.out | refine below_set ?_ GE130.out | refine below_set ?_ GE144.out) | exact HB.out)) hb)
    (try clear hb)
    (try clear hb2)
    (try clear hk)
    (try clear hi)
    refine hK.out _ _ ⟨(blk_cell BK130.out 0).trans rfl, (blk_cell BK130.out 1).trans rfl, (blk_cell BK130.out 2).trans rfl, (blk_cell BK130.out 3).trans rfl, (blk_cell BK101.out 0).trans rfl, (blk_cell BK101.out 1).trans rfl, (blk_cell BK101.out 2).trans rfl, (blk_cell BK101.out 3).trans rfl⟩ (fun hHeld => ?_)
    clear hK K
    refine norm_ (a' := ?_) ?_ ?_
    rotate_left
    ·
     show Act.put _ (some 68) _ = _
     simp only [Act.put, List.setIfInBounds_toArray, List.set_cons_zero, List.set_cons_succ, i64_w, i32_w]
     rfl
    refine pure_ (i := 4) (N := some 69) (v := ?_) (a' := ?_) #[true, true, true, true, true] rfl rfl (by kernel_rfl) (fun _ _ _ h => h) (Or.inl ⟨by rfl, ?_⟩) ?_ ?_
    rotate_left
    ·
     intro w'
     go_simp
     with_reducible rfl
    rotate_left
    ·
     simp only [Act.put, List.setIfInBounds_toArray, List.set_cons_zero, List.set_cons_succ, i64_w, i32_w]
     rfl
    refine done_ (by kernel_rfl) ?_
    try go_wp2_with (first | ((with_reducible refine gate_callee (f := 21) rfl ?_); refine goesL_ (some 72) rfl rfl Try.func21 (by kernel_rfl) rfl #[.slice A1 l1.length c1] rfl (by simp only [List.map_toArray, List.map_cons, List.map_nil]; rfl) ?_; (with_reducible refine (laws_toRunS.calls kj23 _ _ l1 t153 _ ?side1 ?side2 A81.out).mono ?_); (case side1 => repeat (first | exact (Kd.C_below HR1.out HB.out) | (with_reducible refine Kd.C_alloc ?_ _) | (with_reducible refine Kd.C_drewN ?_ _) | (with_reducible refine Kd.C_drew ?_))); (case side2 => exact HC1.out); rintro e w231 ⟨v154, rfl, ho0, hb⟩; refine ⟨_, rfl, ?_⟩; replace HO_12 := am_ (Kd.R_below (by exact HO_12.out) hb); replace HO_124003 := am_ (Kd.R_below (by exact HO_124003.out) hb); replace HO_131003 := am_ (Kd.R_below (by exact HO_131003.out) hb); replace HO_145003 := am_ (Kd.R_below (by exact HO_145003.out) hb); replace HO151 := am_ (Kd.R_below (by exact HO151.out) hb); have HO155 := am_ (Kd.R_lower (Kd.R_new' ho0 (Kd.R_lt (by exact HO_11.out))) (below_size (by repeat (first | (with_reducible first | exact HB.out | apply below_alloc | apply pw_below_drewN | apply below_drew1 | refine below_set ?_ GE101.out | refine below_set ?_ GE123.out | refine below_set ?_ GE130.out | refine below_set ?_ GE144.out) | exact HB.out)))); replace HO_11 := am_ (Kd.R_elder' (by exact HO_11.out) (Kd.R_base ho0) hb); replace BK101 := am_ (blk_below (by exact BK101.out) hb); replace BK123 := am_ (blk_below (by exact BK123.out) hb); replace BK130 := am_ (blk_below (by exact BK130.out) hb); replace BK144 := am_ (blk_below (by exact BK144.out) hb); replace HB := am_ (below_step (by repeat (first | (with_reducible first | exact HB.out | apply below_alloc | apply pw_below_drewN | apply below_drew1 | refine below_set ?_ GE101.out | refine below_set ?_ GE123.out | refine below_set ?_ GE130.out | refine below_set ?_ GE144.out) | exact HB.out)) hb); (try clear hb); (try clear hb2); (try clear hk); (try clear hi); (try clear ho0); obtain ⟨Ao232, co232, eo232⟩ := Kd.R_slice HO155.out; subst eo232) | ((with_reducible refine gate_callee (f := 23) rfl ?_); refine goesL_ (some 73) rfl rfl Try.func23 (by kernel_rfl) rfl #[.slice Ao50 t131.length co50, .slice Ao232 t153.length co232] rfl (by simp only [List.map_toArray, List.map_cons, List.map_nil]; rfl) ?_; (with_reducible refine (laws_eqRunS.calls kj23 _ _ t131 _ _ t153 false _ ?side1 ?side2 ?side3 ?side4 A82.out).mono ?_); (case side1 => repeat (first | exact (Kd.R_reads' HO_11.out).2.2 | (with_reducible refine Kd.C_alloc ?_ _) | (with_reducible refine Kd.C_drewN ?_ _) | (with_reducible refine Kd.C_drew ?_))); (case side2 => exact (Kd.R_reads' HO_11.out).2.1); (case side3 => repeat (first | exact (Kd.R_reads' HO155.out).2.2 | (with_reducible refine Kd.C_alloc ?_ _) | (with_reducible refine Kd.C_drewN ?_ _) | (with_reducible refine Kd.C_drew ?_))); (case side4 => exact (Kd.R_reads' HO155.out).2.1); rintro e w233 ⟨rfl, hb⟩; refine ⟨_, rfl, ?_⟩; replace HO_11 := am_ (Kd.R_below (by exact HO_11.out) hb); replace HO_12 := am_ (Kd.R_below (by exact HO_12.out) hb); replace HO_124003 := am_ (Kd.R_below (by exact HO_124003.out) hb); replace HO_131003 := am_ (Kd.R_below (by exact HO_131003.out) hb); replace HO_145003 := am_ (Kd.R_below (by exact HO_145003.out) hb); replace HO151 := am_ (Kd.R_below (by exact HO151.out) hb); replace HO155 := am_ (Kd.R_below (by exact HO155.out) hb); replace BK101 := am_ (blk_below (by exact BK101.out) hb); replace BK123 := am_ (blk_below (by exact BK123.out) hb); replace BK130 := am_ (blk_below (by exact BK130.out) hb); replace BK144 := am_ (blk_below (by exact BK144.out) hb); replace HB := am_ (below_step (by repeat (first | (with_reducible first | exact HB.out | apply below_alloc | apply pw_below_drewN | apply below_drew1 | refine below_set ?_ GE101.out | refine below_set ?_ GE123.out | refine below_set ?_ GE130.out | refine below_set ?_ GE144.out) | exact HB.out)) hb); (try clear hb); (try clear hb2); (try clear hk); (try clear hi)))
    go_ret
    exact ⟨by first | rfl | (simp [errW_none, errW_some] <;> rfl) | (simp [*, errW_none, errW_some] <;> rfl), by repeat (first | (with_reducible first | exact HB.out | apply below_alloc | apply pw_below_drewN | apply below_drew1 | refine below_set ?_ GE101.out | refine below_set ?_ GE123.out | refine below_set ?_ GE130.out | refine below_set ?_ GE144.out) | exact HB.out)⟩
   subst c83
   have H1 : ((laws_toIntS.f kj23 l2).bind fun t157 => ((laws_eqIntS.f kj23 t134 t157).bind fun t160 => (if t160 = true then ((laws_markImage.f kj23 t124 t125 t126 t127 1).bind fun bt161 => ((laws_markRunS.f kj23 t131 bt161.1).bind fun bt163 => ((laws_markIntS.f kj23 t134 bt163.1).bind fun bt165 => (if bt165.1 < 0 then (laws_FnExactFillRegion.j1 kj23 l1 l2 t122 true a0_0 a0_1 a0_2 l0_3 t116 t117 t118 t119 t137 t138 t139 t140) else ((laws_eqImage.f kj23 t137 t138 t139 t140 t116 t117 t118 t119).bind fun t167 => (if t167 = true then (laws_FnExactFillRegion.j1 kj23 l1 l2 t122 (t143 != t122) a0_0 a0_1 a0_2 l0_3 t116 t117 t118 t119 t137 t138 t139 t140) else (laws_FnExactFillRegion.j1 kj23 l1 l2 t122 true a0_0 a0_1 a0_2 l0_3 t116 t117 t118 t119 t137 t138 t139 t140))))))) else (some false)))) = some r := by rw [if_pos rfl] at H; exact H
   clear H
   have H := H1
   clear H1
   replace H := Option.bind_eq_some_iff.mp H
   obtain ⟨t157, A840, H⟩ := H
   replace H : ((laws_eqIntS.f kj23 t134 t157).bind fun t160 => (if t160 = true then ((laws_markImage.f kj23 t124 t125 t126 t127 1).bind fun bt161 => ((laws_markRunS.f kj23 t131 bt161.1).bind fun bt163 => ((laws_markIntS.f kj23 t134 bt163.1).bind fun bt165 => (if bt165.1 < 0 then (laws_FnExactFillRegion.j1 kj23 l1 l2 t122 true a0_0 a0_1 a0_2 l0_3 t116 t117 t118 t119 t137 t138 t139 t140) else ((laws_eqImage.f kj23 t137 t138 t139 t140 t116 t117 t118 t119).bind fun t167 => (if t167 = true then (laws_FnExactFillRegion.j1 kj23 l1 l2 t122 (t143 != t122) a0_0 a0_1 a0_2 l0_3 t116 t117 t118 t119 t137 t138 t139 t140) else (laws_FnExactFillRegion.j1 kj23 l1 l2 t122 true a0_0 a0_1 a0_2 l0_3 t116 t117 t118 t119 t137 t138 t139 t140))))))) else (some false))) = some r := H
   have A84 := Aside0.mk A840
   clear A840
   replace H := Option.bind_eq_some_iff.mp H
   obtain ⟨t160, A850, H⟩ := H
   replace H : (if t160 = true then ((laws_markImage.f kj23 t124 t125 t126 t127 1).bind fun bt161 => ((laws_markRunS.f kj23 t131 bt161.1).bind fun bt163 => ((laws_markIntS.f kj23 t134 bt163.1).bind fun bt165 => (if bt165.1 < 0 then (laws_FnExactFillRegion.j1 kj23 l1 l2 t122 true a0_0 a0_1 a0_2 l0_3 t116 t117 t118 t119 t137 t138 t139 t140) else ((laws_eqImage.f kj23 t137 t138 t139 t140 t116 t117 t118 t119).bind fun t167 => (if t167 = true then (laws_FnExactFillRegion.j1 kj23 l1 l2 t122 (t143 != t122) a0_0 a0_1 a0_2 l0_3 t116 t117 t118 t119 t137 t138 t139 t140) else (laws_FnExactFillRegion.j1 kj23 l1 l2 t122 true a0_0 a0_1 a0_2 l0_3 t116 t117 t118 t119 t137 t138 t139 t140))))))) else (some false)) = some r := H
   have A85 := Aside0.mk A850
   clear A850
   by_cases c86 : t160 = true
   rotate_left
   ·
    replace c86 := Bool.eq_false_iff.mpr c86
    subst c86
    have H1 : (some false) = some r := by rw [if_neg (show ¬ (false = true) by decide)] at H; exact H
    clear H
    have H := H1
    clear H1
    obtain rfl := Option.some.inj H
    try go_wp2
    replace HO_11 := am_ (Kd.R_drew HO_11.out)
    replace HO_12 := am_ (Kd.R_drew HO_12.out)
    replace HO_124003 := am_ (Kd.R_drew HO_124003.out)
    replace HO_131003 := am_ (Kd.R_drew HO_131003.out)
    replace HO_145003 := am_ (Kd.R_drew HO_145003.out)
    replace BK101 := am_ (blk_drew BK101.out)
    replace BK123 := am_ (blk_drew BK123.out)
    replace BK130 := am_ (blk_drew BK130.out)
    replace BK144 := am_ (blk_drew BK144.out)
    replace HB := am_ (below_drew1 HB.out)
    refine start_ (n := 5) (S := fun w' => w'.cell? ⟨gb130, 0, none⟩ = some (.int .i64 t124) ∧ w'.cell? ⟨gb130, 1, none⟩ = some (.int .i64 t125) ∧ w'.cell? ⟨gb130, 2, none⟩ = some (.int .i64 t126) ∧ w'.cell? ⟨gb130, 3, none⟩ = some (.slice Ao46 t127.length co46) ∧ w'.cell? ⟨gb101, 0, none⟩ = some (.int .i64 a0_0) ∧ w'.cell? ⟨gb101, 1, none⟩ = some (.int .i64 a0_1) ∧ w'.cell? ⟨gb101, 2, none⟩ = some (.int .i64 a0_2) ∧ w'.cell? ⟨gb101, 3, none⟩ = some (.slice A0_3 l0_3.length c0_3)) (ds := []) #[false, false, false, false, false] (by kernel_rfl) rfl rfl ⟨(blk_cell BK130.out 0).trans rfl, (blk_cell BK130.out 1).trans rfl, (blk_cell BK130.out 2).trans rfl, (blk_cell BK130.out 3).trans rfl, (blk_cell BK101.out 0).trans rfl, (blk_cell BK101.out 1).trans rfl, (blk_cell BK101.out 2).trans rfl, (blk_cell BK101.out 3).trans rfl⟩ (fun hHeld => ?_)
    generalize wc.drew = w218 at HO_11 HO_12 HO_124003 HO_131003 HO_145003 BK101 BK123 BK130 BK144 HB hHeld ⊢
    refine take_ (i := 0) (N := some 65) (v := ?_) (a' := ?_) #[true, false, false, false, false] rfl rfl (by kernel_rfl) (fun _ _ _ h => h) (Or.inl ⟨by rfl, ?_⟩) hHeld ?_ ?_
    rotate_left
    ·
     rintro w' ⟨s0, s1, s2, s3, s4, s5, s6, s7⟩
     go_simp
     with_reducible rfl
    rotate_left
    ·
     simp only [Act.put, List.setIfInBounds_toArray, List.set_cons_zero, List.set_cons_succ, i64_w, i32_w]
     rfl
    refine take_ (i := 1) (N := some 66) (v := ?_) (a' := ?_) #[true, true, false, false, false] rfl rfl (by kernel_rfl) (fun _ _ _ h => h) (Or.inl ⟨by rfl, ?_⟩) hHeld ?_ ?_
    rotate_left
    ·
     rintro w' ⟨s0, s1, s2, s3, s4, s5, s6, s7⟩
     go_simp
     with_reducible rfl
    rotate_left
    ·
     simp only [Act.put, List.setIfInBounds_toArray, List.set_cons_zero, List.set_cons_succ, i64_w, i32_w]
     rfl
    refine one_ (i := 2) (N := some 67) #[true, true, true, false, false] rfl rfl (by kernel_rfl) (by decide) (fun K hK => ?_)
    refine goes_ Try.func20 (by kernel_rfl) rfl #[.agg #[.int .i64 a0_0, .int .i64 a0_1, .int .i64 a0_2, .slice A0_3 l0_3.length c0_3]] (by rfl) rfl rfl (by simp only [List.map_toArray, List.map_cons, List.map_nil]; rfl) ?_
    with_reducible refine (laws_toImage.calls kj23 a0_0 a0_1 a0_2 _ _ l0_3 t146 t147 t148 t149 _ ?side1 ?side2 A78.out).mono ?_
    (case side1 => repeat (first | exact (Kd.C_below HR0_3.out HB.out) | (with_reducible refine Kd.C_alloc ?_ _) | (with_reducible refine Kd.C_drewN ?_ _) | (with_reducible refine Kd.C_drew ?_)))
    (case side2 => exact HC0_3.out)
    rintro e w219 ⟨v150, rfl, ho0, hb⟩
    refine ⟨_, rfl, ?_⟩
    replace HO_11 := am_ (Kd.R_below (by exact HO_11.out) hb)
    have HO151 := am_ (Kd.R_lower (Kd.R_new' (Kd.R_new' (Kd.R_new' (Kd.R_new' ho0 (Kd.R_lt (by exact HO_12.out))) (Kd.R_lt (by exact HO_124003.out))) (Kd.R_lt (by exact HO_131003.out))) (Kd.R_lt (by exact HO_145003.out))) (below_size (by repeat (first | (with_reducible first | exact HB.out | apply below_alloc | apply pw_below_drewN | apply below_drew1 | refine below_set ?_ GE101.out | refine below_set ?_ GE123.out | refine below_set ?_ GE130.out | refine below_set ?_ GE144.out) | exact HB.out))))
    replace HO_12 := am_ (Kd.R_elder' (by exact HO_12.out) (Kd.R_base ho0) hb)
    replace HO_124003 := am_ (Kd.R_elder' (by exact HO_124003.out) (Kd.R_base ho0) hb)
    replace HO_131003 := am_ (Kd.R_elder' (by exact HO_131003.out) (Kd.R_base ho0) hb)
    replace HO_145003 := am_ (Kd.R_elder' (by exact HO_145003.out) (Kd.R_base ho0) hb)
    replace BK101 := am_ (blk_below (by exact BK101.out) hb)
    replace BK123 := am_ (blk_below (by exact BK123.out) hb)
    replace BK130 := am_ (blk_below (by exact BK130.out) hb)
    replace BK144 := am_ (blk_below (by exact BK144.out) hb)
    replace HB := am_ (below_step (by repeat (first | (with_reducible first | exact HB.out | apply below_alloc | apply pw_below_drewN | apply below_drew1 | refine below_set ?_ GE101.out | refine below_set ?_ GE123.out | refine below_set ?_ GE130.out | refine below_set ?_ GE144.out) | exact HB.out)) hb)
    (try clear hb)
    (try clear hb2)
    (try clear hk)
    (try clear hi)
    (try clear ho0)
    obtain ⟨Ao220, co220, eo220⟩ := Kd.R_slice HO151.out
    (first | subst eo220 | (injection eo220 with f1_ f2_ f3_; have f4_ := f1_.symm; have f5_ := f3_.symm; clear f1_ f2_ f3_; subst f4_; subst f5_))
    refine hK.out _ _ ⟨(blk_cell BK130.out 0).trans rfl, (blk_cell BK130.out 1).trans rfl, (blk_cell BK130.out 2).trans rfl, (blk_cell BK130.out 3).trans rfl, (blk_cell BK101.out 0).trans rfl, (blk_cell BK101.out 1).trans rfl, (blk_cell BK101.out 2).trans rfl, (blk_cell BK101.out 3).trans rfl⟩ (fun hHeld => ?_)
    clear hK K
    refine norm_ (a' := ?_) ?_ ?_
    rotate_left
    ·
     show Act.put _ (some 67) _ = _
     simp only [Act.put, List.setIfInBounds_toArray, List.set_cons_zero, List.set_cons_succ, i64_w, i32_w]
     rfl
    refine one_ (i := 3) (N := some 68) #[true, true, true, true, false] rfl rfl (by kernel_rfl) (by decide) (fun K hK => ?_)
    refine goes_ Try.func22 (by kernel_rfl) rfl #[.agg #[.int .i64 t124, .int .i64 t125, .int .i64 t126, .slice Ao46 t127.length co46], .agg #[.int .i64 t146, .int .i64 t147, .int .i64 t148, .slice Ao220 t149.length co220]] (by rfl) rfl rfl (by simp only [List.map_toArray, List.map_cons, List.map_nil]; rfl) ?_
    with_reducible refine (laws_eqImage.calls kj23 t124 t125 t126 _ _ t127 t146 t147 t148 _ _ t149 true _ ?side1 ?side2 ?side3 ?side4 A79.out).mono ?_
    (case side1 => repeat (first | exact (Kd.R_reads' HO_131003.out).2.2 | (with_reducible refine Kd.C_alloc ?_ _) | (with_reducible refine Kd.C_drewN ?_ _) | (with_reducible refine Kd.C_drew ?_)))
    (case side2 => exact (Kd.R_reads' HO_131003.out).2.1)
    (case side3 => repeat (first | exact (Kd.R_reads' HO151.out).2.2 | (with_reducible refine Kd.C_alloc ?_ _) | (with_reducible refine Kd.C_drewN ?_ _) | (with_reducible refine Kd.C_drew ?_)))
    (case side4 => exact (Kd.R_reads' HO151.out).2.1)
    rintro e w221 ⟨rfl, hb⟩
    refine ⟨_, rfl, ?_⟩
    replace HO_11 := am_ (Kd.R_below (by exact HO_11.out) hb)
    replace HO_12 := am_ (Kd.R_below (by exact HO_12.out) hb)
    replace HO_124003 := am_ (Kd.R_below (by exact HO_124003.out) hb)
    replace HO_131003 := am_ (Kd.R_below (by exact HO_131003.out) hb)
    replace HO_145003 := am_ (Kd.R_below (by exact HO_145003.out) hb)
    replace HO151 := am_ (Kd.R_below (by exact HO151.out) hb)
    replace BK101 := am_ (blk_below (by exact BK101.out) hb)
    replace BK123 := am_ (blk_below (by exact BK123.out) hb)
    replace BK130 := am_ (blk_below (by exact BK130.out) hb)
    replace BK144 := am_ (blk_below (by exact BK144.out) hb)
    replace HB := am_ (below_step (by repeat (first | (with_reducible first | exact HB.out | apply below_alloc | apply pw_below_drewN | apply below_drew1 | refine below_set ?_ GE101.out | refine below_set ?_ GE123.out | refine below_set ?_ GE130.out | refine below_set ?_ GE144.out) | exact HB.out)) hb)
    (try clear hb)
    (try clear hb2)
    (try clear hk)
    (try clear hi)
    refine hK.out _ _ ⟨(blk_cell BK130.out 0).trans rfl, (blk_cell BK130.out 1).trans rfl, (blk_cell BK130.out 2).trans rfl, (blk_cell BK130.out 3).trans rfl, (blk_cell BK101.out 0).trans rfl, (blk_cell BK101.out 1).trans rfl, (blk_cell BK101.out 2).trans rfl, (blk_cell BK101.out 3).trans rfl⟩ (fun hHeld => ?_)
    clear hK K
    refine norm_ (a' := ?_) ?_ ?_
    rotate_left
    ·
     show Act.put _ (some 68) _ = _
     simp only [Act.put, List.setIfInBounds_toArray, List.set_cons_zero, List.set_cons_succ, i64_w, i32_w]
     rfl
    refine pure_ (i := 4) (N := some 69) (v := ?_) (a' := ?_) #[true, true, true, true, true] rfl rfl (by kernel_rfl) (fun _ _ _ h => h) (Or.inl ⟨by rfl, ?_⟩) ?_ ?_
    rotate_left
    ·
     intro w'
     go_simp
     with_reducible rfl
    rotate_left
    ·
     simp only [Act.put, List.setIfInBounds_toArray, List.set_cons_zero, List.set_cons_succ, i64_w, i32_w]
     rfl
    refine done_ (by kernel_rfl) ?_
    try go_wp2_with (first | ((with_reducible refine gate_callee (f := 21) rfl ?_); refine goesL_ (some 72) rfl rfl Try.func21 (by kernel_rfl) rfl #[.slice A1 l1.length c1] rfl (by simp only [List.map_toArray, List.map_cons, List.map_nil]; rfl) ?_; (with_reducible refine (laws_toRunS.calls kj23 _ _ l1 t153 _ ?side1 ?side2 A81.out).mono ?_); (case side1 => repeat (first | exact (Kd.C_below HR1.out HB.out) | (with_reducible refine Kd.C_alloc ?_ _) | (with_reducible refine Kd.C_drewN ?_ _) | (with_reducible refine Kd.C_drew ?_))); (case side2 => exact HC1.out); rintro e w222 ⟨v154, rfl, ho0, hb⟩; refine ⟨_, rfl, ?_⟩; replace HO_12 := am_ (Kd.R_below (by exact HO_12.out) hb); replace HO_124003 := am_ (Kd.R_below (by exact HO_124003.out) hb); replace HO_131003 := am_ (Kd.R_below (by exact HO_131003.out) hb); replace HO_145003 := am_ (Kd.R_below (by exact HO_145003.out) hb); replace HO151 := am_ (Kd.R_below (by exact HO151.out) hb); have HO155 := am_ (Kd.R_lower (Kd.R_new' ho0 (Kd.R_lt (by exact HO_11.out))) (below_size (by repeat (first | (with_reducible first | exact HB.out | apply below_alloc | apply pw_below_drewN | apply below_drew1 | refine below_set ?_ GE101.out | refine below_set ?_ GE123.out | refine below_set ?_ GE130.out | refine below_set ?_ GE144.out) | exact HB.out)))); replace HO_11 := am_ (Kd.R_elder' (by exact HO_11.out) (Kd.R_base ho0) hb); replace BK101 := am_ (blk_below (by exact BK101.out) hb); replace BK123 := am_ (blk_below (by exact BK123.out) hb); replace BK130 := am_ (blk_below (by exact BK130.out) hb); replace BK144 := am_ (blk_below (by exact BK144.out) hb); replace HB := am_ (below_step (by repeat (first | (with_reducible first | exact HB.out | apply below_alloc | apply pw_below_drewN | apply below_drew1 | refine below_set ?_ GE101.out | refine below_set ?_ GE123.out | refine below_set ?_ GE130.out | refine below_set ?_ GE144.out) | exact HB.out)) hb); (try clear hb); (try clear hb2); (try clear hk); (try clear hi); (try clear ho0); obtain ⟨Ao223, co223, eo223⟩ := Kd.R_slice HO155.out; subst eo223) | ((with_reducible refine gate_callee (f := 23) rfl ?_); refine goesL_ (some 73) rfl rfl Try.func23 (by kernel_rfl) rfl #[.slice Ao50 t131.length co50, .slice Ao223 t153.length co223] rfl (by simp only [List.map_toArray, List.map_cons, List.map_nil]; rfl) ?_; (with_reducible refine (laws_eqRunS.calls kj23 _ _ t131 _ _ t153 true _ ?side1 ?side2 ?side3 ?side4 A82.out).mono ?_); (case side1 => repeat (first | exact (Kd.R_reads' HO_11.out).2.2 | (with_reducible refine Kd.C_alloc ?_ _) | (with_reducible refine Kd.C_drewN ?_ _) | (with_reducible refine Kd.C_drew ?_))); (case side2 => exact (Kd.R_reads' HO_11.out).2.1); (case side3 => repeat (first | exact (Kd.R_reads' HO155.out).2.2 | (with_reducible refine Kd.C_alloc ?_ _) | (with_reducible refine Kd.C_drewN ?_ _) | (with_reducible refine Kd.C_drew ?_))); (case side4 => exact (Kd.R_reads' HO155.out).2.1); rintro e w224 ⟨rfl, hb⟩; refine ⟨_, rfl, ?_⟩; replace HO_11 := am_ (Kd.R_below (by exact HO_11.out) hb); replace HO_12 := am_ (Kd.R_below (by exact HO_12.out) hb); replace HO_124003 := am_ (Kd.R_below (by exact HO_124003.out) hb); replace HO_131003 := am_ (Kd.R_below (by exact HO_131003.out) hb); replace HO_145003 := am_ (Kd.R_below (by exact HO_145003.out) hb); replace HO151 := am_ (Kd.R_below (by exact HO151.out) hb); replace HO155 := am_ (Kd.R_below (by exact HO155.out) hb); replace BK101 := am_ (blk_below (by exact BK101.out) hb); replace BK123 := am_ (blk_below (by exact BK123.out) hb); replace BK130 := am_ (blk_below (by exact BK130.out) hb); replace BK144 := am_ (blk_below (by exact BK144.out) hb); replace HB := am_ (below_step (by repeat (first | (with_reducible first | exact HB.out | apply below_alloc | apply pw_below_drewN | apply below_drew1 | refine below_set ?_ GE101.out | refine below_set ?_ GE123.out | refine below_set ?_ GE130.out | refine below_set ?_ GE144.out) | exact HB.out)) hb); (try clear hb); (try clear hb2); (try clear hk); (try clear hi)) | ((with_reducible refine gate_callee (f := 28) rfl ?_); refine goesL_ (some 77) rfl rfl Try.func28 (by kernel_rfl) rfl #[.slice A2 l2.length c2] rfl (by simp only [List.map_toArray, List.map_cons, List.map_nil]; rfl) ?_; (with_reducible refine (laws_toIntS.calls kj23 _ _ l2 t157 _ ?side1 ?side2 A84.out).mono ?_); (case side1 => repeat (first | exact (Kd.C_below HR2.out HB.out) | (with_reducible refine Kd.C_alloc ?_ _) | (with_reducible refine Kd.C_drewN ?_ _) | (with_reducible refine Kd.C_drew ?_))); (case side2 => exact HC2.out); rintro e w225 ⟨v158, rfl, ho0, hb⟩; refine ⟨_, rfl, ?_⟩; replace HO_11 := am_ (Kd.R_below (by exact HO_11.out) hb); replace HO155 := am_ (Kd.R_below (by exact HO155.out) hb); have HO159 := am_ (Kd.R_lower (Kd.R_new' (Kd.R_new' (Kd.R_new' (Kd.R_new' (Kd.R_new' ho0 (Kd.R_lt (by exact HO_12.out))) (Kd.R_lt (by exact HO_124003.out))) (Kd.R_lt (by exact HO_131003.out))) (Kd.R_lt (by exact HO_145003.out))) (Kd.R_lt (by exact HO151.out))) (below_size (by repeat (first | (with_reducible first | exact HB.out | apply below_alloc | apply pw_below_drewN | apply below_drew1 | refine below_set ?_ GE101.out | refine below_set ?_ GE123.out | refine below_set ?_ GE130.out | refine below_set ?_ GE144.out) | exact HB.out)))); replace HO_12 := am_ (Kd.R_elder' (by exact HO_12.out) (Kd.R_base ho0) hb); replace HO_124003 := am_ (Kd.R_elder' (by exact HO_124003.out) (Kd.R_base ho0) hb); replace HO_131003 := am_ (Kd.R_elder' (by exact HO_131003.out) (Kd.R_base ho0) hb); replace HO_145003 := am_ (Kd.R_elder' (by exact HO_145003.out) (Kd.R_base ho0) hb); replace HO151 := am_ (Kd.R_elder' (by exact HO151.out) (Kd.R_base ho0) hb); replace BK101 := am_ (blk_below (by exact BK101.out) hb); replace BK123 := am_ (blk_below (by exact BK123.out) hb); replace BK130 := am_ (blk_below (by exact BK130.out) hb); replace BK144 := am_ (blk_below (by exact BK144.out) hb); replace HB := am_ (below_step (by repeat (first | (with_reducible first | exact HB.out | apply below_alloc | apply pw_below_drewN | apply below_drew1 | refine below_set ?_ GE101.out | refine below_set ?_ GE123.out | refine below_set ?_ GE130.out | refine below_set ?_ GE144.out) | exact HB.out)) hb); (try clear hb); (try clear hb2); (try clear hk); (try clear hi); (try clear ho0); obtain ⟨Ao226, co226, eo226⟩ := Kd.R_slice HO159.out; subst eo226) | ((with_reducible refine gate_callee (f := 30) rfl ?_); refine goesL_ (some 78) rfl rfl Try.func30 (by kernel_rfl) rfl #[.slice Ao51 t134.length co51, .slice Ao226 t157.length co226] rfl (by simp only [List.map_toArray, List.map_cons, List.map_nil]; rfl) ?_; (with_reducible refine (laws_eqIntS.calls kj23 _ _ t134 _ _ t157 false _ ?side1 ?side2 ?side3 ?side4 A85.out).mono ?_); (case side1 => repeat (first | exact (Kd.R_reads' HO_12.out).2.2 | (with_reducible refine Kd.C_alloc ?_ _) | (with_reducible refine Kd.C_drewN ?_ _) | (with_reducible refine Kd.C_drew ?_))); (case side2 => exact (Kd.R_reads' HO_12.out).2.1); (case side3 => repeat (first | exact (Kd.R_reads' HO159.out).2.2 | (with_reducible refine Kd.C_alloc ?_ _) | (with_reducible refine Kd.C_drewN ?_ _) | (with_reducible refine Kd.C_drew ?_))); (case side4 => exact (Kd.R_reads' HO159.out).2.1); rintro e w' ⟨rfl, ⟨nd, rfl⟩⟩; refine ⟨_, rfl, ?_⟩))
    go_ret
    exact ⟨by first | rfl | (simp [errW_none, errW_some] <;> rfl) | (simp [*, errW_none, errW_some] <;> rfl), by repeat (first | (with_reducible first | exact HB.out | apply below_alloc | apply pw_below_drewN | apply below_drew1 | refine below_set ?_ GE101.out | refine below_set ?_ GE123.out | refine below_set ?_ GE130.out | refine below_set ?_ GE144.out) | exact HB.out)⟩
   subst c86
   have H1 : ((laws_markImage.f kj23 t124 t125 t126 t127 1).bind fun bt161 => ((laws_markRunS.f kj23 t131 bt161.1).bind fun bt163 => ((laws_markIntS.f kj23 t134 bt163.1).bind fun bt165 => (if bt165.1 < 0 then (laws_FnExactFillRegion.j1 kj23 l1 l2 t122 true a0_0 a0_1 a0_2 l0_3 t116 t117 t118 t119 t137 t138 t139 t140) else ((laws_eqImage.f kj23 t137 t138 t139 t140 t116 t117 t118 t119).bind fun t167 => (if t167 = true then (laws_FnExactFillRegion.j1 kj23 l1 l2 t122 (t143 != t122) a0_0 a0_1 a0_2 l0_3 t116 t117 t118 t119 t137 t138 t139 t140) else (laws_FnExactFillRegion.j1 kj23 l1 l2 t122 true a0_0 a0_1 a0_2 l0_3 t116 t117 t118 t119 t137 t138 t139 t140))))))) = some r := by rw [if_pos rfl] at H; exact H
   clear H
   have H := H1
   clear H1
   replace H := Option.bind_eq_some_iff.mp H
   obtain ⟨⟨t161, t162⟩, A870, H⟩ := H
   replace H : ((laws_markRunS.f kj23 t131 t161).bind fun bt163 => ((laws_markIntS.f kj23 t134 bt163.1).bind fun bt165 => (if bt165.1 < 0 then (laws_FnExactFillRegion.j1 kj23 l1 l2 t122 true a0_0 a0_1 a0_2 l0_3 t116 t117 t118 t119 t137 t138 t139 t140) else ((laws_eqImage.f kj23 t137 t138 t139 t140 t116 t117 t118 t119).bind fun t167 => (if t167 = true then (laws_FnExactFillRegion.j1 kj23 l1 l2 t122 (t143 != t122) a0_0 a0_1 a0_2 l0_3 t116 t117 t118 t119 t137 t138 t139 t140) else (laws_FnExactFillRegion.j1 kj23 l1 l2 t122 true a0_0 a0_1 a0_2 l0_3 t116 t117 t118 t119 t137 t138 t139 t140)))))) = some r := H
   have A87 := Aside0.mk A870
   clear A870
   replace H := Option.bind_eq_some_iff.mp H
   obtain ⟨⟨t163, t164⟩, A880, H⟩ := H
   replace H : ((laws_markIntS.f kj23 t134 t163).bind fun bt165 => (if bt165.1 < 0 then (laws_FnExactFillRegion.j1 kj23 l1 l2 t122 true a0_0 a0_1 a0_2 l0_3 t116 t117 t118 t119 t137 t138 t139 t140) else ((laws_eqImage.f kj23 t137 t138 t139 t140 t116 t117 t118 t119).bind fun t167 => (if t167 = true then (laws_FnExactFillRegion.j1 kj23 l1 l2 t122 (t143 != t122) a0_0 a0_1 a0_2 l0_3 t116 t117 t118 t119 t137 t138 t139 t140) else (laws_FnExactFillRegion.j1 kj23 l1 l2 t122 true a0_0 a0_1 a0_2 l0_3 t116 t117 t118 t119 t137 t138 t139 t140))))) = some r := H
   have A88 := Aside0.mk A880
   clear A880
   replace H := Option.bind_eq_some_iff.mp H
   obtain ⟨⟨t165, t166⟩, A890, H⟩ := H
   replace H : (if t165 < 0 then (laws_FnExactFillRegion.j1 kj23 l1 l2 t122 true a0_0 a0_1 a0_2 l0_3 t116 t117 t118 t119 t137 t138 t139 t140) else ((laws_eqImage.f kj23 t137 t138 t139 t140 t116 t117 t118 t119).bind fun t167 => (if t167 = true then (laws_FnExactFillRegion.j1 kj23 l1 l2 t122 (t143 != t122) a0_0 a0_1 a0_2 l0_3 t116 t117 t118 t119 t137 t138 t139 t140) else (laws_FnExactFillRegion.j1 kj23 l1 l2 t122 true a0_0 a0_1 a0_2 l0_3 t116 t117 t118 t119 t137 t138 t139 t140)))) = some r := H
   have A89 := Aside0.mk A890
   clear A890
   have HC90 := Aside0.mk H
   clear H
   try go_wp2
   replace HO_11 := am_ (Kd.R_drew HO_11.out)
   replace HO_12 := am_ (Kd.R_drew HO_12.out)
   replace HO_124003 := am_ (Kd.R_drew HO_124003.out)
   replace HO_131003 := am_ (Kd.R_drew HO_131003.out)
   replace HO_145003 := am_ (Kd.R_drew HO_145003.out)
   replace BK101 := am_ (blk_drew BK101.out)
   replace BK123 := am_ (blk_drew BK123.out)
   replace BK130 := am_ (blk_drew BK130.out)
   replace BK144 := am_ (blk_drew BK144.out)
   replace HB := am_ (below_drew1 HB.out)
   refine start_ (n := 5) (S := fun w' => w'.cell? ⟨gb130, 0, none⟩ = some (.int .i64 t124) ∧ w'.cell? ⟨gb130, 1, none⟩ = some (.int .i64 t125) ∧ w'.cell? ⟨gb130, 2, none⟩ = some (.int .i64 t126) ∧ w'.cell? ⟨gb130, 3, none⟩ = some (.slice Ao46 t127.length co46) ∧ w'.cell? ⟨gb101, 0, none⟩ = some (.int .i64 a0_0) ∧ w'.cell? ⟨gb101, 1, none⟩ = some (.int .i64 a0_1) ∧ w'.cell? ⟨gb101, 2, none⟩ = some (.int .i64 a0_2) ∧ w'.cell? ⟨gb101, 3, none⟩ = some (.slice A0_3 l0_3.length c0_3)) (ds := []) #[false, false, false, false, false] (by kernel_rfl) rfl rfl ⟨(blk_cell BK130.out 0).trans rfl, (blk_cell BK130.out 1).trans rfl, (blk_cell BK130.out 2).trans rfl, (blk_cell BK130.out 3).trans rfl, (blk_cell BK101.out 0).trans rfl, (blk_cell BK101.out 1).trans rfl, (blk_cell BK101.out 2).trans rfl, (blk_cell BK101.out 3).trans rfl⟩ (fun hHeld => ?_)
   generalize wc.drew = w91 at HO_11 HO_12 HO_124003 HO_131003 HO_145003 BK101 BK123 BK130 BK144 HB hHeld ⊢
   refine take_ (i := 0) (N := some 65) (v := ?_) (a' := ?_) #[true, false, false, false, false] rfl rfl (by kernel_rfl) (fun _ _ _ h => h) (Or.inl ⟨by rfl, ?_⟩) hHeld ?_ ?_
   rotate_left
   ·
    rintro w' ⟨s0, s1, s2, s3, s4, s5, s6, s7⟩
    go_simp
    with_reducible rfl
   rotate_left
   ·
    simp only [Act.put, List.setIfInBounds_toArray, List.set_cons_zero, List.set_cons_succ, i64_w, i32_w]
    rfl
   refine take_ (i := 1) (N := some 66) (v := ?_) (a' := ?_) #[true, true, false, false, false] rfl rfl (by kernel_rfl) (fun _ _ _ h => h) (Or.inl ⟨by rfl, ?_⟩) hHeld ?_ ?_
   rotate_left
   ·
    rintro w' ⟨s0, s1, s2, s3, s4, s5, s6, s7⟩
    go_simp
    with_reducible rfl
   rotate_left
   ·
    simp only [Act.put, List.setIfInBounds_toArray, List.set_cons_zero, List.set_cons_succ, i64_w, i32_w]
    rfl
   refine one_ (i := 2) (N := some 67) #[true, true, true, false, false] rfl rfl (by kernel_rfl) (by decide) (fun K hK => ?_)
   refine goes_ Try.func20 (by kernel_rfl) rfl #[.agg #[.int .i64 a0_0, .int .i64 a0_1, .int .i64 a0_2, .slice A0_3 l0_3.length c0_3]] (by rfl) rfl rfl (by simp only [List.map_toArray, List.map_cons, List.map_nil]; rfl) ?_
   with_reducible refine (laws_toImage.calls kj23 a0_0 a0_1 a0_2 _ _ l0_3 t146 t147 t148 t149 _ ?side1 ?side2 A78.out).mono ?_
   (case side1 => repeat (first | exact (Kd.C_below HR0_3.out HB.out) | (with_reducible refine Kd.C_alloc ?_ _) | (with_reducible refine Kd.C_drewN ?_ _) | (with_reducible refine Kd.C_drew ?_)))
   (case side2 => exact HC0_3.out)
   rintro e w92 ⟨v150, rfl, ho0, hb⟩
   refine ⟨_, rfl, ?_⟩
   replace HO_11 := am_ (Kd.R_below (by exact HO_11.out) hb)
   have HO151 := am_ (Kd.R_lower (Kd.R_new' (Kd.R_new' (Kd.R_new' (Kd.R_new' ho0 (Kd.R_lt (by exact HO_12.out))) (Kd.R_lt (by exact HO_124003.out))) (Kd.R_lt (by exact HO_131003.out))) (Kd.R_lt (by exact HO_145003.out))) (below_size (by repeat (first | (with_reducible first | exact HB.out | apply below_alloc | apply pw_below_drewN | apply below_drew1 | refine below_set ?_ GE101.out | refine below_set ?_ GE123.out | refine below_set ?_ GE130.out | refine below_set ?_ GE144.out) | exact HB.out))))
   replace HO_12 := am_ (Kd.R_elder' (by exact HO_12.out) (Kd.R_base ho0) hb)
   replace HO_124003 := am_ (Kd.R_elder' (by exact HO_124003.out) (Kd.R_base ho0) hb)
   replace HO_131003 := am_ (Kd.R_elder' (by exact HO_131003.out) (Kd.R_base ho0) hb)
   replace HO_145003 := am_ (Kd.R_elder' (by exact HO_145003.out) (Kd.R_base ho0) hb)
   replace BK101 := am_ (blk_below (by exact BK101.out) hb)
   replace BK123 := am_ (blk_below (by exact BK123.out) hb)
   replace BK130 := am_ (blk_below (by exact BK130.out) hb)
   replace BK144 := am_ (blk_below (by exact BK144.out) hb)
   replace HB := am_ (below_step (by repeat (first | (with_reducible first | exact HB.out | apply below_alloc | apply pw_below_drewN | apply below_drew1 | refine below_set ?_ GE101.out | refine below_set ?_ GE123.out | refine below_set ?_ GE130.out | refine below_set ?_ GE144.out) | exact HB.out)) hb)
   (try clear hb)
   (try clear hb2)
   (try clear hk)
   (try clear hi)
   (try clear ho0)
   obtain ⟨Ao93, co93, eo93⟩ := Kd.R_slice HO151.out
   (first | subst eo93 | (injection eo93 with f1_ f2_ f3_; have f4_ := f1_.symm; have f5_ := f3_.symm; clear f1_ f2_ f3_; subst f4_; subst f5_))
   refine hK.out _ _ ⟨(blk_cell BK130.out 0).trans rfl, (blk_cell BK130.out 1).trans rfl, (blk_cell BK130.out 2).trans rfl, (blk_cell BK130.out 3).trans rfl, (blk_cell BK101.out 0).trans rfl, (blk_cell BK101.out 1).trans rfl, (blk_cell BK101.out 2).trans rfl, (blk_cell BK101.out 3).trans rfl⟩ (fun hHeld => ?_)
   clear hK K
   refine norm_ (a' := ?_) ?_ ?_
   rotate_left
   ·
    show Act.put _ (some 67) _ = _
    simp only [Act.put, List.setIfInBounds_toArray, List.set_cons_zero, List.set_cons_succ, i64_w, i32_w]
    rfl
   refine one_ (i := 3) (N := some 68) #[true, true, true, true, false] rfl rfl (by kernel_rfl) (by decide) (fun K hK => ?_)
   refine goes_ Try.func22 (by kernel_rfl) rfl #[.agg #[.int .i64 t124, .int .i64 t125, .int .i64 t126, .slice Ao46 t127.length co46], .agg #[.int .i64 t146, .int .i64 t147, .int .i64 t148, .slice Ao93 t149.length co93]] (by rfl) rfl rfl (by simp only [List.map_toArray, List.map_cons, List.map_nil]; rfl) ?_
   with_reducible refine (laws_eqImage.calls kj23 t124 t125 t126 _ _ t127 t146 t147 t148 _ _ t149 true _ ?side1 ?side2 ?side3 ?side4 A79.out).mono ?_
   (case side1 => repeat (first | exact (Kd.R_reads' HO_131003.out).2.2 | (with_reducible refine Kd.C_alloc ?_ _) | (with_reducible refine Kd.C_drewN ?_ _) | (with_reducible refine Kd.C_drew ?_)))
   (case side2 => exact (Kd.R_reads' HO_131003.out).2.1)
   (case side3 => repeat (first | exact (Kd.R_reads' HO151.out).2.2 | (with_reducible refine Kd.C_alloc ?_ _) | (with_reducible refine Kd.C_drewN ?_ _) | (with_reducible refine Kd.C_drew ?_)))
   (case side4 => exact (Kd.R_reads' HO151.out).2.1)
   rintro e w94 ⟨rfl, hb⟩
   refine ⟨_, rfl, ?_⟩
   replace HO_11 := am_ (Kd.R_below (by exact HO_11.out) hb)
   replace HO_12 := am_ (Kd.R_below (by exact HO_12.out) hb)
   replace HO_124003 := am_ (Kd.R_below (by exact HO_124003.out) hb)
   replace HO_131003 := am_ (Kd.R_below (by exact HO_131003.out) hb)
   replace HO_145003 := am_ (Kd.R_below (by exact HO_145003.out) hb)
   replace HO151 := am_ (Kd.R_below (by exact HO151.out) hb)
   replace BK101 := am_ (blk_below (by exact BK101.out) hb)
   replace BK123 := am_ (blk_below (by exact BK123.out) hb)
   replace BK130 := am_ (blk_below (by exact BK130.out) hb)
   replace BK144 := am_ (blk_below (by exact BK144.out) hb)
   replace HB := am_ (below_step (by repeat (first | (with_reducible first | exact HB.out | apply below_alloc | apply pw_below_drewN | apply below_drew1 | refine below_set ?_ GE101.out | refine below_set ?_ GE123.out | refine below_set ?_ GE130.out | refine below_set ?_ GE144.out) | exact HB.out)) hb)
   (try clear hb)
   (try clear hb2)
   (try clear hk)
   (try clear hi)
   refine hK.out _ _ ⟨(blk_cell BK130.out 0).trans rfl, (blk_cell BK130.out 1).trans rfl, (blk_cell BK130.out 2).trans rfl, (blk_cell BK130.out 3).trans rfl, (blk_cell BK101.out 0).trans rfl, (blk_cell BK101.out 1).trans rfl, (blk_cell BK101.out 2).trans rfl, (blk_cell BK101.out 3).trans rfl⟩ (fun hHeld => ?_)
   clear hK K
   refine norm_ (a' := ?_) ?_ ?_
   rotate_left
   ·
    show Act.put _ (some 68) _ = _
    simp only [Act.put, List.setIfInBounds_toArray, List.set_cons_zero, List.set_cons_succ, i64_w, i32_w]
    rfl
   refine pure_ (i := 4) (N := some 69) (v := ?_) (a' := ?_) #[true, true, true, true, true] rfl rfl (by kernel_rfl) (fun _ _ _ h => h) (Or.inl ⟨by rfl, ?_⟩) ?_ ?_
   rotate_left
   ·
    intro w'
    go_simp
    with_reducible rfl
   rotate_left
   ·
    simp only [Act.put, List.setIfInBounds_toArray, List.set_cons_zero, List.set_cons_succ, i64_w, i32_w]
    rfl
   refine done_ (by kernel_rfl) ?_
   go_upto_region 27 with (first | ((with_reducible refine gate_callee (f := 21) rfl ?_); refine goesL_ (some 72) rfl rfl Try.func21 (by kernel_rfl) rfl #[.slice A1 l1.length c1] rfl (by simp only [List.map_toArray, List.map_cons, List.map_nil]; rfl) ?_; (with_reducible refine (laws_toRunS.calls kj23 _ _ l1 t153 _ ?side1 ?side2 A81.out).mono ?_); (case side1 => repeat (first | exact (Kd.C_below HR1.out HB.out) | (with_reducible refine Kd.C_alloc ?_ _) | (with_reducible refine Kd.C_drewN ?_ _) | (with_reducible refine Kd.C_drew ?_))); (case side2 => exact HC1.out); rintro e w95 ⟨v154, rfl, ho0, hb⟩; refine ⟨_, rfl, ?_⟩; replace HO_12 := am_ (Kd.R_below (by exact HO_12.out) hb); replace HO_124003 := am_ (Kd.R_below (by exact HO_124003.out) hb); replace HO_131003 := am_ (Kd.R_below (by exact HO_131003.out) hb); replace HO_145003 := am_ (Kd.R_below (by exact HO_145003.out) hb); replace HO151 := am_ (Kd.R_below (by exact HO151.out) hb); have HO155 := am_ (Kd.R_lower (Kd.R_new' ho0 (Kd.R_lt (by exact HO_11.out))) (below_size (by repeat (first | (with_reducible first | exact HB.out | apply below_alloc | apply pw_below_drewN | apply below_drew1 | refine below_set ?_ GE101.out | refine below_set ?_ GE123.out | refine below_set ?_ GE130.out | refine below_set ?_ GE144.out) | exact HB.out)))); replace HO_11 := am_ (Kd.R_elder' (by exact HO_11.out) (Kd.R_base ho0) hb); replace BK101 := am_ (blk_below (by exact BK101.out) hb); replace BK123 := am_ (blk_below (by exact BK123.out) hb); replace BK130 := am_ (blk_below (by exact BK130.out) hb); replace BK144 := am_ (blk_below (by exact BK144.out) hb); replace HB := am_ (below_step (by repeat (first | (with_reducible first | exact HB.out | apply below_alloc | apply pw_below_drewN | apply below_drew1 | refine below_set ?_ GE101.out | refine below_set ?_ GE123.out | refine below_set ?_ GE130.out | refine below_set ?_ GE144.out) | exact HB.out)) hb); (try clear hb); (try clear hb2); (try clear hk); (try clear hi); (try clear ho0); obtain ⟨Ao96, co96, eo96⟩ := Kd.R_slice HO155.out; subst eo96) | ((with_reducible refine gate_callee (f := 23) rfl ?_); refine goesL_ (some 73) rfl rfl Try.func23 (by kernel_rfl) rfl #[.slice Ao50 t131.length co50, .slice Ao96 t153.length co96] rfl (by simp only [List.map_toArray, List.map_cons, List.map_nil]; rfl) ?_; (with_reducible refine (laws_eqRunS.calls kj23 _ _ t131 _ _ t153 true _ ?side1 ?side2 ?side3 ?side4 A82.out).mono ?_); (case side1 => repeat (first | exact (Kd.R_reads' HO_11.out).2.2 | (with_reducible refine Kd.C_alloc ?_ _) | (with_reducible refine Kd.C_drewN ?_ _) | (with_reducible refine Kd.C_drew ?_))); (case side2 => exact (Kd.R_reads' HO_11.out).2.1); (case side3 => repeat (first | exact (Kd.R_reads' HO155.out).2.2 | (with_reducible refine Kd.C_alloc ?_ _) | (with_reducible refine Kd.C_drewN ?_ _) | (with_reducible refine Kd.C_drew ?_))); (case side4 => exact (Kd.R_reads' HO155.out).2.1); rintro e w97 ⟨rfl, hb⟩; refine ⟨_, rfl, ?_⟩; replace HO_11 := am_ (Kd.R_below (by exact HO_11.out) hb); replace HO_12 := am_ (Kd.R_below (by exact HO_12.out) hb); replace HO_124003 := am_ (Kd.R_below (by exact HO_124003.out) hb); replace HO_131003 := am_ (Kd.R_below (by exact HO_131003.out) hb); replace HO_145003 := am_ (Kd.R_below (by exact HO_145003.out) hb); replace HO151 := am_ (Kd.R_below (by exact HO151.out) hb); replace HO155 := am_ (Kd.R_below (by exact HO155.out) hb); replace BK101 := am_ (blk_below (by exact BK101.out) hb); replace BK123 := am_ (blk_below (by exact BK123.out) hb); replace BK130 := am_ (blk_below (by exact BK130.out) hb); replace BK144 := am_ (blk_below (by exact BK144.out) hb); replace HB := am_ (below_step (by repeat (first | (with_reducible first | exact HB.out | apply below_alloc | apply pw_below_drewN | apply below_drew1 | refine below_set ?_ GE101.out | refine below_set ?_ GE123.out | refine below_set ?_ GE130.out | refine below_set ?_ GE144.out) | exact HB.out)) hb); (try clear hb); (try clear hb2); (try clear hk); (try clear hi)) | ((with_reducible refine gate_callee (f := 28) rfl ?_); refine goesL_ (some 77) rfl rfl Try.func28 (by kernel_rfl) rfl #[.slice A2 l2.length c2] rfl (by simp only [List.map_toArray, List.map_cons, List.map_nil]; rfl) ?_; (with_reducible refine (laws_toIntS.calls kj23 _ _ l2 t157 _ ?side1 ?side2 A84.out).mono ?_); (case side1 => repeat (first | exact (Kd.C_below HR2.out HB.out) | (with_reducible refine Kd.C_alloc ?_ _) | (with_reducible refine Kd.C_drewN ?_ _) | (with_reducible refine Kd.C_drew ?_))); (case side2 => exact HC2.out); rintro e w98 ⟨v158, rfl, ho0, hb⟩; refine ⟨_, rfl, ?_⟩; replace HO_11 := am_ (Kd.R_below (by exact HO_11.out) hb); replace HO155 := am_ (Kd.R_below (by exact HO155.out) hb); have HO159 := am_ (Kd.R_lower (Kd.R_new' (Kd.R_new' (Kd.R_new' (Kd.R_new' (Kd.R_new' ho0 (Kd.R_lt (by exact HO_12.out))) (Kd.R_lt (by exact HO_124003.out))) (Kd.R_lt (by exact HO_131003.out))) (Kd.R_lt (by exact HO_145003.out))) (Kd.R_lt (by exact HO151.out))) (below_size (by repeat (first | (with_reducible first | exact HB.out | apply below_alloc | apply pw_below_drewN | apply below_drew1 | refine below_set ?_ GE101.out | refine below_set ?_ GE123.out | refine below_set ?_ GE130.out | refine below_set ?_ GE144.out) | exact HB.out)))); replace HO_12 := am_ (Kd.R_elder' (by exact HO_12.out) (Kd.R_base ho0) hb); replace HO_124003 := am_ (Kd.R_elder' (by exact HO_124003.out) (Kd.R_base ho0) hb); replace HO_131003 := am_ (Kd.R_elder' (by exact HO_131003.out) (Kd.R_base ho0) hb); replace HO_145003 := am_ (Kd.R_elder' (by exact HO_145003.out) (Kd.R_base ho0) hb); replace HO151 := am_ (Kd.R_elder' (by exact HO151.out) (Kd.R_base ho0) hb); replace BK101 := am_ (blk_below (by exact BK101.out) hb); replace BK123 := am_ (blk_below (by exact BK123.out) hb); replace BK130 := am_ (blk_below (by exact BK130.out) hb); replace BK144 := am_ (blk_below (by exact BK144.out) hb); replace HB := am_ (below_step (by repeat (first | (with_reducible first | exact HB.out | apply below_alloc | apply pw_below_drewN | apply below_drew1 | refine below_set ?_ GE101.out | refine below_set ?_ GE123.out | refine below_set ?_ GE130.out | refine below_set ?_ GE144.out) | exact HB.out)) hb); (try clear hb); (try clear hb2); (try clear hk); (try clear hi); (try clear ho0); obtain ⟨Ao99, co99, eo99⟩ := Kd.R_slice HO159.out; subst eo99) | ((with_reducible refine gate_callee (f := 30) rfl ?_); refine goesL_ (some 78) rfl rfl Try.func30 (by kernel_rfl) rfl #[.slice Ao51 t134.length co51, .slice Ao99 t157.length co99] rfl (by simp only [List.map_toArray, List.map_cons, List.map_nil]; rfl) ?_; (with_reducible refine (laws_eqIntS.calls kj23 _ _ t134 _ _ t157 true _ ?side1 ?side2 ?side3 ?side4 A85.out).mono ?_); (case side1 => repeat (first | exact (Kd.R_reads' HO_12.out).2.2 | (with_reducible refine Kd.C_alloc ?_ _) | (with_reducible refine Kd.C_drewN ?_ _) | (with_reducible refine Kd.C_drew ?_))); (case side2 => exact (Kd.R_reads' HO_12.out).2.1); (case side3 => repeat (first | exact (Kd.R_reads' HO159.out).2.2 | (with_reducible refine Kd.C_alloc ?_ _) | (with_reducible refine Kd.C_drewN ?_ _) | (with_reducible refine Kd.C_drew ?_))); (case side4 => exact (Kd.R_reads' HO159.out).2.1); rintro e w' ⟨rfl, ⟨nd, rfl⟩⟩; refine ⟨_, rfl, ?_⟩; have hnb100 := NB130_101.out; have hnc100 := NB101_130.out; have hnb101 := NB130_123.out; have hnc101 := NB123_130.out; have hnb102 := NB130_144.out; have hnc102 := NB144_130.out; obtain ⟨hcz103_0, hcz103_1, hcz103_2, hcz103_3, hfz103_0, hfz103_1, hfz103_2, hfz103_3⟩ := blk4_ BK130.out) | ((with_reducible refine gate_callee (f := 24) rfl ?_); refine goesL_ (some 82) rfl rfl Try.func24 (by kernel_rfl) rfl #[.agg #[.int .i64 t124, .int .i64 t125, .int .i64 t126, .slice Ao46 t127.length co46], .int .i64 1] rfl (by simp only [List.map_toArray, List.map_cons, List.map_nil]; rfl) ?_; (with_reducible refine (laws_markImage.calls kj23 t124 t125 t126 (fun k_ => some k_ = (.slice Ao46 t127.length co46 : Value).ownBlock) (.slice Ao46 t127.length co46) t127 1 t161 t162 w _ ?side1 ?side2 A87.out).mono ?_); (case side1 => repeat (first | (with_reducible first | exact HB.out | apply below_alloc | apply pw_below_drewN | apply below_drew1 | refine below_set ?_ GE101.out | refine below_set ?_ GE123.out | refine below_set ?_ GE130.out | refine below_set ?_ GE144.out) | exact HB.out)); (case side2 => exact Kd.R_tight rfl HO_131003.out); rintro e w104 ⟨rfl, hy0, hb, hkp⟩; refine ⟨_, rfl, ?_⟩; replace HO_11 := am_ (Kd.R_mono (ok' := fun k_ => some k_ ≠ (.slice Ao96 t153.length co96 : Value).ownBlock) (Kd.R_keptB ((Kd.R_apart' HO_11.out (Kd.R_typed HO_131003.out) (by decide))) hkp (fun k_ hk_ hs_ => by simp only [hk_, ne_eq, not_false_eq_true] at hs_)) (fun k_ hk_ => hk_.1.1.2)); replace HO_12 := am_ (Kd.R_mono (ok' := fun k_ => some k_ ≠ (.slice Ao39 t119.length co39 : Value).ownBlock ∧ some k_ ≠ (.slice Ao46 t127.length co46 : Value).ownBlock ∧ some k_ ≠ (.slice Ao58 t140.length co58 : Value).ownBlock ∧ some k_ ≠ (.slice Ao93 t149.length co93 : Value).ownBlock ∧ some k_ ≠ (.slice Ao99 t157.length co99 : Value).ownBlock) (Kd.R_keptB (HO_12.out) hkp (fun k_ hk_ hs_ => by simp only [hk_, ne_eq, not_false_eq_true] at hs_)) (fun k_ hk_ => by simp only [hk_, ne_eq, not_false_eq_true, and_self])); replace HO_124003 := am_ (Kd.R_mono (ok' := fun k_ => some k_ ≠ (.slice Ao51 t134.length co51 : Value).ownBlock ∧ some k_ ≠ (.slice Ao46 t127.length co46 : Value).ownBlock ∧ some k_ ≠ (.slice Ao58 t140.length co58 : Value).ownBlock ∧ some k_ ≠ (.slice Ao93 t149.length co93 : Value).ownBlock ∧ some k_ ≠ (.slice Ao99 t157.length co99 : Value).ownBlock) (Kd.R_keptB (HO_124003.out) hkp (fun k_ hk_ hs_ => by simp only [hk_, ne_eq, not_false_eq_true] at hs_)) (fun k_ hk_ => by simp only [hk_, ne_eq, not_false_eq_true, and_self])); replace HO_145003 := am_ (Kd.R_mono (ok' := fun k_ => some k_ ≠ (.slice Ao51 t134.length co51 : Value).ownBlock ∧ some k_ ≠ (.slice Ao39 t119.length co39 : Value).ownBlock ∧ some k_ ≠ (.slice Ao46 t127.length co46 : Value).ownBlock ∧ some k_ ≠ (.slice Ao93 t149.length co93 : Value).ownBlock ∧ some k_ ≠ (.slice Ao99 t157.length co99 : Value).ownBlock) (Kd.R_keptB (HO_145003.out) hkp (fun k_ hk_ hs_ => by simp only [hk_, ne_eq, not_false_eq_true] at hs_)) (fun k_ hk_ => by simp only [hk_, ne_eq, not_false_eq_true, and_self])); replace BK101 := am_ (blk_kept (by exact BK101.out) hkp (fun hs_ => (fun e_ => (Kd.R_ne HO_131003.out BK101.out (by decide)) e_) hs_)); replace BK123 := am_ (blk_kept (by exact BK123.out) hkp (fun hs_ => (fun e_ => (Kd.R_ne HO_131003.out BK123.out (by decide)) e_) hs_)); replace BK130 := am_ (blk_kept (by exact BK130.out) hkp (fun hs_ => (fun e_ => (Kd.R_ne HO_131003.out BK130.out (by decide)) e_) hs_)); replace BK144 := am_ (blk_kept (by exact BK144.out) hkp (fun hs_ => (fun e_ => (Kd.R_ne HO_131003.out BK144.out (by decide)) e_) hs_)); replace HO151 := am_ (Kd.R_mono (ok' := fun k_ => some k_ ≠ (.slice Ao51 t134.length co51 : Value).ownBlock ∧ some k_ ≠ (.slice Ao39 t119.length co39 : Value).ownBlock ∧ some k_ ≠ (.slice Ao46 t127.length co46 : Value).ownBlock ∧ some k_ ≠ (.slice Ao58 t140.length co58 : Value).ownBlock ∧ some k_ ≠ (.slice Ao99 t157.length co99 : Value).ownBlock) (Kd.R_keptB (HO151.out) hkp (fun k_ hk_ hs_ => by simp only [hk_, ne_eq, not_false_eq_true] at hs_)) (fun k_ hk_ => by simp only [hk_, ne_eq, not_false_eq_true, and_self])); replace HO155 := am_ (Kd.R_mono (ok' := fun k_ => some k_ ≠ (.slice Ao50 t131.length co50 : Value).ownBlock) (Kd.R_keptB ((Kd.R_apart' HO155.out (Kd.R_typed HO_131003.out) (by decide))) hkp (fun k_ hk_ hs_ => by simp only [hk_, ne_eq, not_false_eq_true] at hs_)) (fun k_ hk_ => hk_.1.1.2)); replace HO_131003 := am_ (Kd.R_reok rfl hy0 (fun k_ e_ => HO_131003.out.1 k_ e_)); replace HO159 := am_ (Kd.R_mono (ok' := fun k_ => some k_ ≠ (.slice Ao51 t134.length co51 : Value).ownBlock ∧ some k_ ≠ (.slice Ao39 t119.length co39 : Value).ownBlock ∧ some k_ ≠ (.slice Ao46 t127.length co46 : Value).ownBlock ∧ some k_ ≠ (.slice Ao58 t140.length co58 : Value).ownBlock ∧ some k_ ≠ (.slice Ao93 t149.length co93 : Value).ownBlock) (Kd.R_keptB (HO159.out) hkp (fun k_ hk_ hs_ => by simp only [hk_, ne_eq, not_false_eq_true] at hs_)) (fun k_ hk_ => by simp only [hk_, ne_eq, not_false_eq_true, and_self])); replace HB := am_ (hb); (try clear hb); (try clear hkp); (try clear hy0)) | ((with_reducible refine gate_callee (f := 25) rfl ?_); refine goesL_ (some 85) rfl rfl Try.func25 (by kernel_rfl) rfl #[.slice Ao50 t131.length co50, .int .i64 t161] rfl (by simp only [List.map_toArray, List.map_cons, List.map_nil]; rfl) ?_; (with_reducible refine (laws_markRunS.calls kj23 (fun k_ => some k_ = (.slice Ao50 t131.length co50 : Value).ownBlock) (.slice Ao50 t131.length co50) t131 t161 t163 t164 w _ ?side1 ?side2 A88.out).mono ?_); (case side1 => repeat (first | (with_reducible first | exact HB.out | apply below_alloc | apply pw_below_drewN | apply below_drew1 | refine below_set ?_ GE101.out | refine below_set ?_ GE123.out | refine below_set ?_ GE130.out | refine below_set ?_ GE144.out) | exact HB.out)); (case side2 => exact Kd.R_tight rfl HO_11.out); rintro e w105 ⟨rfl, hy0, hb, hkp⟩; refine ⟨_, rfl, ?_⟩; replace HO_12 := am_ (Kd.R_mono (ok' := fun k_ => some k_ ≠ (.slice Ao39 t119.length co39 : Value).ownBlock ∧ some k_ ≠ (.slice Ao46 t127.length co46 : Value).ownBlock ∧ some k_ ≠ (.slice Ao58 t140.length co58 : Value).ownBlock ∧ some k_ ≠ (.slice Ao93 t149.length co93 : Value).ownBlock ∧ some k_ ≠ (.slice Ao99 t157.length co99 : Value).ownBlock) (Kd.R_keptB ((Kd.R_apart' HO_12.out (Kd.R_typed HO_11.out) (by decide))) hkp (fun k_ hk_ hs_ => by simp only [hk_, ne_eq, not_false_eq_true] at hs_)) (fun k_ hk_ => by simp only [hk_, ne_eq, not_false_eq_true, and_self])); replace HO_124003 := am_ (Kd.R_mono (ok' := fun k_ => some k_ ≠ (.slice Ao51 t134.length co51 : Value).ownBlock ∧ some k_ ≠ (.slice Ao46 t127.length co46 : Value).ownBlock ∧ some k_ ≠ (.slice Ao58 t140.length co58 : Value).ownBlock ∧ some k_ ≠ (.slice Ao93 t149.length co93 : Value).ownBlock ∧ some k_ ≠ (.slice Ao99 t157.length co99 : Value).ownBlock) (Kd.R_keptB ((Kd.R_apart' HO_124003.out (Kd.R_typed HO_11.out) (by decide))) hkp (fun k_ hk_ hs_ => by simp only [hk_, ne_eq, not_false_eq_true] at hs_)) (fun k_ hk_ => by simp only [hk_, ne_eq, not_false_eq_true, and_self])); replace HO_131003 := am_ (Kd.R_mono (ok' := fun k_ => some k_ ≠ (.slice Ao51 t134.length co51 : Value).ownBlock ∧ some k_ ≠ (.slice Ao39 t119.length co39 : Value).ownBlock ∧ some k_ ≠ (.slice Ao58 t140.length co58 : Value).ownBlock ∧ some k_ ≠ (.slice Ao93 t149.length co93 : Value).ownBlock ∧ some k_ ≠ (.slice Ao99 t157.length co99 : Value).ownBlock) (Kd.R_keptB ((Kd.R_apart' HO_131003.out (Kd.R_typed HO_11.out) (by decide))) hkp (fun k_ hk_ hs_ => by simp only [hk_, ne_eq, not_false_eq_true] at hs_)) (fun k_ hk_ => by simp only [hk_, ne_eq, not_false_eq_true, and_self])); replace HO_145003 := am_ (Kd.R_mono (ok' := fun k_ => some k_ ≠ (.slice Ao51 t134.length co51 : Value).ownBlock ∧ some k_ ≠ (.slice Ao39 t119.length co39 : Value).ownBlock ∧ some k_ ≠ (.slice Ao46 t127.length co46 : Value).ownBlock ∧ some k_ ≠ (.slice Ao93 t149.length co93 : Value).ownBlock ∧ some k_ ≠ (.slice Ao99 t157.length co99 : Value).ownBlock) (Kd.R_keptB ((Kd.R_apart' HO_145003.out (Kd.R_typed HO_11.out) (by decide))) hkp (fun k_ hk_ hs_ => by simp only [hk_, ne_eq, not_false_eq_true] at hs_)) (fun k_ hk_ => by simp only [hk_, ne_eq, not_false_eq_true, and_self])); replace BK101 := am_ (blk_kept (by exact BK101.out) hkp (fun hs_ => (fun e_ => (Kd.R_ne HO_11.out BK101.out (by decide)) e_) hs_)); replace BK123 := am_ (blk_kept (by exact BK123.out) hkp (fun hs_ => (fun e_ => (Kd.R_ne HO_11.out BK123.out (by decide)) e_) hs_)); replace BK130 := am_ (blk_kept (by exact BK130.out) hkp (fun hs_ => (fun e_ => (Kd.R_ne HO_11.out BK130.out (by decide)) e_) hs_)); replace BK144 := am_ (blk_kept (by exact BK144.out) hkp (fun hs_ => (fun e_ => (Kd.R_ne HO_11.out BK144.out (by decide)) e_) hs_)); replace HO151 := am_ (Kd.R_mono (ok' := fun k_ => some k_ ≠ (.slice Ao51 t134.length co51 : Value).ownBlock ∧ some k_ ≠ (.slice Ao39 t119.length co39 : Value).ownBlock ∧ some k_ ≠ (.slice Ao46 t127.length co46 : Value).ownBlock ∧ some k_ ≠ (.slice Ao58 t140.length co58 : Value).ownBlock ∧ some k_ ≠ (.slice Ao99 t157.length co99 : Value).ownBlock) (Kd.R_keptB ((Kd.R_apart' HO151.out (Kd.R_typed HO_11.out) (by decide))) hkp (fun k_ hk_ hs_ => by simp only [hk_, ne_eq, not_false_eq_true] at hs_)) (fun k_ hk_ => by simp only [hk_, ne_eq, not_false_eq_true, and_self])); replace HO155 := am_ (Kd.R_mono (ok' := fun k_ => some k_ ≠ (.slice Ao50 t131.length co50 : Value).ownBlock) (Kd.R_keptB (HO155.out) hkp (fun k_ hk_ hs_ => by simp only [hk_, ne_eq, not_false_eq_true] at hs_)) (fun k_ hk_ => hk_.1)); replace HO159 := am_ (Kd.R_mono (ok' := fun k_ => some k_ ≠ (.slice Ao51 t134.length co51 : Value).ownBlock ∧ some k_ ≠ (.slice Ao39 t119.length co39 : Value).ownBlock ∧ some k_ ≠ (.slice Ao46 t127.length co46 : Value).ownBlock ∧ some k_ ≠ (.slice Ao58 t140.length co58 : Value).ownBlock ∧ some k_ ≠ (.slice Ao93 t149.length co93 : Value).ownBlock) (Kd.R_keptB ((Kd.R_apart' HO159.out (Kd.R_typed HO_11.out) (by decide))) hkp (fun k_ hk_ hs_ => by simp only [hk_, ne_eq, not_false_eq_true] at hs_)) (fun k_ hk_ => by simp only [hk_, ne_eq, not_false_eq_true, and_self])); replace HO_11 := am_ (Kd.R_reok rfl hy0 (fun k_ e_ => HO_11.out.1 k_ e_)); replace HB := am_ (hb); (try clear hb); (try clear hkp); (try clear hy0)) | ((with_reducible refine gate_callee (f := 31) rfl ?_); refine goesL_ (some 88) rfl rfl Try.func31 (by kernel_rfl) rfl #[.slice Ao51 t134.length co51, .int .i64 t163] rfl (by simp only [List.map_toArray, List.map_cons, List.map_nil]; rfl) ?_; (with_reducible refine (laws_markIntS.calls kj23 (fun k_ => some k_ = (.slice Ao51 t134.length co51 : Value).ownBlock) (.slice Ao51 t134.length co51) t134 t163 t165 t166 w _ ?side1 ?side2 A89.out).mono ?_); (case side1 => repeat (first | (with_reducible first | exact HB.out | apply below_alloc | apply pw_below_drewN | apply below_drew1 | refine below_set ?_ GE101.out | refine below_set ?_ GE123.out | refine below_set ?_ GE130.out | refine below_set ?_ GE144.out) | exact HB.out)); (case side2 => exact Kd.R_tight rfl HO_12.out); rintro e w106 ⟨rfl, hy0, hb, hkp⟩; refine ⟨_, rfl, ?_⟩; replace HO_11 := am_ (Kd.R_mono (ok' := fun k_ => some k_ ≠ (.slice Ao96 t153.length co96 : Value).ownBlock) (Kd.R_keptB ((Kd.R_apart' HO_11.out (Kd.R_typed HO_12.out) (by decide))) hkp (fun k_ hk_ hs_ => by simp only [hk_, ne_eq, not_false_eq_true] at hs_)) (fun k_ hk_ => hk_.1.1)); replace HO_124003 := am_ (Kd.R_mono (ok' := fun k_ => some k_ ≠ (.slice Ao51 t134.length co51 : Value).ownBlock ∧ some k_ ≠ (.slice Ao46 t127.length co46 : Value).ownBlock ∧ some k_ ≠ (.slice Ao58 t140.length co58 : Value).ownBlock ∧ some k_ ≠ (.slice Ao93 t149.length co93 : Value).ownBlock ∧ some k_ ≠ (.slice Ao99 t157.length co99 : Value).ownBlock) (Kd.R_keptB (HO_124003.out) hkp (fun k_ hk_ hs_ => by simp only [hk_, ne_eq, not_false_eq_true] at hs_)) (fun k_ hk_ => by simp only [hk_, ne_eq, not_false_eq_true, and_self])); replace HO_131003 := am_ (Kd.R_mono (ok' := fun k_ => some k_ ≠ (.slice Ao51 t134.length co51 : Value).ownBlock ∧ some k_ ≠ (.slice Ao39 t119.length co39 : Value).ownBlock ∧ some k_ ≠ (.slice Ao58 t140.length co58 : Value).ownBlock ∧ some k_ ≠ (.slice Ao93 t149.length co93 : Value).ownBlock ∧ some k_ ≠ (.slice Ao99 t157.length co99 : Value).ownBlock) (Kd.R_keptB (HO_131003.out) hkp (fun k_ hk_ hs_ => by simp only [hk_, ne_eq, not_false_eq_true] at hs_)) (fun k_ hk_ => by simp only [hk_, ne_eq, not_false_eq_true, and_self])); replace HO_145003 := am_ (Kd.R_mono (ok' := fun k_ => some k_ ≠ (.slice Ao51 t134.length co51 : Value).ownBlock ∧ some k_ ≠ (.slice Ao39 t119.length co39 : Value).ownBlock ∧ some k_ ≠ (.slice Ao46 t127.length co46 : Value).ownBlock ∧ some k_ ≠ (.slice Ao93 t149.length co93 : Value).ownBlock ∧ some k_ ≠ (.slice Ao99 t157.length co99 : Value).ownBlock) (Kd.R_keptB (HO_145003.out) hkp (fun k_ hk_ hs_ => by simp only [hk_, ne_eq, not_false_eq_true] at hs_)) (fun k_ hk_ => by simp only [hk_, ne_eq, not_false_eq_true, and_self])); replace BK101 := am_ (blk_kept (by exact BK101.out) hkp (fun hs_ => (fun e_ => (Kd.R_ne HO_12.out BK101.out (by decide)) e_) hs_)); replace BK123 := am_ (blk_kept (by exact BK123.out) hkp (fun hs_ => (fun e_ => (Kd.R_ne HO_12.out BK123.out (by decide)) e_) hs_)); replace BK130 := am_ (blk_kept (by exact BK130.out) hkp (fun hs_ => (fun e_ => (Kd.R_ne HO_12.out BK130.out (by decide)) e_) hs_)); replace BK144 := am_ (blk_kept (by exact BK144.out) hkp (fun hs_ => (fun e_ => (Kd.R_ne HO_12.out BK144.out (by decide)) e_) hs_)); replace HO151 := am_ (Kd.R_mono (ok' := fun k_ => some k_ ≠ (.slice Ao51 t134.length co51 : Value).ownBlock ∧ some k_ ≠ (.slice Ao39 t119.length co39 : Value).ownBlock ∧ some k_ ≠ (.slice Ao46 t127.length co46 : Value).ownBlock ∧ some k_ ≠ (.slice Ao58 t140.length co58 : Value).ownBlock ∧ some k_ ≠ (.slice Ao99 t157.length co99 : Value).ownBlock) (Kd.R_keptB (HO151.out) hkp (fun k_ hk_ hs_ => by simp only [hk_, ne_eq, not_false_eq_true] at hs_)) (fun k_ hk_ => by simp only [hk_, ne_eq, not_false_eq_true, and_self])); replace HO155 := am_ (Kd.R_mono (ok' := fun k_ => some k_ ≠ (.slice Ao50 t131.length co50 : Value).ownBlock) (Kd.R_keptB ((Kd.R_apart' HO155.out (Kd.R_typed HO_12.out) (by decide))) hkp (fun k_ hk_ hs_ => by simp only [hk_, ne_eq, not_false_eq_true] at hs_)) (fun k_ hk_ => hk_.1.1)); replace HO_12 := am_ (Kd.R_reok rfl hy0 (fun k_ e_ => HO_12.out.1 k_ e_)); replace HO159 := am_ (Kd.R_mono (ok' := fun k_ => some k_ ≠ (.slice Ao51 t134.length co51 : Value).ownBlock ∧ some k_ ≠ (.slice Ao39 t119.length co39 : Value).ownBlock ∧ some k_ ≠ (.slice Ao46 t127.length co46 : Value).ownBlock ∧ some k_ ≠ (.slice Ao58 t140.length co58 : Value).ownBlock ∧ some k_ ≠ (.slice Ao93 t149.length co93 : Value).ownBlock) (Kd.R_keptB (HO159.out) hkp (fun k_ hk_ hs_ => by simp only [hk_, ne_eq, not_false_eq_true] at hs_)) (fun k_ hk_ => by simp only [hk_, ne_eq, not_false_eq_true, and_self])); replace HB := am_ (hb); (try clear hb); (try clear hkp); (try clear hy0)))
   (try simp only [Act.put, List.setIfInBounds_toArray, List.set_cons_zero, List.set_cons_succ])
   go_cut [101] (fun v101 wc => ∃ (kq : Nat) (x101_89 : Bool), v101 = .bool x101_89 ∧ Aside0 (laws_FnExactFillRegion.j1 kq l1 l2 t122 x101_89 a0_0 a0_1 a0_2 l0_3 t116 t117 t118 t119 t137 t138 t139 t140 = some r) ∧ Aside0 (kq ≤ kj23) ∧ Aside0 (Kd.R (Kd.int .i64) 3 wc w.heap.size (fun k_ => some k_ ≠ ((.slice Ao46 t127.length co46) : Value).ownBlock ∧ some k_ ≠ ((.slice Ao58 t140.length co58) : Value).ownBlock) (.slice Ao39 t119.length co39) t119) ∧ Aside0 (Kd.R (Kd.int .i64) 3 wc w.heap.size (fun k_ => some k_ ≠ ((.slice Ao39 t119.length co39) : Value).ownBlock ∧ some k_ ≠ ((.slice Ao58 t140.length co58) : Value).ownBlock) (.slice Ao46 t127.length co46) t162) ∧ Aside0 (Kd.R (Kd.int .i64) 3 wc w.heap.size (fun k_ => some k_ ≠ ((.slice Ao39 t119.length co39) : Value).ownBlock ∧ some k_ ≠ ((.slice Ao46 t127.length co46) : Value).ownBlock) (.slice Ao58 t140.length co58) t140) ∧ Aside0 (wc.heap[gb101]? = some (.cells #[.int .i64 a0_0, .int .i64 a0_1, .int .i64 a0_2, (.slice A0_3 l0_3.length c0_3)] 38 (0, 0))) ∧ Aside0 (wc.heap[gb123]? = some (.cells #[.int .i64 t116, .int .i64 t117, .int .i64 t118, (.slice Ao39 t119.length co39)] 25 (0, 0))) ∧ Aside0 (wc.heap[gb130]? = some (.cells #[.int .i64 t124, .int .i64 t125, .int .i64 t126, (.slice Ao46 t127.length co46)] 25 (0, 0))) ∧ Aside0 (wc.heap[gb144]? = some (.cells #[.int .i64 t137, .int .i64 t138, .int .i64 t139, (.slice Ao58 t140.length co58)] 25 (0, 0))) ∧ Aside0 (Below w.heap.size w wc))
   case first =>
    have H := HC90.out
    clear HC90
    by_cases c107 : t165 < 0
    ·
     rw [if_pos c107] at H
     have c107b0 : decide (t165 < 0) = true := decide_eq_true c107
     clear c107
     (first | rw [c107b0] | (simp only [i64_w, i32_w]; rw [c107b0]) | skip)
     have H' := Aside0.mk H
     clear H
     go_wp2
     go_meet
     case rel => exact ⟨_, (true), (by first | rfl | (simp; done) | (simp [*]; done)), H', ⟨by have := HJ23.out; first | omega | exact Nat.le_refl _⟩, ⟨by exact Kd.R_mono HO_124003.out (fun _ hk => by first | exact ⟨hk.2.1, hk.2.2.1⟩ | simp only [hk, ne_eq, not_false_eq_true, and_self])⟩, ⟨by exact Kd.R_mono HO_131003.out (fun _ hk => by first | exact ⟨hk.2.1, hk.2.2.1⟩ | simp only [hk, ne_eq, not_false_eq_true, and_self])⟩, ⟨by exact Kd.R_mono HO_145003.out (fun _ hk => by first | exact ⟨hk.2.1, hk.2.2.1⟩ | simp only [hk, ne_eq, not_false_eq_true, and_self])⟩, ⟨by exact BK101.out⟩, ⟨by exact BK123.out⟩, ⟨by exact BK130.out⟩, ⟨by exact BK144.out⟩, ⟨by repeat (first | (with_reducible first | exact HB.out | apply below_alloc | apply pw_below_drewN | apply below_drew1 | refine below_set ?_ GE101.out | refine below_set ?_ GE123.out | refine below_set ?_ GE130.out | refine below_set ?_ GE144.out) | exact HB.out)⟩⟩
    rw [if_neg c107] at H
    have c107b0 : decide (t165 < 0) = false := decide_eq_false c107
    clear c107
    (first | rw [c107b0] | (simp only [i64_w, i32_w]; rw [c107b0]) | skip)
    replace H := Option.bind_eq_some_iff.mp H
    obtain ⟨t167, A1080, H⟩ := H
    replace H : (if t167 = true then (laws_FnExactFillRegion.j1 kj23 l1 l2 t122 (t143 != t122) a0_0 a0_1 a0_2 l0_3 t116 t117 t118 t119 t137 t138 t139 t140) else (laws_FnExactFillRegion.j1 kj23 l1 l2 t122 true a0_0 a0_1 a0_2 l0_3 t116 t117 t118 t119 t137 t138 t139 t140)) = some r := H
    have A108 := Aside0.mk A1080
    clear A1080
    by_cases c109 : t167 = true
    ·
     subst c109
     have H1 : (laws_FnExactFillRegion.j1 kj23 l1 l2 t122 (t143 != t122) a0_0 a0_1 a0_2 l0_3 t116 t117 t118 t119 t137 t138 t139 t140) = some r := by rw [if_pos rfl] at H; exact H
     clear H
     have H := H1
     clear H1
     have H' := Aside0.mk H
     clear H
     have hnb110 := NB144_101.out
     have hnc110 := NB101_144.out
     have hnb111 := NB144_123.out
     have hnc111 := NB123_144.out
     have hnb112 := NB144_130.out
     have hnc112 := NB130_144.out
     obtain ⟨hcz113_0, hcz113_1, hcz113_2, hcz113_3, hfz113_0, hfz113_1, hfz113_2, hfz113_3⟩ := blk4_ BK144.out
     have hnb114 := NB123_101.out
     have hnc114 := NB101_123.out
     have hnb115 := NB123_130.out
     have hnc115 := NB130_123.out
     obtain ⟨hcz116_0, hcz116_1, hcz116_2, hcz116_3, hfz116_0, hfz116_1, hfz116_2, hfz116_3⟩ := blk4_ BK123.out
     go_wp2_with (first | (go_at_call 22; (with_reducible refine (laws_eqImage.calls kj23 t137 t138 t139 _ _ t140 t116 t117 t118 _ _ t119 true _ ?side1 ?side2 ?side3 ?side4 A108.out).mono ?_); (case side1 => repeat (first | exact (Kd.R_reads' HO_145003.out).2.2 | (with_reducible refine Kd.C_alloc ?_ _) | (with_reducible refine Kd.C_drewN ?_ _) | (with_reducible refine Kd.C_drew ?_))); (case side2 => exact (Kd.R_reads' HO_145003.out).2.1); (case side3 => repeat (first | exact (Kd.R_reads' HO_124003.out).2.2 | (with_reducible refine Kd.C_alloc ?_ _) | (with_reducible refine Kd.C_drewN ?_ _) | (with_reducible refine Kd.C_drew ?_))); (case side4 => exact (Kd.R_reads' HO_124003.out).2.1); rintro e w117 ⟨rfl, hb⟩; replace HO_11 := am_ (Kd.R_below (by exact HO_11.out) hb); replace HO_12 := am_ (Kd.R_below (by exact HO_12.out) hb); replace HO_124003 := am_ (Kd.R_below (by exact HO_124003.out) hb); replace HO_131003 := am_ (Kd.R_below (by exact HO_131003.out) hb); replace HO_145003 := am_ (Kd.R_below (by exact HO_145003.out) hb); replace HO151 := am_ (Kd.R_below (by exact HO151.out) hb); replace HO155 := am_ (Kd.R_below (by exact HO155.out) hb); replace HO159 := am_ (Kd.R_below (by exact HO159.out) hb); replace BK101 := am_ (blk_below (by exact BK101.out) hb); replace BK123 := am_ (blk_below (by exact BK123.out) hb); replace BK130 := am_ (blk_below (by exact BK130.out) hb); replace BK144 := am_ (blk_below (by exact BK144.out) hb); replace HB := am_ (below_step (by repeat (first | (with_reducible first | exact HB.out | apply below_alloc | apply pw_below_drewN | apply below_drew1 | refine below_set ?_ GE101.out | refine below_set ?_ GE123.out | refine below_set ?_ GE130.out | refine below_set ?_ GE144.out) | exact HB.out)) hb); (try clear hb); (try clear hb2); (try clear hk); (try clear hi)))
     go_meet
     case rel => exact ⟨_, ((t143 != t122)), (by first | rfl | (simp; done) | (simp [*]; done)), H', ⟨by have := HJ23.out; first | omega | exact Nat.le_refl _⟩, ⟨by exact Kd.R_mono HO_124003.out (fun _ hk => by first | exact ⟨hk.2.1, hk.2.2.1⟩ | simp only [hk, ne_eq, not_false_eq_true, and_self])⟩, ⟨by exact Kd.R_mono HO_131003.out (fun _ hk => by first | exact ⟨hk.2.1, hk.2.2.1⟩ | simp only [hk, ne_eq, not_false_eq_true, and_self])⟩, ⟨by exact Kd.R_mono HO_145003.out (fun _ hk => by first | exact ⟨hk.2.1, hk.2.2.1⟩ | simp only [hk, ne_eq, not_false_eq_true, and_self])⟩, ⟨by exact BK101.out⟩, ⟨by exact BK123.out⟩, ⟨by exact BK130.out⟩, ⟨by exact BK144.out⟩, ⟨by repeat (first | (with_reducible first | exact HB.out | apply below_alloc | apply pw_below_drewN | apply below_drew1 | refine below_set ?_ GE101.out | refine below_set ?_ GE123.out | refine below_set ?_ GE130.out | refine below_set ?_ GE144.out) | exact HB.out)⟩⟩
    replace c109 := Bool.eq_false_iff.mpr c109
    subst c109
    have H1 : (laws_FnExactFillRegion.j1 kj23 l1 l2 t122 true a0_0 a0_1 a0_2 l0_3 t116 t117 t118 t119 t137 t138 t139 t140) = some r := by rw [if_neg (show ¬ (false = true) by decide)] at H; exact H
    clear H
    have H := H1
    clear H1
    have H' := Aside0.mk H
    clear H
    have hnb118 := NB144_101.out
    have hnc118 := NB101_144.out
    have hnb119 := NB144_123.out
    have hnc119 := NB123_144.out
    have hnb120 := NB144_130.out
    have hnc120 := NB130_144.out
    obtain ⟨hcz121_0, hcz121_1, hcz121_2, hcz121_3, hfz121_0, hfz121_1, hfz121_2, hfz121_3⟩ := blk4_ BK144.out
    have hnb122 := NB123_101.out
    have hnc122 := NB101_123.out
    have hnb123 := NB123_130.out
    have hnc123 := NB130_123.out
    obtain ⟨hcz124_0, hcz124_1, hcz124_2, hcz124_3, hfz124_0, hfz124_1, hfz124_2, hfz124_3⟩ := blk4_ BK123.out
    go_wp2_with (first | (go_at_call 22; (with_reducible refine (laws_eqImage.calls kj23 t137 t138 t139 _ _ t140 t116 t117 t118 _ _ t119 false _ ?side1 ?side2 ?side3 ?side4 A108.out).mono ?_); (case side1 => repeat (first | exact (Kd.R_reads' HO_145003.out).2.2 | (with_reducible refine Kd.C_alloc ?_ _) | (with_reducible refine Kd.C_drewN ?_ _) | (with_reducible refine Kd.C_drew ?_))); (case side2 => exact (Kd.R_reads' HO_145003.out).2.1); (case side3 => repeat (first | exact (Kd.R_reads' HO_124003.out).2.2 | (with_reducible refine Kd.C_alloc ?_ _) | (with_reducible refine Kd.C_drewN ?_ _) | (with_reducible refine Kd.C_drew ?_))); (case side4 => exact (Kd.R_reads' HO_124003.out).2.1); rintro e w125 ⟨rfl, hb⟩; replace HO_11 := am_ (Kd.R_below (by exact HO_11.out) hb); replace HO_12 := am_ (Kd.R_below (by exact HO_12.out) hb); replace HO_124003 := am_ (Kd.R_below (by exact HO_124003.out) hb); replace HO_131003 := am_ (Kd.R_below (by exact HO_131003.out) hb); replace HO_145003 := am_ (Kd.R_below (by exact HO_145003.out) hb); replace HO151 := am_ (Kd.R_below (by exact HO151.out) hb); replace HO155 := am_ (Kd.R_below (by exact HO155.out) hb); replace HO159 := am_ (Kd.R_below (by exact HO159.out) hb); replace BK101 := am_ (blk_below (by exact BK101.out) hb); replace BK123 := am_ (blk_below (by exact BK123.out) hb); replace BK130 := am_ (blk_below (by exact BK130.out) hb); replace BK144 := am_ (blk_below (by exact BK144.out) hb); replace HB := am_ (below_step (by repeat (first | (with_reducible first | exact HB.out | apply below_alloc | apply pw_below_drewN | apply below_drew1 | refine below_set ?_ GE101.out | refine below_set ?_ GE123.out | refine below_set ?_ GE130.out | refine below_set ?_ GE144.out) | exact HB.out)) hb); (try clear hb); (try clear hb2); (try clear hk); (try clear hi)))
    go_meet
    case rel => exact ⟨_, (true), (by first | rfl | (simp; done) | (simp [*]; done)), H', ⟨by have := HJ23.out; first | omega | exact Nat.le_refl _⟩, ⟨by exact Kd.R_mono HO_124003.out (fun _ hk => by first | exact ⟨hk.2.1, hk.2.2.1⟩ | simp only [hk, ne_eq, not_false_eq_true, and_self])⟩, ⟨by exact Kd.R_mono HO_131003.out (fun _ hk => by first | exact ⟨hk.2.1, hk.2.2.1⟩ | simp only [hk, ne_eq, not_false_eq_true, and_self])⟩, ⟨by exact Kd.R_mono HO_145003.out (fun _ hk => by first | exact ⟨hk.2.1, hk.2.2.1⟩ | simp only [hk, ne_eq, not_false_eq_true, and_self])⟩, ⟨by exact BK101.out⟩, ⟨by exact BK123.out⟩, ⟨by exact BK130.out⟩, ⟨by exact BK144.out⟩, ⟨by repeat (first | (with_reducible first | exact HB.out | apply below_alloc | apply pw_below_drewN | apply below_drew1 | refine below_set ?_ GE101.out | refine below_set ?_ GE123.out | refine below_set ?_ GE130.out | refine below_set ?_ GE144.out) | exact HB.out)⟩⟩
   case rest =>
    clear HC90
    try clear c1
    try clear c2
    try clear p2
    try clear c3
    try clear c4
    try clear c4b0
    try clear c4b1
    try clear c5
    try clear c6
    try clear c7
    try clear c7b0
    try clear c8
    try clear c10
    try clear c11
    try clear c12
    try clear c12b0
    try clear c18
    try clear c19
    try clear c20
    try clear c21
    try clear c22
    try clear c23
    try clear c24
    try clear c25
    try clear c27
    try clear c28
    try clear c29
    try clear c30
    try clear c31
    try clear c37
    try clear c43
    try clear c44
    try clear c54
    try clear c55
    try clear c56
    try clear c60
    try clear c61
    try clear c62
    try clear c63
    try clear c65
    try clear c66
    try clear c69
    try clear c70
    try clear c71
    try clear c73
    try clear c74
    try clear c77
    try clear c80
    try clear c83
    try clear c86
    try clear c100
    try clear c101
    try clear c102
    try clear c107
    try clear c107b0
    try clear c109
    try clear c110
    try clear c111
    try clear c112
    try clear c114
    try clear c115
    try clear c118
    try clear c119
    try clear c120
    try clear c122
    try clear c123
    try clear hcz103_0
    try clear hcz103_1
    try clear hcz103_2
    try clear hcz103_3
    try clear hcz113_0
    try clear hcz113_1
    try clear hcz113_2
    try clear hcz113_3
    try clear hcz116_0
    try clear hcz116_1
    try clear hcz116_2
    try clear hcz116_3
    try clear hcz121_0
    try clear hcz121_1
    try clear hcz121_2
    try clear hcz121_3
    try clear hcz124_0
    try clear hcz124_1
    try clear hcz124_2
    try clear hcz124_3
    try clear hcz14_0
    try clear hcz14_1
    try clear hcz14_2
    try clear hcz14_3
    try clear hcz26_0
    try clear hcz26_1
    try clear hcz26_2
    try clear hcz26_3
    try clear hcz28_0
    try clear hcz28_1
    try clear hcz28_2
    try clear hcz28_3
    try clear hcz38_0
    try clear hcz38_1
    try clear hcz38_2
    try clear hcz38_3
    try clear hcz40_0
    try clear hcz40_1
    try clear hcz40_2
    try clear hcz40_3
    try clear hcz45_0
    try clear hcz45_1
    try clear hcz45_2
    try clear hcz45_3
    try clear hcz49_0
    try clear hcz49_1
    try clear hcz49_2
    try clear hcz49_3
    try clear hcz57_0
    try clear hcz57_1
    try clear hcz57_2
    try clear hcz57_3
    try clear hcz64_0
    try clear hcz64_1
    try clear hcz64_2
    try clear hcz64_3
    try clear hcz67_0
    try clear hcz67_1
    try clear hcz67_2
    try clear hcz67_3
    try clear hcz72_0
    try clear hcz72_1
    try clear hcz72_2
    try clear hcz72_3
    try clear hcz75_0
    try clear hcz75_1
    try clear hcz75_2
    try clear hcz75_3
    try clear hcz9_0
    try clear hcz9_1
    try clear hcz9_2
    try clear hcz9_3
    try clear hfz103_0
    try clear hfz103_1
    try clear hfz103_2
    try clear hfz103_3
    try clear hfz113_0
    try clear hfz113_1
    try clear hfz113_2
    try clear hfz113_3
    try clear hfz116_0
    try clear hfz116_1
    try clear hfz116_2
    try clear hfz116_3
    try clear hfz121_0
    try clear hfz121_1
    try clear hfz121_2
    try clear hfz121_3
    try clear hfz124_0
    try clear hfz124_1
    try clear hfz124_2
    try clear hfz124_3
    try clear hfz14_0
    try clear hfz14_1
    try clear hfz14_2
    try clear hfz14_3
    try clear hfz26_0
    try clear hfz26_1
    try clear hfz26_2
    try clear hfz26_3
    try clear hfz28_0
    try clear hfz28_1
    try clear hfz28_2
    try clear hfz28_3
    try clear hfz38_0
    try clear hfz38_1
    try clear hfz38_2
    try clear hfz38_3
    try clear hfz40_0
    try clear hfz40_1
    try clear hfz40_2
    try clear hfz40_3
    try clear hfz45_0
    try clear hfz45_1
    try clear hfz45_2
    try clear hfz45_3
    try clear hfz49_0
    try clear hfz49_1
    try clear hfz49_2
    try clear hfz49_3
    try clear hfz57_0
    try clear hfz57_1
    try clear hfz57_2
    try clear hfz57_3
    try clear hfz64_0
    try clear hfz64_1
    try clear hfz64_2
    try clear hfz64_3
    try clear hfz67_0
    try clear hfz67_1
    try clear hfz67_2
    try clear hfz67_3
    try clear hfz72_0
    try clear hfz72_1
    try clear hfz72_2
    try clear hfz72_3
    try clear hfz75_0
    try clear hfz75_1
    try clear hfz75_2
    try clear hfz75_3
    try clear hfz9_0
    try clear hfz9_1
    try clear hfz9_2
    try clear hfz9_3
    try clear p2
    obtain ⟨kq, x101_89, rfl, HA, HJ89, HO_124003, HO_131003, HO_145003, BK101, BK123, BK130, BK144, HB⟩ := hcut
    have hl131003_89 := (Kd.R_reads' HO_131003.out).1
    rw [hl131003_89] at HO_131003
    (try simp only [hl131003_89])
    (try simp only [hl131003_89] at BK101)
    (try simp only [hl131003_89] at BK123)
    (try simp only [hl131003_89] at BK130)
    (try simp only [hl131003_89] at BK144)
    (try simp only [hl131003_89] at HO_124003)
    (try simp only [hl131003_89] at HO_145003)
    cases kq with
    | zero => exact absurd HA.out (by simp [laws_FnExactFillRegion.j1])
    | succ kj89 =>
     have H := HA.out
     clear HA
     simp only [laws_FnExactFillRegion.j1] at H
     by_cases c126 : x101_89 = true
     ·
      subst c126
      have H1 : (some false) = some r := by rw [if_pos rfl] at H; exact H
      clear H
      have H := H1
      clear H1
      obtain rfl := Option.some.inj H
      go_wp2
      go_ret
      exact ⟨by first | rfl | (simp [errW_none, errW_some] <;> rfl) | (simp [*, errW_none, errW_some] <;> rfl), by repeat (first | (with_reducible first | exact HB.out | apply below_alloc | apply pw_below_drewN | apply below_drew1 | refine below_set ?_ GE101.out | refine below_set ?_ GE123.out | refine below_set ?_ GE130.out | refine below_set ?_ GE144.out) | exact HB.out)⟩
     replace c126 := Bool.eq_false_iff.mpr c126
     subst c126
     have H1 : ((laws_markImage.f kj89 t137 t138 t139 t140 1).bind fun bt168 => ((laws_heldImage.f kj89 t137 t138 t139 bt168.2 1).bind fun t170 => (if t170 < 0 then (some false) else (if t170 = bt168.1 then ((laws_toImage.f kj89 a0_0 a0_1 a0_2 l0_3).bind fun bt171 => ((laws_toRunS.f kj89 l1).bind fun t177 => ((laws_toIntS.f kj89 l2).bind fun t180 => ((impl_FillRegion.f bt171.1 bt171.2.1 bt171.2.2.1 bt171.2.2.2 t177 t180).bind fun bt183 => ((laws_eqImage.f kj89 bt183.1 bt183.2.1 bt183.2.2.1 bt183.2.2.2.1 t116 t117 t118 t119).bind fun t191 => (if t191 = true then (laws_FnExactFillRegion.j2 kj89 bt168.1 (bt183.2.2.2.2 != t122) t137 t138 t139 bt168.2) else (laws_FnExactFillRegion.j2 kj89 bt168.1 true t137 t138 t139 bt168.2))))))) else (some false))))) = some r := by rw [if_neg (show ¬ (false = true) by decide)] at H; exact H
     clear H
     have H := H1
     clear H1
     replace H := Option.bind_eq_some_iff.mp H
     obtain ⟨⟨t168, t169⟩, A1270, H⟩ := H
     replace H : ((laws_heldImage.f kj89 t137 t138 t139 t169 1).bind fun t170 => (if t170 < 0 then (some false) else (if t170 = t168 then ((laws_toImage.f kj89 a0_0 a0_1 a0_2 l0_3).bind fun bt171 => ((laws_toRunS.f kj89 l1).bind fun t177 => ((laws_toIntS.f kj89 l2).bind fun t180 => ((impl_FillRegion.f bt171.1 bt171.2.1 bt171.2.2.1 bt171.2.2.2 t177 t180).bind fun bt183 => ((laws_eqImage.f kj89 bt183.1 bt183.2.1 bt183.2.2.1 bt183.2.2.2.1 t116 t117 t118 t119).bind fun t191 => (if t191 = true then (laws_FnExactFillRegion.j2 kj89 t168 (bt183.2.2.2.2 != t122) t137 t138 t139 t169) else (laws_FnExactFillRegion.j2 kj89 t168 true t137 t138 t139 t169))))))) else (some false)))) = some r := H
     have A127 := Aside0.mk A1270
     clear A1270
     replace H := Option.bind_eq_some_iff.mp H
     obtain ⟨t170, A1280, H⟩ := H
     replace H : (if t170 < 0 then (some false) else (if t170 = t168 then ((laws_toImage.f kj89 a0_0 a0_1 a0_2 l0_3).bind fun bt171 => ((laws_toRunS.f kj89 l1).bind fun t177 => ((laws_toIntS.f kj89 l2).bind fun t180 => ((impl_FillRegion.f bt171.1 bt171.2.1 bt171.2.2.1 bt171.2.2.2 t177 t180).bind fun bt183 => ((laws_eqImage.f kj89 bt183.1 bt183.2.1 bt183.2.2.1 bt183.2.2.2.1 t116 t117 t118 t119).bind fun t191 => (if t191 = true then (laws_FnExactFillRegion.j2 kj89 t168 (bt183.2.2.2.2 != t122) t137 t138 t139 t169) else (laws_FnExactFillRegion.j2 kj89 t168 true t137 t138 t139 t169))))))) else (some false))) = some r := H
     have A128 := Aside0.mk A1280
     clear A1280
     by_cases c129 : t170 < 0
     ·
      rw [if_pos c129] at H
      have c129b0 : decide (t170 < 0) = true := decide_eq_true c129
      clear c129
      obtain rfl := Option.some.inj H
      have hnb130 := NB144_101.out
      have hnc130 := NB101_144.out
      have hnb131 := NB144_123.out
      have hnc131 := NB123_144.out
      have hnb132 := NB144_130.out
      have hnc132 := NB130_144.out
      obtain ⟨hcz133_0, hcz133_1, hcz133_2, hcz133_3, hfz133_0, hfz133_1, hfz133_2, hfz133_3⟩ := blk4_ BK144.out
      go_wp2_with (first | ((with_reducible refine gate_callee (f := 24) rfl ?_); refine goesL_ (some 104) rfl rfl Try.func24 (by kernel_rfl) rfl #[.agg #[.int .i64 t137, .int .i64 t138, .int .i64 t139, .slice Ao58 t140.length co58], .int .i64 1] rfl (by simp only [List.map_toArray, List.map_cons, List.map_nil]; rfl) ?_; (with_reducible refine (laws_markImage.calls kj89 t137 t138 t139 (fun k_ => some k_ = (.slice Ao58 t140.length co58 : Value).ownBlock) (.slice Ao58 t140.length co58) t140 1 t168 t169 w _ ?side1 ?side2 A127.out).mono ?_); (case side1 => repeat (first | (with_reducible first | exact HB.out | apply below_alloc | apply pw_below_drewN | apply below_drew1 | refine below_set ?_ GE101.out | refine below_set ?_ GE123.out | refine below_set ?_ GE130.out | refine below_set ?_ GE144.out) | exact HB.out)); (case side2 => exact Kd.R_tight rfl HO_145003.out); rintro e w134 ⟨rfl, hy0, hb, hkp⟩; refine ⟨_, rfl, ?_⟩; replace HO_124003 := am_ (Kd.R_mono (ok' := fun k_ => some k_ ≠ (.slice Ao46 t162.length co46 : Value).ownBlock ∧ some k_ ≠ (.slice Ao58 t140.length co58 : Value).ownBlock) (Kd.R_keptB (HO_124003.out) hkp (fun k_ hk_ hs_ => by simp only [hk_, ne_eq, not_false_eq_true] at hs_)) (fun k_ hk_ => by simp only [hk_, ne_eq, not_false_eq_true, and_self])); replace HO_131003 := am_ (Kd.R_mono (ok' := fun k_ => some k_ ≠ (.slice Ao39 t119.length co39 : Value).ownBlock ∧ some k_ ≠ (.slice Ao58 t140.length co58 : Value).ownBlock) (Kd.R_keptB (HO_131003.out) hkp (fun k_ hk_ hs_ => by simp only [hk_, ne_eq, not_false_eq_true] at hs_)) (fun k_ hk_ => by simp only [hk_, ne_eq, not_false_eq_true, and_self])); replace BK101 := am_ (blk_kept (by exact BK101.out) hkp (fun hs_ => (fun e_ => (Kd.R_ne HO_145003.out BK101.out (by decide)) e_) hs_)); replace BK123 := am_ (blk_kept (by exact BK123.out) hkp (fun hs_ => (fun e_ => (Kd.R_ne HO_145003.out BK123.out (by decide)) e_) hs_)); replace BK130 := am_ (blk_kept (by exact BK130.out) hkp (fun hs_ => (fun e_ => (Kd.R_ne HO_145003.out BK130.out (by decide)) e_) hs_)); replace BK144 := am_ (blk_kept (by exact BK144.out) hkp (fun hs_ => (fun e_ => (Kd.R_ne HO_145003.out BK144.out (by decide)) e_) hs_)); replace HO_145003 := am_ (Kd.R_reok rfl hy0 (fun k_ e_ => HO_145003.out.1 k_ e_)); replace HB := am_ (hb); (try clear hb); (try clear hkp); (try clear hy0); obtain ⟨hcz135_0, hcz135_1, hcz135_2, hcz135_3, hfz135_0, hfz135_1, hfz135_2, hfz135_3⟩ := blk4_ BK144.out) | ((with_reducible refine gate_callee (f := 26) rfl ?_); refine goesL_ (some 107) rfl rfl Try.func26 (by kernel_rfl) rfl #[.agg #[.int .i64 t137, .int .i64 t138, .int .i64 t139, .slice Ao58 t169.length co58], .int .i64 1] rfl (by (try simp only [List.map_toArray, List.map_cons, List.map_nil]); first | done | (rw [show t169.length = t140.length from (Kd.R_reads' HO_145003.out).1.symm] <;> rfl) | rfl | (simp only [List.length_drop, List.length_take]; rfl)) ?_; (with_reducible refine (laws_heldImage.calls kj89 t137 t138 t139 _ _ t169 1 t170 _ ?side1 ?side2 A128.out).mono ?_); (case side1 => repeat (first | exact (Kd.R_reads' HO_145003.out).2.2 | (with_reducible refine Kd.C_alloc ?_ _) | (with_reducible refine Kd.C_drewN ?_ _) | (with_reducible refine Kd.C_drew ?_))); (case side2 => rw [show t169.length = t140.length from (Kd.R_reads' HO_145003.out).1.symm]; exact (Kd.R_reads' HO_145003.out).2.1); rintro e w136 ⟨rfl, hb⟩; refine ⟨_, rfl, ?_⟩; replace HO_124003 := am_ (Kd.R_below (by exact HO_124003.out) hb); replace HO_131003 := am_ (Kd.R_below (by exact HO_131003.out) hb); replace HO_145003 := am_ (Kd.R_below (by exact HO_145003.out) hb); replace BK101 := am_ (blk_below (by exact BK101.out) hb); replace BK123 := am_ (blk_below (by exact BK123.out) hb); replace BK130 := am_ (blk_below (by exact BK130.out) hb); replace BK144 := am_ (blk_below (by exact BK144.out) hb); replace HB := am_ (below_step (by repeat (first | (with_reducible first | exact HB.out | apply below_alloc | apply pw_below_drewN | apply below_drew1 | refine below_set ?_ GE101.out | refine below_set ?_ GE123.out | refine below_set ?_ GE130.out | refine below_set ?_ GE144.out) | exact HB.out)) hb); (try clear hb); (try clear hb2); (try clear hk); (try clear hi)))
      go_ret
      exact ⟨by first | rfl | (simp [errW_none, errW_some] <;> rfl) | (simp [*, errW_none, errW_some] <;> rfl), by repeat (first | (with_reducible first | exact HB.out | apply below_alloc | apply pw_below_drewN | apply below_drew1 | refine below_set ?_ GE101.out | refine below_set ?_ GE123.out | refine below_set ?_ GE130.out | refine below_set ?_ GE144.out) | exact HB.out)⟩
     rw [if_neg c129] at H
     have c129b0 : decide (t170 < 0) = false := decide_eq_false c129
     clear c129
     by_cases c137 : t170 = t168
     rotate_left
     ·
      rw [if_neg c137] at H
      have c137b0 : (t170 == t168) = false := beq_eq_false_iff_ne.mpr c137
      have c137b1 : (t170 != t168) = true := bne_iff_ne.mpr c137
      obtain rfl := Option.some.inj H
      have hnb211 := NB144_101.out
      have hnc211 := NB101_144.out
      have hnb212 := NB144_123.out
      have hnc212 := NB123_144.out
      have hnb213 := NB144_130.out
      have hnc213 := NB130_144.out
      obtain ⟨hcz214_0, hcz214_1, hcz214_2, hcz214_3, hfz214_0, hfz214_1, hfz214_2, hfz214_3⟩ := blk4_ BK144.out
      go_wp2_with (first | ((with_reducible refine gate_callee (f := 24) rfl ?_); refine goesL_ (some 104) rfl rfl Try.func24 (by kernel_rfl) rfl #[.agg #[.int .i64 t137, .int .i64 t138, .int .i64 t139, .slice Ao58 t140.length co58], .int .i64 1] rfl (by simp only [List.map_toArray, List.map_cons, List.map_nil]; rfl) ?_; (with_reducible refine (laws_markImage.calls kj89 t137 t138 t139 (fun k_ => some k_ = (.slice Ao58 t140.length co58 : Value).ownBlock) (.slice Ao58 t140.length co58) t140 1 t168 t169 w _ ?side1 ?side2 A127.out).mono ?_); (case side1 => repeat (first | (with_reducible first | exact HB.out | apply below_alloc | apply pw_below_drewN | apply below_drew1 | refine below_set ?_ GE101.out | refine below_set ?_ GE123.out | refine below_set ?_ GE130.out | refine below_set ?_ GE144.out) | exact HB.out)); (case side2 => exact Kd.R_tight rfl HO_145003.out); rintro e w215 ⟨rfl, hy0, hb, hkp⟩; refine ⟨_, rfl, ?_⟩; replace HO_124003 := am_ (Kd.R_mono (ok' := fun k_ => some k_ ≠ (.slice Ao46 t162.length co46 : Value).ownBlock ∧ some k_ ≠ (.slice Ao58 t140.length co58 : Value).ownBlock) (Kd.R_keptB (HO_124003.out) hkp (fun k_ hk_ hs_ => by simp only [hk_, ne_eq, not_false_eq_true] at hs_)) (fun k_ hk_ => by simp only [hk_, ne_eq, not_false_eq_true, and_self])); replace HO_131003 := am_ (Kd.R_mono (ok' := fun k_ => some k_ ≠ (.slice Ao39 t119.length co39 : Value).ownBlock ∧ some k_ ≠ (.slice Ao58 t140.length co58 : Value).ownBlock) (Kd.R_keptB (HO_131003.out) hkp (fun k_ hk_ hs_ => by simp only [hk_, ne_eq, not_false_eq_true] at hs_)) (fun k_ hk_ => by simp only [hk_, ne_eq, not_false_eq_true, and_self])); replace BK101 := am_ (blk_kept (by exact BK101.out) hkp (fun hs_ => (fun e_ => (Kd.R_ne HO_145003.out BK101.out (by decide)) e_) hs_)); replace BK123 := am_ (blk_kept (by exact BK123.out) hkp (fun hs_ => (fun e_ => (Kd.R_ne HO_145003.out BK123.out (by decide)) e_) hs_)); replace BK130 := am_ (blk_kept (by exact BK130.out) hkp (fun hs_ => (fun e_ => (Kd.R_ne HO_145003.out BK130.out (by decide)) e_) hs_)); replace BK144 := am_ (blk_kept (by exact BK144.out) hkp (fun hs_ => (fun e_ => (Kd.R_ne HO_145003.out BK144.out (by decide)) e_) hs_)); replace HO_145003 := am_ (Kd.R_reok rfl hy0 (fun k_ e_ => HO_145003.out.1 k_ e_)); replace HB := am_ (hb); (try clear hb); (try clear hkp); (try clear hy0); obtain ⟨hcz216_0, hcz216_1, hcz216_2, hcz216_3, hfz216_0, hfz216_1, hfz216_2, hfz216_3⟩ := blk4_ BK144.out) | ((with_reducible refine gate_callee (f := 26) rfl ?_); refine goesL_ (some 107) rfl rfl Try.func26 (by kernel_rfl) rfl #[.agg #[.int .i64 t137, .int .i64 t138, .int .i64 t139, .slice Ao58 t169.length co58], .int .i64 1] rfl (by (try simp only [List.map_toArray, List.map_cons, List.map_nil]); first | done | (rw [show t169.length = t140.length from (Kd.R_reads' HO_145003.out).1.symm] <;> rfl) | rfl | (simp only [List.length_drop, List.length_take]; rfl)) ?_; (with_reducible refine (laws_heldImage.calls kj89 t137 t138 t139 _ _ t169 1 t170 _ ?side1 ?side2 A128.out).mono ?_); (case side1 => repeat (first | exact (Kd.R_reads' HO_145003.out).2.2 | (with_reducible refine Kd.C_alloc ?_ _) | (with_reducible refine Kd.C_drewN ?_ _) | (with_reducible refine Kd.C_drew ?_))); (case side2 => rw [show t169.length = t140.length from (Kd.R_reads' HO_145003.out).1.symm]; exact (Kd.R_reads' HO_145003.out).2.1); rintro e w217 ⟨rfl, hb⟩; refine ⟨_, rfl, ?_⟩; replace HO_124003 := am_ (Kd.R_below (by exact HO_124003.out) hb); replace HO_131003 := am_ (Kd.R_below (by exact HO_131003.out) hb); replace HO_145003 := am_ (Kd.R_below (by exact HO_145003.out) hb); replace BK101 := am_ (blk_below (by exact BK101.out) hb); replace BK123 := am_ (blk_below (by exact BK123.out) hb); replace BK130 := am_ (blk_below (by exact BK130.out) hb); replace BK144 := am_ (blk_below (by exact BK144.out) hb); replace HB := am_ (below_step (by repeat (first | (with_reducible first | exact HB.out | apply below_alloc | apply pw_below_drewN | apply below_drew1 | refine below_set ?_ GE101.out | refine below_set ?_ GE123.out | refine below_set ?_ GE130.out | refine below_set ?_ GE144.out) | exact HB.out)) hb); (try clear hb); (try clear hb2); (try clear hk); (try clear hi)))
      go_ret
      exact ⟨by first | rfl | (simp [errW_none, errW_some] <;> rfl) | (simp [*, errW_none, errW_some] <;> rfl), by repeat (first | (with_reducible first | exact HB.out | apply below_alloc | apply pw_below_drewN | apply below_drew1 | refine below_set ?_ GE101.out | refine below_set ?_ GE123.out | refine below_set ?_ GE130.out | refine below_set ?_ GE144.out) | exact HB.out)⟩
     rw [if_pos c137] at H
     have c137b0 : (t170 == t168) = true := beq_iff_eq.mpr c137
     have c137b1 : (t170 != t168) = false := bne_eq_false_iff_eq.mpr c137
     clear c137
     replace H := Option.bind_eq_some_iff.mp H
     obtain ⟨⟨t171, t172, t173, t174⟩, A1380, H⟩ := H
     replace H : ((laws_toRunS.f kj89 l1).bind fun t177 => ((laws_toIntS.f kj89 l2).bind fun t180 => ((impl_FillRegion.f t171 t172 t173 t174 t177 t180).bind fun bt183 => ((laws_eqImage.f kj89 bt183.1 bt183.2.1 bt183.2.2.1 bt183.2.2.2.1 t116 t117 t118 t119).bind fun t191 => (if t191 = true then (laws_FnExactFillRegion.j2 kj89 t168 (bt183.2.2.2.2 != t122) t137 t138 t139 t169) else (laws_FnExactFillRegion.j2 kj89 t168 true t137 t138 t139 t169)))))) = some r := H
     have A138 := Aside0.mk A1380
     clear A1380
     replace H := Option.bind_eq_some_iff.mp H
     obtain ⟨t177, A1390, H⟩ := H
     replace H : ((laws_toIntS.f kj89 l2).bind fun t180 => ((impl_FillRegion.f t171 t172 t173 t174 t177 t180).bind fun bt183 => ((laws_eqImage.f kj89 bt183.1 bt183.2.1 bt183.2.2.1 bt183.2.2.2.1 t116 t117 t118 t119).bind fun t191 => (if t191 = true then (laws_FnExactFillRegion.j2 kj89 t168 (bt183.2.2.2.2 != t122) t137 t138 t139 t169) else (laws_FnExactFillRegion.j2 kj89 t168 true t137 t138 t139 t169))))) = some r := H
     have A139 := Aside0.mk A1390
     clear A1390
     replace H := Option.bind_eq_some_iff.mp H
     obtain ⟨t180, A1400, H⟩ := H
     replace H : ((impl_FillRegion.f t171 t172 t173 t174 t177 t180).bind fun bt183 => ((laws_eqImage.f kj89 bt183.1 bt183.2.1 bt183.2.2.1 bt183.2.2.2.1 t116 t117 t118 t119).bind fun t191 => (if t191 = true then (laws_FnExactFillRegion.j2 kj89 t168 (bt183.2.2.2.2 != t122) t137 t138 t139 t169) else (laws_FnExactFillRegion.j2 kj89 t168 true t137 t138 t139 t169)))) = some r := H
     have A140 := Aside0.mk A1400
     clear A1400
     replace H := Option.bind_eq_some_iff.mp H
     obtain ⟨⟨t183, t184, t185, t186, t189⟩, A1410, H⟩ := H
     replace H : ((laws_eqImage.f kj89 t183 t184 t185 t186 t116 t117 t118 t119).bind fun t191 => (if t191 = true then (laws_FnExactFillRegion.j2 kj89 t168 (t189 != t122) t137 t138 t139 t169) else (laws_FnExactFillRegion.j2 kj89 t168 true t137 t138 t139 t169))) = some r := H
     have A141 := Aside0.mk A1410
     clear A1410
     have HC142 := Aside0.mk H
     clear H
     have hnb143 := NB144_101.out
     have hnc143 := NB101_144.out
     have hnb144 := NB144_123.out
     have hnc144 := NB123_144.out
     have hnb145 := NB144_130.out
     have hnc145 := NB130_144.out
     obtain ⟨hcz146_0, hcz146_1, hcz146_2, hcz146_3, hfz146_0, hfz146_1, hfz146_2, hfz146_3⟩ := blk4_ BK144.out
     go_upto_region 38 with (first | ((with_reducible refine gate_callee (f := 24) rfl ?_); refine goesL_ (some 104) rfl rfl Try.func24 (by kernel_rfl) rfl #[.agg #[.int .i64 t137, .int .i64 t138, .int .i64 t139, .slice Ao58 t140.length co58], .int .i64 1] rfl (by simp only [List.map_toArray, List.map_cons, List.map_nil]; rfl) ?_; (with_reducible refine (laws_markImage.calls kj89 t137 t138 t139 (fun k_ => some k_ = (.slice Ao58 t140.length co58 : Value).ownBlock) (.slice Ao58 t140.length co58) t140 1 t168 t169 w _ ?side1 ?side2 A127.out).mono ?_); (case side1 => repeat (first | (with_reducible first | exact HB.out | apply below_alloc | apply pw_below_drewN | apply below_drew1 | refine below_set ?_ GE101.out | refine below_set ?_ GE123.out | refine below_set ?_ GE130.out | refine below_set ?_ GE144.out) | exact HB.out)); (case side2 => exact Kd.R_tight rfl HO_145003.out); rintro e w147 ⟨rfl, hy0, hb, hkp⟩; refine ⟨_, rfl, ?_⟩; replace HO_124003 := am_ (Kd.R_mono (ok' := fun k_ => some k_ ≠ (.slice Ao46 t162.length co46 : Value).ownBlock ∧ some k_ ≠ (.slice Ao58 t140.length co58 : Value).ownBlock) (Kd.R_keptB (HO_124003.out) hkp (fun k_ hk_ hs_ => by simp only [hk_, ne_eq, not_false_eq_true] at hs_)) (fun k_ hk_ => by simp only [hk_, ne_eq, not_false_eq_true, and_self])); replace HO_131003 := am_ (Kd.R_mono (ok' := fun k_ => some k_ ≠ (.slice Ao39 t119.length co39 : Value).ownBlock ∧ some k_ ≠ (.slice Ao58 t140.length co58 : Value).ownBlock) (Kd.R_keptB (HO_131003.out) hkp (fun k_ hk_ hs_ => by simp only [hk_, ne_eq, not_false_eq_true] at hs_)) (fun k_ hk_ => by simp only [hk_, ne_eq, not_false_eq_true, and_self])); replace BK101 := am_ (blk_kept (by exact BK101.out) hkp (fun hs_ => (fun e_ => (Kd.R_ne HO_145003.out BK101.out (by decide)) e_) hs_)); replace BK123 := am_ (blk_kept (by exact BK123.out) hkp (fun hs_ => (fun e_ => (Kd.R_ne HO_145003.out BK123.out (by decide)) e_) hs_)); replace BK130 := am_ (blk_kept (by exact BK130.out) hkp (fun hs_ => (fun e_ => (Kd.R_ne HO_145003.out BK130.out (by decide)) e_) hs_)); replace BK144 := am_ (blk_kept (by exact BK144.out) hkp (fun hs_ => (fun e_ => (Kd.R_ne HO_145003.out BK144.out (by decide)) e_) hs_)); replace HO_145003 := am_ (Kd.R_reok rfl hy0 (fun k_ e_ => HO_145003.out.1 k_ e_)); replace HB := am_ (hb); (try clear hb); (try clear hkp); (try clear hy0); obtain ⟨hcz148_0, hcz148_1, hcz148_2, hcz148_3, hfz148_0, hfz148_1, hfz148_2, hfz148_3⟩ := blk4_ BK144.out) | ((with_reducible refine gate_callee (f := 26) rfl ?_); refine goesL_ (some 107) rfl rfl Try.func26 (by kernel_rfl) rfl #[.agg #[.int .i64 t137, .int .i64 t138, .int .i64 t139, .slice Ao58 t169.length co58], .int .i64 1] rfl (by (try simp only [List.map_toArray, List.map_cons, List.map_nil]); first | done | (rw [show t169.length = t140.length from (Kd.R_reads' HO_145003.out).1.symm] <;> rfl) | rfl | (simp only [List.length_drop, List.length_take]; rfl)) ?_; (with_reducible refine (laws_heldImage.calls kj89 t137 t138 t139 _ _ t169 1 t170 _ ?side1 ?side2 A128.out).mono ?_); (case side1 => repeat (first | exact (Kd.R_reads' HO_145003.out).2.2 | (with_reducible refine Kd.C_alloc ?_ _) | (with_reducible refine Kd.C_drewN ?_ _) | (with_reducible refine Kd.C_drew ?_))); (case side2 => rw [show t169.length = t140.length from (Kd.R_reads' HO_145003.out).1.symm]; exact (Kd.R_reads' HO_145003.out).2.1); rintro e w149 ⟨rfl, hb⟩; refine ⟨_, rfl, ?_⟩; replace HO_124003 := am_ (Kd.R_below (by exact HO_124003.out) hb); replace HO_131003 := am_ (Kd.R_below (by exact HO_131003.out) hb); replace HO_145003 := am_ (Kd.R_below (by exact HO_145003.out) hb); replace BK101 := am_ (blk_below (by exact BK101.out) hb); replace BK123 := am_ (blk_below (by exact BK123.out) hb); replace BK130 := am_ (blk_below (by exact BK130.out) hb); replace BK144 := am_ (blk_below (by exact BK144.out) hb); replace HB := am_ (below_step (by repeat (first | (with_reducible first | exact HB.out | apply below_alloc | apply pw_below_drewN | apply below_drew1 | refine below_set ?_ GE101.out | refine below_set ?_ GE123.out | refine below_set ?_ GE130.out | refine below_set ?_ GE144.out) | exact HB.out)) hb); (try clear hb); (try clear hb2); (try clear hk); (try clear hi); have hnb150 := NB101_123.out; have hnc150 := NB123_101.out; have hnb151 := NB101_130.out; have hnc151 := NB130_101.out; obtain ⟨hcz152_0, hcz152_1, hcz152_2, hcz152_3, hfz152_0, hfz152_1, hfz152_2, hfz152_3⟩ := blk4_ BK101.out) | ((with_reducible refine gate_callee (f := 20) rfl ?_); refine goesL_ (some 115) rfl rfl Try.func20 (by kernel_rfl) rfl #[.agg #[.int .i64 a0_0, .int .i64 a0_1, .int .i64 a0_2, .slice A0_3 l0_3.length c0_3]] rfl (by simp only [List.map_toArray, List.map_cons, List.map_nil]; rfl) ?_; (with_reducible refine (laws_toImage.calls kj89 a0_0 a0_1 a0_2 _ _ l0_3 t171 t172 t173 t174 _ ?side1 ?side2 A138.out).mono ?_); (case side1 => repeat (first | exact (Kd.C_below HR0_3.out HB.out) | (with_reducible refine Kd.C_alloc ?_ _) | (with_reducible refine Kd.C_drewN ?_ _) | (with_reducible refine Kd.C_drew ?_))); (case side2 => exact HC0_3.out); rintro e w153 ⟨v175, rfl, ho0, hb⟩; refine ⟨_, rfl, ?_⟩; have HO176 := am_ (Kd.R_lower (Kd.R_new' (Kd.R_new' (Kd.R_new' ho0 (Kd.R_lt (by exact HO_124003.out))) (Kd.R_lt (by exact HO_131003.out))) (Kd.R_lt (by exact HO_145003.out))) (below_size (by repeat (first | (with_reducible first | exact HB.out | apply below_alloc | apply pw_below_drewN | apply below_drew1 | refine below_set ?_ GE101.out | refine below_set ?_ GE123.out | refine below_set ?_ GE130.out | refine below_set ?_ GE144.out) | exact HB.out)))); replace HO_124003 := am_ (Kd.R_elder' (by exact HO_124003.out) (Kd.R_base ho0) hb); replace HO_131003 := am_ (Kd.R_elder' (by exact HO_131003.out) (Kd.R_base ho0) hb); replace HO_145003 := am_ (Kd.R_elder' (by exact HO_145003.out) (Kd.R_base ho0) hb); replace BK101 := am_ (blk_below (by exact BK101.out) hb); replace BK123 := am_ (blk_below (by exact BK123.out) hb); replace BK130 := am_ (blk_below (by exact BK130.out) hb); replace BK144 := am_ (blk_below (by exact BK144.out) hb); replace HB := am_ (below_step (by repeat (first | (with_reducible first | exact HB.out | apply below_alloc | apply pw_below_drewN | apply below_drew1 | refine below_set ?_ GE101.out | refine below_set ?_ GE123.out | refine below_set ?_ GE130.out | refine below_set ?_ GE144.out) | exact HB.out)) hb); (try clear hb); (try clear hb2); (try clear hk); (try clear hi); (try clear ho0)) | ((with_reducible refine gate_callee (f := 21) rfl ?_); refine goesL_ (some 117) rfl rfl Try.func21 (by kernel_rfl) rfl #[.slice A1 l1.length c1] rfl (by simp only [List.map_toArray, List.map_cons, List.map_nil]; rfl) ?_; (with_reducible refine (laws_toRunS.calls kj89 _ _ l1 t177 _ ?side1 ?side2 A139.out).mono ?_); (case side1 => repeat (first | exact (Kd.C_below HR1.out HB.out) | (with_reducible refine Kd.C_alloc ?_ _) | (with_reducible refine Kd.C_drewN ?_ _) | (with_reducible refine Kd.C_drew ?_))); (case side2 => exact HC1.out); rintro e w154 ⟨v178, rfl, ho0, hb⟩; refine ⟨_, rfl, ?_⟩; replace HO_124003 := am_ (Kd.R_below (by exact HO_124003.out) hb); replace HO_131003 := am_ (Kd.R_below (by exact HO_131003.out) hb); replace HO_145003 := am_ (Kd.R_below (by exact HO_145003.out) hb); replace HO176 := am_ (Kd.R_below (by exact HO176.out) hb); have HO179 := am_ (Kd.R_lower ho0 (below_size (by repeat (first | (with_reducible first | exact HB.out | apply below_alloc | apply pw_below_drewN | apply below_drew1 | refine below_set ?_ GE101.out | refine below_set ?_ GE123.out | refine below_set ?_ GE130.out | refine below_set ?_ GE144.out) | exact HB.out)))); replace BK101 := am_ (blk_below (by exact BK101.out) hb); replace BK123 := am_ (blk_below (by exact BK123.out) hb); replace BK130 := am_ (blk_below (by exact BK130.out) hb); replace BK144 := am_ (blk_below (by exact BK144.out) hb); replace HB := am_ (below_step (by repeat (first | (with_reducible first | exact HB.out | apply below_alloc | apply pw_below_drewN | apply below_drew1 | refine below_set ?_ GE101.out | refine below_set ?_ GE123.out | refine below_set ?_ GE130.out | refine below_set ?_ GE144.out) | exact HB.out)) hb); (try clear hb); (try clear hb2); (try clear hk); (try clear hi); (try clear ho0)) | ((with_reducible refine gate_callee (f := 28) rfl ?_); refine goesL_ (some 119) rfl rfl Try.func28 (by kernel_rfl) rfl #[.slice A2 l2.length c2] rfl (by simp only [List.map_toArray, List.map_cons, List.map_nil]; rfl) ?_; (with_reducible refine (laws_toIntS.calls kj89 _ _ l2 t180 _ ?side1 ?side2 A140.out).mono ?_); (case side1 => repeat (first | exact (Kd.C_below HR2.out HB.out) | (with_reducible refine Kd.C_alloc ?_ _) | (with_reducible refine Kd.C_drewN ?_ _) | (with_reducible refine Kd.C_drew ?_))); (case side2 => exact HC2.out); rintro e w155 ⟨v181, rfl, ho0, hb⟩; refine ⟨_, rfl, ?_⟩; replace HO179 := am_ (Kd.R_below (by exact HO179.out) hb); have HO182 := am_ (Kd.R_lower (Kd.R_new' (Kd.R_new' (Kd.R_new' (Kd.R_new' ho0 (Kd.R_lt (by exact HO_124003.out))) (Kd.R_lt (by exact HO_131003.out))) (Kd.R_lt (by exact HO_145003.out))) (Kd.R_lt (by exact HO176.out))) (below_size (by repeat (first | (with_reducible first | exact HB.out | apply below_alloc | apply pw_below_drewN | apply below_drew1 | refine below_set ?_ GE101.out | refine below_set ?_ GE123.out | refine below_set ?_ GE130.out | refine below_set ?_ GE144.out) | exact HB.out)))); replace HO_124003 := am_ (Kd.R_elder' (by exact HO_124003.out) (Kd.R_base ho0) hb); replace HO_131003 := am_ (Kd.R_elder' (by exact HO_131003.out) (Kd.R_base ho0) hb); replace HO_145003 := am_ (Kd.R_elder' (by exact HO_145003.out) (Kd.R_base ho0) hb); replace HO176 := am_ (Kd.R_elder' (by exact HO176.out) (Kd.R_base ho0) hb); replace BK101 := am_ (blk_below (by exact BK101.out) hb); replace BK123 := am_ (blk_below (by exact BK123.out) hb); replace BK130 := am_ (blk_below (by exact BK130.out) hb); replace BK144 := am_ (blk_below (by exact BK144.out) hb); replace HB := am_ (below_step (by repeat (first | (with_reducible first | exact HB.out | apply below_alloc | apply pw_below_drewN | apply below_drew1 | refine below_set ?_ GE101.out | refine below_set ?_ GE123.out | refine below_set ?_ GE130.out | refine below_set ?_ GE144.out) | exact HB.out)) hb); (try clear hb); (try clear hb2); (try clear hk); (try clear hi); (try clear ho0); obtain ⟨Ao156, co156, eo156⟩ := Kd.R_slice HO176.out; subst eo156; obtain ⟨Ao157, co157, eo157⟩ := Kd.R_slice HO179.out; subst eo157; obtain ⟨Ao158, co158, eo158⟩ := Kd.R_slice HO182.out; subst eo158) | ((with_reducible refine gate_callee (f := 29) rfl ?_); refine goesL_ (some 120) rfl rfl Try.func29 (by kernel_rfl) rfl #[.agg #[.int .i64 t171, .int .i64 t172, .int .i64 t173, .slice Ao156 t174.length co156], .slice Ao157 t177.length co157, .slice Ao158 t180.length co158] rfl (by simp only [List.map_toArray, List.map_cons, List.map_nil]; rfl) ?_; (with_reducible refine (impl_FillRegion.calls t171 t172 t173 _ _ t174 _ _ t177 _ _ t180 t183 t184 t185 t186 t189 _ ?side1 ?side2 ?side3 ?side4 ?side5 ?side6 A141.out).mono ?_); (case side1 => repeat (first | exact (Kd.R_reads' HO176.out).2.2 | (with_reducible refine Kd.C_alloc ?_ _) | (with_reducible refine Kd.C_drewN ?_ _) | (with_reducible refine Kd.C_drew ?_))); (case side2 => exact (Kd.R_reads' HO176.out).2.1); (case side3 => repeat (first | exact (Kd.R_reads' HO179.out).2.2 | (with_reducible refine Kd.C_alloc ?_ _) | (with_reducible refine Kd.C_drewN ?_ _) | (with_reducible refine Kd.C_drew ?_))); (case side4 => exact (Kd.R_reads' HO179.out).2.1); (case side5 => repeat (first | exact (Kd.R_reads' HO182.out).2.2 | (with_reducible refine Kd.C_alloc ?_ _) | (with_reducible refine Kd.C_drewN ?_ _) | (with_reducible refine Kd.C_drew ?_))); (case side6 => exact (Kd.R_reads' HO182.out).2.1); rintro e w159 ⟨v187, rfl, ho0, hb⟩; refine ⟨_, rfl, ?_⟩; replace HO179 := am_ (Kd.R_below (by exact HO179.out) hb); have HO188 := am_ (Kd.R_lower (Kd.R_new' (Kd.R_new' (Kd.R_new' (Kd.R_new' (Kd.R_new' ho0 (Kd.R_lt (by exact HO_124003.out))) (Kd.R_lt (by exact HO_131003.out))) (Kd.R_lt (by exact HO_145003.out))) (Kd.R_lt (by exact HO176.out))) (Kd.R_lt (by exact HO182.out))) (below_size (by repeat (first | (with_reducible first | exact HB.out | apply below_alloc | apply pw_below_drewN | apply below_drew1 | refine below_set ?_ GE101.out | refine below_set ?_ GE123.out | refine below_set ?_ GE130.out | refine below_set ?_ GE144.out) | exact HB.out)))); replace HO_124003 := am_ (Kd.R_elder' (by exact HO_124003.out) (Kd.R_base ho0) hb); replace HO_131003 := am_ (Kd.R_elder' (by exact HO_131003.out) (Kd.R_base ho0) hb); replace HO_145003 := am_ (Kd.R_elder' (by exact HO_145003.out) (Kd.R_base ho0) hb); replace HO176 := am_ (Kd.R_elder' (by exact HO176.out) (Kd.R_base ho0) hb); replace HO182 := am_ (Kd.R_elder' (by exact HO182.out) (Kd.R_base ho0) hb); replace BK101 := am_ (blk_below (by exact BK101.out) hb); replace BK123 := am_ (blk_below (by exact BK123.out) hb); replace BK130 := am_ (blk_below (by exact BK130.out) hb); replace BK144 := am_ (blk_below (by exact BK144.out) hb); replace HB := am_ (below_step (by repeat (first | (with_reducible first | exact HB.out | apply below_alloc | apply pw_below_drewN | apply below_drew1 | refine below_set ?_ GE101.out | refine below_set ?_ GE123.out | refine below_set ?_ GE130.out | refine below_set ?_ GE144.out) | exact HB.out)) hb); (try clear hb); (try clear hb2); (try clear hk); (try clear hi); (try clear ho0)) | ((with_reducible refine gate_dst (N := 18) rfl ?_); refine box_event ?hg (N := 18) ?hd (cs := #[.int .i64 0, .int .i64 0, .int .i64 0, .slice none 0 0]) (t := 25) ?hr ?_; (case hd => rfl); (case hg => rfl); (case hr => first | (go_simp; done) | (go_simp; rfl)); intro gb190 hg w160 hbox hb; replace HO_124003 := am_ (Kd.R_below (by exact HO_124003.out) hb); replace HO_131003 := am_ (Kd.R_below (by exact HO_131003.out) hb); replace HO_145003 := am_ (Kd.R_below (by exact HO_145003.out) hb); replace HO176 := am_ (Kd.R_below (by exact HO176.out) hb); replace HO179 := am_ (Kd.R_below (by exact HO179.out) hb); replace HO182 := am_ (Kd.R_below (by exact HO182.out) hb); replace HO188 := am_ (Kd.R_below (by exact HO188.out) hb); have BK190 := am_ (hbox); have GW190 := am_ ((by rw [hg]; exact (below_size (by repeat (first | (with_reducible first | exact HB.out | apply below_alloc | apply pw_below_drewN | apply below_drew1 | refine below_set ?_ GE101.out | refine below_set ?_ GE123.out | refine below_set ?_ GE130.out | refine below_set ?_ GE144.out) | exact HB.out))) : w.heap.size ≤ gb190)); have GE190 := GW190; replace HB := am_ (below_step (by repeat (first | (with_reducible first | exact HB.out | apply below_alloc | apply pw_below_drewN | apply below_drew1 | refine below_set ?_ GE101.out | refine below_set ?_ GE123.out | refine below_set ?_ GE130.out | refine below_set ?_ GE144.out) | exact HB.out)) hb); have NB101_190 := am_ ((by rw [hg]; exact Nat.ne_of_lt (blk_lt (by exact BK101.out)) : gb101 ≠ gb190)); have NB190_101 := am_ ((by rw [hg]; exact Nat.ne_of_gt (blk_lt (by exact BK101.out)) : gb190 ≠ gb101)); replace BK101 := am_ (blk_below (by exact BK101.out) hb); have NB123_190 := am_ ((by rw [hg]; exact Nat.ne_of_lt (blk_lt (by exact BK123.out)) : gb123 ≠ gb190)); have NB190_123 := am_ ((by rw [hg]; exact Nat.ne_of_gt (blk_lt (by exact BK123.out)) : gb190 ≠ gb123)); replace BK123 := am_ (blk_below (by exact BK123.out) hb); have NB130_190 := am_ ((by rw [hg]; exact Nat.ne_of_lt (blk_lt (by exact BK130.out)) : gb130 ≠ gb190)); have NB190_130 := am_ ((by rw [hg]; exact Nat.ne_of_gt (blk_lt (by exact BK130.out)) : gb190 ≠ gb130)); replace BK130 := am_ (blk_below (by exact BK130.out) hb); have NB144_190 := am_ ((by rw [hg]; exact Nat.ne_of_lt (blk_lt (by exact BK144.out)) : gb144 ≠ gb190)); have NB190_144 := am_ ((by rw [hg]; exact Nat.ne_of_gt (blk_lt (by exact BK144.out)) : gb190 ≠ gb144)); replace BK144 := am_ (blk_below (by exact BK144.out) hb); clear hb hbox hg; have hnb161 := NB190_101.out; have hnc161 := NB101_190.out; have hnb162 := NB190_123.out; have hnc162 := NB123_190.out; have hnb163 := NB190_130.out; have hnc163 := NB130_190.out; have hnb164 := NB190_144.out; have hnc164 := NB144_190.out; obtain ⟨hcz165_0, hcz165_1, hcz165_2, hcz165_3, hfz165_0, hfz165_1, hfz165_2, hfz165_3⟩ := blk4_ BK190.out; obtain ⟨Ao166, co166, eo166⟩ := Kd.R_slice HO188.out; subst eo166))
     (try simp only [Act.put, List.setIfInBounds_toArray, List.set_cons_zero, List.set_cons_succ])
     go_cut [131] (fun v131 wc => ∃ (kq : Nat) (x131_141 : Bool), v131 = .bool x131_141 ∧ Aside0 (laws_FnExactFillRegion.j2 kq t168 x131_141 t137 t138 t139 t169 = some r) ∧ Aside0 (kq ≤ kj89) ∧ Aside0 (Kd.R (Kd.int .i64) 3 wc w.heap.size (fun k_ => some k_ ≠ ((.slice Ao46 t162.length co46) : Value).ownBlock ∧ some k_ ≠ ((.slice Ao58 t140.length co58) : Value).ownBlock ∧ some k_ ≠ ((.slice Ao166 t186.length co166) : Value).ownBlock) (.slice Ao39 t119.length co39) t119) ∧ Aside0 (Kd.R (Kd.int .i64) 3 wc w.heap.size (fun k_ => some k_ ≠ ((.slice Ao39 t119.length co39) : Value).ownBlock ∧ some k_ ≠ ((.slice Ao58 t140.length co58) : Value).ownBlock ∧ some k_ ≠ ((.slice Ao166 t186.length co166) : Value).ownBlock) (.slice Ao46 t162.length co46) t162) ∧ Aside0 (Kd.R (Kd.int .i64) 3 wc w.heap.size (fun k_ => some k_ ≠ ((.slice Ao39 t119.length co39) : Value).ownBlock ∧ some k_ ≠ ((.slice Ao46 t162.length co46) : Value).ownBlock ∧ some k_ ≠ ((.slice Ao166 t186.length co166) : Value).ownBlock) (.slice Ao58 t140.length co58) t169) ∧ Aside0 (Kd.R (Kd.int .i64) 3 wc w.heap.size (fun k_ => some k_ ≠ ((.slice Ao39 t119.length co39) : Value).ownBlock ∧ some k_ ≠ ((.slice Ao46 t162.length co46) : Value).ownBlock ∧ some k_ ≠ ((.slice Ao58 t140.length co58) : Value).ownBlock) (.slice Ao166 t186.length co166) t186) ∧ Aside0 (wc.heap[gb101]? = some (.cells #[.int .i64 a0_0, .int .i64 a0_1, .int .i64 a0_2, (.slice A0_3 l0_3.length c0_3)] 38 (0, 0))) ∧ Aside0 (wc.heap[gb123]? = some (.cells #[.int .i64 t116, .int .i64 t117, .int .i64 t118, (.slice Ao39 t119.length co39)] 25 (0, 0))) ∧ Aside0 (wc.heap[gb130]? = some (.cells #[.int .i64 t124, .int .i64 t125, .int .i64 t126, (.slice Ao46 t162.length co46)] 25 (0, 0))) ∧ Aside0 (wc.heap[gb144]? = some (.cells #[.int .i64 t137, .int .i64 t138, .int .i64 t139, (.slice Ao58 t140.length co58)] 25 (0, 0))) ∧ Aside0 (wc.heap[gb190]? = some (.cells #[.int .i64 t183, .int .i64 t184, .int .i64 t185, (.slice Ao166 t186.length co166)] 25 (0, 0))) ∧ Aside0 (Below w.heap.size w wc))
     case first =>
      have H := HC142.out
      clear HC142
      replace H := Option.bind_eq_some_iff.mp H
      obtain ⟨t191, A1670, H⟩ := H
      replace H : (if t191 = true then (laws_FnExactFillRegion.j2 kj89 t168 (t189 != t122) t137 t138 t139 t169) else (laws_FnExactFillRegion.j2 kj89 t168 true t137 t138 t139 t169)) = some r := H
      have A167 := Aside0.mk A1670
      clear A1670
      by_cases c168 : t191 = true
      ·
       subst c168
       have H1 : (laws_FnExactFillRegion.j2 kj89 t168 (t189 != t122) t137 t138 t139 t169) = some r := by rw [if_pos rfl] at H; exact H
       clear H
       have H := H1
       clear H1
       have H' := Aside0.mk H
       clear H
       have hnb169 := NB190_101.out
       have hnc169 := NB101_190.out
       have hnb170 := NB190_123.out
       have hnc170 := NB123_190.out
       have hnb171 := NB190_130.out
       have hnc171 := NB130_190.out
       have hnb172 := NB190_144.out
       have hnc172 := NB144_190.out
       obtain ⟨hcz173_0, hcz173_1, hcz173_2, hcz173_3, hfz173_0, hfz173_1, hfz173_2, hfz173_3⟩ := blk4_ BK190.out
       have hnb174 := NB123_101.out
       have hnc174 := NB101_123.out
       have hnb175 := NB123_130.out
       have hnc175 := NB130_123.out
       have hnb176 := NB123_144.out
       have hnc176 := NB144_123.out
       obtain ⟨hcz177_0, hcz177_1, hcz177_2, hcz177_3, hfz177_0, hfz177_1, hfz177_2, hfz177_3⟩ := blk4_ BK123.out
       go_wp2_with (first | ((with_reducible refine gate_callee (f := 22) rfl ?_); refine goesL_ (some 125) rfl rfl Try.func22 (by kernel_rfl) rfl #[.agg #[.int .i64 t183, .int .i64 t184, .int .i64 t185, .slice Ao166 t186.length co166], .agg #[.int .i64 t116, .int .i64 t117, .int .i64 t118, .slice Ao39 t119.length co39]] rfl (by simp only [List.map_toArray, List.map_cons, List.map_nil]; rfl) ?_; (with_reducible refine (laws_eqImage.calls kj89 t183 t184 t185 _ _ t186 t116 t117 t118 _ _ t119 true _ ?side1 ?side2 ?side3 ?side4 A167.out).mono ?_); (case side1 => refine (Kd.R_reads' (e := 3) (base := w.heap.size) (ok := fun k_ => (((((True ∧ some k_ ≠ (.slice Ao39 t119.length co39 : Value).ownBlock) ∧ some k_ ≠ (.slice Ao46 t162.length co46 : Value).ownBlock) ∧ some k_ ≠ (.slice Ao58 t140.length co58 : Value).ownBlock) ∧ some k_ ≠ (.slice Ao156 t174.length co156 : Value).ownBlock) ∧ some k_ ≠ (.slice Ao158 t180.length co158 : Value).ownBlock)) (n := t186.length) (c := co166) ?_).2.2; exact (by exact (R4_ HO188.out BK190.out (by decide) _ _ _ _))); (case side2 => exact (Kd.R_reads' HO188.out).2.1); (case side3 => refine (Kd.R_reads' (e := 3) (base := w.heap.size) (ok := fun k_ => ((((some k_ ≠ (.slice Ao46 t162.length co46 : Value).ownBlock ∧ some k_ ≠ (.slice Ao58 t140.length co58 : Value).ownBlock) ∧ some k_ ≠ (.slice Ao156 t174.length co156 : Value).ownBlock) ∧ some k_ ≠ (.slice Ao158 t180.length co158 : Value).ownBlock) ∧ some k_ ≠ (.slice Ao166 t186.length co166 : Value).ownBlock)) (n := t119.length) (c := co39) ?_).2.2; exact (by exact (R4_ HO_124003.out BK190.out (by decide) _ _ _ _))); (case side4 => exact (Kd.R_reads' HO_124003.out).2.1); rintro e w178 ⟨rfl, hb⟩; refine ⟨_, rfl, ?_⟩; replace HO_124003 := am_ (Kd.R_below (by exact (R4_ HO_124003.out BK190.out (by decide) _ _ _ _)) hb); replace HO_131003 := am_ (Kd.R_below (by exact (R4_ HO_131003.out BK190.out (by decide) _ _ _ _)) hb); replace HO_145003 := am_ (Kd.R_below (by exact (R4_ HO_145003.out BK190.out (by decide) _ _ _ _)) hb); replace HO176 := am_ (Kd.R_below (by exact (R4_ HO176.out BK190.out (by decide) _ _ _ _)) hb); replace HO179 := am_ (Kd.R_below (by exact (R4_ HO179.out BK190.out (by decide) _ _ _ _)) hb); replace HO182 := am_ (Kd.R_below (by exact (R4_ HO182.out BK190.out (by decide) _ _ _ _)) hb); replace HO188 := am_ (Kd.R_below (by exact (R4_ HO188.out BK190.out (by decide) _ _ _ _)) hb); replace BK101 := am_ (blk_below (by exact far4_ BK101.out NB101_190.out _ _ _ _) hb); replace BK123 := am_ (blk_below (by exact far4_ BK123.out NB123_190.out _ _ _ _) hb); replace BK130 := am_ (blk_below (by exact far4_ BK130.out NB130_190.out _ _ _ _) hb); replace BK144 := am_ (blk_below (by exact far4_ BK144.out NB144_190.out _ _ _ _) hb); replace BK190 := am_ (blk_below (by exact put4_ BK190.out _ _ _ _) hb); replace HB := am_ (below_step (by repeat (first | (with_reducible first | exact HB.out | apply below_alloc | apply pw_below_drewN | apply below_drew1 | refine below_set ?_ GE101.out | refine below_set ?_ GE123.out | refine below_set ?_ GE130.out | refine below_set ?_ GE144.out | refine below_set ?_ GE190.out) | exact HB.out)) hb); (try clear hb); (try clear hb2); (try clear hk); (try clear hi)))
       go_meet
       case rel => exact ⟨_, ((t189 != t122)), (by first | rfl | (simp; done) | (simp [*]; done)), H', ⟨by have := HJ23.out; have := HJ89.out; first | omega | exact Nat.le_refl _⟩, ⟨by (try simp only [hl131003_89]); (with_reducible repeat (first | apply Kd.R_alloc | apply Kd.R_drewN | apply Kd.R_drew)); exact Kd.R_mono HO_124003.out (fun _ hk => ⟨hk.1.1.1.1, ⟨hk.1.1.1.2, hk.2⟩⟩)⟩, ⟨by (try simp only [hl131003_89]); (with_reducible repeat (first | apply Kd.R_alloc | apply Kd.R_drewN | apply Kd.R_drew)); exact Kd.R_mono HO_131003.out (fun _ hk => ⟨hk.1.1.1.1, ⟨hk.1.1.1.2, hk.2⟩⟩)⟩, ⟨by (try simp only [hl131003_89]); (with_reducible repeat (first | apply Kd.R_alloc | apply Kd.R_drewN | apply Kd.R_drew)); exact Kd.R_mono HO_145003.out (fun _ hk => ⟨hk.1.1.1.1, ⟨hk.1.1.1.2, hk.2⟩⟩)⟩, ⟨by (try simp only [hl131003_89]); (with_reducible repeat (first | apply Kd.R_alloc | apply Kd.R_drewN | apply Kd.R_drew)); exact Kd.R_mono HO188.out (fun _ hk => ⟨hk.1.1.1.1.2, ⟨hk.1.1.1.2, hk.1.1.2⟩⟩)⟩, ⟨by (try simp only [hl131003_89]); (with_reducible repeat (first | refine blk_drewN ?_ _ | refine blk_drew ?_ | refine blk_alloc ?_ _)); exact BK101.out⟩, ⟨by (try simp only [hl131003_89]); (with_reducible repeat (first | refine blk_drewN ?_ _ | refine blk_drew ?_ | refine blk_alloc ?_ _)); exact BK123.out⟩, ⟨by (try simp only [hl131003_89]); (with_reducible repeat (first | refine blk_drewN ?_ _ | refine blk_drew ?_ | refine blk_alloc ?_ _)); exact BK130.out⟩, ⟨by (try simp only [hl131003_89]); (with_reducible repeat (first | refine blk_drewN ?_ _ | refine blk_drew ?_ | refine blk_alloc ?_ _)); exact BK144.out⟩, ⟨by (try simp only [hl131003_89]); (with_reducible repeat (first | refine blk_drewN ?_ _ | refine blk_drew ?_ | refine blk_alloc ?_ _)); exact BK190.out⟩, ⟨by repeat (first | (with_reducible first | exact HB.out | apply below_alloc | apply pw_below_drewN | apply below_drew1 | refine below_set ?_ GE101.out | refine below_set ?_ GE123.out | refine below_set ?_ GE130.out | refine below_set ?_ GE144.out | refine below_set ?_ GE190.out) | exact HB.out)⟩⟩
      replace c168 := Bool.eq_false_iff.mpr c168
      subst c168
      have H1 : (laws_FnExactFillRegion.j2 kj89 t168 true t137 t138 t139 t169) = some r := by rw [if_neg (show ¬ (false = true) by decide)] at H; exact H
      clear H
      have H := H1
      clear H1
      have H' := Aside0.mk H
      clear H
      have hnb179 := NB190_101.out
      have hnc179 := NB101_190.out
      have hnb180 := NB190_123.out
      have hnc180 := NB123_190.out
      have hnb181 := NB190_130.out
      have hnc181 := NB130_190.out
      have hnb182 := NB190_144.out
      have hnc182 := NB144_190.out
      obtain ⟨hcz183_0, hcz183_1, hcz183_2, hcz183_3, hfz183_0, hfz183_1, hfz183_2, hfz183_3⟩ := blk4_ BK190.out
      have hnb184 := NB123_101.out
      have hnc184 := NB101_123.out
      have hnb185 := NB123_130.out
      have hnc185 := NB130_123.out
      have hnb186 := NB123_144.out
      have hnc186 := NB144_123.out
      obtain ⟨hcz187_0, hcz187_1, hcz187_2, hcz187_3, hfz187_0, hfz187_1, hfz187_2, hfz187_3⟩ := blk4_ BK123.out
      go_wp2_with (first | ((with_reducible refine gate_callee (f := 22) rfl ?_); refine goesL_ (some 125) rfl rfl Try.func22 (by kernel_rfl) rfl #[.agg #[.int .i64 t183, .int .i64 t184, .int .i64 t185, .slice Ao166 t186.length co166], .agg #[.int .i64 t116, .int .i64 t117, .int .i64 t118, .slice Ao39 t119.length co39]] rfl (by simp only [List.map_toArray, List.map_cons, List.map_nil]; rfl) ?_; (with_reducible refine (laws_eqImage.calls kj89 t183 t184 t185 _ _ t186 t116 t117 t118 _ _ t119 false _ ?side1 ?side2 ?side3 ?side4 A167.out).mono ?_); (case side1 => refine (Kd.R_reads' (e := 3) (base := w.heap.size) (ok := fun k_ => (((((True ∧ some k_ ≠ (.slice Ao39 t119.length co39 : Value).ownBlock) ∧ some k_ ≠ (.slice Ao46 t162.length co46 : Value).ownBlock) ∧ some k_ ≠ (.slice Ao58 t140.length co58 : Value).ownBlock) ∧ some k_ ≠ (.slice Ao156 t174.length co156 : Value).ownBlock) ∧ some k_ ≠ (.slice Ao158 t180.length co158 : Value).ownBlock)) (n := t186.length) (c := co166) ?_).2.2; exact (by exact (R4_ HO188.out BK190.out (by decide) _ _ _ _))); (case side2 => exact (Kd.R_reads' HO188.out).2.1); (case side3 => refine (Kd.R_reads' (e := 3) (base := w.heap.size) (ok := fun k_ => ((((some k_ ≠ (.slice Ao46 t162.length co46 : Value).ownBlock ∧ some k_ ≠ (.slice Ao58 t140.length co58 : Value).ownBlock) ∧ some k_ ≠ (.slice Ao156 t174.length co156 : Value).ownBlock) ∧ some k_ ≠ (.slice Ao158 t180.length co158 : Value).ownBlock) ∧ some k_ ≠ (.slice Ao166 t186.length co166 : Value).ownBlock)) (n := t119.length) (c := co39) ?_).2.2; exact (by exact (R4_ HO_124003.out BK190.out (by decide) _ _ _ _))); (case side4 => exact (Kd.R_reads' HO_124003.out).2.1); rintro e w188 ⟨rfl, hb⟩; refine ⟨_, rfl, ?_⟩; replace HO_124003 := am_ (Kd.R_below (by exact (R4_ HO_124003.out BK190.out (by decide) _ _ _ _)) hb); replace HO_131003 := am_ (Kd.R_below (by exact (R4_ HO_131003.out BK190.out (by decide) _ _ _ _)) hb); replace HO_145003 := am_ (Kd.R_below (by exact (R4_ HO_145003.out BK190.out (by decide) _ _ _ _)) hb); replace HO176 := am_ (Kd.R_below (by exact (R4_ HO176.out BK190.out (by decide) _ _ _ _)) hb); replace HO179 := am_ (Kd.R_below (by exact (R4_ HO179.out BK190.out (by decide) _ _ _ _)) hb); replace HO182 := am_ (Kd.R_below (by exact (R4_ HO182.out BK190.out (by decide) _ _ _ _)) hb); replace HO188 := am_ (Kd.R_below (by exact (R4_ HO188.out BK190.out (by decide) _ _ _ _)) hb); replace BK101 := am_ (blk_below (by exact far4_ BK101.out NB101_190.out _ _ _ _) hb); replace BK123 := am_ (blk_below (by exact far4_ BK123.out NB123_190.out _ _ _ _) hb); replace BK130 := am_ (blk_below (by exact far4_ BK130.out NB130_190.out _ _ _ _) hb); replace BK144 := am_ (blk_below (by exact far4_ BK144.out NB144_190.out _ _ _ _) hb); replace BK190 := am_ (blk_below (by exact put4_ BK190.out _ _ _ _) hb); replace HB := am_ (below_step (by repeat (first | (with_reducible first | exact HB.out | apply below_alloc | apply pw_below_drewN | apply below_drew1 | refine below_set ?_ GE101.out | refine below_set ?_ GE123.out | refine below_set ?_ GE130.out | refine below_set ?_ GE144.out | refine below_set ?_ GE190.out) | exact HB.out)) hb); (try clear hb); (try clear hb2); (try clear hk); (try clear hi)))
      go_meet
      case rel => exact ⟨_, (true), (by first | rfl | (simp; done) | (simp [*]; done)), H', ⟨by have := HJ23.out; have := HJ89.out; first | omega | exact Nat.le_refl _⟩, ⟨by (try simp only [hl131003_89]); (with_reducible repeat (first | apply Kd.R_alloc | apply Kd.R_drewN | apply Kd.R_drew)); exact Kd.R_mono HO_124003.out (fun _ hk => ⟨hk.1.1.1.1, ⟨hk.1.1.1.2, hk.2⟩⟩)⟩, ⟨by (try simp only [hl131003_89]); (with_reducible repeat (first | apply Kd.R_alloc | apply Kd.R_drewN | apply Kd.R_drew)); exact Kd.R_mono HO_131003.out (fun _ hk => ⟨hk.1.1.1.1, ⟨hk.1.1.1.2, hk.2⟩⟩)⟩, ⟨by (try simp only [hl131003_89]); (with_reducible repeat (first | apply Kd.R_alloc | apply Kd.R_drewN | apply Kd.R_drew)); exact Kd.R_mono HO_145003.out (fun _ hk => ⟨hk.1.1.1.1, ⟨hk.1.1.1.2, hk.2⟩⟩)⟩, ⟨by (try simp only [hl131003_89]); (with_reducible repeat (first | apply Kd.R_alloc | apply Kd.R_drewN | apply Kd.R_drew)); exact Kd.R_mono HO188.out (fun _ hk => ⟨hk.1.1.1.1.2, ⟨hk.1.1.1.2, hk.1.1.2⟩⟩)⟩, ⟨by (try simp only [hl131003_89]); (with_reducible repeat (first | refine blk_drewN ?_ _ | refine blk_drew ?_ | refine blk_alloc ?_ _)); exact BK101.out⟩, ⟨by (try simp only [hl131003_89]); (with_reducible repeat (first | refine blk_drewN ?_ _ | refine blk_drew ?_ | refine blk_alloc ?_ _)); exact BK123.out⟩, ⟨by (try simp only [hl131003_89]); (with_reducible repeat (first | refine blk_drewN ?_ _ | refine blk_drew ?_ | refine blk_alloc ?_ _)); exact BK130.out⟩, ⟨by (try simp only [hl131003_89]); (with_reducible repeat (first | refine blk_drewN ?_ _ | refine blk_drew ?_ | refine blk_alloc ?_ _)); exact BK144.out⟩, ⟨by (try simp only [hl131003_89]); (with_reducible repeat (first | refine blk_drewN ?_ _ | refine blk_drew ?_ | refine blk_alloc ?_ _)); exact BK190.out⟩, ⟨by repeat (first | (with_reducible first | exact HB.out | apply below_alloc | apply pw_below_drewN | apply below_drew1 | refine below_set ?_ GE101.out | refine below_set ?_ GE123.out | refine below_set ?_ GE130.out | refine below_set ?_ GE144.out | refine below_set ?_ GE190.out) | exact HB.out)⟩⟩
     case rest =>
      clear HC142
      try clear c1
      try clear c2
      try clear p2
      try clear c3
      try clear c4
      try clear c4b0
      try clear c4b1
      try clear c5
      try clear c6
      try clear c7
      try clear c7b0
      try clear c8
      try clear c10
      try clear c11
      try clear c12
      try clear c12b0
      try clear c13
      try clear c14
      try clear c15
      try clear c16
      try clear c17
      try clear c18
      try clear c19
      try clear c20
      try clear c21
      try clear c22
      try clear c23
      try clear c24
      try clear c25
      try clear c26
      try clear c27
      try clear c28
      try clear c29
      try clear c30
      try clear c31
      try clear c37
      try clear c43
      try clear c44
      try clear c54
      try clear c55
      try clear c56
      try clear c60
      try clear c61
      try clear c62
      try clear c63
      try clear c65
      try clear c66
      try clear c69
      try clear c70
      try clear c71
      try clear c73
      try clear c74
      try clear c77
      try clear c80
      try clear c83
      try clear c86
      try clear c100
      try clear c101
      try clear c102
      try clear c107
      try clear c107b0
      try clear c109
      try clear c110
      try clear c111
      try clear c112
      try clear c114
      try clear c115
      try clear c118
      try clear c119
      try clear c120
      try clear c122
      try clear c123
      try clear c126
      try clear c129
      try clear c129b0
      try clear c130
      try clear c131
      try clear c132
      try clear c137
      try clear c137b0
      try clear c137b1
      try clear c143
      try clear c144
      try clear c145
      try clear c150
      try clear c151
      try clear c161
      try clear c162
      try clear c163
      try clear c164
      try clear c168
      try clear c169
      try clear c170
      try clear c171
      try clear c172
      try clear c174
      try clear c175
      try clear c176
      try clear c179
      try clear c180
      try clear c181
      try clear c182
      try clear c184
      try clear c185
      try clear c186
      try clear hcz103_0
      try clear hcz103_1
      try clear hcz103_2
      try clear hcz103_3
      try clear hcz113_0
      try clear hcz113_1
      try clear hcz113_2
      try clear hcz113_3
      try clear hcz116_0
      try clear hcz116_1
      try clear hcz116_2
      try clear hcz116_3
      try clear hcz121_0
      try clear hcz121_1
      try clear hcz121_2
      try clear hcz121_3
      try clear hcz124_0
      try clear hcz124_1
      try clear hcz124_2
      try clear hcz124_3
      try clear hcz133_0
      try clear hcz133_1
      try clear hcz133_2
      try clear hcz133_3
      try clear hcz135_0
      try clear hcz135_1
      try clear hcz135_2
      try clear hcz135_3
      try clear hcz146_0
      try clear hcz146_1
      try clear hcz146_2
      try clear hcz146_3
      try clear hcz148_0
      try clear hcz148_1
      try clear hcz148_2
      try clear hcz148_3
      try clear hcz14_0
      try clear hcz14_1
      try clear hcz14_2
      try clear hcz14_3
      try clear hcz152_0
      try clear hcz152_1
      try clear hcz152_2
      try clear hcz152_3
      try clear hcz165_0
      try clear hcz165_1
      try clear hcz165_2
      try clear hcz165_3
      try clear hcz173_0
      try clear hcz173_1
      try clear hcz173_2
      try clear hcz173_3
      try clear hcz177_0
      try clear hcz177_1
      try clear hcz177_2
      try clear hcz177_3
      try clear hcz183_0
      try clear hcz183_1
      try clear hcz183_2
      try clear hcz183_3
      try clear hcz187_0
      try clear hcz187_1
      try clear hcz187_2
      try clear hcz187_3
      try clear hcz26_0
      try clear hcz26_1
      try clear hcz26_2
      try clear hcz26_3
      try clear hcz28_0
      try clear hcz28_1
      try clear hcz28_2
      try clear hcz28_3
      try clear hcz38_0
      try clear hcz38_1
      try clear hcz38_2
      try clear hcz38_3
      try clear hcz40_0
      try clear hcz40_1
      try clear hcz40_2
      try clear hcz40_3
      try clear hcz45_0
      try clear hcz45_1
      try clear hcz45_2
      try clear hcz45_3
      try clear hcz49_0
      try clear hcz49_1
      try clear hcz49_2
      try clear hcz49_3
      try clear hcz57_0
      try clear hcz57_1
      try clear hcz57_2
      try clear hcz57_3
      try clear hcz64_0
      try clear hcz64_1
      try clear hcz64_2
      try clear hcz64_3
      try clear hcz67_0
      try clear hcz67_1
      try clear hcz67_2
      try clear hcz67_3
      try clear hcz72_0
      try clear hcz72_1
      try clear hcz72_2
      try clear hcz72_3
      try clear hcz75_0
      try clear hcz75_1
      try clear hcz75_2
      try clear hcz75_3
      try clear hcz9_0
      try clear hcz9_1
      try clear hcz9_2
      try clear hcz9_3
      try clear hfz103_0
      try clear hfz103_1
      try clear hfz103_2
      try clear hfz103_3
      try clear hfz113_0
      try clear hfz113_1
      try clear hfz113_2
      try clear hfz113_3
      try clear hfz116_0
      try clear hfz116_1
      try clear hfz116_2
      try clear hfz116_3
      try clear hfz121_0
      try clear hfz121_1
      try clear hfz121_2
      try clear hfz121_3
      try clear hfz124_0
      try clear hfz124_1
      try clear hfz124_2
      try clear hfz124_3
      try clear hfz133_0
      try clear hfz133_1
      try clear hfz133_2
      try clear hfz133_3
      try clear hfz135_0
      try clear hfz135_1
      try clear hfz135_2
      try clear hfz135_3
      try clear hfz146_0
      try clear hfz146_1
      try clear hfz146_2
      try clear hfz146_3
      try clear hfz148_0
      try clear hfz148_1
      try clear hfz148_2
      try clear hfz148_3
      try clear hfz14_0
      try clear hfz14_1
      try clear hfz14_2
      try clear hfz14_3
      try clear hfz152_0
      try clear hfz152_1
      try clear hfz152_2
      try clear hfz152_3
      try clear hfz165_0
      try clear hfz165_1
      try clear hfz165_2
      try clear hfz165_3
      try clear hfz173_0
      try clear hfz173_1
      try clear hfz173_2
      try clear hfz173_3
      try clear hfz177_0
      try clear hfz177_1
      try clear hfz177_2
      try clear hfz177_3
      try clear hfz183_0
      try clear hfz183_1
      try clear hfz183_2
      try clear hfz183_3
      try clear hfz187_0
      try clear hfz187_1
      try clear hfz187_2
      try clear hfz187_3
      try clear hfz26_0
      try clear hfz26_1
      try clear hfz26_2
      try clear hfz26_3
      try clear hfz28_0
      try clear hfz28_1
      try clear hfz28_2
      try clear hfz28_3
      try clear hfz38_0
      try clear hfz38_1
      try clear hfz38_2
      try clear hfz38_3
      try clear hfz40_0
      try clear hfz40_1
      try clear hfz40_2
      try clear hfz40_3
      try clear hfz45_0
      try clear hfz45_1
      try clear hfz45_2
      try clear hfz45_3
      try clear hfz49_0
      try clear hfz49_1
      try clear hfz49_2
      try clear hfz49_3
      try clear hfz57_0
      try clear hfz57_1
      try clear hfz57_2
      try clear hfz57_3
      try clear hfz64_0
      try clear hfz64_1
      try clear hfz64_2
      try clear hfz64_3
      try clear hfz67_0
      try clear hfz67_1
      try clear hfz67_2
      try clear hfz67_3
      try clear hfz72_0
      try clear hfz72_1
      try clear hfz72_2
      try clear hfz72_3
      try clear hfz75_0
      try clear hfz75_1
      try clear hfz75_2
      try clear hfz75_3
      try clear hfz9_0
      try clear hfz9_1
      try clear hfz9_2
      try clear hfz9_3
      try clear p2
      obtain ⟨kq, x131_141, rfl, HA, HJ141, HO_124003, HO_131003, HO_145003, HO_191003, BK101, BK123, BK130, BK144, BK190, HB⟩ := hcut
      have hl145003_141 := (Kd.R_reads' HO_145003.out).1
      rw [hl145003_141] at HO_145003
      (try simp only [hl145003_141])
      (try simp only [hl145003_141] at BK101)
      (try simp only [hl145003_141] at BK123)
      (try simp only [hl145003_141] at BK130)
      (try simp only [hl145003_141] at BK144)
      (try simp only [hl145003_141] at BK190)
      (try simp only [hl145003_141] at HO_124003)
      (try simp only [hl145003_141] at HO_131003)
      (try simp only [hl145003_141] at HO_191003)
      cases kq with
      | zero => exact absurd HA.out (by simp [laws_FnExactFillRegion.j2])
      | succ kj141 =>
       have H := HA.out
       clear HA
       simp only [laws_FnExactFillRegion.j2] at H
       by_cases c189 : x131_141 = true
       ·
        subst c189
        have H1 : (some false) = some r := by rw [if_pos rfl] at H; exact H
        clear H
        have H := H1
        clear H1
        obtain rfl := Option.some.inj H
        go_wp2
        go_ret
        exact ⟨by first | rfl | (simp [errW_none, errW_some] <;> rfl) | (simp [*, errW_none, errW_some] <;> rfl), by repeat (first | (with_reducible first | exact HB.out | apply below_alloc | apply pw_below_drewN | apply below_drew1 | refine below_set ?_ GE101.out | refine below_set ?_ GE123.out | refine below_set ?_ GE130.out | refine below_set ?_ GE144.out | refine below_set ?_ GE190.out) | exact HB.out)⟩
       replace c189 := Bool.eq_false_iff.mpr c189
       subst c189
       have H1 : ((laws_heldImage.f kj141 t137 t138 t139 t169 1).bind fun t192 => (if t192 < 0 then (some false) else (if t192 = t168 then (some true) else (some false)))) = some r := by rw [if_neg (show ¬ (false = true) by decide)] at H; exact H
       clear H
       have H := H1
       clear H1
       replace H := Option.bind_eq_some_iff.mp H
       obtain ⟨t192, A1900, H⟩ := H
       replace H : (if t192 < 0 then (some false) else (if t192 = t168 then (some true) else (some false))) = some r := H
       have A190 := Aside0.mk A1900
       clear A1900
       by_cases c191 : t192 < 0
       ·
        rw [if_pos c191] at H
        have c191b0 : decide (t192 < 0) = true := decide_eq_true c191
        clear c191
        obtain rfl := Option.some.inj H
        have hnb192 := NB144_101.out
        have hnc192 := NB101_144.out
        have hnb193 := NB144_123.out
        have hnc193 := NB123_144.out
        have hnb194 := NB144_130.out
        have hnc194 := NB130_144.out
        have hnb195 := NB144_190.out
        have hnc195 := NB190_144.out
        obtain ⟨hcz196_0, hcz196_1, hcz196_2, hcz196_3, hfz196_0, hfz196_1, hfz196_2, hfz196_3⟩ := blk4_ BK144.out
        go_wp2_with (first | ((with_reducible refine gate_callee (f := 26) rfl ?_); refine goesL_ (some 134) rfl rfl Try.func26 (by kernel_rfl) rfl #[.agg #[.int .i64 t137, .int .i64 t138, .int .i64 t139, .slice Ao58 t169.length co58], .int .i64 1] rfl (by simp only [List.map_toArray, List.map_cons, List.map_nil]; rfl) ?_; (with_reducible refine (laws_heldImage.calls kj141 t137 t138 t139 _ _ t169 1 t192 _ ?side1 ?side2 A190.out).mono ?_); (case side1 => repeat (first | exact (Kd.R_reads' HO_145003.out).2.2 | (with_reducible refine Kd.C_alloc ?_ _) | (with_reducible refine Kd.C_drewN ?_ _) | (with_reducible refine Kd.C_drew ?_))); (case side2 => exact (Kd.R_reads' HO_145003.out).2.1); rintro e w197 ⟨rfl, hb⟩; refine ⟨_, rfl, ?_⟩; replace HO_124003 := am_ (Kd.R_below (by exact HO_124003.out) hb); replace HO_131003 := am_ (Kd.R_below (by exact HO_131003.out) hb); replace HO_145003 := am_ (Kd.R_below (by exact HO_145003.out) hb); replace HO_191003 := am_ (Kd.R_below (by exact HO_191003.out) hb); replace BK101 := am_ (blk_below (by exact BK101.out) hb); replace BK123 := am_ (blk_below (by exact BK123.out) hb); replace BK130 := am_ (blk_below (by exact BK130.out) hb); replace BK144 := am_ (blk_below (by exact BK144.out) hb); replace BK190 := am_ (blk_below (by exact BK190.out) hb); replace HB := am_ (below_step (by repeat (first | (with_reducible first | exact HB.out | apply below_alloc | apply pw_below_drewN | apply below_drew1 | refine below_set ?_ GE101.out | refine below_set ?_ GE123.out | refine below_set ?_ GE130.out | refine below_set ?_ GE144.out | refine below_set ?_ GE190.out) | exact HB.out)) hb); (try clear hb); (try clear hb2); (try clear hk); (try clear hi)))
        go_ret
        exact ⟨by first | rfl | (simp [errW_none, errW_some] <;> rfl) | (simp [*, errW_none, errW_some] <;> rfl), by repeat (first | (with_reducible first | exact HB.out | apply below_alloc | apply pw_below_drewN | apply below_drew1 | refine below_set ?_ GE101.out | refine below_set ?_ GE123.out | refine below_set ?_ GE130.out | refine below_set ?_ GE144.out | refine below_set ?_ GE190.out) | exact HB.out)⟩
       rw [if_neg c191] at H
       have c191b0 : decide (t192 < 0) = false := decide_eq_false c191
       clear c191
       by_cases c198 : t192 = t168
       ·
        rw [if_pos c198] at H
        have c198b0 : (t192 == t168) = true := beq_iff_eq.mpr c198
        have c198b1 : (t192 != t168) = false := bne_eq_false_iff_eq.mpr c198
        clear c198
        obtain rfl := Option.some.inj H
        have hnb199 := NB144_101.out
        have hnc199 := NB101_144.out
        have hnb200 := NB144_123.out
        have hnc200 := NB123_144.out
        have hnb201 := NB144_130.out
        have hnc201 := NB130_144.out
        have hnb202 := NB144_190.out
        have hnc202 := NB190_144.out
        obtain ⟨hcz203_0, hcz203_1, hcz203_2, hcz203_3, hfz203_0, hfz203_1, hfz203_2, hfz203_3⟩ := blk4_ BK144.out
        go_wp2_with (first | ((with_reducible refine gate_callee (f := 26) rfl ?_); refine goesL_ (some 134) rfl rfl Try.func26 (by kernel_rfl) rfl #[.agg #[.int .i64 t137, .int .i64 t138, .int .i64 t139, .slice Ao58 t169.length co58], .int .i64 1] rfl (by simp only [List.map_toArray, List.map_cons, List.map_nil]; rfl) ?_; (with_reducible refine (laws_heldImage.calls kj141 t137 t138 t139 _ _ t169 1 t192 _ ?side1 ?side2 A190.out).mono ?_); (case side1 => repeat (first | exact (Kd.R_reads' HO_145003.out).2.2 | (with_reducible refine Kd.C_alloc ?_ _) | (with_reducible refine Kd.C_drewN ?_ _) | (with_reducible refine Kd.C_drew ?_))); (case side2 => exact (Kd.R_reads' HO_145003.out).2.1); rintro e w204 ⟨rfl, hb⟩; refine ⟨_, rfl, ?_⟩; replace HO_124003 := am_ (Kd.R_below (by exact HO_124003.out) hb); replace HO_131003 := am_ (Kd.R_below (by exact HO_131003.out) hb); replace HO_145003 := am_ (Kd.R_below (by exact HO_145003.out) hb); replace HO_191003 := am_ (Kd.R_below (by exact HO_191003.out) hb); replace BK101 := am_ (blk_below (by exact BK101.out) hb); replace BK123 := am_ (blk_below (by exact BK123.out) hb); replace BK130 := am_ (blk_below (by exact BK130.out) hb); replace BK144 := am_ (blk_below (by exact BK144.out) hb); replace BK190 := am_ (blk_below (by exact BK190.out) hb); replace HB := am_ (below_step (by repeat (first | (with_reducible first | exact HB.out | apply below_alloc | apply pw_below_drewN | apply below_drew1 | refine below_set ?_ GE101.out | refine below_set ?_ GE123.out | refine below_set ?_ GE130.out | refine below_set ?_ GE144.out | refine below_set ?_ GE190.out) | exact HB.out)) hb); (try clear hb); (try clear hb2); (try clear hk); (try clear hi)))
        go_ret
        exact ⟨by first | rfl | (simp [errW_none, errW_some] <;> rfl) | (simp [*, errW_none, errW_some] <;> rfl), by repeat (first | (with_reducible first | exact HB.out | apply below_alloc | apply pw_below_drewN | apply below_drew1 | refine below_set ?_ GE101.out | refine below_set ?_ GE123.out | refine below_set ?_ GE130.out | refine below_set ?_ GE144.out | refine below_set ?_ GE190.out) | exact HB.out)⟩
       rw [if_neg c198] at H
       have c198b0 : (t192 == t168) = false := beq_eq_false_iff_ne.mpr c198
       have c198b1 : (t192 != t168) = true := bne_iff_ne.mpr c198
       obtain rfl := Option.some.inj H
       have hnb205 := NB144_101.out
       have hnc205 := NB101_144.out
       have hnb206 := NB144_123.out
       have hnc206 := NB123_144.out
       have hnb207 := NB144_130.out
       have hnc207 := NB130_144.out
       have hnb208 := NB144_190.out
       have hnc208 := NB190_144.out
       obtain ⟨hcz209_0, hcz209_1, hcz209_2, hcz209_3, hfz209_0, hfz209_1, hfz209_2, hfz209_3⟩ := blk4_ BK144.out
       go_wp2_with (first | ((with_reducible refine gate_callee (f := 26) rfl ?_); refine goesL_ (some 134) rfl rfl Try.func26 (by kernel_rfl) rfl #[.agg #[.int .i64 t137, .int .i64 t138, .int .i64 t139, .slice Ao58 t169.length co58], .int .i64 1] rfl (by simp only [List.map_toArray, List.map_cons, List.map_nil]; rfl) ?_; (with_reducible refine (laws_heldImage.calls kj141 t137 t138 t139 _ _ t169 1 t192 _ ?side1 ?side2 A190.out).mono ?_); (case side1 => repeat (first | exact (Kd.R_reads' HO_145003.out).2.2 | (with_reducible refine Kd.C_alloc ?_ _) | (with_reducible refine Kd.C_drewN ?_ _) | (with_reducible refine Kd.C_drew ?_))); (case side2 => exact (Kd.R_reads' HO_145003.out).2.1); rintro e w210 ⟨rfl, hb⟩; refine ⟨_, rfl, ?_⟩; replace HO_124003 := am_ (Kd.R_below (by exact HO_124003.out) hb); replace HO_131003 := am_ (Kd.R_below (by exact HO_131003.out) hb); replace HO_145003 := am_ (Kd.R_below (by exact HO_145003.out) hb); replace HO_191003 := am_ (Kd.R_below (by exact HO_191003.out) hb); replace BK101 := am_ (blk_below (by exact BK101.out) hb); replace BK123 := am_ (blk_below (by exact BK123.out) hb); replace BK130 := am_ (blk_below (by exact BK130.out) hb); replace BK144 := am_ (blk_below (by exact BK144.out) hb); replace BK190 := am_ (blk_below (by exact BK190.out) hb); replace HB := am_ (below_step (by repeat (first | (with_reducible first | exact HB.out | apply below_alloc | apply pw_below_drewN | apply below_drew1 | refine below_set ?_ GE101.out | refine below_set ?_ GE123.out | refine below_set ?_ GE130.out | refine below_set ?_ GE144.out | refine below_set ?_ GE190.out) | exact HB.out)) hb); (try clear hb); (try clear hb2); (try clear hk); (try clear hi)))
       go_ret
       exact ⟨by first | rfl | (simp [errW_none, errW_some] <;> rfl) | (simp [*, errW_none, errW_some] <;> rfl), by repeat (first | (with_reducible first | exact HB.out | apply below_alloc | apply pw_below_drewN | apply below_drew1 | refine below_set ?_ GE101.out | refine below_set ?_ GE123.out | refine below_set ?_ GE130.out | refine below_set ?_ GE144.out | refine below_set ?_ GE190.out) | exact HB.out)⟩

/-- THE ONE PURE STATEMENT of laws_FnExactFillRegion. -/
def laws_FnExactFillRegion.Pure : Prop := ∀ (a0_0 : Int) (a0_1 : Int) (a0_2 : Int) (l0_3 : List Int) (l1 : List (S103)) (l2 : List Int), (Lit.int .i64 a0_0).wf = true → (Lit.int .i64 a0_1).wf = true → (Lit.int .i64 a0_2).wf = true → l0_3.length ≤ maxLen → (∀ x ∈ l0_3, (Lit.int .i64 x).wf = true) → l1.length ≤ maxLen → (∀ x ∈ l1, (Lit.int .i64 x.f0).wf = true ∧ (Lit.int .i64 x.f1).wf = true ∧ (Lit.int .i64 x.f2).wf = true) → l2.length ≤ maxLen → (∀ x ∈ l2, (Lit.int .i64 x).wf = true) → ∃ k, laws_FnExactFillRegion.f k a0_0 a0_1 a0_2 l0_3 l1 l2 = some true
theorem laws_FnExactFillRegion.walk (P : laws_FnExactFillRegion.Pure) (a0_0 : Int) (a0_1 : Int) (a0_2 : Int) (A0_3 : Option Addr) (c0_3 : Nat) (l0_3 : List Int) (A1 : Option Addr) (c1 : Nat) (l1 : List (S103)) (A2 : Option Addr) (c2 : Nat) (l2 : List Int) (w : World) (w0_0 : (Lit.int .i64 a0_0).wf = true) (w0_1 : (Lit.int .i64 a0_1).wf = true) (w0_2 : (Lit.int .i64 a0_2).wf = true) (hr0_3 : Kd.C (Kd.int .i64) w A0_3 l0_3.length l0_3) (hc0_3 : l0_3.length ≤ c0_3) (hm0_3 : l0_3.length ≤ maxLen) (hw0_3 : ∀ x ∈ l0_3, (Lit.int .i64 x).wf = true) (hr1 : Kd.C k103 w A1 l1.length l1) (hc1 : l1.length ≤ c1) (hm1 : l1.length ≤ maxLen) (hw1 : ∀ x ∈ l1, (Lit.int .i64 x.f0).wf = true ∧ (Lit.int .i64 x.f1).wf = true ∧ (Lit.int .i64 x.f2).wf = true) (hr2 : Kd.C (Kd.int .i64) w A2 l2.length l2) (hc2 : l2.length ≤ c2) (hm2 : l2.length ≤ maxLen) (hw2 : ∀ x ∈ l2, (Lit.int .i64 x).wf = true) :
  Calls Try.prog 6 #[.agg #[.int .i64 a0_0, .int .i64 a0_1, .int .i64 a0_2, .slice A0_3 l0_3.length c0_3], .slice A1 l1.length c1, .slice A2 l2.length c2] w fun e w' => e = .returned (.bool true) ∧ Below w.heap.size w w' := by
 obtain ⟨k, h⟩ := P a0_0 a0_1 a0_2 l0_3 l1 l2 w0_0 w0_1 w0_2 hm0_3 hw0_3 hm1 hw1 hm2 hw2
 refine (laws_FnExactFillRegion.calls k a0_0 a0_1 a0_2 A0_3 c0_3 l0_3 A1 c1 l1 A2 c2 l2 true w hr0_3 hc0_3 hr1 hc1 hr2 hc2 h).mono ?_
 rintro e w' ⟨rfl, hd⟩
 exact ⟨rfl, hd⟩

end Go.Proofs.Ytbciflelcmmldaa.Print
