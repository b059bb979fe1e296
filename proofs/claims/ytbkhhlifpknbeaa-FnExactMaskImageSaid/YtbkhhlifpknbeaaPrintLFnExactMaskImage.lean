-- laid by hp.py (a program of this work over the kit's print), with contracts by hand for what the print does not take
import Derived.Test.YtbkhhlifpknbeaaPrint0
import Derived.Test.YtbkhhlifpknbeaaPrintHimplMaskImage
import Derived.Test.YtbkhhlifpknbeaaPrintHx0
import Derived.Test.YtbkhhlifpknbeaaPrintR0x0
import Derived.Test.YtbkhhlifpknbeaaPrintR1x3
import Derived.Test.YtbkhhlifpknbeaaPrintR1x4
import Derived.Test.YtbkhhlifpknbeaaPrintR1x5
import Derived.Test.YtbkhhlifpknbeaaPrintR1x6
namespace Go.Proofs.Ytbkhhlifpknbeaa.Print
open Go.RowKit Go.Proofs.YtbkhhlifpknbeaaW.PrintWords Go.Proofs.YtbkhhlifpknbeaaW.PrintLast Go.Proofs.YtbkhhlifpknbeaaW.PrintMore
attribute [local go_sem] max2_int min2_int max_two min_two max_three min_three max_four min_four   -- for this text's walks alone
set_option linter.unusedVariables false
set_option linter.unusedSimpArgs false

/-! ### laws_FnExactMaskImage: function 4 -/
mutual
def laws_FnExactMaskImage.j0 : Nat → List (S67) → Bool → List (S59) → Bool → Bool → Int → Int → Int → List Int → Int → Int → Int → List Int → Int → Int → Int → List Int → Int → Int → Int → List Int → Int → Int → Int → List Int → Int → Int → Int → List Int → Option (Bool)
 | 0, _, _, _, _, _, _, _, _, _, _, _, _, _, _, _, _, _, _, _, _, _, _, _, _, _, _, _, _, _ => none
 | k + 1, x2, x9, x12, x14, x66, x102000, x102001, x102002, x102003, x103000, x103001, x103002, x103003, x129000, x129001, x129002, x129003, x136000, x136001, x136002, x136003, x143000, x143001, x143002, x143003, x154000, x154001, x154002, x154003 => if x66 = true then (none) else ((laws_toImage.f k x102000 x102001 x102002 x102003).bind fun bt155 => ((laws_eqImage.f k x136000 x136001 x136002 x136003 bt155.1 bt155.2.1 bt155.2.2.1 bt155.2.2.2).bind fun t161 => (if t161 = true then ((laws_toImage.f k x103000 x103001 x103002 x103003).bind fun bt162 => ((laws_eqImage.f k x143000 x143001 x143002 x143003 bt162.1 bt162.2.1 bt162.2.2.1 bt162.2.2.2).bind fun t168 => (if t168 = true then ((laws_toRunS.f k x2).bind fun t169 => ((laws_eqRunS.f k x12 t169).bind fun t172 => (if t172 = true then ((laws_markImage.f k x136000 x136001 x136002 x136003 1).bind fun bt173 => ((laws_markImage.f k x143000 x143001 x143002 x143003 bt173.1).bind fun bt175 => ((laws_markRunS.f k x12 bt175.1).bind fun bt177 => (if bt177.1 < 0 then (none) else ((laws_eqImage.f k x154000 x154001 x154002 x154003 x129000 x129001 x129002 x129003).bind fun t179 => (if t179 = true then (laws_FnExactMaskImage.j1 k x2 x9 (x14 != x9) x102000 x102001 x102002 x102003 x103000 x103001 x103002 x103003 x129000 x129001 x129002 x129003 x154000 x154001 x154002 x154003) else (none))))))) else (none)))) else (none)))) else (none))))
def laws_FnExactMaskImage.j1 : Nat → List (S67) → Bool → Bool → Int → Int → Int → List Int → Int → Int → Int → List Int → Int → Int → Int → List Int → Int → Int → Int → List Int → Option (Bool)
 | 0, _, _, _, _, _, _, _, _, _, _, _, _, _, _, _, _, _, _, _ => none
 | k + 1, x2, x9, x103, x102000, x102001, x102002, x102003, x103000, x103001, x103002, x103003, x129000, x129001, x129002, x129003, x154000, x154001, x154002, x154003 => if x103 = true then (none) else ((laws_markImage.f k x154000 x154001 x154002 x154003 1).bind fun bt180 => ((laws_heldImage.f k x154000 x154001 x154002 bt180.2 1).bind fun t182 => (if t182 < 0 then (none) else (if t182 = bt180.1 then ((laws_toImage.f k x102000 x102001 x102002 x102003).bind fun bt183 => ((laws_toImage.f k x103000 x103001 x103002 x103003).bind fun bt189 => ((laws_toRunS.f k x2).bind fun t195 => ((impl_MaskImage.f bt183.1 bt183.2.1 bt183.2.2.1 bt183.2.2.2 bt189.1 bt189.2.1 bt189.2.2.1 bt189.2.2.2 t195).bind fun bt198 => ((laws_eqImage.f k bt198.1 bt198.2.1 bt198.2.2.1 bt198.2.2.2.1 x129000 x129001 x129002 x129003).bind fun t206 => (if t206 = true then (laws_FnExactMaskImage.j2 k bt180.1 (bt198.2.2.2.2 != x9) x154000 x154001 x154002 bt180.2) else (none))))))) else (none)))))
def laws_FnExactMaskImage.j2 : Nat → Int → Bool → Int → Int → Int → List Int → Option (Bool)
 | 0, _, _, _, _, _, _ => none
 | k + 1, x16, x133, x154000, x154001, x154002, x154003 => if x133 = true then (none) else ((laws_heldImage.f k x154000 x154001 x154002 x154003 1).bind fun t207 => (if t207 < 0 then (none) else (if t207 = x16 then (some true) else (none))))
end
def laws_FnExactMaskImage.f (k : Nat) (a0_0 : Int) (a0_1 : Int) (a0_2 : Int) (l0_3 : List Int) (a1_0 : Int) (a1_1 : Int) (a1_2 : Int) (l1_3 : List Int) (l2 : List (S67)) : Option (Bool) := (laws_szImage.f a0_0 a0_1 a0_2 l0_3 1048576).bind fun t103 => (if t103 < 0 then (some true) else ((laws_szImage.f a1_0 a1_1 a1_2 l1_3 t103).bind fun t104 => (if t104 < 0 then (some true) else ((laws_szRunS.f l2 t104).bind fun t105 => (if t105 < 0 then (some true) else ((laws_toImage.f k a0_0 a0_1 a0_2 l0_3).bind fun bt106 => ((laws_toImage.f k a1_0 a1_1 a1_2 l1_3).bind fun bt112 => ((laws_toRunS.f k l2).bind fun t118 => ((spec_MaskImage.f k bt106.1 bt106.2.1 bt106.2.2.1 bt106.2.2.2 bt112.1 bt112.2.1 bt112.2.2.1 bt112.2.2.2 t118).bind fun bt121 => ((laws_toImage.f k a0_0 a0_1 a0_2 l0_3).bind fun bt129 => ((laws_toImage.f k a1_0 a1_1 a1_2 l1_3).bind fun bt136 => ((laws_toRunS.f k l2).bind fun t143 => ((impl_MaskImage.f bt129.1 bt129.2.1 bt129.2.2.1 bt129.2.2.2 bt136.1 bt136.2.1 bt136.2.2.1 bt136.2.2.2 t143).bind fun bt146 => ((laws_eqImage.f k bt146.1 bt146.2.1 bt146.2.2.1 bt146.2.2.2.1 bt121.1 bt121.2.1 bt121.2.2.1 bt121.2.2.2.1).bind fun t154 => (if t154 = true then (laws_FnExactMaskImage.j0 k l2 bt121.2.2.2.2 t143 bt146.2.2.2.2 (bt146.2.2.2.2 != bt121.2.2.2.2) a0_0 a0_1 a0_2 l0_3 a1_0 a1_1 a1_2 l1_3 bt121.1 bt121.2.1 bt121.2.2.1 bt121.2.2.2.1 bt129.1 bt129.2.1 bt129.2.2.1 bt129.2.2.2 bt136.1 bt136.2.1 bt136.2.2.1 bt136.2.2.2 bt146.1 bt146.2.1 bt146.2.2.1 bt146.2.2.2.1) else (none))))))))))))))))
theorem laws_FnExactMaskImage.mono_l : ∀ k, (∀ y0 y1 y2 y3 y4 y5 y6 y7 y8 y9 y10 y11 y12 y13 y14 y15 y16 y17 y18 y19 y20 y21 y22 y23 y24 y25 y26 y27 y28, LeO (laws_FnExactMaskImage.j0 k y0 y1 y2 y3 y4 y5 y6 y7 y8 y9 y10 y11 y12 y13 y14 y15 y16 y17 y18 y19 y20 y21 y22 y23 y24 y25 y26 y27 y28) (laws_FnExactMaskImage.j0 (k + 1) y0 y1 y2 y3 y4 y5 y6 y7 y8 y9 y10 y11 y12 y13 y14 y15 y16 y17 y18 y19 y20 y21 y22 y23 y24 y25 y26 y27 y28)) ∧ (∀ y0 y1 y2 y3 y4 y5 y6 y7 y8 y9 y10 y11 y12 y13 y14 y15 y16 y17 y18, LeO (laws_FnExactMaskImage.j1 k y0 y1 y2 y3 y4 y5 y6 y7 y8 y9 y10 y11 y12 y13 y14 y15 y16 y17 y18) (laws_FnExactMaskImage.j1 (k + 1) y0 y1 y2 y3 y4 y5 y6 y7 y8 y9 y10 y11 y12 y13 y14 y15 y16 y17 y18)) ∧ (∀ y0 y1 y2 y3 y4 y5, LeO (laws_FnExactMaskImage.j2 k y0 y1 y2 y3 y4 y5) (laws_FnExactMaskImage.j2 (k + 1) y0 y1 y2 y3 y4 y5))
 | 0 => ⟨fun _ _ _ _ _ _ _ _ _ _ _ _ _ _ _ _ _ _ _ _ _ _ _ _ _ _ _ _ _ r h => by simp [laws_FnExactMaskImage.j0] at h, fun _ _ _ _ _ _ _ _ _ _ _ _ _ _ _ _ _ _ _ r h => by simp [laws_FnExactMaskImage.j1] at h, fun _ _ _ _ _ _ r h => by simp [laws_FnExactMaskImage.j2] at h⟩
 | k + 1 => by
  obtain ⟨ih0, ih1, ih2⟩ := laws_FnExactMaskImage.mono_l k
  refine ⟨?_, ?_, ?_⟩
  ·
   intro y0 y1 y2 y3 y4 y5 y6 y7 y8 y9 y10 y11 y12 y13 y14 y15 y16 y17 y18 y19 y20 y21 y22 y23 y24 y25 y26 y27 y28
   unfold laws_FnExactMaskImage.j0
   repeat' first
   | (with_reducible exact ih0 _ _ _ _ _ _ _ _ _ _ _ _ _ _ _ _ _ _ _ _ _ _ _ _ _ _ _ _ _)
   | (with_reducible exact ih1 _ _ _ _ _ _ _ _ _ _ _ _ _ _ _ _ _ _ _)
   | (with_reducible exact ih2 _ _ _ _ _ _)
   | (with_reducible exact laws_eqImage.mono _ _ _ _ _ _ _ _ _)
   | (with_reducible exact laws_eqRunS.mono _ _ _)
   | (with_reducible exact laws_heldImage.mono _ _ _ _ _ _)
   | (with_reducible exact laws_markImage.mono _ _ _ _ _ _)
   | (with_reducible exact laws_markRunS.mono _ _ _)
   | (with_reducible exact laws_toImage.mono _ _ _ _ _)
   | (with_reducible exact laws_toRunS.mono _ _)
   | (with_reducible exact spec_MaskImage.mono _ _ _ _ _ _ _ _ _ _)
   | (with_reducible exact LeO.refl _)
   | (with_reducible exact LeO.none _)
   | (with_reducible refine LeO.ite ?_ ?_)
   | (with_reducible refine LeO.bind ?_ (fun _ => ?_))
   | exact ih0 _ _ _ _ _ _ _ _ _ _ _ _ _ _ _ _ _ _ _ _ _ _ _ _ _ _ _ _ _
   | exact ih1 _ _ _ _ _ _ _ _ _ _ _ _ _ _ _ _ _ _ _
   | exact ih2 _ _ _ _ _ _
   | exact laws_eqImage.mono _ _ _ _ _ _ _ _ _
   | exact laws_eqRunS.mono _ _ _
   | exact laws_heldImage.mono _ _ _ _ _ _
   | exact laws_markImage.mono _ _ _ _ _ _
   | exact laws_markRunS.mono _ _ _
   | exact laws_toImage.mono _ _ _ _ _
   | exact laws_toRunS.mono _ _
   | exact spec_MaskImage.mono _ _ _ _ _ _ _ _ _ _
   | exact LeO.none _
   | refine LeO.ite ?_ ?_
   | refine LeO.bind ?_ (fun _ => ?_)
  ·
   intro y0 y1 y2 y3 y4 y5 y6 y7 y8 y9 y10 y11 y12 y13 y14 y15 y16 y17 y18
   unfold laws_FnExactMaskImage.j1
   repeat' first
   | (with_reducible exact ih0 _ _ _ _ _ _ _ _ _ _ _ _ _ _ _ _ _ _ _ _ _ _ _ _ _ _ _ _ _)
   | (with_reducible exact ih1 _ _ _ _ _ _ _ _ _ _ _ _ _ _ _ _ _ _ _)
   | (with_reducible exact ih2 _ _ _ _ _ _)
   | (with_reducible exact laws_eqImage.mono _ _ _ _ _ _ _ _ _)
   | (with_reducible exact laws_eqRunS.mono _ _ _)
   | (with_reducible exact laws_heldImage.mono _ _ _ _ _ _)
   | (with_reducible exact laws_markImage.mono _ _ _ _ _ _)
   | (with_reducible exact laws_markRunS.mono _ _ _)
   | (with_reducible exact laws_toImage.mono _ _ _ _ _)
   | (with_reducible exact laws_toRunS.mono _ _)
   | (with_reducible exact spec_MaskImage.mono _ _ _ _ _ _ _ _ _ _)
   | (with_reducible exact LeO.refl _)
   | (with_reducible exact LeO.none _)
   | (with_reducible refine LeO.ite ?_ ?_)
   | (with_reducible refine LeO.bind ?_ (fun _ => ?_))
   | exact ih0 _ _ _ _ _ _ _ _ _ _ _ _ _ _ _ _ _ _ _ _ _ _ _ _ _ _ _ _ _
   | exact ih1 _ _ _ _ _ _ _ _ _ _ _ _ _ _ _ _ _ _ _
   | exact ih2 _ _ _ _ _ _
   | exact laws_eqImage.mono _ _ _ _ _ _ _ _ _
   | exact laws_eqRunS.mono _ _ _
   | exact laws_heldImage.mono _ _ _ _ _ _
   | exact laws_markImage.mono _ _ _ _ _ _
   | exact laws_markRunS.mono _ _ _
   | exact laws_toImage.mono _ _ _ _ _
   | exact laws_toRunS.mono _ _
   | exact spec_MaskImage.mono _ _ _ _ _ _ _ _ _ _
   | exact LeO.none _
   | refine LeO.ite ?_ ?_
   | refine LeO.bind ?_ (fun _ => ?_)
  intro y0 y1 y2 y3 y4 y5
  unfold laws_FnExactMaskImage.j2
  repeat' first
  | (with_reducible exact ih0 _ _ _ _ _ _ _ _ _ _ _ _ _ _ _ _ _ _ _ _ _ _ _ _ _ _ _ _ _)
  | (with_reducible exact ih1 _ _ _ _ _ _ _ _ _ _ _ _ _ _ _ _ _ _ _)
  | (with_reducible exact ih2 _ _ _ _ _ _)
  | (with_reducible exact laws_eqImage.mono _ _ _ _ _ _ _ _ _)
  | (with_reducible exact laws_eqRunS.mono _ _ _)
  | (with_reducible exact laws_heldImage.mono _ _ _ _ _ _)
  | (with_reducible exact laws_markImage.mono _ _ _ _ _ _)
  | (with_reducible exact laws_markRunS.mono _ _ _)
  | (with_reducible exact laws_toImage.mono _ _ _ _ _)
  | (with_reducible exact laws_toRunS.mono _ _)
  | (with_reducible exact spec_MaskImage.mono _ _ _ _ _ _ _ _ _ _)
  | (with_reducible exact LeO.refl _)
  | (with_reducible exact LeO.none _)
  | (with_reducible refine LeO.ite ?_ ?_)
  | (with_reducible refine LeO.bind ?_ (fun _ => ?_))
  | exact ih0 _ _ _ _ _ _ _ _ _ _ _ _ _ _ _ _ _ _ _ _ _ _ _ _ _ _ _ _ _
  | exact ih1 _ _ _ _ _ _ _ _ _ _ _ _ _ _ _ _ _ _ _
  | exact ih2 _ _ _ _ _ _
  | exact laws_eqImage.mono _ _ _ _ _ _ _ _ _
  | exact laws_eqRunS.mono _ _ _
  | exact laws_heldImage.mono _ _ _ _ _ _
  | exact laws_markImage.mono _ _ _ _ _ _
  | exact laws_markRunS.mono _ _ _
  | exact laws_toImage.mono _ _ _ _ _
  | exact laws_toRunS.mono _ _
  | exact spec_MaskImage.mono _ _ _ _ _ _ _ _ _ _
  | exact LeO.none _
  | refine LeO.ite ?_ ?_
  | refine LeO.bind ?_ (fun _ => ?_)
theorem laws_FnExactMaskImage.mono : ∀ a0 a1 a2 a3 a4 a5 a6 a7 a8 k, LeO (laws_FnExactMaskImage.f k a0 a1 a2 a3 a4 a5 a6 a7 a8) (laws_FnExactMaskImage.f (k + 1) a0 a1 a2 a3 a4 a5 a6 a7 a8) := by
 intro a0 a1 a2 a3 a4 a5 a6 a7 a8 k
 obtain ⟨ih0, ih1, ih2⟩ := laws_FnExactMaskImage.mono_l k
 unfold laws_FnExactMaskImage.f
 repeat' first
   | (with_reducible exact ih0 _ _ _ _ _ _ _ _ _ _ _ _ _ _ _ _ _ _ _ _ _ _ _ _ _ _ _ _ _)
   | (with_reducible exact ih1 _ _ _ _ _ _ _ _ _ _ _ _ _ _ _ _ _ _ _)
   | (with_reducible exact ih2 _ _ _ _ _ _)
   | (with_reducible exact laws_eqImage.mono _ _ _ _ _ _ _ _ _)
   | (with_reducible exact laws_eqRunS.mono _ _ _)
   | (with_reducible exact laws_heldImage.mono _ _ _ _ _ _)
   | (with_reducible exact laws_markImage.mono _ _ _ _ _ _)
   | (with_reducible exact laws_markRunS.mono _ _ _)
   | (with_reducible exact laws_toImage.mono _ _ _ _ _)
   | (with_reducible exact laws_toRunS.mono _ _)
   | (with_reducible exact spec_MaskImage.mono _ _ _ _ _ _ _ _ _ _)
   | (with_reducible exact LeO.refl _)
   | (with_reducible exact LeO.none _)
   | (with_reducible refine LeO.ite ?_ ?_)
   | (with_reducible refine LeO.bind ?_ (fun _ => ?_))
   | exact ih0 _ _ _ _ _ _ _ _ _ _ _ _ _ _ _ _ _ _ _ _ _ _ _ _ _ _ _ _ _
   | exact ih1 _ _ _ _ _ _ _ _ _ _ _ _ _ _ _ _ _ _ _
   | exact ih2 _ _ _ _ _ _
   | exact laws_eqImage.mono _ _ _ _ _ _ _ _ _
   | exact laws_eqRunS.mono _ _ _
   | exact laws_heldImage.mono _ _ _ _ _ _
   | exact laws_markImage.mono _ _ _ _ _ _
   | exact laws_markRunS.mono _ _ _
   | exact laws_toImage.mono _ _ _ _ _
   | exact laws_toRunS.mono _ _
   | exact spec_MaskImage.mono _ _ _ _ _ _ _ _ _ _
   | exact LeO.none _
   | refine LeO.ite ?_ ?_
   | refine LeO.bind ?_ (fun _ => ?_)
def laws_FnExactMaskImage.T11 : Bool × List (List Nat × List Nat) := (true, [([], []), ([0], [0]), ([], []), ([2, 1], [2]), ([], []), ([4, 3], [4]), ([1, 3, 5, 5], [1, 3, 5]), ([6], [6]), ([7], [7]), ([7], [7]), ([], []), ([10, 8, 6, 0, 1, 2, 3, 4, 5, 6, 7, 8, 10], [8, 10]), ([9, 11, 0, 1, 2, 3, 4, 5, 6, 7, 8, 9, 10, 11], [9])])
def laws_FnExactMaskImage.B11 : List Nat := [0, 1, 0, 7, 0, 31, 63, 127, 255, 255, 0, 1535, 4095]
theorem laws_FnExactMaskImage.tab11 : rtab .any (opsOf Try.f4 11) = laws_FnExactMaskImage.T11 := by kernel_rfl
theorem laws_FnExactMaskImage.bits11 : waitsOk laws_FnExactMaskImage.T11.2 laws_FnExactMaskImage.B11 = true := by kernel_rfl
def laws_FnExactMaskImage.T38 : Bool × List (List Nat × List Nat) := (true, [([], []), ([0], [0]), ([], []), ([2, 1], [2]), ([], []), ([4, 3], [4]), ([1, 3, 5, 5], [1, 3, 5]), ([6], [6]), ([7], [7]), ([7], [7]), ([], []), ([10, 8, 6, 0, 1, 2, 3, 4, 5, 6, 7, 8, 10], [8, 10]), ([9, 11, 0, 1, 2, 3, 4, 5, 6, 7, 8, 9, 10, 11], [9])])
def laws_FnExactMaskImage.B38 : List Nat := [0, 1, 0, 7, 0, 31, 63, 127, 255, 255, 0, 1535, 4095]
theorem laws_FnExactMaskImage.tab38 : rtab .any (opsOf Try.f4 38) = laws_FnExactMaskImage.T38 := by kernel_rfl
theorem laws_FnExactMaskImage.bits38 : waitsOk laws_FnExactMaskImage.T38.2 laws_FnExactMaskImage.B38 = true := by kernel_rfl
set_option maxHeartbeats 8000000 in
set_option maxRecDepth 100000 in
theorem laws_FnExactMaskImage.calls (k : Nat) (a0_0 : Int) (a0_1 : Int) (a0_2 : Int) (A0_3 : Option Addr) (c0_3 : Nat) (l0_3 : List Int) (a1_0 : Int) (a1_1 : Int) (a1_2 : Int) (A1_3 : Option Addr) (c1_3 : Nat) (l1_3 : List Int) (A2 : Option Addr) (c2 : Nat) (l2 : List (S67)) (r : Bool) (w : World) (hr0_3 : Kd.C (Kd.int .i64) w A0_3 l0_3.length l0_3) (hc0_3 : l0_3.length ≤ c0_3) (hr1_3 : Kd.C (Kd.int .i64) w A1_3 l1_3.length l1_3) (hc1_3 : l1_3.length ≤ c1_3) (hr2 : Kd.C k67 w A2 l2.length l2) (hc2 : l2.length ≤ c2) (h : laws_FnExactMaskImage.f k a0_0 a0_1 a0_2 l0_3 a1_0 a1_1 a1_2 l1_3 l2 = some r) :
  Calls Try.prog 4 #[.agg #[.int .i64 a0_0, .int .i64 a0_1, .int .i64 a0_2, .slice A0_3 l0_3.length c0_3], .agg #[.int .i64 a1_0, .int .i64 a1_1, .int .i64 a1_2, .slice A1_3 l1_3.length c1_3], .slice A2 l2.length c2] w fun e w' => e = .returned (.bool r) ∧ Below w.heap.size w w' := by
 have hu34 := Try.underlying34
 have hu25 := Try.underlying25
 have HR0_3 := Aside0.mk hr0_3
 have HC0_3 := Aside0.mk hc0_3
 clear hr0_3 hc0_3
 have HR1_3 := Aside0.mk hr1_3
 have HC1_3 := Aside0.mk hc1_3
 clear hr1_3 hc1_3
 have HR2 := Aside0.mk hr2
 have HC2 := Aside0.mk hc2
 clear hr2 hc2
 have HB := Aside0.mk (Below.refl w.heap.size w)
 have H : ((laws_szImage.f a0_0 a0_1 a0_2 l0_3 1048576).bind fun t103 => (if t103 < 0 then (some true) else ((laws_szImage.f a1_0 a1_1 a1_2 l1_3 t103).bind fun t104 => (if t104 < 0 then (some true) else ((laws_szRunS.f l2 t104).bind fun t105 => (if t105 < 0 then (some true) else ((laws_toImage.f k a0_0 a0_1 a0_2 l0_3).bind fun bt106 => ((laws_toImage.f k a1_0 a1_1 a1_2 l1_3).bind fun bt112 => ((laws_toRunS.f k l2).bind fun t118 => ((spec_MaskImage.f k bt106.1 bt106.2.1 bt106.2.2.1 bt106.2.2.2 bt112.1 bt112.2.1 bt112.2.2.1 bt112.2.2.2 t118).bind fun bt121 => ((laws_toImage.f k a0_0 a0_1 a0_2 l0_3).bind fun bt129 => ((laws_toImage.f k a1_0 a1_1 a1_2 l1_3).bind fun bt136 => ((laws_toRunS.f k l2).bind fun t143 => ((impl_MaskImage.f bt129.1 bt129.2.1 bt129.2.2.1 bt129.2.2.2 bt136.1 bt136.2.1 bt136.2.2.1 bt136.2.2.2 t143).bind fun bt146 => ((laws_eqImage.f k bt146.1 bt146.2.1 bt146.2.2.1 bt146.2.2.2.1 bt121.1 bt121.2.1 bt121.2.2.1 bt121.2.2.2.1).bind fun t154 => (if t154 = true then (laws_FnExactMaskImage.j0 k l2 bt121.2.2.2.2 t143 bt146.2.2.2.2 (bt146.2.2.2.2 != bt121.2.2.2.2) a0_0 a0_1 a0_2 l0_3 a1_0 a1_1 a1_2 l1_3 bt121.1 bt121.2.1 bt121.2.2.1 bt121.2.2.2.1 bt129.1 bt129.2.1 bt129.2.2.1 bt129.2.2.2 bt136.1 bt136.2.1 bt136.2.2.1 bt136.2.2.2 bt146.1 bt146.2.1 bt146.2.2.1 bt146.2.2.2.1) else (none))))))))))))))))) = some r := h
 clear h
 replace H := Option.bind_eq_some_iff.mp H
 obtain ⟨t103, A40, H⟩ := H
 (try dsimp only at H)
 have A4 := Aside0.mk A40
 clear A40
 by_cases c5 : t103 < 0
 ·
  rw [if_pos c5] at H
  have c5b0 : decide (t103 < 0) = true := decide_eq_true c5
  clear c5
  obtain rfl := Option.some.inj H
  go_enter Try.func4, Try.ntmps4
  go_wp2_with (first | ((with_reducible refine gate_dst (N := 3) rfl ?_); refine box_event ?hg (N := 3) ?hd (cs := #[.int .i64 a0_0, .int .i64 a0_1, .int .i64 a0_2, .slice A0_3 l0_3.length c0_3]) (t := 34) ?hr ?_; (case hd => rfl); (case hg => rfl); (case hr => first | (go_simp; done) | (go_simp; rfl)); intro gb101 hg w6 hbox hb; have BK101 := am_ (hbox); have GW101 := am_ ((by rw [hg]; exact (below_size (hb_ : Below w.heap.size w _)) : w.heap.size ≤ gb101)); have GE101 := GW101; replace HB := am_ (below_step (hb_ : Below w.heap.size w _) hb); clear hb hbox hg) | ((with_reducible refine gate_dst (N := 4) rfl ?_); refine box_event ?hg (N := 4) ?hd (cs := #[.int .i64 a1_0, .int .i64 a1_1, .int .i64 a1_2, .slice A1_3 l1_3.length c1_3]) (t := 34) ?hr ?_; (case hd => rfl); (case hg => rfl); (case hr => first | (go_simp; done) | (go_simp; rfl)); intro gb102 hg w7 hbox hb; have BK102 := am_ (hbox); have GW102 := am_ ((by rw [hg]; exact (below_size (hb_ : Below w.heap.size w _)) : w.heap.size ≤ gb102)); have GE102 := GW102; replace HB := am_ (below_step (hb_ : Below w.heap.size w _) hb); have NB101_102 := nb_ hg BK101; have NB102_101 := nc_ NB101_102; replace BK101 := bb_ BK101 hb; clear hb hbox hg; have hnb8 := NB101_102.out; have hnc8 := NB102_101.out; obtain ⟨hcz9_0, hcz9_1, hcz9_2, hcz9_3, hfz9_0, hfz9_1, hfz9_2, hfz9_3⟩ := blk4_ BK101.out) | ((with_reducible refine gate_callee (f := 10) rfl ?_); refine goesL_ (some 22) rfl rfl Try.func10 (by kernel_rfl) rfl #[.agg #[.int .i64 a0_0, .int .i64 a0_1, .int .i64 a0_2, .slice A0_3 l0_3.length c0_3], .int .i64 1048576] rfl (by simp only [List.map_toArray, List.map_cons, List.map_nil]; rfl) ?_; (with_reducible refine (laws_szImage.calls a0_0 a0_1 a0_2 _ _ l0_3 1048576 t103 _ ?side1 ?side2 A4.out).mono ?_); (case side1 => repeat (first | exact (Kd.C_below HR0_3.out HB.out) | (with_reducible refine Kd.C_alloc ?_ _) | (with_reducible refine Kd.C_drewN ?_ _) | (with_reducible refine Kd.C_drew ?_))); (case side2 => exact HC0_3.out); rintro e w10 ⟨rfl, hb⟩; refine ⟨_, rfl, ?_⟩; replace BK101 := bb_ BK101 hb; replace BK102 := bb_ BK102 hb; replace HB := am_ (below_step (hb_ : Below w.heap.size w _) hb); (try clear hb)))
  go_ret
  exact ⟨by first | rfl | (simp [errW_none, errW_some] <;> rfl) | (simp [*, errW_none, errW_some] <;> rfl), by repeat (first | (with_reducible first | exact HB.out | apply below_alloc | apply pw_below_drewN | apply below_drew1 | refine below_set ?_ GE101.out | refine below_set ?_ GE102.out) | exact HB.out)⟩
 rw [if_neg c5] at H
 have c5b0 : decide (t103 < 0) = false := decide_eq_false c5
 clear c5
 replace H := Option.bind_eq_some_iff.mp H
 obtain ⟨t104, A110, H⟩ := H
 (try dsimp only at H)
 have A11 := Aside0.mk A110
 clear A110
 by_cases c12 : t104 < 0
 ·
  rw [if_pos c12] at H
  have c12b0 : decide (t104 < 0) = true := decide_eq_true c12
  clear c12
  obtain rfl := Option.some.inj H
  go_enter Try.func4, Try.ntmps4
  go_wp2_with (first | ((with_reducible refine gate_dst (N := 3) rfl ?_); refine box_event ?hg (N := 3) ?hd (cs := #[.int .i64 a0_0, .int .i64 a0_1, .int .i64 a0_2, .slice A0_3 l0_3.length c0_3]) (t := 34) ?hr ?_; (case hd => rfl); (case hg => rfl); (case hr => first | (go_simp; done) | (go_simp; rfl)); intro gb101 hg w13 hbox hb; have BK101 := am_ (hbox); have GW101 := am_ ((by rw [hg]; exact (below_size (hb_ : Below w.heap.size w _)) : w.heap.size ≤ gb101)); have GE101 := GW101; replace HB := am_ (below_step (hb_ : Below w.heap.size w _) hb); clear hb hbox hg) | ((with_reducible refine gate_dst (N := 4) rfl ?_); refine box_event ?hg (N := 4) ?hd (cs := #[.int .i64 a1_0, .int .i64 a1_1, .int .i64 a1_2, .slice A1_3 l1_3.length c1_3]) (t := 34) ?hr ?_; (case hd => rfl); (case hg => rfl); (case hr => first | (go_simp; done) | (go_simp; rfl)); intro gb102 hg w14 hbox hb; have BK102 := am_ (hbox); have GW102 := am_ ((by rw [hg]; exact (below_size (hb_ : Below w.heap.size w _)) : w.heap.size ≤ gb102)); have GE102 := GW102; replace HB := am_ (below_step (hb_ : Below w.heap.size w _) hb); have NB101_102 := nb_ hg BK101; have NB102_101 := nc_ NB101_102; replace BK101 := bb_ BK101 hb; clear hb hbox hg; have hnb15 := NB101_102.out; have hnc15 := NB102_101.out; obtain ⟨hcz16_0, hcz16_1, hcz16_2, hcz16_3, hfz16_0, hfz16_1, hfz16_2, hfz16_3⟩ := blk4_ BK101.out) | ((with_reducible refine gate_callee (f := 10) rfl ?_); refine goesL_ (some 22) rfl rfl Try.func10 (by kernel_rfl) rfl #[.agg #[.int .i64 a0_0, .int .i64 a0_1, .int .i64 a0_2, .slice A0_3 l0_3.length c0_3], .int .i64 1048576] rfl (by simp only [List.map_toArray, List.map_cons, List.map_nil]; rfl) ?_; (with_reducible refine (laws_szImage.calls a0_0 a0_1 a0_2 _ _ l0_3 1048576 t103 _ ?side1 ?side2 A4.out).mono ?_); (case side1 => repeat (first | exact (Kd.C_below HR0_3.out HB.out) | (with_reducible refine Kd.C_alloc ?_ _) | (with_reducible refine Kd.C_drewN ?_ _) | (with_reducible refine Kd.C_drew ?_))); (case side2 => exact HC0_3.out); rintro e w17 ⟨rfl, hb⟩; refine ⟨_, rfl, ?_⟩; replace BK101 := bb_ BK101 hb; replace BK102 := bb_ BK102 hb; replace HB := am_ (below_step (hb_ : Below w.heap.size w _) hb); (try clear hb); obtain ⟨hcz18_0, hcz18_1, hcz18_2, hcz18_3, hfz18_0, hfz18_1, hfz18_2, hfz18_3⟩ := blk4_ BK102.out) | ((with_reducible refine gate_callee (f := 10) rfl ?_); refine goesL_ (some 27) rfl rfl Try.func10 (by kernel_rfl) rfl #[.agg #[.int .i64 a1_0, .int .i64 a1_1, .int .i64 a1_2, .slice A1_3 l1_3.length c1_3], .int .i64 t103] rfl (by simp only [List.map_toArray, List.map_cons, List.map_nil]; rfl) ?_; (with_reducible refine (laws_szImage.calls a1_0 a1_1 a1_2 _ _ l1_3 t103 t104 _ ?side1 ?side2 A11.out).mono ?_); (case side1 => repeat (first | exact (Kd.C_below HR1_3.out HB.out) | (with_reducible refine Kd.C_alloc ?_ _) | (with_reducible refine Kd.C_drewN ?_ _) | (with_reducible refine Kd.C_drew ?_))); (case side2 => exact HC1_3.out); rintro e w19 ⟨rfl, hb⟩; refine ⟨_, rfl, ?_⟩; replace BK101 := bb_ BK101 hb; replace BK102 := bb_ BK102 hb; replace HB := am_ (below_step (hb_ : Below w.heap.size w _) hb); (try clear hb)))
  go_ret
  exact ⟨by first | rfl | (simp [errW_none, errW_some] <;> rfl) | (simp [*, errW_none, errW_some] <;> rfl), by repeat (first | (with_reducible first | exact HB.out | apply below_alloc | apply pw_below_drewN | apply below_drew1 | refine below_set ?_ GE101.out | refine below_set ?_ GE102.out) | exact HB.out)⟩
 rw [if_neg c12] at H
 have c12b0 : decide (t104 < 0) = false := decide_eq_false c12
 clear c12
 replace H := Option.bind_eq_some_iff.mp H
 obtain ⟨t105, A200, H⟩ := H
 (try dsimp only at H)
 have A20 := Aside0.mk A200
 clear A200
 by_cases c21 : t105 < 0
 ·
  rw [if_pos c21] at H
  have c21b0 : decide (t105 < 0) = true := decide_eq_true c21
  clear c21
  obtain rfl := Option.some.inj H
  go_enter Try.func4, Try.ntmps4
  go_wp2_with (first | ((with_reducible refine gate_dst (N := 3) rfl ?_); refine box_event ?hg (N := 3) ?hd (cs := #[.int .i64 a0_0, .int .i64 a0_1, .int .i64 a0_2, .slice A0_3 l0_3.length c0_3]) (t := 34) ?hr ?_; (case hd => rfl); (case hg => rfl); (case hr => first | (go_simp; done) | (go_simp; rfl)); intro gb101 hg w22 hbox hb; have BK101 := am_ (hbox); have GW101 := am_ ((by rw [hg]; exact (below_size (hb_ : Below w.heap.size w _)) : w.heap.size ≤ gb101)); have GE101 := GW101; replace HB := am_ (below_step (hb_ : Below w.heap.size w _) hb); clear hb hbox hg) | ((with_reducible refine gate_dst (N := 4) rfl ?_); refine box_event ?hg (N := 4) ?hd (cs := #[.int .i64 a1_0, .int .i64 a1_1, .int .i64 a1_2, .slice A1_3 l1_3.length c1_3]) (t := 34) ?hr ?_; (case hd => rfl); (case hg => rfl); (case hr => first | (go_simp; done) | (go_simp; rfl)); intro gb102 hg w23 hbox hb; have BK102 := am_ (hbox); have GW102 := am_ ((by rw [hg]; exact (below_size (hb_ : Below w.heap.size w _)) : w.heap.size ≤ gb102)); have GE102 := GW102; replace HB := am_ (below_step (hb_ : Below w.heap.size w _) hb); have NB101_102 := nb_ hg BK101; have NB102_101 := nc_ NB101_102; replace BK101 := bb_ BK101 hb; clear hb hbox hg; have hnb24 := NB101_102.out; have hnc24 := NB102_101.out; obtain ⟨hcz25_0, hcz25_1, hcz25_2, hcz25_3, hfz25_0, hfz25_1, hfz25_2, hfz25_3⟩ := blk4_ BK101.out) | ((with_reducible refine gate_callee (f := 10) rfl ?_); refine goesL_ (some 22) rfl rfl Try.func10 (by kernel_rfl) rfl #[.agg #[.int .i64 a0_0, .int .i64 a0_1, .int .i64 a0_2, .slice A0_3 l0_3.length c0_3], .int .i64 1048576] rfl (by simp only [List.map_toArray, List.map_cons, List.map_nil]; rfl) ?_; (with_reducible refine (laws_szImage.calls a0_0 a0_1 a0_2 _ _ l0_3 1048576 t103 _ ?side1 ?side2 A4.out).mono ?_); (case side1 => repeat (first | exact (Kd.C_below HR0_3.out HB.out) | (with_reducible refine Kd.C_alloc ?_ _) | (with_reducible refine Kd.C_drewN ?_ _) | (with_reducible refine Kd.C_drew ?_))); (case side2 => exact HC0_3.out); rintro e w26 ⟨rfl, hb⟩; refine ⟨_, rfl, ?_⟩; replace BK101 := bb_ BK101 hb; replace BK102 := bb_ BK102 hb; replace HB := am_ (below_step (hb_ : Below w.heap.size w _) hb); (try clear hb); obtain ⟨hcz27_0, hcz27_1, hcz27_2, hcz27_3, hfz27_0, hfz27_1, hfz27_2, hfz27_3⟩ := blk4_ BK102.out) | ((with_reducible refine gate_callee (f := 10) rfl ?_); refine goesL_ (some 27) rfl rfl Try.func10 (by kernel_rfl) rfl #[.agg #[.int .i64 a1_0, .int .i64 a1_1, .int .i64 a1_2, .slice A1_3 l1_3.length c1_3], .int .i64 t103] rfl (by simp only [List.map_toArray, List.map_cons, List.map_nil]; rfl) ?_; (with_reducible refine (laws_szImage.calls a1_0 a1_1 a1_2 _ _ l1_3 t103 t104 _ ?side1 ?side2 A11.out).mono ?_); (case side1 => repeat (first | exact (Kd.C_below HR1_3.out HB.out) | (with_reducible refine Kd.C_alloc ?_ _) | (with_reducible refine Kd.C_drewN ?_ _) | (with_reducible refine Kd.C_drew ?_))); (case side2 => exact HC1_3.out); rintro e w28 ⟨rfl, hb⟩; refine ⟨_, rfl, ?_⟩; replace BK101 := bb_ BK101 hb; replace BK102 := bb_ BK102 hb; replace HB := am_ (below_step (hb_ : Below w.heap.size w _) hb); (try clear hb)) | ((with_reducible refine gate_callee (f := 11) rfl ?_); refine goesL_ (some 32) rfl rfl Try.func11 (by kernel_rfl) rfl #[.slice A2 l2.length c2, .int .i64 t104] rfl (by simp only [List.map_toArray, List.map_cons, List.map_nil]; rfl) ?_; (with_reducible refine (laws_szRunS.calls _ _ l2 t104 t105 _ ?side1 ?side2 A20.out).mono ?_); (case side1 => repeat (first | exact (Kd.C_below HR2.out HB.out) | (with_reducible refine Kd.C_alloc ?_ _) | (with_reducible refine Kd.C_drewN ?_ _) | (with_reducible refine Kd.C_drew ?_))); (case side2 => exact HC2.out); rintro e w' ⟨rfl, ⟨nd, rfl⟩⟩; refine ⟨_, rfl, ?_⟩))
  go_ret
  exact ⟨by first | rfl | (simp [errW_none, errW_some] <;> rfl) | (simp [*, errW_none, errW_some] <;> rfl), by repeat (first | (with_reducible first | exact HB.out | apply below_alloc | apply pw_below_drewN | apply below_drew1 | refine below_set ?_ GE101.out | refine below_set ?_ GE102.out) | exact HB.out)⟩
 rw [if_neg c21] at H
 have c21b0 : decide (t105 < 0) = false := decide_eq_false c21
 clear c21
 replace H := Option.bind_eq_some_iff.mp H
 obtain ⟨⟨t106, t107, t108, t109⟩, A290, H⟩ := H
 (try dsimp only at H)
 have A29 := Aside0.mk A290
 clear A290
 replace H := Option.bind_eq_some_iff.mp H
 obtain ⟨⟨t112, t113, t114, t115⟩, A300, H⟩ := H
 (try dsimp only at H)
 have A30 := Aside0.mk A300
 clear A300
 replace H := Option.bind_eq_some_iff.mp H
 obtain ⟨t118, A310, H⟩ := H
 (try dsimp only at H)
 have A31 := Aside0.mk A310
 clear A310
 replace H := Option.bind_eq_some_iff.mp H
 obtain ⟨⟨t121, t122, t123, t124, t127⟩, A320, H⟩ := H
 (try dsimp only at H)
 have A32 := Aside0.mk A320
 clear A320
 replace H := Option.bind_eq_some_iff.mp H
 obtain ⟨⟨t129, t130, t131, t132⟩, A330, H⟩ := H
 (try dsimp only at H)
 have A33 := Aside0.mk A330
 clear A330
 replace H := Option.bind_eq_some_iff.mp H
 obtain ⟨⟨t136, t137, t138, t139⟩, A340, H⟩ := H
 (try dsimp only at H)
 have A34 := Aside0.mk A340
 clear A340
 replace H := Option.bind_eq_some_iff.mp H
 obtain ⟨t143, A350, H⟩ := H
 (try dsimp only at H)
 have A35 := Aside0.mk A350
 clear A350
 replace H := Option.bind_eq_some_iff.mp H
 obtain ⟨⟨t146, t147, t148, t149, t152⟩, A360, H⟩ := H
 (try dsimp only at H)
 have A36 := Aside0.mk A360
 clear A360
 have HC37 := Aside0.mk H
 clear H
 go_enter Try.func4, Try.ntmps4
 try go_wp2_with (first | ((with_reducible refine gate_dst (N := 3) rfl ?_); refine box_event ?hg (N := 3) ?hd (cs := #[.int .i64 a0_0, .int .i64 a0_1, .int .i64 a0_2, .slice A0_3 l0_3.length c0_3]) (t := 34) ?hr ?_; (case hd => rfl); (case hg => rfl); (case hr => first | (go_simp; done) | (go_simp; rfl)); intro gb101 hg w38 hbox hb; have BK101 := am_ (hbox); have GW101 := am_ ((by rw [hg]; exact (below_size (hb_ : Below w.heap.size w _)) : w.heap.size ≤ gb101)); have GE101 := GW101; replace HB := am_ (below_step (hb_ : Below w.heap.size w _) hb); clear hb hbox hg) | ((with_reducible refine gate_dst (N := 4) rfl ?_); refine box_event ?hg (N := 4) ?hd (cs := #[.int .i64 a1_0, .int .i64 a1_1, .int .i64 a1_2, .slice A1_3 l1_3.length c1_3]) (t := 34) ?hr ?_; (case hd => rfl); (case hg => rfl); (case hr => first | (go_simp; done) | (go_simp; rfl)); intro gb102 hg w39 hbox hb; have BK102 := am_ (hbox); have GW102 := am_ ((by rw [hg]; exact (below_size (hb_ : Below w.heap.size w _)) : w.heap.size ≤ gb102)); have GE102 := GW102; replace HB := am_ (below_step (hb_ : Below w.heap.size w _) hb); have NB101_102 := nb_ hg BK101; have NB102_101 := nc_ NB101_102; replace BK101 := bb_ BK101 hb; clear hb hbox hg; have hnb40 := NB101_102.out; have hnc40 := NB102_101.out; obtain ⟨hcz41_0, hcz41_1, hcz41_2, hcz41_3, hfz41_0, hfz41_1, hfz41_2, hfz41_3⟩ := blk4_ BK101.out) | ((with_reducible refine gate_callee (f := 10) rfl ?_); refine goesL_ (some 22) rfl rfl Try.func10 (by kernel_rfl) rfl #[.agg #[.int .i64 a0_0, .int .i64 a0_1, .int .i64 a0_2, .slice A0_3 l0_3.length c0_3], .int .i64 1048576] rfl (by simp only [List.map_toArray, List.map_cons, List.map_nil]; rfl) ?_; (with_reducible refine (laws_szImage.calls a0_0 a0_1 a0_2 _ _ l0_3 1048576 t103 _ ?side1 ?side2 A4.out).mono ?_); (case side1 => repeat (first | exact (Kd.C_below HR0_3.out HB.out) | (with_reducible refine Kd.C_alloc ?_ _) | (with_reducible refine Kd.C_drewN ?_ _) | (with_reducible refine Kd.C_drew ?_))); (case side2 => exact HC0_3.out); rintro e w42 ⟨rfl, hb⟩; refine ⟨_, rfl, ?_⟩; replace BK101 := bb_ BK101 hb; replace BK102 := bb_ BK102 hb; replace HB := am_ (below_step (hb_ : Below w.heap.size w _) hb); (try clear hb); obtain ⟨hcz43_0, hcz43_1, hcz43_2, hcz43_3, hfz43_0, hfz43_1, hfz43_2, hfz43_3⟩ := blk4_ BK102.out) | ((with_reducible refine gate_callee (f := 10) rfl ?_); refine goesL_ (some 27) rfl rfl Try.func10 (by kernel_rfl) rfl #[.agg #[.int .i64 a1_0, .int .i64 a1_1, .int .i64 a1_2, .slice A1_3 l1_3.length c1_3], .int .i64 t103] rfl (by simp only [List.map_toArray, List.map_cons, List.map_nil]; rfl) ?_; (with_reducible refine (laws_szImage.calls a1_0 a1_1 a1_2 _ _ l1_3 t103 t104 _ ?side1 ?side2 A11.out).mono ?_); (case side1 => repeat (first | exact (Kd.C_below HR1_3.out HB.out) | (with_reducible refine Kd.C_alloc ?_ _) | (with_reducible refine Kd.C_drewN ?_ _) | (with_reducible refine Kd.C_drew ?_))); (case side2 => exact HC1_3.out); rintro e w44 ⟨rfl, hb⟩; refine ⟨_, rfl, ?_⟩; replace BK101 := bb_ BK101 hb; replace BK102 := bb_ BK102 hb; replace HB := am_ (below_step (hb_ : Below w.heap.size w _) hb); (try clear hb)) | ((with_reducible refine gate_callee (f := 11) rfl ?_); refine goesL_ (some 32) rfl rfl Try.func11 (by kernel_rfl) rfl #[.slice A2 l2.length c2, .int .i64 t104] rfl (by simp only [List.map_toArray, List.map_cons, List.map_nil]; rfl) ?_; (with_reducible refine (laws_szRunS.calls _ _ l2 t104 t105 _ ?side1 ?side2 A20.out).mono ?_); (case side1 => repeat (first | exact (Kd.C_below HR2.out HB.out) | (with_reducible refine Kd.C_alloc ?_ _) | (with_reducible refine Kd.C_drewN ?_ _) | (with_reducible refine Kd.C_drew ?_))); (case side2 => exact HC2.out); rintro e w' ⟨rfl, ⟨nd, rfl⟩⟩; refine ⟨_, rfl, ?_⟩; (try (rw [drewN_self w44]; generalize hq_ : World.drewN w44 _ = w44; have n0_ : Aside0 (w44.heap[gb101]? = some (.cells #[.int .i64 a0_0, .int .i64 a0_1, .int .i64 a0_2, .slice A0_3 l0_3.length c0_3] 34 (0, 0))) := ⟨by rw [← hq_]; exact (by exact BK101.out)⟩; have n1_ : Aside0 (w44.heap[gb102]? = some (.cells #[.int .i64 a1_0, .int .i64 a1_1, .int .i64 a1_2, .slice A1_3 l1_3.length c1_3] 34 (0, 0))) := ⟨by rw [← hq_]; exact (by exact BK102.out)⟩; have n2_ : Aside0 (Below w.heap.size w w44) := ⟨by rw [← hq_]; exact hb_⟩; clear BK101 BK102 HB hq_; have BK101 := n0_; have BK102 := n1_; have HB := n2_; clear n0_ n1_ n2_))))
 replace BK101 := am_ (blk_drew BK101.out)
 replace BK102 := am_ (blk_drew BK102.out)
 replace HB := am_ (below_drew1 HB.out)
 refine start_ (n := 13) (S := fun w' => w'.cell? ⟨gb101, 0, none⟩ = some (.int .i64 a0_0) ∧ w'.cell? ⟨gb101, 1, none⟩ = some (.int .i64 a0_1) ∧ w'.cell? ⟨gb101, 2, none⟩ = some (.int .i64 a0_2) ∧ w'.cell? ⟨gb101, 3, none⟩ = some (.slice A0_3 l0_3.length c0_3) ∧ w'.cell? ⟨gb102, 0, none⟩ = some (.int .i64 a1_0) ∧ w'.cell? ⟨gb102, 1, none⟩ = some (.int .i64 a1_1) ∧ w'.cell? ⟨gb102, 2, none⟩ = some (.int .i64 a1_2) ∧ w'.cell? ⟨gb102, 3, none⟩ = some (.slice A1_3 l1_3.length c1_3)) (ds := []) #[false, false, false, false, false, false, false, false, false, false, false, false, false] (by kernel_rfl) rfl rfl (s8_ BK101 BK102) (fun hHeld => ?_); refine with_tabW laws_FnExactMaskImage.tab11 laws_FnExactMaskImage.bits11 (fun HT_ HW_ => ?_)
 generalize w44.drew = w45 at BK101 BK102 HB hHeld ⊢
 refine pure_ (i := 4) (N := some 40) (v := ?_) (a' := ?_) #[false, false, false, false, true, false, false, false, false, false, false, false, false] rfl rfl (any_of HT_.out (by kernel_rfl)) (fun _ _ _ h => h) (Or.inl ⟨by rfl, ?_⟩) ?_ ?_
 rotate_left
 ·
  intro w'
  go_simp
  with_reducible rfl
 rotate_left
 ·
  simp only [Act.put, List.setIfInBounds_toArray, List.set_cons_zero, List.set_cons_succ, i64_w, i32_w]
  rfl
 refine take_ (i := 0) (N := some 36) (v := ?_) (a' := ?_) #[true, false, false, false, true, false, false, false, false, false, false, false, false] rfl rfl (take_ofW HT_.out HW_.out (by kernel_rfl)) (fun _ _ _ h => h) (Or.inl ⟨by rfl, ?_⟩) hHeld ?_ ?_
 rotate_left
 ·
  rintro w' ⟨s0, s1, s2, s3, s4, s5, s6, s7⟩
  go_simp
  with_reducible rfl
 rotate_left
 ·
  simp only [Act.put, List.setIfInBounds_toArray, List.set_cons_zero, List.set_cons_succ, i64_w, i32_w]
  rfl
 refine take_ (i := 2) (N := some 38) (v := ?_) (a' := ?_) #[true, false, true, false, true, false, false, false, false, false, false, false, false] rfl rfl (take_ofW HT_.out HW_.out (by kernel_rfl)) (fun _ _ _ h => h) (Or.inl ⟨by rfl, ?_⟩) hHeld ?_ ?_
 rotate_left
 ·
  rintro w' ⟨s0, s1, s2, s3, s4, s5, s6, s7⟩
  go_simp
  with_reducible rfl
 rotate_left
 ·
  simp only [Act.put, List.setIfInBounds_toArray, List.set_cons_zero, List.set_cons_succ, i64_w, i32_w]
  rfl
 refine join_ (σ := Value × Value × Value × Value × Nat) 2 #[true, true, true, true, true, true, true, true, true, true, true, false, false] (fun s_ => [(37, .agg #[.int .i64 t106, .int .i64 t107, .int .i64 t108, s_.1]), (39, .agg #[.int .i64 t112, .int .i64 t113, .int .i64 t114, s_.2.1]), (41, s_.2.2.1), (42, .tuple #[.agg #[.int .i64 t121, .int .i64 t122, .int .i64 t123, s_.2.2.2.1], .bool t127]), (8, .pointer (some ⟨s_.2.2.2.2, 0, none⟩)), (35, .tuple #[.agg #[.int .i64 t121, .int .i64 t122, .int .i64 t123, s_.2.2.2.1], .bool t127]), (43, .agg #[.int .i64 t121, .int .i64 t122, .int .i64 t123, s_.2.2.2.1]), (44, .bool t127)]) (fun s_ w' => (w'.cell? ⟨gb101, 0, none⟩ = some (.int .i64 a0_0) ∧ w'.cell? ⟨gb101, 1, none⟩ = some (.int .i64 a0_1) ∧ w'.cell? ⟨gb101, 2, none⟩ = some (.int .i64 a0_2) ∧ w'.cell? ⟨gb101, 3, none⟩ = some (.slice A0_3 l0_3.length c0_3) ∧ w'.cell? ⟨gb102, 0, none⟩ = some (.int .i64 a1_0) ∧ w'.cell? ⟨gb102, 1, none⟩ = some (.int .i64 a1_1) ∧ w'.cell? ⟨gb102, 2, none⟩ = some (.int .i64 a1_2) ∧ w'.cell? ⟨gb102, 3, none⟩ = some (.slice A1_3 l1_3.length c1_3)) ∧ (Kd.R (Kd.int .i64) 3 w' w.heap.size (fun k_ => some k_ ≠ (s_.2.1 : Value).ownBlock ∧ some k_ ≠ (s_.2.2.2.1 : Value).ownBlock) s_.1 t109) ∧ (Kd.R (Kd.int .i64) 3 w' w.heap.size (fun k_ => some k_ ≠ (s_.1 : Value).ownBlock ∧ some k_ ≠ (s_.2.2.2.1 : Value).ownBlock) s_.2.1 t115) ∧ (Kd.R k59 59 w' w.heap.size (fun _ => True) s_.2.2.1 t118) ∧ (Kd.R (Kd.int .i64) 3 w' w.heap.size (fun k_ => some k_ ≠ (s_.1 : Value).ownBlock ∧ some k_ ≠ (s_.2.1 : Value).ownBlock) s_.2.2.2.1 t124) ∧ (w'.heap[gb101]? = some (.cells #[.int .i64 a0_0, .int .i64 a0_1, .int .i64 a0_2, .slice A0_3 l0_3.length c0_3] 34 (0, 0))) ∧ (w'.heap[gb102]? = some (.cells #[.int .i64 a1_0, .int .i64 a1_1, .int .i64 a1_2, .slice A1_3 l1_3.length c1_3] 34 (0, 0))) ∧ (w'.heap[s_.2.2.2.2]? = some (.cells #[.int .i64 0, .int .i64 0, .int .i64 0, .slice none 0 0] 25 (0, 0))) ∧ (w.heap.size ≤ s_.2.2.2.2) ∧ (w.heap.size ≤ s_.2.2.2.2) ∧ (gb101 ≠ s_.2.2.2.2) ∧ (s_.2.2.2.2 ≠ gb101) ∧ (gb102 ≠ s_.2.2.2.2) ∧ (s_.2.2.2.2 ≠ gb102) ∧ (Below w.heap.size w w')) ?_ ?_
 rotate_left
 ·
  intro hJ1_3_5_6_10
  refine join_ (σ := Value × Value × Value × Value) 3 #[true, true, true, true, true, true, true, true, true, true, false, false, false] (fun s_ => [(37, .agg #[.int .i64 t106, .int .i64 t107, .int .i64 t108, s_.1]), (39, .agg #[.int .i64 t112, .int .i64 t113, .int .i64 t114, s_.2.1]), (41, s_.2.2.1), (42, .tuple #[.agg #[.int .i64 t121, .int .i64 t122, .int .i64 t123, s_.2.2.2], .bool t127]), (35, .tuple #[.agg #[.int .i64 t121, .int .i64 t122, .int .i64 t123, s_.2.2.2], .bool t127]), (43, .agg #[.int .i64 t121, .int .i64 t122, .int .i64 t123, s_.2.2.2]), (44, .bool t127)]) (fun s_ w' => (w'.cell? ⟨gb101, 0, none⟩ = some (.int .i64 a0_0) ∧ w'.cell? ⟨gb101, 1, none⟩ = some (.int .i64 a0_1) ∧ w'.cell? ⟨gb101, 2, none⟩ = some (.int .i64 a0_2) ∧ w'.cell? ⟨gb101, 3, none⟩ = some (.slice A0_3 l0_3.length c0_3) ∧ w'.cell? ⟨gb102, 0, none⟩ = some (.int .i64 a1_0) ∧ w'.cell? ⟨gb102, 1, none⟩ = some (.int .i64 a1_1) ∧ w'.cell? ⟨gb102, 2, none⟩ = some (.int .i64 a1_2) ∧ w'.cell? ⟨gb102, 3, none⟩ = some (.slice A1_3 l1_3.length c1_3)) ∧ (Kd.R (Kd.int .i64) 3 w' w.heap.size (fun k_ => some k_ ≠ (s_.2.1 : Value).ownBlock ∧ some k_ ≠ (s_.2.2.2 : Value).ownBlock) s_.1 t109) ∧ (Kd.R (Kd.int .i64) 3 w' w.heap.size (fun k_ => some k_ ≠ (s_.1 : Value).ownBlock ∧ some k_ ≠ (s_.2.2.2 : Value).ownBlock) s_.2.1 t115) ∧ (Kd.R k59 59 w' w.heap.size (fun _ => True) s_.2.2.1 t118) ∧ (Kd.R (Kd.int .i64) 3 w' w.heap.size (fun k_ => some k_ ≠ (s_.1 : Value).ownBlock ∧ some k_ ≠ (s_.2.1 : Value).ownBlock) s_.2.2.2 t124) ∧ (w'.heap[gb101]? = some (.cells #[.int .i64 a0_0, .int .i64 a0_1, .int .i64 a0_2, .slice A0_3 l0_3.length c0_3] 34 (0, 0))) ∧ (w'.heap[gb102]? = some (.cells #[.int .i64 a1_0, .int .i64 a1_1, .int .i64 a1_2, .slice A1_3 l1_3.length c1_3] 34 (0, 0))) ∧ (Below w.heap.size w w')) ?_ ?_
  rotate_left
  rotate_left
  ·
   skip
   rintro ⟨v110, v116, v119, v125⟩ w53 ⟨hS_, h0_, h1_, h2_, h3_, h4_, h5_, h6_⟩
   (try dsimp only at h0_ h1_ h2_ h3_ h4_ h5_ h6_)
   clear BK101 BK102 HB
   have HO111 := am_ h0_
   have HO117 := am_ h1_
   have HO120 := am_ h2_
   have HO126 := am_ h3_
   have BK101 := am_ h4_
   have BK102 := am_ h5_
   have HB := am_ h6_
   clear h0_ h1_ h2_ h3_ h4_ h5_ h6_
   have hHeld := hS_
   refine norm_ (a' := ?_) ?_ ?_
   rotate_left
   ·
    simp only [putAll, Act.put, List.setIfInBounds_toArray, List.set_cons_zero, List.set_cons_succ]
    rfl
   refine one_ (i := 10) (N := some 8) #[true, true, true, true, true, true, true, true, true, true, true, false, false] rfl rfl (one_of HT_.out (by kernel_rfl)) (by decide) (fun K hK => ?_)
   refine box_step ?hg (N := 8) ?hd (cs := #[.int .i64 0, .int .i64 0, .int .i64 0, .slice none 0 0]) (t := 25) ?hr ?_; (case hd => rfl); (case hg => rfl); (case hr => first | (go_simp; done) | (go_simp; rfl))
   intro gb128 hg w54 hbox hb
   replace HO111 := rb_ HO111 hb
   replace HO117 := rb_ HO117 hb
   replace HO120 := rb_ HO120 hb
   replace HO126 := rb_ HO126 hb
   have BK128 := am_ (hbox)
   have GW128 := am_ ((by rw [hg]; exact (below_size (hb_ : Below w.heap.size w _)) : w.heap.size ≤ gb128))
   have GE128 := GW128
   replace HB := am_ (below_step (hb_ : Below w.heap.size w _) hb)
   have NB101_128 := nb_ hg BK101
   have NB128_101 := nc_ NB101_128
   replace BK101 := bb_ BK101 hb
   have NB102_128 := nb_ hg BK102
   have NB128_102 := nc_ NB102_128
   replace BK102 := bb_ BK102 hb
   clear hb hbox hg
   refine hK.out _ _ (s8_ BK101 BK102) (fun hHeld => ?_)
   clear hK K
   refine norm_ (a' := ?_) ?_ ?_
   rotate_left
   ·
    show Act.put _ (some 8) _ = _
    simp only [Act.put, List.setIfInBounds_toArray, List.set_cons_zero, List.set_cons_succ, i64_w, i32_w]
    rfl
   exact nrm_ (hJ1_3_5_6_10 (_, _, _, _, gb128) _ ⟨hHeld, (by exact HO111.out), (by exact HO117.out), (by exact HO120.out), (by exact HO126.out), (by exact BK101.out), (by exact BK102.out), (by exact BK128.out), GW128.out, GE128.out, NB101_128.out, NB128_101.out, NB102_128.out, NB128_102.out, hb_⟩)
  intro hJ1_3_5_6
  refine join_ (σ := Value × Value × Value × Nat) 6 #[true, true, true, true, true, true, false, false, false, false, true, false, false] (fun s_ => [(37, .agg #[.int .i64 t106, .int .i64 t107, .int .i64 t108, s_.1]), (39, .agg #[.int .i64 t112, .int .i64 t113, .int .i64 t114, s_.2.1]), (41, s_.2.2.1), (8, .pointer (some ⟨s_.2.2.2, 0, none⟩))]) (fun s_ w' => (w'.cell? ⟨gb101, 0, none⟩ = some (.int .i64 a0_0) ∧ w'.cell? ⟨gb101, 1, none⟩ = some (.int .i64 a0_1) ∧ w'.cell? ⟨gb101, 2, none⟩ = some (.int .i64 a0_2) ∧ w'.cell? ⟨gb101, 3, none⟩ = some (.slice A0_3 l0_3.length c0_3) ∧ w'.cell? ⟨gb102, 0, none⟩ = some (.int .i64 a1_0) ∧ w'.cell? ⟨gb102, 1, none⟩ = some (.int .i64 a1_1) ∧ w'.cell? ⟨gb102, 2, none⟩ = some (.int .i64 a1_2) ∧ w'.cell? ⟨gb102, 3, none⟩ = some (.slice A1_3 l1_3.length c1_3)) ∧ (Kd.R (Kd.int .i64) 3 w' w.heap.size (fun k_ => some k_ ≠ (s_.2.1 : Value).ownBlock) s_.1 t109) ∧ (Kd.R (Kd.int .i64) 3 w' w.heap.size (fun k_ => some k_ ≠ (s_.1 : Value).ownBlock) s_.2.1 t115) ∧ (Kd.R k59 59 w' w.heap.size (fun _ => True) s_.2.2.1 t118) ∧ (w'.heap[gb101]? = some (.cells #[.int .i64 a0_0, .int .i64 a0_1, .int .i64 a0_2, .slice A0_3 l0_3.length c0_3] 34 (0, 0))) ∧ (w'.heap[gb102]? = some (.cells #[.int .i64 a1_0, .int .i64 a1_1, .int .i64 a1_2, .slice A1_3 l1_3.length c1_3] 34 (0, 0))) ∧ (w'.heap[s_.2.2.2]? = some (.cells #[.int .i64 0, .int .i64 0, .int .i64 0, .slice none 0 0] 25 (0, 0))) ∧ (w.heap.size ≤ s_.2.2.2) ∧ (w.heap.size ≤ s_.2.2.2) ∧ (gb101 ≠ s_.2.2.2) ∧ (s_.2.2.2 ≠ gb101) ∧ (gb102 ≠ s_.2.2.2) ∧ (s_.2.2.2 ≠ gb102) ∧ (Below w.heap.size w w')) ?_ ?_
  rotate_left
  rotate_left
  ·
   skip
   rintro ⟨v110, v116, v119, gb128⟩ w50 ⟨hS_, h0_, h1_, h2_, h3_, h4_, h5_, h6_, h7_, h8_, h9_, h10_, h11_, h12_⟩
   (try dsimp only at h0_ h1_ h2_ h3_ h4_ h5_ h6_ h7_ h8_ h9_ h10_ h11_ h12_)
   clear BK101 BK102 HB
   have HO111 := am_ h0_
   have HO117 := am_ h1_
   have HO120 := am_ h2_
   have BK101 := am_ h3_
   have BK102 := am_ h4_
   have BK128 := am_ h5_
   have GW128 := am_ h6_
   have GE128 := am_ h7_
   have NB101_128 := am_ h8_
   have NB128_101 := am_ h9_
   have NB102_128 := am_ h10_
   have NB128_102 := am_ h11_
   have HB := am_ h12_
   clear h0_ h1_ h2_ h3_ h4_ h5_ h6_ h7_ h8_ h9_ h10_ h11_ h12_
   have hHeld := hS_
   obtain ⟨Ao51, co51, eo51⟩ := Kd.R_slice HO111.out
   (first | subst eo51 | (injection eo51 with f1_ f2_ f3_; have f4_ := f1_.symm; have f5_ := f3_.symm; clear f1_ f2_ f3_; subst f4_; subst f5_))
   obtain ⟨Ao52, co52, eo52⟩ := Kd.R_slice HO117.out
   (first | subst eo52 | (injection eo52 with f1_ f2_ f3_; have f4_ := f1_.symm; have f5_ := f3_.symm; clear f1_ f2_ f3_; subst f4_; subst f5_))
   obtain ⟨Ao53, co53, eo53⟩ := Kd.R_slice HO120.out
   (first | subst eo53 | (injection eo53 with f1_ f2_ f3_; have f4_ := f1_.symm; have f5_ := f3_.symm; clear f1_ f2_ f3_; subst f4_; subst f5_))
   refine norm_ (a' := ?_) ?_ ?_
   rotate_left
   ·
    simp only [putAll, Act.put, List.setIfInBounds_toArray, List.set_cons_zero, List.set_cons_succ]
    rfl
   refine one_ (i := 6) (N := some 42) #[true, true, true, true, true, true, true, false, false, false, true, false, false] rfl rfl (one_of HT_.out (by kernel_rfl)) (by decide) (fun K hK => ?_)
   refine goes_ Try.func7 (by kernel_rfl) rfl #[.agg #[.int .i64 t106, .int .i64 t107, .int .i64 t108, .slice Ao51 t109.length co51], .agg #[.int .i64 t112, .int .i64 t113, .int .i64 t114, .slice Ao52 t115.length co52], .slice Ao53 t118.length co53] (by rfl) rfl rfl (by simp only [List.map_toArray, List.map_cons, List.map_nil]; rfl) ?_
   with_reducible refine (spec_MaskImage.calls k t106 t107 t108 _ _ t109 t112 t113 t114 _ _ t115 _ _ t118 t121 t122 t123 t124 t127 _ ?side1 ?side2 ?side3 ?side4 ?side5 ?side6 A32.out).mono ?_
   (case side1 => repeat (first | exact (Kd.R_reads' HO111.out).2.2 | (with_reducible refine Kd.C_alloc ?_ _) | (with_reducible refine Kd.C_drewN ?_ _) | (with_reducible refine Kd.C_drew ?_)))
   (case side2 => exact (Kd.R_reads' HO111.out).2.1)
   (case side3 => repeat (first | exact (Kd.R_reads' HO117.out).2.2 | (with_reducible refine Kd.C_alloc ?_ _) | (with_reducible refine Kd.C_drewN ?_ _) | (with_reducible refine Kd.C_drew ?_)))
   (case side4 => exact (Kd.R_reads' HO117.out).2.1)
   (case side5 => repeat (first | exact (Kd.R_reads' HO120.out).2.2 | (with_reducible refine Kd.C_alloc ?_ _) | (with_reducible refine Kd.C_drewN ?_ _) | (with_reducible refine Kd.C_drew ?_)))
   (case side6 => exact (Kd.R_reads' HO120.out).2.1)
   rintro e w54 ⟨v125, rfl, ho0, hb⟩
   refine ⟨_, rfl, ?_⟩
   replace HO120 := rb_ HO120 hb
   have HO126 := am_ (Kd.R_lower (Kd.R_new' (Kd.R_new' ho0 (Kd.R_lt (by exact HO111.out))) (Kd.R_lt (by exact HO117.out))) (below_size (hb_ : Below w.heap.size w _)))
   replace HO111 := am_ (Kd.R_elder' (by exact HO111.out) (Kd.R_base ho0) hb)
   replace HO117 := am_ (Kd.R_elder' (by exact HO117.out) (Kd.R_base ho0) hb)
   replace BK101 := bb_ BK101 hb
   replace BK102 := bb_ BK102 hb
   replace BK128 := bb_ BK128 hb
   replace HB := am_ (below_step (hb_ : Below w.heap.size w _) hb)
   (try clear hb)
   (try clear hb2)
   (try clear hk)
   (try clear hi)
   (try clear ho0)
   refine hK.out _ _ (s8_ BK101 BK102) (fun hHeld => ?_)
   clear hK K
   refine norm_ (a' := ?_) ?_ ?_
   rotate_left
   ·
    show Act.put _ (some 42) _ = _
    simp only [Act.put, List.setIfInBounds_toArray, List.set_cons_zero, List.set_cons_succ, i64_w, i32_w]
    rfl
   refine pure_ (i := 7) (N := some 35) (v := ?_) (a' := ?_) #[true, true, true, true, true, true, true, true, false, false, true, false, false] rfl rfl (any_of HT_.out (by kernel_rfl)) (fun _ _ _ h => h) (Or.inl ⟨by rfl, ?_⟩) ?_ ?_
   rotate_left
   ·
    intro w'
    go_simp
    with_reducible rfl
   rotate_left
   ·
    simp only [Act.put, List.setIfInBounds_toArray, List.set_cons_zero, List.set_cons_succ, i64_w, i32_w]
    rfl
   refine pure_ (i := 8) (N := some 43) (v := ?_) (a' := ?_) #[true, true, true, true, true, true, true, true, true, false, true, false, false] rfl rfl (any_of HT_.out (by kernel_rfl)) (fun _ _ _ h => h) (Or.inl ⟨by rfl, ?_⟩) ?_ ?_
   rotate_left
   ·
    intro w'
    go_simp
    with_reducible rfl
   rotate_left
   ·
    simp only [Act.put, List.setIfInBounds_toArray, List.set_cons_zero, List.set_cons_succ, i64_w, i32_w]
    rfl
   refine pure_ (i := 9) (N := some 44) (v := ?_) (a' := ?_) #[true, true, true, true, true, true, true, true, true, true, true, false, false] rfl rfl (any_of HT_.out (by kernel_rfl)) (fun _ _ _ h => h) (Or.inl ⟨by rfl, ?_⟩) ?_ ?_
   rotate_left
   ·
    intro w'
    go_simp
    with_reducible rfl
   rotate_left
   ·
    simp only [Act.put, List.setIfInBounds_toArray, List.set_cons_zero, List.set_cons_succ, i64_w, i32_w]
    rfl
   exact nrm_ (hJ1_3_5_6_10 (.slice Ao51 t109.length co51, .slice Ao52 t115.length co52, .slice Ao53 t118.length co53, _, gb128) _ ⟨hHeld, (by exact HO111.out), (by exact HO117.out), (by exact HO120.out), (by exact Kd.R_mono HO126.out (fun _ hk => by first | exact ⟨hk.1.2, hk.2⟩ | simp only [hk, ne_eq, not_false_eq_true, and_self])), (by exact BK101.out), (by exact BK102.out), (by exact BK128.out), GW128.out, GE128.out, NB101_128.out, NB128_101.out, NB102_128.out, NB128_102.out, hb_⟩)
  intro hJ1_3_5_10
  refine join_ (σ := Value × Value × Value) 7 #[true, true, true, true, true, true, false, false, false, false, false, false, false] (fun s_ => [(37, .agg #[.int .i64 t106, .int .i64 t107, .int .i64 t108, s_.1]), (39, .agg #[.int .i64 t112, .int .i64 t113, .int .i64 t114, s_.2.1]), (41, s_.2.2)]) (fun s_ w' => (w'.cell? ⟨gb101, 0, none⟩ = some (.int .i64 a0_0) ∧ w'.cell? ⟨gb101, 1, none⟩ = some (.int .i64 a0_1) ∧ w'.cell? ⟨gb101, 2, none⟩ = some (.int .i64 a0_2) ∧ w'.cell? ⟨gb101, 3, none⟩ = some (.slice A0_3 l0_3.length c0_3) ∧ w'.cell? ⟨gb102, 0, none⟩ = some (.int .i64 a1_0) ∧ w'.cell? ⟨gb102, 1, none⟩ = some (.int .i64 a1_1) ∧ w'.cell? ⟨gb102, 2, none⟩ = some (.int .i64 a1_2) ∧ w'.cell? ⟨gb102, 3, none⟩ = some (.slice A1_3 l1_3.length c1_3)) ∧ (Kd.R (Kd.int .i64) 3 w' w.heap.size (fun k_ => some k_ ≠ (s_.2.1 : Value).ownBlock) s_.1 t109) ∧ (Kd.R (Kd.int .i64) 3 w' w.heap.size (fun k_ => some k_ ≠ (s_.1 : Value).ownBlock) s_.2.1 t115) ∧ (Kd.R k59 59 w' w.heap.size (fun _ => True) s_.2.2 t118) ∧ (w'.heap[gb101]? = some (.cells #[.int .i64 a0_0, .int .i64 a0_1, .int .i64 a0_2, .slice A0_3 l0_3.length c0_3] 34 (0, 0))) ∧ (w'.heap[gb102]? = some (.cells #[.int .i64 a1_0, .int .i64 a1_1, .int .i64 a1_2, .slice A1_3 l1_3.length c1_3] 34 (0, 0))) ∧ (Below w.heap.size w w')) ?_ ?_
  rotate_left
  rotate_left
  ·
   skip
   rintro ⟨v110, v116, v119⟩ w49 ⟨hS_, h0_, h1_, h2_, h3_, h4_, h5_⟩
   (try dsimp only at h0_ h1_ h2_ h3_ h4_ h5_)
   clear BK101 BK102 HB
   have HO111 := am_ h0_
   have HO117 := am_ h1_
   have HO120 := am_ h2_
   have BK101 := am_ h3_
   have BK102 := am_ h4_
   have HB := am_ h5_
   clear h0_ h1_ h2_ h3_ h4_ h5_
   have hHeld := hS_
   obtain ⟨Ao50, co50, eo50⟩ := Kd.R_slice HO111.out
   (first | subst eo50 | (injection eo50 with f1_ f2_ f3_; have f4_ := f1_.symm; have f5_ := f3_.symm; clear f1_ f2_ f3_; subst f4_; subst f5_))
   obtain ⟨Ao51, co51, eo51⟩ := Kd.R_slice HO117.out
   (first | subst eo51 | (injection eo51 with f1_ f2_ f3_; have f4_ := f1_.symm; have f5_ := f3_.symm; clear f1_ f2_ f3_; subst f4_; subst f5_))
   obtain ⟨Ao52, co52, eo52⟩ := Kd.R_slice HO120.out
   (first | subst eo52 | (injection eo52 with f1_ f2_ f3_; have f4_ := f1_.symm; have f5_ := f3_.symm; clear f1_ f2_ f3_; subst f4_; subst f5_))
   refine norm_ (a' := ?_) ?_ ?_
   rotate_left
   ·
    simp only [putAll, Act.put, List.setIfInBounds_toArray, List.set_cons_zero, List.set_cons_succ]
    rfl
   refine two_ (i := 6) (j := 10) (Ni := some 42) (Nj := some 8) #[true, true, true, true, true, true, true, false, false, false, false, false, false] #[true, true, true, true, true, true, false, false, false, false, true, false, false] rfl rfl rfl rfl (two_of HT_.out (by kernel_rfl)) (by decide) (by decide) (fun K hK => ?_) (fun K hK => ?_)
   rotate_left
   ·
    skip
    refine box_step ?hg (N := 8) ?hd (cs := #[.int .i64 0, .int .i64 0, .int .i64 0, .slice none 0 0]) (t := 25) ?hr ?_; (case hd => rfl); (case hg => rfl); (case hr => first | (go_simp; done) | (go_simp; rfl))
    intro gb128 hg w50 hbox hb
    replace HO111 := rb_ HO111 hb
    replace HO117 := rb_ HO117 hb
    replace HO120 := rb_ HO120 hb
    have BK128 := am_ (hbox)
    have GW128 := am_ ((by rw [hg]; exact (below_size (hb_ : Below w.heap.size w _)) : w.heap.size ≤ gb128))
    have GE128 := GW128
    replace HB := am_ (below_step (hb_ : Below w.heap.size w _) hb)
    have NB101_128 := nb_ hg BK101
    have NB128_101 := nc_ NB101_128
    replace BK101 := bb_ BK101 hb
    have NB102_128 := nb_ hg BK102
    have NB128_102 := nc_ NB102_128
    replace BK102 := bb_ BK102 hb
    clear hb hbox hg
    refine hK.out _ _ (s8_ BK101 BK102) (fun hHeld => ?_)
    clear hK K
    refine norm_ (a' := ?_) ?_ ?_
    rotate_left
    ·
     show Act.put _ (some 8) _ = _
     simp only [Act.put, List.setIfInBounds_toArray, List.set_cons_zero, List.set_cons_succ, i64_w, i32_w]
     rfl
    exact nrm_ (hJ1_3_5_10 (_, _, _, gb128) _ ⟨hHeld, (by exact HO111.out), (by exact HO117.out), (by exact HO120.out), (by exact BK101.out), (by exact BK102.out), (by exact BK128.out), GW128.out, GE128.out, NB101_128.out, NB128_101.out, NB102_128.out, NB128_102.out, hb_⟩)
   skip
   refine goes_ Try.func7 (by kernel_rfl) rfl #[.agg #[.int .i64 t106, .int .i64 t107, .int .i64 t108, .slice Ao50 t109.length co50], .agg #[.int .i64 t112, .int .i64 t113, .int .i64 t114, .slice Ao51 t115.length co51], .slice Ao52 t118.length co52] (by rfl) rfl rfl (by simp only [List.map_toArray, List.map_cons, List.map_nil]; rfl) ?_
   with_reducible refine (spec_MaskImage.calls k t106 t107 t108 _ _ t109 t112 t113 t114 _ _ t115 _ _ t118 t121 t122 t123 t124 t127 _ ?side1 ?side2 ?side3 ?side4 ?side5 ?side6 A32.out).mono ?_
   (case side1 => repeat (first | exact (Kd.R_reads' HO111.out).2.2 | (with_reducible refine Kd.C_alloc ?_ _) | (with_reducible refine Kd.C_drewN ?_ _) | (with_reducible refine Kd.C_drew ?_)))
   (case side2 => exact (Kd.R_reads' HO111.out).2.1)
   (case side3 => repeat (first | exact (Kd.R_reads' HO117.out).2.2 | (with_reducible refine Kd.C_alloc ?_ _) | (with_reducible refine Kd.C_drewN ?_ _) | (with_reducible refine Kd.C_drew ?_)))
   (case side4 => exact (Kd.R_reads' HO117.out).2.1)
   (case side5 => repeat (first | exact (Kd.R_reads' HO120.out).2.2 | (with_reducible refine Kd.C_alloc ?_ _) | (with_reducible refine Kd.C_drewN ?_ _) | (with_reducible refine Kd.C_drew ?_)))
   (case side6 => exact (Kd.R_reads' HO120.out).2.1)
   rintro e w53 ⟨v125, rfl, ho0, hb⟩
   refine ⟨_, rfl, ?_⟩
   replace HO120 := rb_ HO120 hb
   have HO126 := am_ (Kd.R_lower (Kd.R_new' (Kd.R_new' ho0 (Kd.R_lt (by exact HO111.out))) (Kd.R_lt (by exact HO117.out))) (below_size (hb_ : Below w.heap.size w _)))
   replace HO111 := am_ (Kd.R_elder' (by exact HO111.out) (Kd.R_base ho0) hb)
   replace HO117 := am_ (Kd.R_elder' (by exact HO117.out) (Kd.R_base ho0) hb)
   replace BK101 := bb_ BK101 hb
   replace BK102 := bb_ BK102 hb
   replace HB := am_ (below_step (hb_ : Below w.heap.size w _) hb)
   (try clear hb)
   (try clear hb2)
   (try clear hk)
   (try clear hi)
   (try clear ho0)
   refine hK.out _ _ (s8_ BK101 BK102) (fun hHeld => ?_)
   clear hK K
   refine norm_ (a' := ?_) ?_ ?_
   rotate_left
   ·
    show Act.put _ (some 42) _ = _
    simp only [Act.put, List.setIfInBounds_toArray, List.set_cons_zero, List.set_cons_succ, i64_w, i32_w]
    rfl
   refine pure_ (i := 7) (N := some 35) (v := ?_) (a' := ?_) #[true, true, true, true, true, true, true, true, false, false, false, false, false] rfl rfl (any_of HT_.out (by kernel_rfl)) (fun _ _ _ h => h) (Or.inl ⟨by rfl, ?_⟩) ?_ ?_
   rotate_left
   ·
    intro w'
    go_simp
    with_reducible rfl
   rotate_left
   ·
    simp only [Act.put, List.setIfInBounds_toArray, List.set_cons_zero, List.set_cons_succ, i64_w, i32_w]
    rfl
   refine pure_ (i := 8) (N := some 43) (v := ?_) (a' := ?_) #[true, true, true, true, true, true, true, true, true, false, false, false, false] rfl rfl (any_of HT_.out (by kernel_rfl)) (fun _ _ _ h => h) (Or.inl ⟨by rfl, ?_⟩) ?_ ?_
   rotate_left
   ·
    intro w'
    go_simp
    with_reducible rfl
   rotate_left
   ·
    simp only [Act.put, List.setIfInBounds_toArray, List.set_cons_zero, List.set_cons_succ, i64_w, i32_w]
    rfl
   refine pure_ (i := 9) (N := some 44) (v := ?_) (a' := ?_) #[true, true, true, true, true, true, true, true, true, true, false, false, false] rfl rfl (any_of HT_.out (by kernel_rfl)) (fun _ _ _ h => h) (Or.inl ⟨by rfl, ?_⟩) ?_ ?_
   rotate_left
   ·
    intro w'
    go_simp
    with_reducible rfl
   rotate_left
   ·
    simp only [Act.put, List.setIfInBounds_toArray, List.set_cons_zero, List.set_cons_succ, i64_w, i32_w]
    rfl
   exact nrm_ (hJ1_3_5_6 (.slice Ao50 t109.length co50, .slice Ao51 t115.length co51, .slice Ao52 t118.length co52, _) _ ⟨hHeld, (by exact HO111.out), (by exact HO117.out), (by exact HO120.out), (by exact Kd.R_mono HO126.out (fun _ hk => by first | exact ⟨hk.1.2, hk.2⟩ | simp only [hk, ne_eq, not_false_eq_true, and_self])), (by exact BK101.out), (by exact BK102.out), hb_⟩)
  intro hJ1_3_5
  refine join_ (σ := Value × Value × Nat) 7 #[true, true, true, true, true, false, false, false, false, false, true, false, false] (fun s_ => [(37, .agg #[.int .i64 t106, .int .i64 t107, .int .i64 t108, s_.1]), (39, .agg #[.int .i64 t112, .int .i64 t113, .int .i64 t114, s_.2.1]), (8, .pointer (some ⟨s_.2.2, 0, none⟩))]) (fun s_ w' => (w'.cell? ⟨gb101, 0, none⟩ = some (.int .i64 a0_0) ∧ w'.cell? ⟨gb101, 1, none⟩ = some (.int .i64 a0_1) ∧ w'.cell? ⟨gb101, 2, none⟩ = some (.int .i64 a0_2) ∧ w'.cell? ⟨gb101, 3, none⟩ = some (.slice A0_3 l0_3.length c0_3) ∧ w'.cell? ⟨gb102, 0, none⟩ = some (.int .i64 a1_0) ∧ w'.cell? ⟨gb102, 1, none⟩ = some (.int .i64 a1_1) ∧ w'.cell? ⟨gb102, 2, none⟩ = some (.int .i64 a1_2) ∧ w'.cell? ⟨gb102, 3, none⟩ = some (.slice A1_3 l1_3.length c1_3)) ∧ (Kd.R (Kd.int .i64) 3 w' w.heap.size (fun k_ => some k_ ≠ (s_.2.1 : Value).ownBlock) s_.1 t109) ∧ (Kd.R (Kd.int .i64) 3 w' w.heap.size (fun k_ => some k_ ≠ (s_.1 : Value).ownBlock) s_.2.1 t115) ∧ (w'.heap[gb101]? = some (.cells #[.int .i64 a0_0, .int .i64 a0_1, .int .i64 a0_2, .slice A0_3 l0_3.length c0_3] 34 (0, 0))) ∧ (w'.heap[gb102]? = some (.cells #[.int .i64 a1_0, .int .i64 a1_1, .int .i64 a1_2, .slice A1_3 l1_3.length c1_3] 34 (0, 0))) ∧ (w'.heap[s_.2.2]? = some (.cells #[.int .i64 0, .int .i64 0, .int .i64 0, .slice none 0 0] 25 (0, 0))) ∧ (w.heap.size ≤ s_.2.2) ∧ (w.heap.size ≤ s_.2.2) ∧ (gb101 ≠ s_.2.2) ∧ (s_.2.2 ≠ gb101) ∧ (gb102 ≠ s_.2.2) ∧ (s_.2.2 ≠ gb102) ∧ (Below w.heap.size w w')) ?_ ?_
  rotate_left
  rotate_left
  ·
   skip
   rintro ⟨v110, v116, gb128⟩ w49 ⟨hS_, h0_, h1_, h2_, h3_, h4_, h5_, h6_, h7_, h8_, h9_, h10_, h11_⟩
   (try dsimp only at h0_ h1_ h2_ h3_ h4_ h5_ h6_ h7_ h8_ h9_ h10_ h11_)
   clear BK101 BK102 HB
   have HO111 := am_ h0_
   have HO117 := am_ h1_
   have BK101 := am_ h2_
   have BK102 := am_ h3_
   have BK128 := am_ h4_
   have GW128 := am_ h5_
   have GE128 := am_ h6_
   have NB101_128 := am_ h7_
   have NB128_101 := am_ h8_
   have NB102_128 := am_ h9_
   have NB128_102 := am_ h10_
   have HB := am_ h11_
   clear h0_ h1_ h2_ h3_ h4_ h5_ h6_ h7_ h8_ h9_ h10_ h11_
   have hHeld := hS_
   refine norm_ (a' := ?_) ?_ ?_
   rotate_left
   ·
    simp only [putAll, Act.put, List.setIfInBounds_toArray, List.set_cons_zero, List.set_cons_succ]
    rfl
   refine one_ (i := 5) (N := some 41) #[true, true, true, true, true, true, false, false, false, false, true, false, false] rfl rfl (one_of HT_.out (by kernel_rfl)) (by decide) (fun K hK => ?_)
   refine goes_ Try.func13 (by kernel_rfl) rfl #[.slice A2 l2.length c2] (by rfl) rfl rfl (by simp only [List.map_toArray, List.map_cons, List.map_nil]; rfl) ?_
   with_reducible refine (laws_toRunS.calls k _ _ l2 t118 _ ?side1 ?side2 A31.out).mono ?_
   (case side1 => repeat (first | exact (Kd.C_below HR2.out HB.out) | (with_reducible refine Kd.C_alloc ?_ _) | (with_reducible refine Kd.C_drewN ?_ _) | (with_reducible refine Kd.C_drew ?_)))
   (case side2 => exact HC2.out)
   rintro e w50 ⟨v119, rfl, ho0, hb⟩
   refine ⟨_, rfl, ?_⟩
   replace HO111 := rb_ HO111 hb
   replace HO117 := rb_ HO117 hb
   have HO120 := am_ (Kd.R_lower ho0 (below_size (hb_ : Below w.heap.size w _)))
   replace BK101 := bb_ BK101 hb
   replace BK102 := bb_ BK102 hb
   replace BK128 := bb_ BK128 hb
   replace HB := am_ (below_step (hb_ : Below w.heap.size w _) hb)
   (try clear hb)
   (try clear hb2)
   (try clear hk)
   (try clear hi)
   (try clear ho0)
   refine hK.out _ _ (s8_ BK101 BK102) (fun hHeld => ?_)
   clear hK K
   refine norm_ (a' := ?_) ?_ ?_
   rotate_left
   ·
    show Act.put _ (some 41) _ = _
    simp only [Act.put, List.setIfInBounds_toArray, List.set_cons_zero, List.set_cons_succ, i64_w, i32_w]
    rfl
   exact nrm_ (hJ1_3_5_10 (_, _, _, gb128) _ ⟨hHeld, (by exact HO111.out), (by exact HO117.out), (by exact HO120.out), (by exact BK101.out), (by exact BK102.out), (by exact BK128.out), GW128.out, GE128.out, NB101_128.out, NB128_101.out, NB102_128.out, NB128_102.out, hb_⟩)
  intro hJ1_3_10
  refine join_ (σ := Value × Value) 8 #[true, true, true, true, true, false, false, false, false, false, false, false, false] (fun s_ => [(37, .agg #[.int .i64 t106, .int .i64 t107, .int .i64 t108, s_.1]), (39, .agg #[.int .i64 t112, .int .i64 t113, .int .i64 t114, s_.2])]) (fun s_ w' => (w'.cell? ⟨gb101, 0, none⟩ = some (.int .i64 a0_0) ∧ w'.cell? ⟨gb101, 1, none⟩ = some (.int .i64 a0_1) ∧ w'.cell? ⟨gb101, 2, none⟩ = some (.int .i64 a0_2) ∧ w'.cell? ⟨gb101, 3, none⟩ = some (.slice A0_3 l0_3.length c0_3) ∧ w'.cell? ⟨gb102, 0, none⟩ = some (.int .i64 a1_0) ∧ w'.cell? ⟨gb102, 1, none⟩ = some (.int .i64 a1_1) ∧ w'.cell? ⟨gb102, 2, none⟩ = some (.int .i64 a1_2) ∧ w'.cell? ⟨gb102, 3, none⟩ = some (.slice A1_3 l1_3.length c1_3)) ∧ (Kd.R (Kd.int .i64) 3 w' w.heap.size (fun k_ => some k_ ≠ (s_.2 : Value).ownBlock) s_.1 t109) ∧ (Kd.R (Kd.int .i64) 3 w' w.heap.size (fun k_ => some k_ ≠ (s_.1 : Value).ownBlock) s_.2 t115) ∧ (w'.heap[gb101]? = some (.cells #[.int .i64 a0_0, .int .i64 a0_1, .int .i64 a0_2, .slice A0_3 l0_3.length c0_3] 34 (0, 0))) ∧ (w'.heap[gb102]? = some (.cells #[.int .i64 a1_0, .int .i64 a1_1, .int .i64 a1_2, .slice A1_3 l1_3.length c1_3] 34 (0, 0))) ∧ (Below w.heap.size w w')) ?_ ?_
  rotate_left
  rotate_left
  ·
   skip
   rintro ⟨v110, v116⟩ w48 ⟨hS_, h0_, h1_, h2_, h3_, h4_⟩
   (try dsimp only at h0_ h1_ h2_ h3_ h4_)
   clear BK101 BK102 HB
   have HO111 := am_ h0_
   have HO117 := am_ h1_
   have BK101 := am_ h2_
   have BK102 := am_ h3_
   have HB := am_ h4_
   clear h0_ h1_ h2_ h3_ h4_
   have hHeld := hS_
   refine norm_ (a' := ?_) ?_ ?_
   rotate_left
   ·
    simp only [putAll, Act.put, List.setIfInBounds_toArray, List.set_cons_zero, List.set_cons_succ]
    rfl
   refine two_ (i := 5) (j := 10) (Ni := some 41) (Nj := some 8) #[true, true, true, true, true, true, false, false, false, false, false, false, false] #[true, true, true, true, true, false, false, false, false, false, true, false, false] rfl rfl rfl rfl (two_of HT_.out (by kernel_rfl)) (by decide) (by decide) (fun K hK => ?_) (fun K hK => ?_)
   ·
    skip
    refine goes_ Try.func13 (by kernel_rfl) rfl #[.slice A2 l2.length c2] (by rfl) rfl rfl (by simp only [List.map_toArray, List.map_cons, List.map_nil]; rfl) ?_
    with_reducible refine (laws_toRunS.calls k _ _ l2 t118 _ ?side1 ?side2 A31.out).mono ?_
    (case side1 => repeat (first | exact (Kd.C_below HR2.out HB.out) | (with_reducible refine Kd.C_alloc ?_ _) | (with_reducible refine Kd.C_drewN ?_ _) | (with_reducible refine Kd.C_drew ?_)))
    (case side2 => exact HC2.out)
    rintro e w49 ⟨v119, rfl, ho0, hb⟩
    refine ⟨_, rfl, ?_⟩
    replace HO111 := rb_ HO111 hb
    replace HO117 := rb_ HO117 hb
    have HO120 := am_ (Kd.R_lower ho0 (below_size (hb_ : Below w.heap.size w _)))
    replace BK101 := bb_ BK101 hb
    replace BK102 := bb_ BK102 hb
    replace HB := am_ (below_step (hb_ : Below w.heap.size w _) hb)
    (try clear hb)
    (try clear hb2)
    (try clear hk)
    (try clear hi)
    (try clear ho0)
    refine hK.out _ _ (s8_ BK101 BK102) (fun hHeld => ?_)
    clear hK K
    refine norm_ (a' := ?_) ?_ ?_
    rotate_left
    ·
     show Act.put _ (some 41) _ = _
     simp only [Act.put, List.setIfInBounds_toArray, List.set_cons_zero, List.set_cons_succ, i64_w, i32_w]
     rfl
    exact nrm_ (hJ1_3_5 (_, _, _) _ ⟨hHeld, (by exact HO111.out), (by exact HO117.out), (by exact HO120.out), (by exact BK101.out), (by exact BK102.out), hb_⟩)
   skip
   refine box_step ?hg (N := 8) ?hd (cs := #[.int .i64 0, .int .i64 0, .int .i64 0, .slice none 0 0]) (t := 25) ?hr ?_; (case hd => rfl); (case hg => rfl); (case hr => first | (go_simp; done) | (go_simp; rfl))
   intro gb128 hg w49 hbox hb
   replace HO111 := rb_ HO111 hb
   replace HO117 := rb_ HO117 hb
   have BK128 := am_ (hbox)
   have GW128 := am_ ((by rw [hg]; exact (below_size (hb_ : Below w.heap.size w _)) : w.heap.size ≤ gb128))
   have GE128 := GW128
   replace HB := am_ (below_step (hb_ : Below w.heap.size w _) hb)
   have NB101_128 := nb_ hg BK101
   have NB128_101 := nc_ NB101_128
   replace BK101 := bb_ BK101 hb
   have NB102_128 := nb_ hg BK102
   have NB128_102 := nc_ NB102_128
   replace BK102 := bb_ BK102 hb
   clear hb hbox hg
   refine hK.out _ _ (s8_ BK101 BK102) (fun hHeld => ?_)
   clear hK K
   refine norm_ (a' := ?_) ?_ ?_
   rotate_left
   ·
    show Act.put _ (some 8) _ = _
    simp only [Act.put, List.setIfInBounds_toArray, List.set_cons_zero, List.set_cons_succ, i64_w, i32_w]
    rfl
   exact nrm_ (hJ1_3_10 (_, _, gb128) _ ⟨hHeld, (by exact HO111.out), (by exact HO117.out), (by exact BK101.out), (by exact BK102.out), (by exact BK128.out), GW128.out, GE128.out, NB101_128.out, NB128_101.out, NB102_128.out, NB128_102.out, hb_⟩)
  intro hJ1_3
  refine join_ (σ := Value × Nat) 8 #[true, true, true, false, true, false, false, false, false, false, true, false, false] (fun s_ => [(37, .agg #[.int .i64 t106, .int .i64 t107, .int .i64 t108, s_.1]), (8, .pointer (some ⟨s_.2, 0, none⟩))]) (fun s_ w' => (w'.cell? ⟨gb101, 0, none⟩ = some (.int .i64 a0_0) ∧ w'.cell? ⟨gb101, 1, none⟩ = some (.int .i64 a0_1) ∧ w'.cell? ⟨gb101, 2, none⟩ = some (.int .i64 a0_2) ∧ w'.cell? ⟨gb101, 3, none⟩ = some (.slice A0_3 l0_3.length c0_3) ∧ w'.cell? ⟨gb102, 0, none⟩ = some (.int .i64 a1_0) ∧ w'.cell? ⟨gb102, 1, none⟩ = some (.int .i64 a1_1) ∧ w'.cell? ⟨gb102, 2, none⟩ = some (.int .i64 a1_2) ∧ w'.cell? ⟨gb102, 3, none⟩ = some (.slice A1_3 l1_3.length c1_3)) ∧ (Kd.R (Kd.int .i64) 3 w' w.heap.size (fun _ => True) s_.1 t109) ∧ (w'.heap[gb101]? = some (.cells #[.int .i64 a0_0, .int .i64 a0_1, .int .i64 a0_2, .slice A0_3 l0_3.length c0_3] 34 (0, 0))) ∧ (w'.heap[gb102]? = some (.cells #[.int .i64 a1_0, .int .i64 a1_1, .int .i64 a1_2, .slice A1_3 l1_3.length c1_3] 34 (0, 0))) ∧ (w'.heap[s_.2]? = some (.cells #[.int .i64 0, .int .i64 0, .int .i64 0, .slice none 0 0] 25 (0, 0))) ∧ (w.heap.size ≤ s_.2) ∧ (w.heap.size ≤ s_.2) ∧ (gb101 ≠ s_.2) ∧ (s_.2 ≠ gb101) ∧ (gb102 ≠ s_.2) ∧ (s_.2 ≠ gb102) ∧ (Below w.heap.size w w')) ?_ ?_
  rotate_left
  rotate_left
  ·
   skip
   rintro ⟨v110, gb128⟩ w48 ⟨hS_, h0_, h1_, h2_, h3_, h4_, h5_, h6_, h7_, h8_, h9_, h10_⟩
   (try dsimp only at h0_ h1_ h2_ h3_ h4_ h5_ h6_ h7_ h8_ h9_ h10_)
   clear BK101 BK102 HB
   have HO111 := am_ h0_
   have BK101 := am_ h1_
   have BK102 := am_ h2_
   have BK128 := am_ h3_
   have GW128 := am_ h4_
   have GE128 := am_ h5_
   have NB101_128 := am_ h6_
   have NB128_101 := am_ h7_
   have NB102_128 := am_ h8_
   have NB128_102 := am_ h9_
   have HB := am_ h10_
   clear h0_ h1_ h2_ h3_ h4_ h5_ h6_ h7_ h8_ h9_ h10_
   have hHeld := hS_
   refine norm_ (a' := ?_) ?_ ?_
   rotate_left
   ·
    simp only [putAll, Act.put, List.setIfInBounds_toArray, List.set_cons_zero, List.set_cons_succ]
    rfl
   refine one_ (i := 3) (N := some 39) #[true, true, true, true, true, false, false, false, false, false, true, false, false] rfl rfl (one_of HT_.out (by kernel_rfl)) (by decide) (fun K hK => ?_)
   refine goes_ Try.func12 (by kernel_rfl) rfl #[.agg #[.int .i64 a1_0, .int .i64 a1_1, .int .i64 a1_2, .slice A1_3 l1_3.length c1_3]] (by rfl) rfl rfl (by simp only [List.map_toArray, List.map_cons, List.map_nil]; rfl) ?_
   with_reducible refine (laws_toImage.calls k a1_0 a1_1 a1_2 _ _ l1_3 t112 t113 t114 t115 _ ?side1 ?side2 A30.out).mono ?_
   (case side1 => repeat (first | exact (Kd.C_below HR1_3.out HB.out) | (with_reducible refine Kd.C_alloc ?_ _) | (with_reducible refine Kd.C_drewN ?_ _) | (with_reducible refine Kd.C_drew ?_)))
   (case side2 => exact HC1_3.out)
   rintro e w49 ⟨v116, rfl, ho0, hb⟩
   refine ⟨_, rfl, ?_⟩
   have HO117 := am_ (Kd.R_lower (Kd.R_new' ho0 (Kd.R_lt (by exact HO111.out))) (below_size (hb_ : Below w.heap.size w _)))
   replace HO111 := am_ (Kd.R_elder' (by exact HO111.out) (Kd.R_base ho0) hb)
   replace BK101 := bb_ BK101 hb
   replace BK102 := bb_ BK102 hb
   replace BK128 := bb_ BK128 hb
   replace HB := am_ (below_step (hb_ : Below w.heap.size w _) hb)
   (try clear hb)
   (try clear hb2)
   (try clear hk)
   (try clear hi)
   (try clear ho0)
   refine hK.out _ _ (s8_ BK101 BK102) (fun hHeld => ?_)
   clear hK K
   refine norm_ (a' := ?_) ?_ ?_
   rotate_left
   ·
    show Act.put _ (some 39) _ = _
    simp only [Act.put, List.setIfInBounds_toArray, List.set_cons_zero, List.set_cons_succ, i64_w, i32_w]
    rfl
   exact nrm_ (hJ1_3_10 (_, _, gb128) _ ⟨hHeld, (by exact Kd.R_mono HO111.out (fun _ hk => hk.2)), (by exact Kd.R_mono HO117.out (fun _ hk => hk.2)), (by exact BK101.out), (by exact BK102.out), (by exact BK128.out), GW128.out, GE128.out, NB101_128.out, NB128_101.out, NB102_128.out, NB128_102.out, hb_⟩)
  intro hJ1_10
  refine join_ (σ := Value) 9 #[true, true, true, false, true, false, false, false, false, false, false, false, false] (fun s_ => [(37, .agg #[.int .i64 t106, .int .i64 t107, .int .i64 t108, s_])]) (fun s_ w' => (w'.cell? ⟨gb101, 0, none⟩ = some (.int .i64 a0_0) ∧ w'.cell? ⟨gb101, 1, none⟩ = some (.int .i64 a0_1) ∧ w'.cell? ⟨gb101, 2, none⟩ = some (.int .i64 a0_2) ∧ w'.cell? ⟨gb101, 3, none⟩ = some (.slice A0_3 l0_3.length c0_3) ∧ w'.cell? ⟨gb102, 0, none⟩ = some (.int .i64 a1_0) ∧ w'.cell? ⟨gb102, 1, none⟩ = some (.int .i64 a1_1) ∧ w'.cell? ⟨gb102, 2, none⟩ = some (.int .i64 a1_2) ∧ w'.cell? ⟨gb102, 3, none⟩ = some (.slice A1_3 l1_3.length c1_3)) ∧ (Kd.R (Kd.int .i64) 3 w' w.heap.size (fun _ => True) s_ t109) ∧ (w'.heap[gb101]? = some (.cells #[.int .i64 a0_0, .int .i64 a0_1, .int .i64 a0_2, .slice A0_3 l0_3.length c0_3] 34 (0, 0))) ∧ (w'.heap[gb102]? = some (.cells #[.int .i64 a1_0, .int .i64 a1_1, .int .i64 a1_2, .slice A1_3 l1_3.length c1_3] 34 (0, 0))) ∧ (Below w.heap.size w w')) ?_ ?_
  rotate_left
  ·
   intro hJ1
   refine join_ (σ := Nat) 9 #[true, false, true, false, true, false, false, false, false, false, true, false, false] (fun s_ => [(8, .pointer (some ⟨s_, 0, none⟩))]) (fun s_ w' => (w'.cell? ⟨gb101, 0, none⟩ = some (.int .i64 a0_0) ∧ w'.cell? ⟨gb101, 1, none⟩ = some (.int .i64 a0_1) ∧ w'.cell? ⟨gb101, 2, none⟩ = some (.int .i64 a0_2) ∧ w'.cell? ⟨gb101, 3, none⟩ = some (.slice A0_3 l0_3.length c0_3) ∧ w'.cell? ⟨gb102, 0, none⟩ = some (.int .i64 a1_0) ∧ w'.cell? ⟨gb102, 1, none⟩ = some (.int .i64 a1_1) ∧ w'.cell? ⟨gb102, 2, none⟩ = some (.int .i64 a1_2) ∧ w'.cell? ⟨gb102, 3, none⟩ = some (.slice A1_3 l1_3.length c1_3)) ∧ (w'.heap[gb101]? = some (.cells #[.int .i64 a0_0, .int .i64 a0_1, .int .i64 a0_2, .slice A0_3 l0_3.length c0_3] 34 (0, 0))) ∧ (w'.heap[gb102]? = some (.cells #[.int .i64 a1_0, .int .i64 a1_1, .int .i64 a1_2, .slice A1_3 l1_3.length c1_3] 34 (0, 0))) ∧ (w'.heap[s_]? = some (.cells #[.int .i64 0, .int .i64 0, .int .i64 0, .slice none 0 0] 25 (0, 0))) ∧ (w.heap.size ≤ s_) ∧ (w.heap.size ≤ s_) ∧ (gb101 ≠ s_) ∧ (s_ ≠ gb101) ∧ (gb102 ≠ s_) ∧ (s_ ≠ gb102) ∧ (Below w.heap.size w w')) ?_ ?_
   rotate_left
   ·
    intro hJ10
    refine two_ (i := 1) (j := 10) (Ni := some 37) (Nj := some 8) #[true, true, true, false, true, false, false, false, false, false, false, false, false] #[true, false, true, false, true, false, false, false, false, false, true, false, false] rfl rfl rfl rfl (two_of HT_.out (by kernel_rfl)) (by decide) (by decide) (fun K hK => ?_) (fun K hK => ?_)
    ·
     skip
     refine goes_ Try.func12 (by kernel_rfl) rfl #[.agg #[.int .i64 a0_0, .int .i64 a0_1, .int .i64 a0_2, .slice A0_3 l0_3.length c0_3]] (by rfl) rfl rfl (by simp only [List.map_toArray, List.map_cons, List.map_nil]; rfl) ?_
     with_reducible refine (laws_toImage.calls k a0_0 a0_1 a0_2 _ _ l0_3 t106 t107 t108 t109 _ ?side1 ?side2 A29.out).mono ?_
     (case side1 => repeat (first | exact (Kd.C_below HR0_3.out HB.out) | (with_reducible refine Kd.C_alloc ?_ _) | (with_reducible refine Kd.C_drewN ?_ _) | (with_reducible refine Kd.C_drew ?_)))
     (case side2 => exact HC0_3.out)
     rintro e w46 ⟨v110, rfl, ho0, hb⟩
     refine ⟨_, rfl, ?_⟩
     have HO111 := am_ (Kd.R_lower ho0 (below_size (hb_ : Below w.heap.size w _)))
     replace BK101 := bb_ BK101 hb
     replace BK102 := bb_ BK102 hb
     replace HB := am_ (below_step (hb_ : Below w.heap.size w _) hb)
     (try clear hb)
     (try clear hb2)
     (try clear hk)
     (try clear hi)
     (try clear ho0)
     refine hK.out _ _ (s8_ BK101 BK102) (fun hHeld => ?_)
     clear hK K
     refine norm_ (a' := ?_) ?_ ?_
     rotate_left
     ·
      show Act.put _ (some 37) _ = _
      simp only [Act.put, List.setIfInBounds_toArray, List.set_cons_zero, List.set_cons_succ, i64_w, i32_w]
      rfl
     exact nrm_ (hJ1 (_) _ ⟨hHeld, (by exact HO111.out), (by exact BK101.out), (by exact BK102.out), hb_⟩)
    skip
    refine box_step ?hg (N := 8) ?hd (cs := #[.int .i64 0, .int .i64 0, .int .i64 0, .slice none 0 0]) (t := 25) ?hr ?_; (case hd => rfl); (case hg => rfl); (case hr => first | (go_simp; done) | (go_simp; rfl))
    intro gb128 hg w46 hbox hb
    have BK128 := am_ (hbox)
    have GW128 := am_ ((by rw [hg]; exact (below_size (hb_ : Below w.heap.size w _)) : w.heap.size ≤ gb128))
    have GE128 := GW128
    replace HB := am_ (below_step (hb_ : Below w.heap.size w _) hb)
    have NB101_128 := nb_ hg BK101
    have NB128_101 := nc_ NB101_128
    replace BK101 := bb_ BK101 hb
    have NB102_128 := nb_ hg BK102
    have NB128_102 := nc_ NB102_128
    replace BK102 := bb_ BK102 hb
    clear hb hbox hg
    refine hK.out _ _ (s8_ BK101 BK102) (fun hHeld => ?_)
    clear hK K
    refine norm_ (a' := ?_) ?_ ?_
    rotate_left
    ·
     show Act.put _ (some 8) _ = _
     simp only [Act.put, List.setIfInBounds_toArray, List.set_cons_zero, List.set_cons_succ, i64_w, i32_w]
     rfl
    exact nrm_ (hJ10 (gb128) _ ⟨hHeld, (by exact BK101.out), (by exact BK102.out), (by exact BK128.out), GW128.out, GE128.out, NB101_128.out, NB128_101.out, NB102_128.out, NB128_102.out, hb_⟩)
   skip
   rintro gb128 w47 ⟨hS_, h0_, h1_, h2_, h3_, h4_, h5_, h6_, h7_, h8_, h9_⟩
   (try dsimp only at h0_ h1_ h2_ h3_ h4_ h5_ h6_ h7_ h8_ h9_)
   clear BK101 BK102 HB
   have BK101 := am_ h0_
   have BK102 := am_ h1_
   have BK128 := am_ h2_
   have GW128 := am_ h3_
   have GE128 := am_ h4_
   have NB101_128 := am_ h5_
   have NB128_101 := am_ h6_
   have NB102_128 := am_ h7_
   have NB128_102 := am_ h8_
   have HB := am_ h9_
   clear h0_ h1_ h2_ h3_ h4_ h5_ h6_ h7_ h8_ h9_
   have hHeld := hS_
   refine norm_ (a' := ?_) ?_ ?_
   rotate_left
   ·
    simp only [putAll, Act.put, List.setIfInBounds_toArray, List.set_cons_zero, List.set_cons_succ]
    rfl
   refine one_ (i := 1) (N := some 37) #[true, true, true, false, true, false, false, false, false, false, true, false, false] rfl rfl (one_of HT_.out (by kernel_rfl)) (by decide) (fun K hK => ?_)
   refine goes_ Try.func12 (by kernel_rfl) rfl #[.agg #[.int .i64 a0_0, .int .i64 a0_1, .int .i64 a0_2, .slice A0_3 l0_3.length c0_3]] (by rfl) rfl rfl (by simp only [List.map_toArray, List.map_cons, List.map_nil]; rfl) ?_
   with_reducible refine (laws_toImage.calls k a0_0 a0_1 a0_2 _ _ l0_3 t106 t107 t108 t109 _ ?side1 ?side2 A29.out).mono ?_
   (case side1 => repeat (first | exact (Kd.C_below HR0_3.out HB.out) | (with_reducible refine Kd.C_alloc ?_ _) | (with_reducible refine Kd.C_drewN ?_ _) | (with_reducible refine Kd.C_drew ?_)))
   (case side2 => exact HC0_3.out)
   rintro e w48 ⟨v110, rfl, ho0, hb⟩
   refine ⟨_, rfl, ?_⟩
   have HO111 := am_ (Kd.R_lower ho0 (below_size (hb_ : Below w.heap.size w _)))
   replace BK101 := bb_ BK101 hb
   replace BK102 := bb_ BK102 hb
   replace BK128 := bb_ BK128 hb
   replace HB := am_ (below_step (hb_ : Below w.heap.size w _) hb)
   (try clear hb)
   (try clear hb2)
   (try clear hk)
   (try clear hi)
   (try clear ho0)
   refine hK.out _ _ (s8_ BK101 BK102) (fun hHeld => ?_)
   clear hK K
   refine norm_ (a' := ?_) ?_ ?_
   rotate_left
   ·
    show Act.put _ (some 37) _ = _
    simp only [Act.put, List.setIfInBounds_toArray, List.set_cons_zero, List.set_cons_succ, i64_w, i32_w]
    rfl
   exact nrm_ (hJ1_10 (_, gb128) _ ⟨hHeld, (by exact HO111.out), (by exact BK101.out), (by exact BK102.out), (by exact BK128.out), GW128.out, GE128.out, NB101_128.out, NB128_101.out, NB102_128.out, NB128_102.out, hb_⟩)
  skip
  rintro v110 w47 ⟨hS_, h0_, h1_, h2_, h3_⟩
  (try dsimp only at h0_ h1_ h2_ h3_)
  clear BK101 BK102 HB
  have HO111 := am_ h0_
  have BK101 := am_ h1_
  have BK102 := am_ h2_
  have HB := am_ h3_
  clear h0_ h1_ h2_ h3_
  have hHeld := hS_
  refine norm_ (a' := ?_) ?_ ?_
  rotate_left
  ·
   simp only [putAll, Act.put, List.setIfInBounds_toArray, List.set_cons_zero, List.set_cons_succ]
   rfl
  refine two_ (i := 3) (j := 10) (Ni := some 39) (Nj := some 8) #[true, true, true, true, true, false, false, false, false, false, false, false, false] #[true, true, true, false, true, false, false, false, false, false, true, false, false] rfl rfl rfl rfl (two_of HT_.out (by kernel_rfl)) (by decide) (by decide) (fun K hK => ?_) (fun K hK => ?_)
  ·
   skip
   refine goes_ Try.func12 (by kernel_rfl) rfl #[.agg #[.int .i64 a1_0, .int .i64 a1_1, .int .i64 a1_2, .slice A1_3 l1_3.length c1_3]] (by rfl) rfl rfl (by simp only [List.map_toArray, List.map_cons, List.map_nil]; rfl) ?_
   with_reducible refine (laws_toImage.calls k a1_0 a1_1 a1_2 _ _ l1_3 t112 t113 t114 t115 _ ?side1 ?side2 A30.out).mono ?_
   (case side1 => repeat (first | exact (Kd.C_below HR1_3.out HB.out) | (with_reducible refine Kd.C_alloc ?_ _) | (with_reducible refine Kd.C_drewN ?_ _) | (with_reducible refine Kd.C_drew ?_)))
   (case side2 => exact HC1_3.out)
   rintro e w48 ⟨v116, rfl, ho0, hb⟩
   refine ⟨_, rfl, ?_⟩
   have HO117 := am_ (Kd.R_lower (Kd.R_new' ho0 (Kd.R_lt (by exact HO111.out))) (below_size (hb_ : Below w.heap.size w _)))
   replace HO111 := am_ (Kd.R_elder' (by exact HO111.out) (Kd.R_base ho0) hb)
   replace BK101 := bb_ BK101 hb
   replace BK102 := bb_ BK102 hb
   replace HB := am_ (below_step (hb_ : Below w.heap.size w _) hb)
   (try clear hb)
   (try clear hb2)
   (try clear hk)
   (try clear hi)
   (try clear ho0)
   refine hK.out _ _ (s8_ BK101 BK102) (fun hHeld => ?_)
   clear hK K
   refine norm_ (a' := ?_) ?_ ?_
   rotate_left
   ·
    show Act.put _ (some 39) _ = _
    simp only [Act.put, List.setIfInBounds_toArray, List.set_cons_zero, List.set_cons_succ, i64_w, i32_w]
    rfl
   exact nrm_ (hJ1_3 (_, _) _ ⟨hHeld, (by exact Kd.R_mono HO111.out (fun _ hk => hk.2)), (by exact Kd.R_mono HO117.out (fun _ hk => hk.2)), (by exact BK101.out), (by exact BK102.out), hb_⟩)
  skip
  refine box_step ?hg (N := 8) ?hd (cs := #[.int .i64 0, .int .i64 0, .int .i64 0, .slice none 0 0]) (t := 25) ?hr ?_; (case hd => rfl); (case hg => rfl); (case hr => first | (go_simp; done) | (go_simp; rfl))
  intro gb128 hg w48 hbox hb
  replace HO111 := rb_ HO111 hb
  have BK128 := am_ (hbox)
  have GW128 := am_ ((by rw [hg]; exact (below_size (hb_ : Below w.heap.size w _)) : w.heap.size ≤ gb128))
  have GE128 := GW128
  replace HB := am_ (below_step (hb_ : Below w.heap.size w _) hb)
  have NB101_128 := nb_ hg BK101
  have NB128_101 := nc_ NB101_128
  replace BK101 := bb_ BK101 hb
  have NB102_128 := nb_ hg BK102
  have NB128_102 := nc_ NB102_128
  replace BK102 := bb_ BK102 hb
  clear hb hbox hg
  refine hK.out _ _ (s8_ BK101 BK102) (fun hHeld => ?_)
  clear hK K
  refine norm_ (a' := ?_) ?_ ?_
  rotate_left
  ·
   show Act.put _ (some 8) _ = _
   simp only [Act.put, List.setIfInBounds_toArray, List.set_cons_zero, List.set_cons_succ, i64_w, i32_w]
   rfl
  exact nrm_ (hJ1_10 (_, gb128) _ ⟨hHeld, (by exact HO111.out), (by exact BK101.out), (by exact BK102.out), (by exact BK128.out), GW128.out, GE128.out, NB101_128.out, NB128_101.out, NB102_128.out, NB128_102.out, hb_⟩)
 rintro ⟨v110, v116, v119, v125, gb128⟩ w54 ⟨hS_, h0_, h1_, h2_, h3_, h4_, h5_, h6_, h7_, h8_, h9_, h10_, h11_, h12_, h13_⟩
 (try dsimp only at h0_ h1_ h2_ h3_ h4_ h5_ h6_ h7_ h8_ h9_ h10_ h11_ h12_ h13_)
 clear BK101 BK102 HB
 have HO111 := am_ h0_
 have HO117 := am_ h1_
 have HO120 := am_ h2_
 have HO126 := am_ h3_
 have BK101 := am_ h4_
 have BK102 := am_ h5_
 have BK128 := am_ h6_
 have GW128 := am_ h7_
 have GE128 := am_ h8_
 have NB101_128 := am_ h9_
 have NB128_101 := am_ h10_
 have NB102_128 := am_ h11_
 have NB128_102 := am_ h12_
 have HB := am_ h13_
 clear h0_ h1_ h2_ h3_ h4_ h5_ h6_ h7_ h8_ h9_ h10_ h11_ h12_ h13_
 have hHeld := hS_
 obtain ⟨Ao58, co58, eo58⟩ := Kd.R_slice HO126.out
 (first | subst eo58 | (injection eo58 with f1_ f2_ f3_; have f4_ := f1_.symm; have f5_ := f3_.symm; clear f1_ f2_ f3_; subst f4_; subst f5_))
 refine norm_ (a' := ?_) ?_ ?_
 rotate_left
 ·
  simp only [putAll, Act.put, List.setIfInBounds_toArray, List.set_cons_zero, List.set_cons_succ]
  rfl
 refine one_ (i := 11) (N := none) #[true, true, true, true, true, true, true, true, true, true, true, true, false] rfl rfl (one_of HT_.out (by kernel_rfl)) (by decide) (fun K hK => ?_)
 have hs55 : w54.cell? ⟨gb128, 0, none⟩ = some (.int .i64 0) := (blk_cell BK128.out 0).trans rfl
 have hfs55 := blk_frozen BK128.out 0
 have hns55_0 := NB101_128.out
 have hns55_1 := NB102_128.out
 have hms55_0 := NB128_101.out
 have hms55_1 := NB128_102.out
 have hs56 : w54.cell? ⟨gb128, 1, none⟩ = some (.int .i64 0) := (blk_cell BK128.out 1).trans rfl
 have hfs56 := blk_frozen BK128.out 1
 have hns56_0 := NB101_128.out
 have hns56_1 := NB102_128.out
 have hms56_0 := NB128_101.out
 have hms56_1 := NB128_102.out
 have hs57 : w54.cell? ⟨gb128, 2, none⟩ = some (.int .i64 0) := (blk_cell BK128.out 2).trans rfl
 have hfs57 := blk_frozen BK128.out 2
 have hns57_0 := NB101_128.out
 have hns57_1 := NB102_128.out
 have hms57_0 := NB128_101.out
 have hms57_1 := NB128_102.out
 have hs59 : w54.cell? ⟨gb128, 3, none⟩ = some (.slice none 0 0) := (blk_cell BK128.out 3).trans rfl
 have hfs59 := blk_frozen BK128.out 3
 have hns59_0 := NB101_128.out
 have hns59_1 := NB102_128.out
 have hms59_0 := NB128_101.out
 have hms59_1 := NB128_102.out
 refine skip_ (w1 := ?_) (by rfl) rfl ?_ ?_
 rotate_left
 ·
  go_simp
  rfl
 refine hK.out _ _ ⟨((cell_far (p := ⟨gb128, _, none⟩) NB101_128.out _).trans (((cell_far (p := ⟨gb128, _, none⟩) NB101_128.out _).trans (((cell_far (p := ⟨gb128, _, none⟩) NB101_128.out _).trans (((cell_far (p := ⟨gb128, _, none⟩) NB101_128.out _).trans (hHeld.1)))))))), ((cell_far (p := ⟨gb128, _, none⟩) NB101_128.out _).trans (((cell_far (p := ⟨gb128, _, none⟩) NB101_128.out _).trans (((cell_far (p := ⟨gb128, _, none⟩) NB101_128.out _).trans (((cell_far (p := ⟨gb128, _, none⟩) NB101_128.out _).trans (hHeld.2.1)))))))), ((cell_far (p := ⟨gb128, _, none⟩) NB101_128.out _).trans (((cell_far (p := ⟨gb128, _, none⟩) NB101_128.out _).trans (((cell_far (p := ⟨gb128, _, none⟩) NB101_128.out _).trans (((cell_far (p := ⟨gb128, _, none⟩) NB101_128.out _).trans (hHeld.2.2.1)))))))), ((cell_far (p := ⟨gb128, _, none⟩) NB101_128.out _).trans (((cell_far (p := ⟨gb128, _, none⟩) NB101_128.out _).trans (((cell_far (p := ⟨gb128, _, none⟩) NB101_128.out _).trans (((cell_far (p := ⟨gb128, _, none⟩) NB101_128.out _).trans (hHeld.2.2.2.1)))))))), ((cell_far (p := ⟨gb128, _, none⟩) NB102_128.out _).trans (((cell_far (p := ⟨gb128, _, none⟩) NB102_128.out _).trans (((cell_far (p := ⟨gb128, _, none⟩) NB102_128.out _).trans (((cell_far (p := ⟨gb128, _, none⟩) NB102_128.out _).trans (hHeld.2.2.2.2.1)))))))), ((cell_far (p := ⟨gb128, _, none⟩) NB102_128.out _).trans (((cell_far (p := ⟨gb128, _, none⟩) NB102_128.out _).trans (((cell_far (p := ⟨gb128, _, none⟩) NB102_128.out _).trans (((cell_far (p := ⟨gb128, _, none⟩) NB102_128.out _).trans (hHeld.2.2.2.2.2.1)))))))), ((cell_far (p := ⟨gb128, _, none⟩) NB102_128.out _).trans (((cell_far (p := ⟨gb128, _, none⟩) NB102_128.out _).trans (((cell_far (p := ⟨gb128, _, none⟩) NB102_128.out _).trans (((cell_far (p := ⟨gb128, _, none⟩) NB102_128.out _).trans (hHeld.2.2.2.2.2.2.1)))))))), ((cell_far (p := ⟨gb128, _, none⟩) NB102_128.out _).trans (((cell_far (p := ⟨gb128, _, none⟩) NB102_128.out _).trans (((cell_far (p := ⟨gb128, _, none⟩) NB102_128.out _).trans (((cell_far (p := ⟨gb128, _, none⟩) NB102_128.out _).trans (hHeld.2.2.2.2.2.2.2))))))))⟩ (fun hHeld => ?_)
 clear hK K
 refine pure_ (i := 12) (N := some 9) (v := ?_) (a' := ?_) #[true, true, true, true, true, true, true, true, true, true, true, true, true] rfl rfl (any_of HT_.out (by kernel_rfl)) (fun _ _ _ h => h) (Or.inl ⟨by rfl, ?_⟩) ?_ ?_
 rotate_left
 ·
  intro w'
  go_simp
  with_reducible rfl
 rotate_left
 ·
  simp only [Act.put, List.setIfInBounds_toArray, List.set_cons_zero, List.set_cons_succ, i64_w, i32_w]
  rfl
 refine done_ (done_of HT_.out (by kernel_rfl)) ?_
 have hnb60 := NB101_128.out
 have hnc60 := NB128_101.out
 obtain ⟨hcz61_0, hcz61_1, hcz61_2, hcz61_3, hfz61_0, hfz61_1, hfz61_2, hfz61_3⟩ := blk4_ BK101.out
 go_upto_region 16 with (first | ((with_reducible refine gate_callee (f := 12) rfl ?_); refine goesL_ (some 46) rfl rfl Try.func12 (by kernel_rfl) rfl #[.agg #[.int .i64 a0_0, .int .i64 a0_1, .int .i64 a0_2, .slice A0_3 l0_3.length c0_3]] rfl (by simp only [List.map_toArray, List.map_cons, List.map_nil]; rfl) ?_; (with_reducible refine (laws_toImage.calls k a0_0 a0_1 a0_2 _ _ l0_3 t129 t130 t131 t132 _ ?side1 ?side2 A33.out).mono ?_); (case side1 => exact Kd.C_below HR0_3.out hb_); (case side2 => exact HC0_3.out); rintro e w62 ⟨v133, rfl, ho0, hb⟩; refine ⟨_, rfl, ?_⟩; replace HO120 := am_ (Kd.R_below (by exact (R4_ HO120.out BK128.out (by decide) _ _ _ _)) hb); have HO134 := am_ (Kd.R_lower (Kd.R_new' (Kd.R_new' (Kd.R_new' ho0 (Kd.R_lt (by exact (R4_ HO111.out BK128.out (by decide) _ _ _ _)))) (Kd.R_lt (by exact (R4_ HO117.out BK128.out (by decide) _ _ _ _)))) (Kd.R_lt (by exact (R4_ HO126.out BK128.out (by decide) _ _ _ _)))) (below_size (hb_ : Below w.heap.size w _))); replace HO111 := am_ (Kd.R_elder' (by exact (R4_ HO111.out BK128.out (by decide) _ _ _ _)) (Kd.R_base ho0) hb); replace HO117 := am_ (Kd.R_elder' (by exact (R4_ HO117.out BK128.out (by decide) _ _ _ _)) (Kd.R_base ho0) hb); replace HO126 := am_ (Kd.R_elder' (by exact (R4_ HO126.out BK128.out (by decide) _ _ _ _)) (Kd.R_base ho0) hb); replace BK101 := am_ (blk_below (by exact far4_ BK101.out NB101_128.out _ _ _ _) hb); replace BK102 := am_ (blk_below (by exact far4_ BK102.out NB102_128.out _ _ _ _) hb); replace BK128 := am_ (blk_below (by exact put4_ BK128.out _ _ _ _) hb); replace HB := am_ (below_step (hb_ : Below w.heap.size w _) hb); (try clear hb); (try clear ho0)) | ((with_reducible refine gate_dst (N := 10) rfl ?_); refine box_event ?hg (N := 10) ?hd (cs := #[.int .i64 0, .int .i64 0, .int .i64 0, .slice none 0 0]) (t := 25) ?hr ?_; (case hd => rfl); (case hg => rfl); (case hr => first | (go_simp; done) | (go_simp; rfl)); intro gb135 hg w63 hbox hb; replace HO111 := rb_ HO111 hb; replace HO117 := rb_ HO117 hb; replace HO120 := rb_ HO120 hb; replace HO126 := rb_ HO126 hb; replace HO134 := rb_ HO134 hb; have BK135 := am_ (hbox); have GW135 := am_ ((by rw [hg]; exact (below_size (hb_ : Below w.heap.size w _)) : w.heap.size ≤ gb135)); have GE135 := GW135; replace HB := am_ (below_step (hb_ : Below w.heap.size w _) hb); have NB101_135 := nb_ hg BK101; have NB135_101 := nc_ NB101_135; replace BK101 := bb_ BK101 hb; have NB102_135 := nb_ hg BK102; have NB135_102 := nc_ NB102_135; replace BK102 := bb_ BK102 hb; have NB128_135 := nb_ hg BK128; have NB135_128 := nc_ NB128_135; replace BK128 := bb_ BK128 hb; clear hb hbox hg; have hnb64 := NB135_101.out; have hnc64 := NB101_135.out; have hnb65 := NB135_102.out; have hnc65 := NB102_135.out; have hnb66 := NB135_128.out; have hnc66 := NB128_135.out; obtain ⟨hcz67_0, hcz67_1, hcz67_2, hcz67_3, hfz67_0, hfz67_1, hfz67_2, hfz67_3⟩ := blk4_ BK135.out; obtain ⟨Ao68, co68, eo68⟩ := Kd.R_slice HO134.out; subst eo68; have hnb69 := NB102_128.out; have hnc69 := NB128_102.out; obtain ⟨hcz70_0, hcz70_1, hcz70_2, hcz70_3, hfz70_0, hfz70_1, hfz70_2, hfz70_3⟩ := blk4_ BK102.out) | ((with_reducible refine gate_callee (f := 12) rfl ?_); refine goesL_ (some 48) rfl rfl Try.func12 (by kernel_rfl) rfl #[.agg #[.int .i64 a1_0, .int .i64 a1_1, .int .i64 a1_2, .slice A1_3 l1_3.length c1_3]] rfl (by simp only [List.map_toArray, List.map_cons, List.map_nil]; rfl) ?_; (with_reducible refine (laws_toImage.calls k a1_0 a1_1 a1_2 _ _ l1_3 t136 t137 t138 t139 _ ?side1 ?side2 A34.out).mono ?_); (case side1 => exact Kd.C_below HR1_3.out hb_); (case side2 => exact HC1_3.out); rintro e w71 ⟨v140, rfl, ho0, hb⟩; refine ⟨_, rfl, ?_⟩; replace HO120 := am_ (Kd.R_below (by exact (R4_ HO120.out BK135.out (by decide) _ _ _ _)) hb); have HO141 := am_ (Kd.R_lower (Kd.R_new' (Kd.R_new' (Kd.R_new' (Kd.R_new' ho0 (Kd.R_lt (by exact (R4_ HO111.out BK135.out (by decide) _ _ _ _)))) (Kd.R_lt (by exact (R4_ HO117.out BK135.out (by decide) _ _ _ _)))) (Kd.R_lt (by exact (R4_ HO126.out BK135.out (by decide) _ _ _ _)))) (Kd.R_lt (by exact (R4_ HO134.out BK135.out (by decide) _ _ _ _)))) (below_size (hb_ : Below w.heap.size w _))); replace HO111 := am_ (Kd.R_elder' (by exact (R4_ HO111.out BK135.out (by decide) _ _ _ _)) (Kd.R_base ho0) hb); replace HO117 := am_ (Kd.R_elder' (by exact (R4_ HO117.out BK135.out (by decide) _ _ _ _)) (Kd.R_base ho0) hb); replace HO126 := am_ (Kd.R_elder' (by exact (R4_ HO126.out BK135.out (by decide) _ _ _ _)) (Kd.R_base ho0) hb); replace HO134 := am_ (Kd.R_elder' (by exact (R4_ HO134.out BK135.out (by decide) _ _ _ _)) (Kd.R_base ho0) hb); replace BK101 := am_ (blk_below (by exact far4_ BK101.out NB101_135.out _ _ _ _) hb); replace BK102 := am_ (blk_below (by exact far4_ BK102.out NB102_135.out _ _ _ _) hb); replace BK128 := am_ (blk_below (by exact far4_ BK128.out NB128_135.out _ _ _ _) hb); replace BK135 := am_ (blk_below (by exact put4_ BK135.out _ _ _ _) hb); replace HB := am_ (below_step (hb_ : Below w.heap.size w _) hb); (try clear hb); (try clear ho0)) | ((with_reducible refine gate_dst (N := 11) rfl ?_); refine box_event ?hg (N := 11) ?hd (cs := #[.int .i64 0, .int .i64 0, .int .i64 0, .slice none 0 0]) (t := 25) ?hr ?_; (case hd => rfl); (case hg => rfl); (case hr => first | (go_simp; done) | (go_simp; rfl)); intro gb142 hg w72 hbox hb; replace HO111 := rb_ HO111 hb; replace HO117 := rb_ HO117 hb; replace HO120 := rb_ HO120 hb; replace HO126 := rb_ HO126 hb; replace HO134 := rb_ HO134 hb; replace HO141 := rb_ HO141 hb; have BK142 := am_ (hbox); have GW142 := am_ ((by rw [hg]; exact (below_size (hb_ : Below w.heap.size w _)) : w.heap.size ≤ gb142)); have GE142 := GW142; replace HB := am_ (below_step (hb_ : Below w.heap.size w _) hb); have NB101_142 := nb_ hg BK101; have NB142_101 := nc_ NB101_142; replace BK101 := bb_ BK101 hb; have NB102_142 := nb_ hg BK102; have NB142_102 := nc_ NB102_142; replace BK102 := bb_ BK102 hb; have NB128_142 := nb_ hg BK128; have NB142_128 := nc_ NB128_142; replace BK128 := bb_ BK128 hb; have NB135_142 := nb_ hg BK135; have NB142_135 := nc_ NB135_142; replace BK135 := bb_ BK135 hb; clear hb hbox hg; have hnb73 := NB142_101.out; have hnc73 := NB101_142.out; have hnb74 := NB142_102.out; have hnc74 := NB102_142.out; have hnb75 := NB142_128.out; have hnc75 := NB128_142.out; have hnb76 := NB142_135.out; have hnc76 := NB135_142.out; obtain ⟨hcz77_0, hcz77_1, hcz77_2, hcz77_3, hfz77_0, hfz77_1, hfz77_2, hfz77_3⟩ := blk4_ BK142.out; obtain ⟨Ao78, co78, eo78⟩ := Kd.R_slice HO141.out; subst eo78) | ((with_reducible refine gate_callee (f := 13) rfl ?_); refine goesL_ (some 50) rfl rfl Try.func13 (by kernel_rfl) rfl #[.slice A2 l2.length c2] rfl (by simp only [List.map_toArray, List.map_cons, List.map_nil]; rfl) ?_; (with_reducible refine (laws_toRunS.calls k _ _ l2 t143 _ ?side1 ?side2 A35.out).mono ?_); (case side1 => exact Kd.C_below HR2.out hb_); (case side2 => exact HC2.out); rintro e w79 ⟨v144, rfl, ho0, hb⟩; refine ⟨_, rfl, ?_⟩; replace HO111 := am_ (Kd.R_below (by exact (R4_ HO111.out BK142.out (by decide) _ _ _ _)) hb); replace HO117 := am_ (Kd.R_below (by exact (R4_ HO117.out BK142.out (by decide) _ _ _ _)) hb); replace HO126 := am_ (Kd.R_below (by exact (R4_ HO126.out BK142.out (by decide) _ _ _ _)) hb); replace HO134 := am_ (Kd.R_below (by exact (R4_ HO134.out BK142.out (by decide) _ _ _ _)) hb); replace HO141 := am_ (Kd.R_below (by exact (R4_ HO141.out BK142.out (by decide) _ _ _ _)) hb); have HO145 := am_ (Kd.R_lower (Kd.R_new' ho0 (Kd.R_lt (by exact (R4_ HO120.out BK142.out (by decide) _ _ _ _)))) (below_size (hb_ : Below w.heap.size w _))); replace HO120 := am_ (Kd.R_elder' (by exact (R4_ HO120.out BK142.out (by decide) _ _ _ _)) (Kd.R_base ho0) hb); replace BK101 := am_ (blk_below (by exact far4_ BK101.out NB101_142.out _ _ _ _) hb); replace BK102 := am_ (blk_below (by exact far4_ BK102.out NB102_142.out _ _ _ _) hb); replace BK128 := am_ (blk_below (by exact far4_ BK128.out NB128_142.out _ _ _ _) hb); replace BK135 := am_ (blk_below (by exact far4_ BK135.out NB135_142.out _ _ _ _) hb); replace BK142 := am_ (blk_below (by exact put4_ BK142.out _ _ _ _) hb); replace HB := am_ (below_step (hb_ : Below w.heap.size w _) hb); (try clear hb); (try clear ho0); obtain ⟨hcz80_0, hcz80_1, hcz80_2, hcz80_3, hfz80_0, hfz80_1, hfz80_2, hfz80_3⟩ := blk4_ BK135.out; obtain ⟨hcz81_0, hcz81_1, hcz81_2, hcz81_3, hfz81_0, hfz81_1, hfz81_2, hfz81_3⟩ := blk4_ BK142.out; obtain ⟨Ao82, co82, eo82⟩ := Kd.R_slice HO145.out; subst eo82) | ((with_reducible refine gate_callee (f := 6) rfl ?_); refine goesL_ (some 55) rfl rfl Try.func6 (by kernel_rfl) rfl #[.agg #[.int .i64 t129, .int .i64 t130, .int .i64 t131, .slice Ao68 t132.length co68], .agg #[.int .i64 t136, .int .i64 t137, .int .i64 t138, .slice Ao78 t139.length co78], .slice Ao82 t143.length co82] rfl (by simp only [List.map_toArray, List.map_cons, List.map_nil]; rfl) ?_; (with_reducible refine (impl_MaskImage.calls t129 t130 t131 _ _ t132 t136 t137 t138 _ _ t139 _ _ t143 t146 t147 t148 t149 t152 _ ?side1 ?side2 ?side3 ?side4 ?side5 ?side6 A36.out).mono ?_); (case side1 => repeat (first | exact (Kd.R_reads' HO134.out).2.2 | (with_reducible refine Kd.C_alloc ?_ _) | (with_reducible refine Kd.C_drewN ?_ _) | (with_reducible refine Kd.C_drew ?_))); (case side2 => exact (Kd.R_reads' HO134.out).2.1); (case side3 => repeat (first | exact (Kd.R_reads' HO141.out).2.2 | (with_reducible refine Kd.C_alloc ?_ _) | (with_reducible refine Kd.C_drewN ?_ _) | (with_reducible refine Kd.C_drew ?_))); (case side4 => exact (Kd.R_reads' HO141.out).2.1); (case side5 => repeat (first | exact (Kd.R_reads' HO145.out).2.2 | (with_reducible refine Kd.C_alloc ?_ _) | (with_reducible refine Kd.C_drewN ?_ _) | (with_reducible refine Kd.C_drew ?_))); (case side6 => exact (Kd.R_reads' HO145.out).2.1); rintro e w83 ⟨v150, rfl, ho0, hb⟩; refine ⟨_, rfl, ?_⟩; replace HO120 := rb_ HO120 hb; replace HO145 := rb_ HO145 hb; have HO151 := am_ (Kd.R_lower (Kd.R_new' (Kd.R_new' (Kd.R_new' (Kd.R_new' (Kd.R_new' ho0 (Kd.R_lt (by exact HO111.out))) (Kd.R_lt (by exact HO117.out))) (Kd.R_lt (by exact HO126.out))) (Kd.R_lt (by exact HO134.out))) (Kd.R_lt (by exact HO141.out))) (below_size (hb_ : Below w.heap.size w _))); replace HO111 := am_ (Kd.R_elder' (by exact HO111.out) (Kd.R_base ho0) hb); replace HO117 := am_ (Kd.R_elder' (by exact HO117.out) (Kd.R_base ho0) hb); replace HO126 := am_ (Kd.R_elder' (by exact HO126.out) (Kd.R_base ho0) hb); replace HO134 := am_ (Kd.R_elder' (by exact HO134.out) (Kd.R_base ho0) hb); replace HO141 := am_ (Kd.R_elder' (by exact HO141.out) (Kd.R_base ho0) hb); replace BK101 := bb_ BK101 hb; replace BK102 := bb_ BK102 hb; replace BK128 := bb_ BK128 hb; replace BK135 := bb_ BK135 hb; replace BK142 := bb_ BK142 hb; replace HB := am_ (below_step (hb_ : Below w.heap.size w _) hb); (try clear hb); (try clear ho0)) | ((with_reducible refine gate_dst (N := 13) rfl ?_); refine box_event ?hg (N := 13) ?hd (cs := #[.int .i64 0, .int .i64 0, .int .i64 0, .slice none 0 0]) (t := 25) ?hr ?_; (case hd => rfl); (case hg => rfl); (case hr => first | (go_simp; done) | (go_simp; rfl)); intro gb153 hg w84 hbox hb; replace HO111 := rb_ HO111 hb; replace HO117 := rb_ HO117 hb; replace HO120 := rb_ HO120 hb; replace HO126 := rb_ HO126 hb; replace HO134 := rb_ HO134 hb; replace HO141 := rb_ HO141 hb; replace HO145 := rb_ HO145 hb; replace HO151 := rb_ HO151 hb; have BK153 := am_ (hbox); have GW153 := am_ ((by rw [hg]; exact (below_size (hb_ : Below w.heap.size w _)) : w.heap.size ≤ gb153)); have GE153 := GW153; replace HB := am_ (below_step (hb_ : Below w.heap.size w _) hb); have NB101_153 := nb_ hg BK101; have NB153_101 := nc_ NB101_153; replace BK101 := bb_ BK101 hb; have NB102_153 := nb_ hg BK102; have NB153_102 := nc_ NB102_153; replace BK102 := bb_ BK102 hb; have NB128_153 := nb_ hg BK128; have NB153_128 := nc_ NB128_153; replace BK128 := bb_ BK128 hb; have NB135_153 := nb_ hg BK135; have NB153_135 := nc_ NB135_153; replace BK135 := bb_ BK135 hb; have NB142_153 := nb_ hg BK142; have NB153_142 := nc_ NB142_153; replace BK142 := bb_ BK142 hb; clear hb hbox hg; have hnb85 := NB153_101.out; have hnc85 := NB101_153.out; have hnb86 := NB153_102.out; have hnc86 := NB102_153.out; have hnb87 := NB153_128.out; have hnc87 := NB128_153.out; have hnb88 := NB153_135.out; have hnc88 := NB135_153.out; have hnb89 := NB153_142.out; have hnc89 := NB142_153.out; obtain ⟨hcz90_0, hcz90_1, hcz90_2, hcz90_3, hfz90_0, hfz90_1, hfz90_2, hfz90_3⟩ := blk4_ BK153.out; obtain ⟨Ao91, co91, eo91⟩ := Kd.R_slice HO151.out; subst eo91))
 (try simp only [Act.put, List.setIfInBounds_toArray, List.set_cons_zero, List.set_cons_succ])
 go_cut [66] (fun v66 wc => ∃ (kq : Nat) (x66_36 : Bool), v66 = .bool x66_36 ∧ Aside0 (laws_FnExactMaskImage.j0 kq l2 t127 t143 t152 x66_36 a0_0 a0_1 a0_2 l0_3 a1_0 a1_1 a1_2 l1_3 t121 t122 t123 t124 t129 t130 t131 t132 t136 t137 t138 t139 t146 t147 t148 t149 = some r) ∧ Aside0 (kq ≤ k) ∧ Aside0 (Kd.R k59 59 wc w.heap.size (fun _ => True) (.slice Ao82 t143.length co82) t143) ∧ Aside0 (Kd.R (Kd.int .i64) 3 wc w.heap.size (fun k_ => some k_ ≠ ((.slice Ao68 t132.length co68) : Value).ownBlock ∧ some k_ ≠ ((.slice Ao78 t139.length co78) : Value).ownBlock ∧ some k_ ≠ ((.slice Ao91 t149.length co91) : Value).ownBlock) (.slice Ao58 t124.length co58) t124) ∧ Aside0 (Kd.R (Kd.int .i64) 3 wc w.heap.size (fun k_ => some k_ ≠ ((.slice Ao58 t124.length co58) : Value).ownBlock ∧ some k_ ≠ ((.slice Ao78 t139.length co78) : Value).ownBlock ∧ some k_ ≠ ((.slice Ao91 t149.length co91) : Value).ownBlock) (.slice Ao68 t132.length co68) t132) ∧ Aside0 (Kd.R (Kd.int .i64) 3 wc w.heap.size (fun k_ => some k_ ≠ ((.slice Ao58 t124.length co58) : Value).ownBlock ∧ some k_ ≠ ((.slice Ao68 t132.length co68) : Value).ownBlock ∧ some k_ ≠ ((.slice Ao91 t149.length co91) : Value).ownBlock) (.slice Ao78 t139.length co78) t139) ∧ Aside0 (Kd.R (Kd.int .i64) 3 wc w.heap.size (fun k_ => some k_ ≠ ((.slice Ao58 t124.length co58) : Value).ownBlock ∧ some k_ ≠ ((.slice Ao68 t132.length co68) : Value).ownBlock ∧ some k_ ≠ ((.slice Ao78 t139.length co78) : Value).ownBlock) (.slice Ao91 t149.length co91) t149) ∧ Aside0 (wc.heap[gb101]? = some (.cells #[.int .i64 a0_0, .int .i64 a0_1, .int .i64 a0_2, (.slice A0_3 l0_3.length c0_3)] 34 (0, 0))) ∧ Aside0 (wc.heap[gb102]? = some (.cells #[.int .i64 a1_0, .int .i64 a1_1, .int .i64 a1_2, (.slice A1_3 l1_3.length c1_3)] 34 (0, 0))) ∧ Aside0 (wc.heap[gb128]? = some (.cells #[.int .i64 t121, .int .i64 t122, .int .i64 t123, (.slice Ao58 t124.length co58)] 25 (0, 0))) ∧ Aside0 (wc.heap[gb135]? = some (.cells #[.int .i64 t129, .int .i64 t130, .int .i64 t131, (.slice Ao68 t132.length co68)] 25 (0, 0))) ∧ Aside0 (wc.heap[gb142]? = some (.cells #[.int .i64 t136, .int .i64 t137, .int .i64 t138, (.slice Ao78 t139.length co78)] 25 (0, 0))) ∧ Aside0 (wc.heap[gb153]? = some (.cells #[.int .i64 t146, .int .i64 t147, .int .i64 t148, (.slice Ao91 t149.length co91)] 25 (0, 0))) ∧ Aside0 (Below w.heap.size w wc))
 case first =>
  have H := HC37.out
  clear HC37
  replace H := Option.bind_eq_some_iff.mp H
  obtain ⟨t154, A920, H⟩ := H
  (try dsimp only at H)
  have A92 := Aside0.mk A920
  clear A920
  by_cases c93 : t154 = true
  ·
   subst c93
   rw [if_pos rfl] at H
   have H' := Aside0.mk H
   clear H
   have hnb94 := NB153_101.out
   have hnc94 := NB101_153.out
   have hnb95 := NB153_102.out
   have hnc95 := NB102_153.out
   have hnb96 := NB153_128.out
   have hnc96 := NB128_153.out
   have hnb97 := NB153_135.out
   have hnc97 := NB135_153.out
   have hnb98 := NB153_142.out
   have hnc98 := NB142_153.out
   obtain ⟨hcz99_0, hcz99_1, hcz99_2, hcz99_3, hfz99_0, hfz99_1, hfz99_2, hfz99_3⟩ := blk4_ BK153.out
   have hnb100 := NB128_101.out
   have hnc100 := NB101_128.out
   have hnb101 := NB128_102.out
   have hnc101 := NB102_128.out
   have hnb102 := NB128_135.out
   have hnc102 := NB135_128.out
   have hnb103 := NB128_142.out
   have hnc103 := NB142_128.out
   obtain ⟨hcz104_0, hcz104_1, hcz104_2, hcz104_3, hfz104_0, hfz104_1, hfz104_2, hfz104_3⟩ := blk4_ BK128.out
   go_wp2_with (first | ((with_reducible refine gate_callee (f := 14) rfl ?_); refine goesL_ (some 60) rfl rfl Try.func14 (by kernel_rfl) rfl #[.agg #[.int .i64 t146, .int .i64 t147, .int .i64 t148, .slice Ao91 t149.length co91], .agg #[.int .i64 t121, .int .i64 t122, .int .i64 t123, .slice Ao58 t124.length co58]] rfl (by simp only [List.map_toArray, List.map_cons, List.map_nil]; rfl) ?_; (with_reducible refine (laws_eqImage.calls k t146 t147 t148 _ _ t149 t121 t122 t123 _ _ t124 true _ ?side1 ?side2 ?side3 ?side4 A92.out).mono ?_); (case side1 => refine (Kd.R_reads' (e := 3) (base := w.heap.size) (ok := fun k_ => (((((True ∧ some k_ ≠ (v110 : Value).ownBlock) ∧ some k_ ≠ (v116 : Value).ownBlock) ∧ some k_ ≠ (.slice Ao58 t124.length co58 : Value).ownBlock) ∧ some k_ ≠ (.slice Ao68 t132.length co68 : Value).ownBlock) ∧ some k_ ≠ (.slice Ao78 t139.length co78 : Value).ownBlock)) (n := t149.length) (c := co91) ?_).2.2; exact (by exact (R4_ HO151.out BK153.out (by decide) _ _ _ _))); (case side2 => exact (Kd.R_reads' HO151.out).2.1); (case side3 => refine (Kd.R_reads' (e := 3) (base := w.heap.size) (ok := fun k_ => ((((some k_ ≠ (v110 : Value).ownBlock ∧ some k_ ≠ (v116 : Value).ownBlock) ∧ some k_ ≠ (.slice Ao68 t132.length co68 : Value).ownBlock) ∧ some k_ ≠ (.slice Ao78 t139.length co78 : Value).ownBlock) ∧ some k_ ≠ (.slice Ao91 t149.length co91 : Value).ownBlock)) (n := t124.length) (c := co58) ?_).2.2; exact (by exact (R4_ HO126.out BK153.out (by decide) _ _ _ _))); (case side4 => exact (Kd.R_reads' HO126.out).2.1); rintro e w105 ⟨rfl, hb⟩; refine ⟨_, rfl, ?_⟩; replace HO111 := am_ (Kd.R_below (by exact (R4_ HO111.out BK153.out (by decide) _ _ _ _)) hb); replace HO117 := am_ (Kd.R_below (by exact (R4_ HO117.out BK153.out (by decide) _ _ _ _)) hb); replace HO120 := am_ (Kd.R_below (by exact (R4_ HO120.out BK153.out (by decide) _ _ _ _)) hb); replace HO126 := am_ (Kd.R_below (by exact (R4_ HO126.out BK153.out (by decide) _ _ _ _)) hb); replace HO134 := am_ (Kd.R_below (by exact (R4_ HO134.out BK153.out (by decide) _ _ _ _)) hb); replace HO141 := am_ (Kd.R_below (by exact (R4_ HO141.out BK153.out (by decide) _ _ _ _)) hb); replace HO145 := am_ (Kd.R_below (by exact (R4_ HO145.out BK153.out (by decide) _ _ _ _)) hb); replace HO151 := am_ (Kd.R_below (by exact (R4_ HO151.out BK153.out (by decide) _ _ _ _)) hb); replace BK101 := am_ (blk_below (by exact far4_ BK101.out NB101_153.out _ _ _ _) hb); replace BK102 := am_ (blk_below (by exact far4_ BK102.out NB102_153.out _ _ _ _) hb); replace BK128 := am_ (blk_below (by exact far4_ BK128.out NB128_153.out _ _ _ _) hb); replace BK135 := am_ (blk_below (by exact far4_ BK135.out NB135_153.out _ _ _ _) hb); replace BK142 := am_ (blk_below (by exact far4_ BK142.out NB142_153.out _ _ _ _) hb); replace BK153 := am_ (blk_below (by exact put4_ BK153.out _ _ _ _) hb); replace HB := am_ (below_step (hb_ : Below w.heap.size w _) hb); (try clear hb)))
   go_meet
   case rel => exact ⟨_, ((t152 != t127)), (by first | rfl | (simp; done) | (simp [*]; done)), H', ⟨by first | omega | exact Nat.le_refl _⟩, ⟨by exact Kd.R_mono HO145.out (fun _ hk => trivial)⟩, ⟨by exact Kd.R_mono HO126.out (fun _ hk => ⟨hk.1.1.2, ⟨hk.1.2, hk.2⟩⟩)⟩, ⟨by exact Kd.R_mono HO134.out (fun _ hk => ⟨hk.1.1.2, ⟨hk.1.2, hk.2⟩⟩)⟩, ⟨by exact Kd.R_mono HO141.out (fun _ hk => ⟨hk.1.1.2, ⟨hk.1.2, hk.2⟩⟩)⟩, ⟨by exact Kd.R_mono HO151.out (fun _ hk => ⟨hk.1.1.2, ⟨hk.1.2, hk.2⟩⟩)⟩, ⟨by exact BK101.out⟩, ⟨by exact BK102.out⟩, ⟨by exact BK128.out⟩, ⟨by exact BK135.out⟩, ⟨by exact BK142.out⟩, ⟨by exact BK153.out⟩, ⟨by repeat (first | (with_reducible first | exact HB.out | apply below_alloc | apply pw_below_drewN | apply below_drew1 | refine below_set ?_ GE101.out | refine below_set ?_ GE102.out | refine below_set ?_ GE128.out | refine below_set ?_ GE135.out | refine below_set ?_ GE142.out | refine below_set ?_ GE153.out) | exact HB.out)⟩⟩
  replace c93 := Bool.eq_false_iff.mpr c93
  subst c93
  have H1 : (none) = some r := by rw [if_neg (show ¬ (false = true) by decide)] at H; exact H
  exact absurd H1 (by simp)
 case rest =>
  clear HC37
  try clear c1
  try clear c2
  try clear p2
  try clear c6
  try clear c7
  try clear c8
  try clear c9
  try clear c10
  try clear c11
  try clear c12
  try clear c13
  try clear c14
  try clear c60
  try clear c64
  try clear c65
  try clear c66
  try clear c69
  try clear c73
  try clear c74
  try clear c75
  try clear c76
  try clear c85
  try clear c86
  try clear c87
  try clear c88
  try clear c89
  try clear c93
  try clear c94
  try clear c95
  try clear c96
  try clear c97
  try clear c98
  try clear c100
  try clear c101
  try clear c102
  try clear c103
  try clear c106
  try clear c107
  try clear c108
  try clear c109
  try clear c110
  try clear c112
  try clear c113
  try clear c114
  try clear c115
  try clear hcz104_0
  try clear hcz104_1
  try clear hcz104_2
  try clear hcz104_3
  try clear hcz111_0
  try clear hcz111_1
  try clear hcz111_2
  try clear hcz111_3
  try clear hcz116_0
  try clear hcz116_1
  try clear hcz116_2
  try clear hcz116_3
  try clear hcz61_0
  try clear hcz61_1
  try clear hcz61_2
  try clear hcz61_3
  try clear hcz67_0
  try clear hcz67_1
  try clear hcz67_2
  try clear hcz67_3
  try clear hcz70_0
  try clear hcz70_1
  try clear hcz70_2
  try clear hcz70_3
  try clear hcz77_0
  try clear hcz77_1
  try clear hcz77_2
  try clear hcz77_3
  try clear hcz80_0
  try clear hcz80_1
  try clear hcz80_2
  try clear hcz80_3
  try clear hcz81_0
  try clear hcz81_1
  try clear hcz81_2
  try clear hcz81_3
  try clear hcz90_0
  try clear hcz90_1
  try clear hcz90_2
  try clear hcz90_3
  try clear hcz99_0
  try clear hcz99_1
  try clear hcz99_2
  try clear hcz99_3
  try clear hfz104_0
  try clear hfz104_1
  try clear hfz104_2
  try clear hfz104_3
  try clear hfz111_0
  try clear hfz111_1
  try clear hfz111_2
  try clear hfz111_3
  try clear hfz116_0
  try clear hfz116_1
  try clear hfz116_2
  try clear hfz116_3
  try clear hfz61_0
  try clear hfz61_1
  try clear hfz61_2
  try clear hfz61_3
  try clear hfz67_0
  try clear hfz67_1
  try clear hfz67_2
  try clear hfz67_3
  try clear hfz70_0
  try clear hfz70_1
  try clear hfz70_2
  try clear hfz70_3
  try clear hfz77_0
  try clear hfz77_1
  try clear hfz77_2
  try clear hfz77_3
  try clear hfz80_0
  try clear hfz80_1
  try clear hfz80_2
  try clear hfz80_3
  try clear hfz81_0
  try clear hfz81_1
  try clear hfz81_2
  try clear hfz81_3
  try clear hfz90_0
  try clear hfz90_1
  try clear hfz90_2
  try clear hfz90_3
  try clear hfz99_0
  try clear hfz99_1
  try clear hfz99_2
  try clear hfz99_3
  obtain ⟨kq, x66_36, rfl, HA, HJ36, HO_12, HO_129003, HO_136003, HO_143003, HO_154003, BK101, BK102, BK128, BK135, BK142, BK153, HB⟩ := hcut
  cases kq with
  | zero => exact absurd HA.out (by simp [laws_FnExactMaskImage.j0])
  | succ kj36 =>
   have H := HA.out
   clear HA
   simp only [laws_FnExactMaskImage.j0] at H
   by_cases c118 : x66_36 = true
   ·
    subst c118
    have H1 : (none) = some r := by rw [if_pos rfl] at H; exact H
    exact absurd H1 (by simp)
   replace c118 := Bool.eq_false_iff.mpr c118
   subst c118
   rw [if_neg (show ¬ (false = true) by decide)] at H
   replace H := Option.bind_eq_some_iff.mp H
   obtain ⟨⟨t155, t156, t157, t158⟩, A1190, H⟩ := H
   (try dsimp only at H)
   have A119 := Aside0.mk A1190
   clear A1190
   replace H := Option.bind_eq_some_iff.mp H
   obtain ⟨t161, A1200, H⟩ := H
   (try dsimp only at H)
   have A120 := Aside0.mk A1200
   clear A1200
   by_cases c121 : t161 = true
   rotate_left
   ·
    replace c121 := Bool.eq_false_iff.mpr c121
    subst c121
    have H1 : (none) = some r := by rw [if_neg (show ¬ (false = true) by decide)] at H; exact H
    exact absurd H1 (by simp)
   subst c121
   rw [if_pos rfl] at H
   replace H := Option.bind_eq_some_iff.mp H
   obtain ⟨⟨t162, t163, t164, t165⟩, A1220, H⟩ := H
   (try dsimp only at H)
   have A122 := Aside0.mk A1220
   clear A1220
   replace H := Option.bind_eq_some_iff.mp H
   obtain ⟨t168, A1230, H⟩ := H
   (try dsimp only at H)
   have A123 := Aside0.mk A1230
   clear A1230
   by_cases c124 : t168 = true
   rotate_left
   ·
    replace c124 := Bool.eq_false_iff.mpr c124
    subst c124
    have H1 : (none) = some r := by rw [if_neg (show ¬ (false = true) by decide)] at H; exact H
    exact absurd H1 (by simp)
   subst c124
   rw [if_pos rfl] at H
   replace H := Option.bind_eq_some_iff.mp H
   obtain ⟨t169, A1250, H⟩ := H
   (try dsimp only at H)
   have A125 := Aside0.mk A1250
   clear A1250
   replace H := Option.bind_eq_some_iff.mp H
   obtain ⟨t172, A1260, H⟩ := H
   (try dsimp only at H)
   have A126 := Aside0.mk A1260
   clear A1260
   by_cases c127 : t172 = true
   rotate_left
   ·
    replace c127 := Bool.eq_false_iff.mpr c127
    subst c127
    have H1 : (none) = some r := by rw [if_neg (show ¬ (false = true) by decide)] at H; exact H
    exact absurd H1 (by simp)
   subst c127
   rw [if_pos rfl] at H
   replace H := Option.bind_eq_some_iff.mp H
   obtain ⟨⟨t173, t174⟩, A1280, H⟩ := H
   (try dsimp only at H)
   have A128 := Aside0.mk A1280
   clear A1280
   replace H := Option.bind_eq_some_iff.mp H
   obtain ⟨⟨t175, t176⟩, A1290, H⟩ := H
   (try dsimp only at H)
   have A129 := Aside0.mk A1290
   clear A1290
   replace H := Option.bind_eq_some_iff.mp H
   obtain ⟨⟨t177, t178⟩, A1300, H⟩ := H
   (try dsimp only at H)
   have A130 := Aside0.mk A1300
   clear A1300
   have HC131 := Aside0.mk H
   clear H
   try go_wp2
   replace HO_12 := am_ (Kd.R_drew HO_12.out)
   replace HO_129003 := am_ (Kd.R_drew HO_129003.out)
   replace HO_136003 := am_ (Kd.R_drew HO_136003.out)
   replace HO_143003 := am_ (Kd.R_drew HO_143003.out)
   replace HO_154003 := am_ (Kd.R_drew HO_154003.out)
   replace BK101 := am_ (blk_drew BK101.out)
   replace BK102 := am_ (blk_drew BK102.out)
   replace BK128 := am_ (blk_drew BK128.out)
   replace BK135 := am_ (blk_drew BK135.out)
   replace BK142 := am_ (blk_drew BK142.out)
   replace BK153 := am_ (blk_drew BK153.out)
   replace HB := am_ (below_drew1 HB.out)
   refine start_ (n := 5) (S := fun w' => w'.cell? ⟨gb135, 0, none⟩ = some (.int .i64 t129) ∧ w'.cell? ⟨gb135, 1, none⟩ = some (.int .i64 t130) ∧ w'.cell? ⟨gb135, 2, none⟩ = some (.int .i64 t131) ∧ w'.cell? ⟨gb135, 3, none⟩ = some (.slice Ao68 t132.length co68) ∧ w'.cell? ⟨gb101, 0, none⟩ = some (.int .i64 a0_0) ∧ w'.cell? ⟨gb101, 1, none⟩ = some (.int .i64 a0_1) ∧ w'.cell? ⟨gb101, 2, none⟩ = some (.int .i64 a0_2) ∧ w'.cell? ⟨gb101, 3, none⟩ = some (.slice A0_3 l0_3.length c0_3)) (ds := []) #[false, false, false, false, false] (by kernel_rfl) rfl rfl (s8_ BK135 BK101) (fun hHeld => ?_)
   generalize wc.drew = w132 at HO_12 HO_129003 HO_136003 HO_143003 HO_154003 BK101 BK102 BK128 BK135 BK142 BK153 HB hHeld ⊢
   refine take_ (i := 0) (N := some 67) (v := ?_) (a' := ?_) #[true, false, false, false, false] rfl rfl (by kernel_rfl) (fun _ _ _ h => h) (Or.inl ⟨by rfl, ?_⟩) hHeld ?_ ?_
   rotate_left
   ·
    rintro w' ⟨s0, s1, s2, s3, s4, s5, s6, s7⟩
    go_simp
    with_reducible rfl
   rotate_left
   ·
    simp only [Act.put, List.setIfInBounds_toArray, List.set_cons_zero, List.set_cons_succ, i64_w, i32_w]
    rfl
   refine take_ (i := 1) (N := some 68) (v := ?_) (a' := ?_) #[true, true, false, false, false] rfl rfl (by kernel_rfl) (fun _ _ _ h => h) (Or.inl ⟨by rfl, ?_⟩) hHeld ?_ ?_
   rotate_left
   ·
    rintro w' ⟨s0, s1, s2, s3, s4, s5, s6, s7⟩
    go_simp
    with_reducible rfl
   rotate_left
   ·
    simp only [Act.put, List.setIfInBounds_toArray, List.set_cons_zero, List.set_cons_succ, i64_w, i32_w]
    rfl
   refine one_ (i := 2) (N := some 69) #[true, true, true, false, false] rfl rfl (by kernel_rfl) (by decide) (fun K hK => ?_)
   refine goes_ Try.func12 (by kernel_rfl) rfl #[.agg #[.int .i64 a0_0, .int .i64 a0_1, .int .i64 a0_2, .slice A0_3 l0_3.length c0_3]] (by rfl) rfl rfl (by simp only [List.map_toArray, List.map_cons, List.map_nil]; rfl) ?_
   with_reducible refine (laws_toImage.calls kj36 a0_0 a0_1 a0_2 _ _ l0_3 t155 t156 t157 t158 _ ?side1 ?side2 A119.out).mono ?_
   (case side1 => repeat (first | exact (Kd.C_below HR0_3.out HB.out) | (with_reducible refine Kd.C_alloc ?_ _) | (with_reducible refine Kd.C_drewN ?_ _) | (with_reducible refine Kd.C_drew ?_)))
   (case side2 => exact HC0_3.out)
   rintro e w133 ⟨v159, rfl, ho0, hb⟩
   refine ⟨_, rfl, ?_⟩
   replace HO_12 := rb_ HO_12 hb
   have HO160 := am_ (Kd.R_lower (Kd.R_new' (Kd.R_new' (Kd.R_new' (Kd.R_new' ho0 (Kd.R_lt (by exact HO_129003.out))) (Kd.R_lt (by exact HO_136003.out))) (Kd.R_lt (by exact HO_143003.out))) (Kd.R_lt (by exact HO_154003.out))) (below_size (hb_ : Below w.heap.size w _)))
   replace HO_129003 := am_ (Kd.R_elder' (by exact HO_129003.out) (Kd.R_base ho0) hb)
   replace HO_136003 := am_ (Kd.R_elder' (by exact HO_136003.out) (Kd.R_base ho0) hb)
   replace HO_143003 := am_ (Kd.R_elder' (by exact HO_143003.out) (Kd.R_base ho0) hb)
   replace HO_154003 := am_ (Kd.R_elder' (by exact HO_154003.out) (Kd.R_base ho0) hb)
   replace BK101 := bb_ BK101 hb
   replace BK102 := bb_ BK102 hb
   replace BK128 := bb_ BK128 hb
   replace BK135 := bb_ BK135 hb
   replace BK142 := bb_ BK142 hb
   replace BK153 := bb_ BK153 hb
   replace HB := am_ (below_step (hb_ : Below w.heap.size w _) hb)
   (try clear hb)
   (try clear hb2)
   (try clear hk)
   (try clear hi)
   (try clear ho0)
   obtain ⟨Ao134, co134, eo134⟩ := Kd.R_slice HO160.out
   (first | subst eo134 | (injection eo134 with f1_ f2_ f3_; have f4_ := f1_.symm; have f5_ := f3_.symm; clear f1_ f2_ f3_; subst f4_; subst f5_))
   refine hK.out _ _ (s8_ BK135 BK101) (fun hHeld => ?_)
   clear hK K
   refine norm_ (a' := ?_) ?_ ?_
   rotate_left
   ·
    show Act.put _ (some 69) _ = _
    simp only [Act.put, List.setIfInBounds_toArray, List.set_cons_zero, List.set_cons_succ, i64_w, i32_w]
    rfl
   refine one_ (i := 3) (N := some 70) #[true, true, true, true, false] rfl rfl (by kernel_rfl) (by decide) (fun K hK => ?_)
   refine goes_ Try.func14 (by kernel_rfl) rfl #[.agg #[.int .i64 t129, .int .i64 t130, .int .i64 t131, .slice Ao68 t132.length co68], .agg #[.int .i64 t155, .int .i64 t156, .int .i64 t157, .slice Ao134 t158.length co134]] (by rfl) rfl rfl (by simp only [List.map_toArray, List.map_cons, List.map_nil]; rfl) ?_
   with_reducible refine (laws_eqImage.calls kj36 t129 t130 t131 _ _ t132 t155 t156 t157 _ _ t158 true _ ?side1 ?side2 ?side3 ?side4 A120.out).mono ?_
   (case side1 => repeat (first | exact (Kd.R_reads' HO_136003.out).2.2 | (with_reducible refine Kd.C_alloc ?_ _) | (with_reducible refine Kd.C_drewN ?_ _) | (with_reducible refine Kd.C_drew ?_)))
   (case side2 => exact (Kd.R_reads' HO_136003.out).2.1)
   (case side3 => repeat (first | exact (Kd.R_reads' HO160.out).2.2 | (with_reducible refine Kd.C_alloc ?_ _) | (with_reducible refine Kd.C_drewN ?_ _) | (with_reducible refine Kd.C_drew ?_)))
   (case side4 => exact (Kd.R_reads' HO160.out).2.1)
   rintro e w135 ⟨rfl, hb⟩
   refine ⟨_, rfl, ?_⟩
   replace HO_12 := rb_ HO_12 hb
   replace HO_129003 := rb_ HO_129003 hb
   replace HO_136003 := rb_ HO_136003 hb
   replace HO_143003 := rb_ HO_143003 hb
   replace HO_154003 := rb_ HO_154003 hb
   replace HO160 := rb_ HO160 hb
   replace BK101 := bb_ BK101 hb
   replace BK102 := bb_ BK102 hb
   replace BK128 := bb_ BK128 hb
   replace BK135 := bb_ BK135 hb
   replace BK142 := bb_ BK142 hb
   replace BK153 := bb_ BK153 hb
   replace HB := am_ (below_step (hb_ : Below w.heap.size w _) hb)
   (try clear hb)
   (try clear hb2)
   (try clear hk)
   (try clear hi)
   refine hK.out _ _ (s8_ BK135 BK101) (fun hHeld => ?_)
   clear hK K
   refine norm_ (a' := ?_) ?_ ?_
   rotate_left
   ·
    show Act.put _ (some 70) _ = _
    simp only [Act.put, List.setIfInBounds_toArray, List.set_cons_zero, List.set_cons_succ, i64_w, i32_w]
    rfl
   refine pure_ (i := 4) (N := some 71) (v := ?_) (a' := ?_) #[true, true, true, true, true] rfl rfl (by kernel_rfl) (fun _ _ _ h => h) (Or.inl ⟨by rfl, ?_⟩) ?_ ?_
   rotate_left
   ·
    intro w'
    go_simp
    with_reducible rfl
   rotate_left
   ·
    simp only [Act.put, List.setIfInBounds_toArray, List.set_cons_zero, List.set_cons_succ, i64_w, i32_w]
    rfl
   refine done_ (by kernel_rfl) ?_
   try go_wp2
   replace HO_12 := am_ (Kd.R_drew HO_12.out)
   replace HO_129003 := am_ (Kd.R_drew HO_129003.out)
   replace HO_136003 := am_ (Kd.R_drew HO_136003.out)
   replace HO_143003 := am_ (Kd.R_drew HO_143003.out)
   replace HO_154003 := am_ (Kd.R_drew HO_154003.out)
   replace HO160 := am_ (Kd.R_drew HO160.out)
   replace BK101 := am_ (blk_drew BK101.out)
   replace BK102 := am_ (blk_drew BK102.out)
   replace BK128 := am_ (blk_drew BK128.out)
   replace BK135 := am_ (blk_drew BK135.out)
   replace BK142 := am_ (blk_drew BK142.out)
   replace BK153 := am_ (blk_drew BK153.out)
   replace HB := am_ (below_drew1 HB.out)
   refine start_ (n := 5) (S := fun w' => w'.cell? ⟨gb142, 0, none⟩ = some (.int .i64 t136) ∧ w'.cell? ⟨gb142, 1, none⟩ = some (.int .i64 t137) ∧ w'.cell? ⟨gb142, 2, none⟩ = some (.int .i64 t138) ∧ w'.cell? ⟨gb142, 3, none⟩ = some (.slice Ao78 t139.length co78) ∧ w'.cell? ⟨gb102, 0, none⟩ = some (.int .i64 a1_0) ∧ w'.cell? ⟨gb102, 1, none⟩ = some (.int .i64 a1_1) ∧ w'.cell? ⟨gb102, 2, none⟩ = some (.int .i64 a1_2) ∧ w'.cell? ⟨gb102, 3, none⟩ = some (.slice A1_3 l1_3.length c1_3)) (ds := []) #[false, false, false, false, false] (by kernel_rfl) rfl rfl (s8_ BK142 BK102) (fun hHeld => ?_)
   generalize w135.drew = w136 at HO_12 HO_129003 HO_136003 HO_143003 HO_154003 HO160 BK101 BK102 BK128 BK135 BK142 BK153 HB hHeld ⊢
   refine take_ (i := 0) (N := some 72) (v := ?_) (a' := ?_) #[true, false, false, false, false] rfl rfl (by kernel_rfl) (fun _ _ _ h => h) (Or.inl ⟨by rfl, ?_⟩) hHeld ?_ ?_
   rotate_left
   ·
    rintro w' ⟨s0, s1, s2, s3, s4, s5, s6, s7⟩
    go_simp
    with_reducible rfl
   rotate_left
   ·
    simp only [Act.put, List.setIfInBounds_toArray, List.set_cons_zero, List.set_cons_succ, i64_w, i32_w]
    rfl
   refine take_ (i := 1) (N := some 73) (v := ?_) (a' := ?_) #[true, true, false, false, false] rfl rfl (by kernel_rfl) (fun _ _ _ h => h) (Or.inl ⟨by rfl, ?_⟩) hHeld ?_ ?_
   rotate_left
   ·
    rintro w' ⟨s0, s1, s2, s3, s4, s5, s6, s7⟩
    go_simp
    with_reducible rfl
   rotate_left
   ·
    simp only [Act.put, List.setIfInBounds_toArray, List.set_cons_zero, List.set_cons_succ, i64_w, i32_w]
    rfl
   refine one_ (i := 2) (N := some 74) #[true, true, true, false, false] rfl rfl (by kernel_rfl) (by decide) (fun K hK => ?_)
   refine goes_ Try.func12 (by kernel_rfl) rfl #[.agg #[.int .i64 a1_0, .int .i64 a1_1, .int .i64 a1_2, .slice A1_3 l1_3.length c1_3]] (by rfl) rfl rfl (by simp only [List.map_toArray, List.map_cons, List.map_nil]; rfl) ?_
   with_reducible refine (laws_toImage.calls kj36 a1_0 a1_1 a1_2 _ _ l1_3 t162 t163 t164 t165 _ ?side1 ?side2 A122.out).mono ?_
   (case side1 => repeat (first | exact (Kd.C_below HR1_3.out HB.out) | (with_reducible refine Kd.C_alloc ?_ _) | (with_reducible refine Kd.C_drewN ?_ _) | (with_reducible refine Kd.C_drew ?_)))
   (case side2 => exact HC1_3.out)
   rintro e w137 ⟨v166, rfl, ho0, hb⟩
   refine ⟨_, rfl, ?_⟩
   replace HO_12 := rb_ HO_12 hb
   have HO167 := am_ (Kd.R_lower (Kd.R_new' (Kd.R_new' (Kd.R_new' (Kd.R_new' (Kd.R_new' ho0 (Kd.R_lt (by exact HO_129003.out))) (Kd.R_lt (by exact HO_136003.out))) (Kd.R_lt (by exact HO_143003.out))) (Kd.R_lt (by exact HO_154003.out))) (Kd.R_lt (by exact HO160.out))) (below_size (hb_ : Below w.heap.size w _)))
   replace HO_129003 := am_ (Kd.R_elder' (by exact HO_129003.out) (Kd.R_base ho0) hb)
   replace HO_136003 := am_ (Kd.R_elder' (by exact HO_136003.out) (Kd.R_base ho0) hb)
   replace HO_143003 := am_ (Kd.R_elder' (by exact HO_143003.out) (Kd.R_base ho0) hb)
   replace HO_154003 := am_ (Kd.R_elder' (by exact HO_154003.out) (Kd.R_base ho0) hb)
   replace HO160 := am_ (Kd.R_elder' (by exact HO160.out) (Kd.R_base ho0) hb)
   replace BK101 := bb_ BK101 hb
   replace BK102 := bb_ BK102 hb
   replace BK128 := bb_ BK128 hb
   replace BK135 := bb_ BK135 hb
   replace BK142 := bb_ BK142 hb
   replace BK153 := bb_ BK153 hb
   replace HB := am_ (below_step (hb_ : Below w.heap.size w _) hb)
   (try clear hb)
   (try clear hb2)
   (try clear hk)
   (try clear hi)
   (try clear ho0)
   obtain ⟨Ao138, co138, eo138⟩ := Kd.R_slice HO167.out
   (first | subst eo138 | (injection eo138 with f1_ f2_ f3_; have f4_ := f1_.symm; have f5_ := f3_.symm; clear f1_ f2_ f3_; subst f4_; subst f5_))
   refine hK.out _ _ (s8_ BK142 BK102) (fun hHeld => ?_)
   clear hK K
   refine norm_ (a' := ?_) ?_ ?_
   rotate_left
   ·
    show Act.put _ (some 74) _ = _
    simp only [Act.put, List.setIfInBounds_toArray, List.set_cons_zero, List.set_cons_succ, i64_w, i32_w]
    rfl
   refine one_ (i := 3) (N := some 75) #[true, true, true, true, false] rfl rfl (by kernel_rfl) (by decide) (fun K hK => ?_)
   refine goes_ Try.func14 (by kernel_rfl) rfl #[.agg #[.int .i64 t136, .int .i64 t137, .int .i64 t138, .slice Ao78 t139.length co78], .agg #[.int .i64 t162, .int .i64 t163, .int .i64 t164, .slice Ao138 t165.length co138]] (by rfl) rfl rfl (by simp only [List.map_toArray, List.map_cons, List.map_nil]; rfl) ?_
   with_reducible refine (laws_eqImage.calls kj36 t136 t137 t138 _ _ t139 t162 t163 t164 _ _ t165 true _ ?side1 ?side2 ?side3 ?side4 A123.out).mono ?_
   (case side1 => repeat (first | exact (Kd.R_reads' HO_143003.out).2.2 | (with_reducible refine Kd.C_alloc ?_ _) | (with_reducible refine Kd.C_drewN ?_ _) | (with_reducible refine Kd.C_drew ?_)))
   (case side2 => exact (Kd.R_reads' HO_143003.out).2.1)
   (case side3 => repeat (first | exact (Kd.R_reads' HO167.out).2.2 | (with_reducible refine Kd.C_alloc ?_ _) | (with_reducible refine Kd.C_drewN ?_ _) | (with_reducible refine Kd.C_drew ?_)))
   (case side4 => exact (Kd.R_reads' HO167.out).2.1)
   rintro e w139 ⟨rfl, hb⟩
   refine ⟨_, rfl, ?_⟩
   replace HO_12 := rb_ HO_12 hb
   replace HO_129003 := rb_ HO_129003 hb
   replace HO_136003 := rb_ HO_136003 hb
   replace HO_143003 := rb_ HO_143003 hb
   replace HO_154003 := rb_ HO_154003 hb
   replace HO160 := rb_ HO160 hb
   replace HO167 := rb_ HO167 hb
   replace BK101 := bb_ BK101 hb
   replace BK102 := bb_ BK102 hb
   replace BK128 := bb_ BK128 hb
   replace BK135 := bb_ BK135 hb
   replace BK142 := bb_ BK142 hb
   replace BK153 := bb_ BK153 hb
   replace HB := am_ (below_step (hb_ : Below w.heap.size w _) hb)
   (try clear hb)
   (try clear hb2)
   (try clear hk)
   (try clear hi)
   refine hK.out _ _ (s8_ BK142 BK102) (fun hHeld => ?_)
   clear hK K
   refine norm_ (a' := ?_) ?_ ?_
   rotate_left
   ·
    show Act.put _ (some 75) _ = _
    simp only [Act.put, List.setIfInBounds_toArray, List.set_cons_zero, List.set_cons_succ, i64_w, i32_w]
    rfl
   refine pure_ (i := 4) (N := some 76) (v := ?_) (a' := ?_) #[true, true, true, true, true] rfl rfl (by kernel_rfl) (fun _ _ _ h => h) (Or.inl ⟨by rfl, ?_⟩) ?_ ?_
   rotate_left
   ·
    intro w'
    go_simp
    with_reducible rfl
   rotate_left
   ·
    simp only [Act.put, List.setIfInBounds_toArray, List.set_cons_zero, List.set_cons_succ, i64_w, i32_w]
    rfl
   refine done_ (by kernel_rfl) ?_
   go_upto_region 28 with (first | ((with_reducible refine gate_callee (f := 13) rfl ?_); refine goesL_ (some 79) rfl rfl Try.func13 (by kernel_rfl) rfl #[.slice A2 l2.length c2] rfl (by simp only [List.map_toArray, List.map_cons, List.map_nil]; rfl) ?_; (with_reducible refine (laws_toRunS.calls kj36 _ _ l2 t169 _ ?side1 ?side2 A125.out).mono ?_); (case side1 => repeat (first | exact (Kd.C_below HR2.out HB.out) | (with_reducible refine Kd.C_alloc ?_ _) | (with_reducible refine Kd.C_drewN ?_ _) | (with_reducible refine Kd.C_drew ?_))); (case side2 => exact HC2.out); rintro e w140 ⟨v170, rfl, ho0, hb⟩; refine ⟨_, rfl, ?_⟩; replace HO_129003 := rb_ HO_129003 hb; replace HO_136003 := rb_ HO_136003 hb; replace HO_143003 := rb_ HO_143003 hb; replace HO_154003 := rb_ HO_154003 hb; replace HO160 := rb_ HO160 hb; replace HO167 := rb_ HO167 hb; have HO171 := am_ (Kd.R_lower (Kd.R_new' ho0 (Kd.R_lt (by exact HO_12.out))) (below_size (hb_ : Below w.heap.size w _))); replace HO_12 := am_ (Kd.R_elder' (by exact HO_12.out) (Kd.R_base ho0) hb); replace BK101 := bb_ BK101 hb; replace BK102 := bb_ BK102 hb; replace BK128 := bb_ BK128 hb; replace BK135 := bb_ BK135 hb; replace BK142 := bb_ BK142 hb; replace BK153 := bb_ BK153 hb; replace HB := am_ (below_step (hb_ : Below w.heap.size w _) hb); (try clear hb); (try clear ho0); obtain ⟨Ao141, co141, eo141⟩ := Kd.R_slice HO171.out; subst eo141) | ((with_reducible refine gate_callee (f := 15) rfl ?_); refine goesL_ (some 80) rfl rfl Try.func15 (by kernel_rfl) rfl #[.slice Ao82 t143.length co82, .slice Ao141 t169.length co141] rfl (by simp only [List.map_toArray, List.map_cons, List.map_nil]; rfl) ?_; (with_reducible refine (laws_eqRunS.calls kj36 _ _ t143 _ _ t169 true _ ?side1 ?side2 ?side3 ?side4 A126.out).mono ?_); (case side1 => repeat (first | exact (Kd.R_reads' HO_12.out).2.2 | (with_reducible refine Kd.C_alloc ?_ _) | (with_reducible refine Kd.C_drewN ?_ _) | (with_reducible refine Kd.C_drew ?_))); (case side2 => exact (Kd.R_reads' HO_12.out).2.1); (case side3 => repeat (first | exact (Kd.R_reads' HO171.out).2.2 | (with_reducible refine Kd.C_alloc ?_ _) | (with_reducible refine Kd.C_drewN ?_ _) | (with_reducible refine Kd.C_drew ?_))); (case side4 => exact (Kd.R_reads' HO171.out).2.1); rintro e w142 ⟨rfl, hb⟩; refine ⟨_, rfl, ?_⟩; replace HO_12 := rb_ HO_12 hb; replace HO_129003 := rb_ HO_129003 hb; replace HO_136003 := rb_ HO_136003 hb; replace HO_143003 := rb_ HO_143003 hb; replace HO_154003 := rb_ HO_154003 hb; replace HO160 := rb_ HO160 hb; replace HO167 := rb_ HO167 hb; replace HO171 := rb_ HO171 hb; replace BK101 := bb_ BK101 hb; replace BK102 := bb_ BK102 hb; replace BK128 := bb_ BK128 hb; replace BK135 := bb_ BK135 hb; replace BK142 := bb_ BK142 hb; replace BK153 := bb_ BK153 hb; replace HB := am_ (below_step (hb_ : Below w.heap.size w _) hb); (try clear hb); have hnb143 := NB135_101.out; have hnc143 := NB101_135.out; have hnb144 := NB135_102.out; have hnc144 := NB102_135.out; have hnb145 := NB135_128.out; have hnc145 := NB128_135.out; have hnb146 := NB135_142.out; have hnc146 := NB142_135.out; have hnb147 := NB135_153.out; have hnc147 := NB153_135.out; obtain ⟨hcz148_0, hcz148_1, hcz148_2, hcz148_3, hfz148_0, hfz148_1, hfz148_2, hfz148_3⟩ := blk4_ BK135.out) | ((with_reducible refine gate_callee (f := 16) rfl ?_); refine goesL_ (some 84) rfl rfl Try.func16 (by kernel_rfl) rfl #[.agg #[.int .i64 t129, .int .i64 t130, .int .i64 t131, .slice Ao68 t132.length co68], .int .i64 1] rfl (by simp only [List.map_toArray, List.map_cons, List.map_nil]; rfl) ?_; (with_reducible refine (laws_markImage.calls kj36 t129 t130 t131 (fun k_ => some k_ = (.slice Ao68 t132.length co68 : Value).ownBlock) (.slice Ao68 t132.length co68) t132 1 t173 t174 w _ ?side1 ?side2 A128.out).mono ?_); (case side1 => exact hb_); (case side2 => exact Kd.R_tight rfl HO_136003.out); rintro e w149 ⟨rfl, hy0, hb, hkp⟩; refine ⟨_, rfl, ?_⟩; replace HO_12 := am_ (Kd.R_mono (ok' := fun k_ => some k_ ≠ (.slice Ao141 t169.length co141 : Value).ownBlock) (Kd.R_keptB ((Kd.R_apart' HO_12.out (Kd.R_typed HO_136003.out) (by decide))) hkp (fun k_ hk_ hs_ => by simp only [hk_, ne_eq, not_false_eq_true] at hs_)) (fun k_ hk_ => hk_.1.1.2)); replace HO_129003 := am_ (Kd.R_mono (ok' := fun k_ => some k_ ≠ (.slice Ao68 t132.length co68 : Value).ownBlock ∧ some k_ ≠ (.slice Ao78 t139.length co78 : Value).ownBlock ∧ some k_ ≠ (.slice Ao91 t149.length co91 : Value).ownBlock ∧ some k_ ≠ (.slice Ao134 t158.length co134 : Value).ownBlock ∧ some k_ ≠ (.slice Ao138 t165.length co138 : Value).ownBlock) (Kd.R_keptB (HO_129003.out) hkp (fun k_ hk_ hs_ => by simp only [hk_, ne_eq, not_false_eq_true] at hs_)) (fun k_ hk_ => by simp only [hk_, ne_eq, not_false_eq_true, and_self])); replace HO_143003 := am_ (Kd.R_mono (ok' := fun k_ => some k_ ≠ (.slice Ao58 t124.length co58 : Value).ownBlock ∧ some k_ ≠ (.slice Ao68 t132.length co68 : Value).ownBlock ∧ some k_ ≠ (.slice Ao91 t149.length co91 : Value).ownBlock ∧ some k_ ≠ (.slice Ao134 t158.length co134 : Value).ownBlock ∧ some k_ ≠ (.slice Ao138 t165.length co138 : Value).ownBlock) (Kd.R_keptB (HO_143003.out) hkp (fun k_ hk_ hs_ => by simp only [hk_, ne_eq, not_false_eq_true] at hs_)) (fun k_ hk_ => by simp only [hk_, ne_eq, not_false_eq_true, and_self])); replace HO_154003 := am_ (Kd.R_mono (ok' := fun k_ => some k_ ≠ (.slice Ao58 t124.length co58 : Value).ownBlock ∧ some k_ ≠ (.slice Ao68 t132.length co68 : Value).ownBlock ∧ some k_ ≠ (.slice Ao78 t139.length co78 : Value).ownBlock ∧ some k_ ≠ (.slice Ao134 t158.length co134 : Value).ownBlock ∧ some k_ ≠ (.slice Ao138 t165.length co138 : Value).ownBlock) (Kd.R_keptB (HO_154003.out) hkp (fun k_ hk_ hs_ => by simp only [hk_, ne_eq, not_false_eq_true] at hs_)) (fun k_ hk_ => by simp only [hk_, ne_eq, not_false_eq_true, and_self])); replace BK101 := am_ (blk_kept (by exact BK101.out) hkp (fun hs_ => (fun e_ => (Kd.R_ne HO_136003.out BK101.out (by decide)) e_) hs_)); replace BK102 := am_ (blk_kept (by exact BK102.out) hkp (fun hs_ => (fun e_ => (Kd.R_ne HO_136003.out BK102.out (by decide)) e_) hs_)); replace BK128 := am_ (blk_kept (by exact BK128.out) hkp (fun hs_ => (fun e_ => (Kd.R_ne HO_136003.out BK128.out (by decide)) e_) hs_)); replace BK135 := am_ (blk_kept (by exact BK135.out) hkp (fun hs_ => (fun e_ => (Kd.R_ne HO_136003.out BK135.out (by decide)) e_) hs_)); replace BK142 := am_ (blk_kept (by exact BK142.out) hkp (fun hs_ => (fun e_ => (Kd.R_ne HO_136003.out BK142.out (by decide)) e_) hs_)); replace BK153 := am_ (blk_kept (by exact BK153.out) hkp (fun hs_ => (fun e_ => (Kd.R_ne HO_136003.out BK153.out (by decide)) e_) hs_)); replace HO160 := am_ (Kd.R_mono (ok' := fun k_ => some k_ ≠ (.slice Ao58 t124.length co58 : Value).ownBlock ∧ some k_ ≠ (.slice Ao68 t132.length co68 : Value).ownBlock ∧ some k_ ≠ (.slice Ao78 t139.length co78 : Value).ownBlock ∧ some k_ ≠ (.slice Ao91 t149.length co91 : Value).ownBlock ∧ some k_ ≠ (.slice Ao138 t165.length co138 : Value).ownBlock) (Kd.R_keptB (HO160.out) hkp (fun k_ hk_ hs_ => by simp only [hk_, ne_eq, not_false_eq_true] at hs_)) (fun k_ hk_ => by simp only [hk_, ne_eq, not_false_eq_true, and_self])); replace HO167 := am_ (Kd.R_mono (ok' := fun k_ => some k_ ≠ (.slice Ao58 t124.length co58 : Value).ownBlock ∧ some k_ ≠ (.slice Ao68 t132.length co68 : Value).ownBlock ∧ some k_ ≠ (.slice Ao78 t139.length co78 : Value).ownBlock ∧ some k_ ≠ (.slice Ao91 t149.length co91 : Value).ownBlock ∧ some k_ ≠ (.slice Ao134 t158.length co134 : Value).ownBlock) (Kd.R_keptB (HO167.out) hkp (fun k_ hk_ hs_ => by simp only [hk_, ne_eq, not_false_eq_true] at hs_)) (fun k_ hk_ => by simp only [hk_, ne_eq, not_false_eq_true, and_self])); replace HO171 := am_ (Kd.R_mono (ok' := fun k_ => some k_ ≠ (.slice Ao82 t143.length co82 : Value).ownBlock) (Kd.R_keptB ((Kd.R_apart' HO171.out (Kd.R_typed HO_136003.out) (by decide))) hkp (fun k_ hk_ hs_ => by simp only [hk_, ne_eq, not_false_eq_true] at hs_)) (fun k_ hk_ => hk_.1.1.2)); replace HO_136003 := am_ (Kd.R_reok rfl hy0 (fun k_ e_ => HO_136003.out.1 k_ e_)); replace HB := am_ (hb); (try clear hb); (try clear hkp); (try clear hy0); have hnb150 := NB142_101.out; have hnc150 := NB101_142.out; have hnb151 := NB142_102.out; have hnc151 := NB102_142.out; have hnb152 := NB142_128.out; have hnc152 := NB128_142.out; have hnb153 := NB142_153.out; have hnc153 := NB153_142.out; obtain ⟨hcz154_0, hcz154_1, hcz154_2, hcz154_3, hfz154_0, hfz154_1, hfz154_2, hfz154_3⟩ := blk4_ BK142.out) | ((with_reducible refine gate_callee (f := 16) rfl ?_); refine goesL_ (some 87) rfl rfl Try.func16 (by kernel_rfl) rfl #[.agg #[.int .i64 t136, .int .i64 t137, .int .i64 t138, .slice Ao78 t139.length co78], .int .i64 t173] rfl (by simp only [List.map_toArray, List.map_cons, List.map_nil]; rfl) ?_; (with_reducible refine (laws_markImage.calls kj36 t136 t137 t138 (fun k_ => some k_ = (.slice Ao78 t139.length co78 : Value).ownBlock) (.slice Ao78 t139.length co78) t139 t173 t175 t176 w _ ?side1 ?side2 A129.out).mono ?_); (case side1 => exact hb_); (case side2 => exact Kd.R_tight rfl HO_143003.out); rintro e w155 ⟨rfl, hy0, hb, hkp⟩; refine ⟨_, rfl, ?_⟩; replace HO_12 := am_ (Kd.R_mono (ok' := fun k_ => some k_ ≠ (.slice Ao141 t169.length co141 : Value).ownBlock) (Kd.R_keptB ((Kd.R_apart' HO_12.out (Kd.R_typed HO_143003.out) (by decide))) hkp (fun k_ hk_ hs_ => by simp only [hk_, ne_eq, not_false_eq_true] at hs_)) (fun k_ hk_ => hk_.1.1)); replace HO_129003 := am_ (Kd.R_mono (ok' := fun k_ => some k_ ≠ (.slice Ao68 t132.length co68 : Value).ownBlock ∧ some k_ ≠ (.slice Ao78 t139.length co78 : Value).ownBlock ∧ some k_ ≠ (.slice Ao91 t149.length co91 : Value).ownBlock ∧ some k_ ≠ (.slice Ao134 t158.length co134 : Value).ownBlock ∧ some k_ ≠ (.slice Ao138 t165.length co138 : Value).ownBlock) (Kd.R_keptB (HO_129003.out) hkp (fun k_ hk_ hs_ => by simp only [hk_, ne_eq, not_false_eq_true] at hs_)) (fun k_ hk_ => by simp only [hk_, ne_eq, not_false_eq_true, and_self])); replace HO_136003 := am_ (Kd.R_mono (ok' := fun k_ => some k_ ≠ (.slice Ao58 t124.length co58 : Value).ownBlock ∧ some k_ ≠ (.slice Ao78 t139.length co78 : Value).ownBlock ∧ some k_ ≠ (.slice Ao91 t149.length co91 : Value).ownBlock ∧ some k_ ≠ (.slice Ao134 t158.length co134 : Value).ownBlock ∧ some k_ ≠ (.slice Ao138 t165.length co138 : Value).ownBlock) (Kd.R_keptB (HO_136003.out) hkp (fun k_ hk_ hs_ => by simp only [hk_, ne_eq, not_false_eq_true] at hs_)) (fun k_ hk_ => by simp only [hk_, ne_eq, not_false_eq_true, and_self])); replace HO_154003 := am_ (Kd.R_mono (ok' := fun k_ => some k_ ≠ (.slice Ao58 t124.length co58 : Value).ownBlock ∧ some k_ ≠ (.slice Ao68 t132.length co68 : Value).ownBlock ∧ some k_ ≠ (.slice Ao78 t139.length co78 : Value).ownBlock ∧ some k_ ≠ (.slice Ao134 t158.length co134 : Value).ownBlock ∧ some k_ ≠ (.slice Ao138 t165.length co138 : Value).ownBlock) (Kd.R_keptB (HO_154003.out) hkp (fun k_ hk_ hs_ => by simp only [hk_, ne_eq, not_false_eq_true] at hs_)) (fun k_ hk_ => by simp only [hk_, ne_eq, not_false_eq_true, and_self])); replace BK101 := am_ (blk_kept (by exact BK101.out) hkp (fun hs_ => (fun e_ => (Kd.R_ne HO_143003.out BK101.out (by decide)) e_) hs_)); replace BK102 := am_ (blk_kept (by exact BK102.out) hkp (fun hs_ => (fun e_ => (Kd.R_ne HO_143003.out BK102.out (by decide)) e_) hs_)); replace BK128 := am_ (blk_kept (by exact BK128.out) hkp (fun hs_ => (fun e_ => (Kd.R_ne HO_143003.out BK128.out (by decide)) e_) hs_)); replace BK135 := am_ (blk_kept (by exact BK135.out) hkp (fun hs_ => (fun e_ => (Kd.R_ne HO_143003.out BK135.out (by decide)) e_) hs_)); replace BK142 := am_ (blk_kept (by exact BK142.out) hkp (fun hs_ => (fun e_ => (Kd.R_ne HO_143003.out BK142.out (by decide)) e_) hs_)); replace BK153 := am_ (blk_kept (by exact BK153.out) hkp (fun hs_ => (fun e_ => (Kd.R_ne HO_143003.out BK153.out (by decide)) e_) hs_)); replace HO160 := am_ (Kd.R_mono (ok' := fun k_ => some k_ ≠ (.slice Ao58 t124.length co58 : Value).ownBlock ∧ some k_ ≠ (.slice Ao68 t132.length co68 : Value).ownBlock ∧ some k_ ≠ (.slice Ao78 t139.length co78 : Value).ownBlock ∧ some k_ ≠ (.slice Ao91 t149.length co91 : Value).ownBlock ∧ some k_ ≠ (.slice Ao138 t165.length co138 : Value).ownBlock) (Kd.R_keptB (HO160.out) hkp (fun k_ hk_ hs_ => by simp only [hk_, ne_eq, not_false_eq_true] at hs_)) (fun k_ hk_ => by simp only [hk_, ne_eq, not_false_eq_true, and_self])); replace HO167 := am_ (Kd.R_mono (ok' := fun k_ => some k_ ≠ (.slice Ao58 t124.length co58 : Value).ownBlock ∧ some k_ ≠ (.slice Ao68 t132.length co68 : Value).ownBlock ∧ some k_ ≠ (.slice Ao78 t139.length co78 : Value).ownBlock ∧ some k_ ≠ (.slice Ao91 t149.length co91 : Value).ownBlock ∧ some k_ ≠ (.slice Ao134 t158.length co134 : Value).ownBlock) (Kd.R_keptB (HO167.out) hkp (fun k_ hk_ hs_ => by simp only [hk_, ne_eq, not_false_eq_true] at hs_)) (fun k_ hk_ => by simp only [hk_, ne_eq, not_false_eq_true, and_self])); replace HO171 := am_ (Kd.R_mono (ok' := fun k_ => some k_ ≠ (.slice Ao82 t143.length co82 : Value).ownBlock) (Kd.R_keptB ((Kd.R_apart' HO171.out (Kd.R_typed HO_143003.out) (by decide))) hkp (fun k_ hk_ hs_ => by simp only [hk_, ne_eq, not_false_eq_true] at hs_)) (fun k_ hk_ => hk_.1.1)); replace HO_143003 := am_ (Kd.R_reok rfl hy0 (fun k_ e_ => HO_143003.out.1 k_ e_)); replace HB := am_ (hb); (try clear hb); (try clear hkp); (try clear hy0)) | ((with_reducible refine gate_callee (f := 17) rfl ?_); refine goesL_ (some 90) rfl rfl Try.func17 (by kernel_rfl) rfl #[.slice Ao82 t143.length co82, .int .i64 t175] rfl (by simp only [List.map_toArray, List.map_cons, List.map_nil]; rfl) ?_; (with_reducible refine (laws_markRunS.calls kj36 (fun k_ => some k_ = (.slice Ao82 t143.length co82 : Value).ownBlock) (.slice Ao82 t143.length co82) t143 t175 t177 t178 w _ ?side1 ?side2 A130.out).mono ?_); (case side1 => exact hb_); (case side2 => exact Kd.R_tight rfl HO_12.out); rintro e w156 ⟨rfl, hy0, hb, hkp⟩; refine ⟨_, rfl, ?_⟩; replace HO_129003 := am_ (Kd.R_mono (ok' := fun k_ => some k_ ≠ (.slice Ao68 t132.length co68 : Value).ownBlock ∧ some k_ ≠ (.slice Ao78 t139.length co78 : Value).ownBlock ∧ some k_ ≠ (.slice Ao91 t149.length co91 : Value).ownBlock ∧ some k_ ≠ (.slice Ao134 t158.length co134 : Value).ownBlock ∧ some k_ ≠ (.slice Ao138 t165.length co138 : Value).ownBlock) (Kd.R_keptB ((Kd.R_apart' HO_129003.out (Kd.R_typed HO_12.out) (by decide))) hkp (fun k_ hk_ hs_ => by simp only [hk_, ne_eq, not_false_eq_true] at hs_)) (fun k_ hk_ => by simp only [hk_, ne_eq, not_false_eq_true, and_self])); replace HO_136003 := am_ (Kd.R_mono (ok' := fun k_ => some k_ ≠ (.slice Ao58 t124.length co58 : Value).ownBlock ∧ some k_ ≠ (.slice Ao78 t139.length co78 : Value).ownBlock ∧ some k_ ≠ (.slice Ao91 t149.length co91 : Value).ownBlock ∧ some k_ ≠ (.slice Ao134 t158.length co134 : Value).ownBlock ∧ some k_ ≠ (.slice Ao138 t165.length co138 : Value).ownBlock) (Kd.R_keptB ((Kd.R_apart' HO_136003.out (Kd.R_typed HO_12.out) (by decide))) hkp (fun k_ hk_ hs_ => by simp only [hk_, ne_eq, not_false_eq_true] at hs_)) (fun k_ hk_ => by simp only [hk_, ne_eq, not_false_eq_true, and_self])); replace HO_143003 := am_ (Kd.R_mono (ok' := fun k_ => some k_ ≠ (.slice Ao58 t124.length co58 : Value).ownBlock ∧ some k_ ≠ (.slice Ao68 t132.length co68 : Value).ownBlock ∧ some k_ ≠ (.slice Ao91 t149.length co91 : Value).ownBlock ∧ some k_ ≠ (.slice Ao134 t158.length co134 : Value).ownBlock ∧ some k_ ≠ (.slice Ao138 t165.length co138 : Value).ownBlock) (Kd.R_keptB ((Kd.R_apart' HO_143003.out (Kd.R_typed HO_12.out) (by decide))) hkp (fun k_ hk_ hs_ => by simp only [hk_, ne_eq, not_false_eq_true] at hs_)) (fun k_ hk_ => by simp only [hk_, ne_eq, not_false_eq_true, and_self])); replace HO_154003 := am_ (Kd.R_mono (ok' := fun k_ => some k_ ≠ (.slice Ao58 t124.length co58 : Value).ownBlock ∧ some k_ ≠ (.slice Ao68 t132.length co68 : Value).ownBlock ∧ some k_ ≠ (.slice Ao78 t139.length co78 : Value).ownBlock ∧ some k_ ≠ (.slice Ao134 t158.length co134 : Value).ownBlock ∧ some k_ ≠ (.slice Ao138 t165.length co138 : Value).ownBlock) (Kd.R_keptB ((Kd.R_apart' HO_154003.out (Kd.R_typed HO_12.out) (by decide))) hkp (fun k_ hk_ hs_ => by simp only [hk_, ne_eq, not_false_eq_true] at hs_)) (fun k_ hk_ => by simp only [hk_, ne_eq, not_false_eq_true, and_self])); replace BK101 := am_ (blk_kept (by exact BK101.out) hkp (fun hs_ => (fun e_ => (Kd.R_ne HO_12.out BK101.out (by decide)) e_) hs_)); replace BK102 := am_ (blk_kept (by exact BK102.out) hkp (fun hs_ => (fun e_ => (Kd.R_ne HO_12.out BK102.out (by decide)) e_) hs_)); replace BK128 := am_ (blk_kept (by exact BK128.out) hkp (fun hs_ => (fun e_ => (Kd.R_ne HO_12.out BK128.out (by decide)) e_) hs_)); replace BK135 := am_ (blk_kept (by exact BK135.out) hkp (fun hs_ => (fun e_ => (Kd.R_ne HO_12.out BK135.out (by decide)) e_) hs_)); replace BK142 := am_ (blk_kept (by exact BK142.out) hkp (fun hs_ => (fun e_ => (Kd.R_ne HO_12.out BK142.out (by decide)) e_) hs_)); replace BK153 := am_ (blk_kept (by exact BK153.out) hkp (fun hs_ => (fun e_ => (Kd.R_ne HO_12.out BK153.out (by decide)) e_) hs_)); replace HO160 := am_ (Kd.R_mono (ok' := fun k_ => some k_ ≠ (.slice Ao58 t124.length co58 : Value).ownBlock ∧ some k_ ≠ (.slice Ao68 t132.length co68 : Value).ownBlock ∧ some k_ ≠ (.slice Ao78 t139.length co78 : Value).ownBlock ∧ some k_ ≠ (.slice Ao91 t149.length co91 : Value).ownBlock ∧ some k_ ≠ (.slice Ao138 t165.length co138 : Value).ownBlock) (Kd.R_keptB ((Kd.R_apart' HO160.out (Kd.R_typed HO_12.out) (by decide))) hkp (fun k_ hk_ hs_ => by simp only [hk_, ne_eq, not_false_eq_true] at hs_)) (fun k_ hk_ => by simp only [hk_, ne_eq, not_false_eq_true, and_self])); replace HO167 := am_ (Kd.R_mono (ok' := fun k_ => some k_ ≠ (.slice Ao58 t124.length co58 : Value).ownBlock ∧ some k_ ≠ (.slice Ao68 t132.length co68 : Value).ownBlock ∧ some k_ ≠ (.slice Ao78 t139.length co78 : Value).ownBlock ∧ some k_ ≠ (.slice Ao91 t149.length co91 : Value).ownBlock ∧ some k_ ≠ (.slice Ao134 t158.length co134 : Value).ownBlock) (Kd.R_keptB ((Kd.R_apart' HO167.out (Kd.R_typed HO_12.out) (by decide))) hkp (fun k_ hk_ hs_ => by simp only [hk_, ne_eq, not_false_eq_true] at hs_)) (fun k_ hk_ => by simp only [hk_, ne_eq, not_false_eq_true, and_self])); replace HO_12 := am_ (Kd.R_reok rfl hy0 (fun k_ e_ => HO_12.out.1 k_ e_)); replace HO171 := am_ (Kd.R_mono (ok' := fun k_ => some k_ ≠ (.slice Ao82 t143.length co82 : Value).ownBlock) (Kd.R_keptB (HO171.out) hkp (fun k_ hk_ hs_ => by simp only [hk_, ne_eq, not_false_eq_true] at hs_)) (fun k_ hk_ => hk_.1)); replace HB := am_ (hb); (try clear hb); (try clear hkp); (try clear hy0)))
   (try simp only [Act.put, List.setIfInBounds_toArray, List.set_cons_zero, List.set_cons_succ])
   go_cut [103] (fun v103 wc => ∃ (kq : Nat) (x103_130 : Bool), v103 = .bool x103_130 ∧ Aside0 (laws_FnExactMaskImage.j1 kq l2 t127 x103_130 a0_0 a0_1 a0_2 l0_3 a1_0 a1_1 a1_2 l1_3 t121 t122 t123 t124 t146 t147 t148 t149 = some r) ∧ Aside0 (kq ≤ kj36) ∧ Aside0 (Kd.R (Kd.int .i64) 3 wc w.heap.size (fun k_ => some k_ ≠ ((.slice Ao68 t132.length co68) : Value).ownBlock ∧ some k_ ≠ ((.slice Ao78 t139.length co78) : Value).ownBlock ∧ some k_ ≠ ((.slice Ao91 t149.length co91) : Value).ownBlock) (.slice Ao58 t124.length co58) t124) ∧ Aside0 (Kd.R (Kd.int .i64) 3 wc w.heap.size (fun k_ => some k_ ≠ ((.slice Ao58 t124.length co58) : Value).ownBlock ∧ some k_ ≠ ((.slice Ao78 t139.length co78) : Value).ownBlock ∧ some k_ ≠ ((.slice Ao91 t149.length co91) : Value).ownBlock) (.slice Ao68 t132.length co68) t174) ∧ Aside0 (Kd.R (Kd.int .i64) 3 wc w.heap.size (fun k_ => some k_ ≠ ((.slice Ao58 t124.length co58) : Value).ownBlock ∧ some k_ ≠ ((.slice Ao68 t132.length co68) : Value).ownBlock ∧ some k_ ≠ ((.slice Ao91 t149.length co91) : Value).ownBlock) (.slice Ao78 t139.length co78) t176) ∧ Aside0 (Kd.R (Kd.int .i64) 3 wc w.heap.size (fun k_ => some k_ ≠ ((.slice Ao58 t124.length co58) : Value).ownBlock ∧ some k_ ≠ ((.slice Ao68 t132.length co68) : Value).ownBlock ∧ some k_ ≠ ((.slice Ao78 t139.length co78) : Value).ownBlock) (.slice Ao91 t149.length co91) t149) ∧ Aside0 (wc.heap[gb101]? = some (.cells #[.int .i64 a0_0, .int .i64 a0_1, .int .i64 a0_2, (.slice A0_3 l0_3.length c0_3)] 34 (0, 0))) ∧ Aside0 (wc.heap[gb102]? = some (.cells #[.int .i64 a1_0, .int .i64 a1_1, .int .i64 a1_2, (.slice A1_3 l1_3.length c1_3)] 34 (0, 0))) ∧ Aside0 (wc.heap[gb128]? = some (.cells #[.int .i64 t121, .int .i64 t122, .int .i64 t123, (.slice Ao58 t124.length co58)] 25 (0, 0))) ∧ Aside0 (wc.heap[gb135]? = some (.cells #[.int .i64 t129, .int .i64 t130, .int .i64 t131, (.slice Ao68 t132.length co68)] 25 (0, 0))) ∧ Aside0 (wc.heap[gb142]? = some (.cells #[.int .i64 t136, .int .i64 t137, .int .i64 t138, (.slice Ao78 t139.length co78)] 25 (0, 0))) ∧ Aside0 (wc.heap[gb153]? = some (.cells #[.int .i64 t146, .int .i64 t147, .int .i64 t148, (.slice Ao91 t149.length co91)] 25 (0, 0))) ∧ Aside0 (Below w.heap.size w wc))
   case first =>
    have H := HC131.out
    clear HC131
    by_cases c157 : t177 < 0
    ·
     rw [if_pos c157] at H
     exact absurd H (by simp)
    rw [if_neg c157] at H
    have c157b0 : decide (t177 < 0) = false := decide_eq_false c157
    clear c157
    (first | rw [c157b0] | (simp only [i64_w, i32_w]; rw [c157b0]) | skip)
    replace H := Option.bind_eq_some_iff.mp H
    obtain ⟨t179, A1580, H⟩ := H
    (try dsimp only at H)
    have A158 := Aside0.mk A1580
    clear A1580
    by_cases c159 : t179 = true
    ·
     subst c159
     rw [if_pos rfl] at H
     have H' := Aside0.mk H
     clear H
     have hnb160 := NB153_101.out
     have hnc160 := NB101_153.out
     have hnb161 := NB153_102.out
     have hnc161 := NB102_153.out
     have hnb162 := NB153_128.out
     have hnc162 := NB128_153.out
     have hnb163 := NB153_135.out
     have hnc163 := NB135_153.out
     have hnb164 := NB153_142.out
     have hnc164 := NB142_153.out
     obtain ⟨hcz165_0, hcz165_1, hcz165_2, hcz165_3, hfz165_0, hfz165_1, hfz165_2, hfz165_3⟩ := blk4_ BK153.out
     have hnb166 := NB128_101.out
     have hnc166 := NB101_128.out
     have hnb167 := NB128_102.out
     have hnc167 := NB102_128.out
     have hnb168 := NB128_135.out
     have hnc168 := NB135_128.out
     have hnb169 := NB128_142.out
     have hnc169 := NB142_128.out
     obtain ⟨hcz170_0, hcz170_1, hcz170_2, hcz170_3, hfz170_0, hfz170_1, hfz170_2, hfz170_3⟩ := blk4_ BK128.out
     go_wp2_with (first | (go_at_call 14; (with_reducible refine (laws_eqImage.calls kj36 t146 t147 t148 _ _ t149 t121 t122 t123 _ _ t124 true _ ?side1 ?side2 ?side3 ?side4 A158.out).mono ?_); (case side1 => repeat (first | exact (Kd.R_reads' HO_154003.out).2.2 | (with_reducible refine Kd.C_alloc ?_ _) | (with_reducible refine Kd.C_drewN ?_ _) | (with_reducible refine Kd.C_drew ?_))); (case side2 => exact (Kd.R_reads' HO_154003.out).2.1); (case side3 => repeat (first | exact (Kd.R_reads' HO_129003.out).2.2 | (with_reducible refine Kd.C_alloc ?_ _) | (with_reducible refine Kd.C_drewN ?_ _) | (with_reducible refine Kd.C_drew ?_))); (case side4 => exact (Kd.R_reads' HO_129003.out).2.1); rintro e w171 ⟨rfl, hb⟩; replace HO_12 := rb_ HO_12 hb; replace HO_129003 := rb_ HO_129003 hb; replace HO_136003 := rb_ HO_136003 hb; replace HO_143003 := rb_ HO_143003 hb; replace HO_154003 := rb_ HO_154003 hb; replace HO160 := rb_ HO160 hb; replace HO167 := rb_ HO167 hb; replace HO171 := rb_ HO171 hb; replace BK101 := bb_ BK101 hb; replace BK102 := bb_ BK102 hb; replace BK128 := bb_ BK128 hb; replace BK135 := bb_ BK135 hb; replace BK142 := bb_ BK142 hb; replace BK153 := bb_ BK153 hb; replace HB := am_ (below_step (hb_ : Below w.heap.size w _) hb); (try clear hb)))
     go_meet
     case rel => exact ⟨_, ((t152 != t127)), (by first | rfl | (simp; done) | (simp [*]; done)), H', ⟨by have := HJ36.out; first | omega | exact Nat.le_refl _⟩, ⟨by exact Kd.R_mono HO_129003.out (fun _ hk => ⟨hk.1, ⟨hk.2.1, hk.2.2.1⟩⟩)⟩, ⟨by exact Kd.R_mono HO_136003.out (fun _ hk => ⟨hk.1, ⟨hk.2.1, hk.2.2.1⟩⟩)⟩, ⟨by exact Kd.R_mono HO_143003.out (fun _ hk => ⟨hk.1, ⟨hk.2.1, hk.2.2.1⟩⟩)⟩, ⟨by exact Kd.R_mono HO_154003.out (fun _ hk => ⟨hk.1, ⟨hk.2.1, hk.2.2.1⟩⟩)⟩, ⟨by exact BK101.out⟩, ⟨by exact BK102.out⟩, ⟨by exact BK128.out⟩, ⟨by exact BK135.out⟩, ⟨by exact BK142.out⟩, ⟨by exact BK153.out⟩, ⟨by repeat (first | (with_reducible first | exact HB.out | apply below_alloc | apply pw_below_drewN | apply below_drew1 | refine below_set ?_ GE101.out | refine below_set ?_ GE102.out | refine below_set ?_ GE128.out | refine below_set ?_ GE135.out | refine below_set ?_ GE142.out | refine below_set ?_ GE153.out) | exact HB.out)⟩⟩
    replace c159 := Bool.eq_false_iff.mpr c159
    subst c159
    have H1 : (none) = some r := by rw [if_neg (show ¬ (false = true) by decide)] at H; exact H
    exact absurd H1 (by simp)
   case rest =>
    clear HC131
    try clear c1
    try clear c2
    try clear p2
    try clear c11
    try clear c12
    try clear c13
    try clear c14
    try clear c15
    try clear c16
    try clear c17
    try clear c18
    try clear c118
    try clear c121
    try clear c124
    try clear c127
    try clear c143
    try clear c144
    try clear c145
    try clear c146
    try clear c147
    try clear c150
    try clear c151
    try clear c152
    try clear c153
    try clear c157
    try clear c157b0
    try clear c159
    try clear c160
    try clear c161
    try clear c162
    try clear c163
    try clear c164
    try clear c166
    try clear c167
    try clear c168
    try clear c169
    try clear c172
    try clear c173
    try clear c174
    try clear c175
    try clear c176
    try clear c178
    try clear c179
    try clear c180
    try clear c181
    try clear hcz148_0
    try clear hcz148_1
    try clear hcz148_2
    try clear hcz148_3
    try clear hcz154_0
    try clear hcz154_1
    try clear hcz154_2
    try clear hcz154_3
    try clear hcz165_0
    try clear hcz165_1
    try clear hcz165_2
    try clear hcz165_3
    try clear hcz170_0
    try clear hcz170_1
    try clear hcz170_2
    try clear hcz170_3
    try clear hcz177_0
    try clear hcz177_1
    try clear hcz177_2
    try clear hcz177_3
    try clear hcz182_0
    try clear hcz182_1
    try clear hcz182_2
    try clear hcz182_3
    try clear hfz148_0
    try clear hfz148_1
    try clear hfz148_2
    try clear hfz148_3
    try clear hfz154_0
    try clear hfz154_1
    try clear hfz154_2
    try clear hfz154_3
    try clear hfz165_0
    try clear hfz165_1
    try clear hfz165_2
    try clear hfz165_3
    try clear hfz170_0
    try clear hfz170_1
    try clear hfz170_2
    try clear hfz170_3
    try clear hfz177_0
    try clear hfz177_1
    try clear hfz177_2
    try clear hfz177_3
    try clear hfz182_0
    try clear hfz182_1
    try clear hfz182_2
    try clear hfz182_3
    try clear hfz80_0
    try clear hfz80_1
    try clear hfz80_2
    try clear hfz80_3
    try clear hfz81_0
    try clear hfz81_1
    try clear hfz81_2
    try clear hfz81_3
    try clear hfz90_0
    try clear hfz90_1
    try clear hfz90_2
    try clear hfz90_3
    try clear hfz99_0
    try clear hfz99_1
    try clear hfz99_2
    try clear hfz99_3
    obtain ⟨kq, x103_130, rfl, HA, HJ130, HO_129003, HO_136003, HO_143003, HO_154003, BK101, BK102, BK128, BK135, BK142, BK153, HB⟩ := hcut
    have hl136003_130 := (Kd.R_reads' HO_136003.out).1
    rw [hl136003_130] at HO_136003
    (try simp only [hl136003_130])
    (try simp only [hl136003_130] at BK101)
    (try simp only [hl136003_130] at BK102)
    (try simp only [hl136003_130] at BK128)
    (try simp only [hl136003_130] at BK135)
    (try simp only [hl136003_130] at BK142)
    (try simp only [hl136003_130] at BK153)
    (try simp only [hl136003_130] at HO_129003)
    (try simp only [hl136003_130] at HO_143003)
    (try simp only [hl136003_130] at HO_154003)
    have hl143003_130 := (Kd.R_reads' HO_143003.out).1
    rw [hl143003_130] at HO_143003
    (try simp only [hl143003_130])
    (try simp only [hl143003_130] at BK101)
    (try simp only [hl143003_130] at BK102)
    (try simp only [hl143003_130] at BK128)
    (try simp only [hl143003_130] at BK135)
    (try simp only [hl143003_130] at BK142)
    (try simp only [hl143003_130] at BK153)
    (try simp only [hl143003_130] at HO_129003)
    (try simp only [hl143003_130] at HO_136003)
    (try simp only [hl143003_130] at HO_154003)
    cases kq with
    | zero => exact absurd HA.out (by simp [laws_FnExactMaskImage.j1])
    | succ kj130 =>
     have H := HA.out
     clear HA
     simp only [laws_FnExactMaskImage.j1] at H
     by_cases c184 : x103_130 = true
     ·
      subst c184
      have H1 : (none) = some r := by rw [if_pos rfl] at H; exact H
      exact absurd H1 (by simp)
     replace c184 := Bool.eq_false_iff.mpr c184
     subst c184
     rw [if_neg (show ¬ (false = true) by decide)] at H
     replace H := Option.bind_eq_some_iff.mp H
     obtain ⟨⟨t180, t181⟩, A1850, H⟩ := H
     (try dsimp only at H)
     have A185 := Aside0.mk A1850
     clear A1850
     replace H := Option.bind_eq_some_iff.mp H
     obtain ⟨t182, A1860, H⟩ := H
     (try dsimp only at H)
     have A186 := Aside0.mk A1860
     clear A1860
     by_cases c187 : t182 < 0
     ·
      rw [if_pos c187] at H
      exact absurd H (by simp)
     rw [if_neg c187] at H
     have c187b0 : decide (t182 < 0) = false := decide_eq_false c187
     clear c187
     by_cases c197 : t182 = t180
     rotate_left
     ·
      rw [if_neg c197] at H
      exact absurd H (by simp)
     rw [if_pos c197] at H
     have c197b0 : (t182 == t180) = true := beq_iff_eq.mpr c197
     have c197b1 : (t182 != t180) = false := bne_eq_false_iff_eq.mpr c197
     clear c197
     replace H := Option.bind_eq_some_iff.mp H
     obtain ⟨⟨t183, t184, t185, t186⟩, A1980, H⟩ := H
     (try dsimp only at H)
     have A198 := Aside0.mk A1980
     clear A1980
     replace H := Option.bind_eq_some_iff.mp H
     obtain ⟨⟨t189, t190, t191, t192⟩, A1990, H⟩ := H
     (try dsimp only at H)
     have A199 := Aside0.mk A1990
     clear A1990
     replace H := Option.bind_eq_some_iff.mp H
     obtain ⟨t195, A2000, H⟩ := H
     (try dsimp only at H)
     have A200 := Aside0.mk A2000
     clear A2000
     replace H := Option.bind_eq_some_iff.mp H
     obtain ⟨⟨t198, t199, t200, t201, t204⟩, A2010, H⟩ := H
     (try dsimp only at H)
     have A201 := Aside0.mk A2010
     clear A2010
     have HC202 := Aside0.mk H
     clear H
     have hnb203 := NB153_101.out
     have hnc203 := NB101_153.out
     have hnb204 := NB153_102.out
     have hnc204 := NB102_153.out
     have hnb205 := NB153_128.out
     have hnc205 := NB128_153.out
     have hnb206 := NB153_135.out
     have hnc206 := NB135_153.out
     have hnb207 := NB153_142.out
     have hnc207 := NB142_153.out
     obtain ⟨hcz208_0, hcz208_1, hcz208_2, hcz208_3, hfz208_0, hfz208_1, hfz208_2, hfz208_3⟩ := blk4_ BK153.out
     try go_wp2_with (first | ((with_reducible refine gate_callee (f := 16) rfl ?_); refine goesL_ (some 106) rfl rfl Try.func16 (by kernel_rfl) rfl #[.agg #[.int .i64 t146, .int .i64 t147, .int .i64 t148, .slice Ao91 t149.length co91], .int .i64 1] rfl (by simp only [List.map_toArray, List.map_cons, List.map_nil]; rfl) ?_; (with_reducible refine (laws_markImage.calls kj130 t146 t147 t148 (fun k_ => some k_ = (.slice Ao91 t149.length co91 : Value).ownBlock) (.slice Ao91 t149.length co91) t149 1 t180 t181 w _ ?side1 ?side2 A185.out).mono ?_); (case side1 => exact hb_); (case side2 => exact Kd.R_tight rfl HO_154003.out); rintro e w209 ⟨rfl, hy0, hb, hkp⟩; refine ⟨_, rfl, ?_⟩; replace HO_129003 := am_ (Kd.R_mono (ok' := fun k_ => some k_ ≠ (.slice Ao68 t174.length co68 : Value).ownBlock ∧ some k_ ≠ (.slice Ao78 t176.length co78 : Value).ownBlock ∧ some k_ ≠ (.slice Ao91 t149.length co91 : Value).ownBlock) (Kd.R_keptB (HO_129003.out) hkp (fun k_ hk_ hs_ => by simp only [hk_, ne_eq, not_false_eq_true] at hs_)) (fun k_ hk_ => by simp only [hk_, ne_eq, not_false_eq_true, and_self])); replace HO_136003 := am_ (Kd.R_mono (ok' := fun k_ => some k_ ≠ (.slice Ao58 t124.length co58 : Value).ownBlock ∧ some k_ ≠ (.slice Ao78 t176.length co78 : Value).ownBlock ∧ some k_ ≠ (.slice Ao91 t149.length co91 : Value).ownBlock) (Kd.R_keptB (HO_136003.out) hkp (fun k_ hk_ hs_ => by simp only [hk_, ne_eq, not_false_eq_true] at hs_)) (fun k_ hk_ => by simp only [hk_, ne_eq, not_false_eq_true, and_self])); replace HO_143003 := am_ (Kd.R_mono (ok' := fun k_ => some k_ ≠ (.slice Ao58 t124.length co58 : Value).ownBlock ∧ some k_ ≠ (.slice Ao68 t174.length co68 : Value).ownBlock ∧ some k_ ≠ (.slice Ao91 t149.length co91 : Value).ownBlock) (Kd.R_keptB (HO_143003.out) hkp (fun k_ hk_ hs_ => by simp only [hk_, ne_eq, not_false_eq_true] at hs_)) (fun k_ hk_ => by simp only [hk_, ne_eq, not_false_eq_true, and_self])); replace BK101 := am_ (blk_kept (by exact BK101.out) hkp (fun hs_ => (fun e_ => (Kd.R_ne HO_154003.out BK101.out (by decide)) e_) hs_)); replace BK102 := am_ (blk_kept (by exact BK102.out) hkp (fun hs_ => (fun e_ => (Kd.R_ne HO_154003.out BK102.out (by decide)) e_) hs_)); replace BK128 := am_ (blk_kept (by exact BK128.out) hkp (fun hs_ => (fun e_ => (Kd.R_ne HO_154003.out BK128.out (by decide)) e_) hs_)); replace BK135 := am_ (blk_kept (by exact BK135.out) hkp (fun hs_ => (fun e_ => (Kd.R_ne HO_154003.out BK135.out (by decide)) e_) hs_)); replace BK142 := am_ (blk_kept (by exact BK142.out) hkp (fun hs_ => (fun e_ => (Kd.R_ne HO_154003.out BK142.out (by decide)) e_) hs_)); replace BK153 := am_ (blk_kept (by exact BK153.out) hkp (fun hs_ => (fun e_ => (Kd.R_ne HO_154003.out BK153.out (by decide)) e_) hs_)); replace HO_154003 := am_ (Kd.R_reok rfl hy0 (fun k_ e_ => HO_154003.out.1 k_ e_)); replace HB := am_ (hb); (try clear hb); (try clear hkp); (try clear hy0); obtain ⟨hcz210_0, hcz210_1, hcz210_2, hcz210_3, hfz210_0, hfz210_1, hfz210_2, hfz210_3⟩ := blk4_ BK153.out) | ((with_reducible refine gate_callee (f := 18) rfl ?_); refine goesL_ (some 109) rfl rfl Try.func18 (by kernel_rfl) rfl #[.agg #[.int .i64 t146, .int .i64 t147, .int .i64 t148, .slice Ao91 t181.length co91], .int .i64 1] rfl (by (try simp only [List.map_toArray, List.map_cons, List.map_nil]); first | done | (rw [show t181.length = t149.length from (Kd.R_reads' HO_154003.out).1.symm] <;> rfl) | rfl | (simp only [List.length_drop, List.length_take]; rfl)) ?_; (with_reducible refine (laws_heldImage.calls kj130 t146 t147 t148 _ _ t181 1 t182 _ ?side1 ?side2 A186.out).mono ?_); (case side1 => repeat (first | exact (Kd.R_reads' HO_154003.out).2.2 | (with_reducible refine Kd.C_alloc ?_ _) | (with_reducible refine Kd.C_drewN ?_ _) | (with_reducible refine Kd.C_drew ?_))); (case side2 => rw [show t181.length = t149.length from (Kd.R_reads' HO_154003.out).1.symm]; exact (Kd.R_reads' HO_154003.out).2.1); rintro e w211 ⟨rfl, hb⟩; refine ⟨_, rfl, ?_⟩; replace HO_129003 := rb_ HO_129003 hb; replace HO_136003 := rb_ HO_136003 hb; replace HO_143003 := rb_ HO_143003 hb; replace HO_154003 := rb_ HO_154003 hb; replace BK101 := bb_ BK101 hb; replace BK102 := bb_ BK102 hb; replace BK128 := bb_ BK128 hb; replace BK135 := bb_ BK135 hb; replace BK142 := bb_ BK142 hb; replace BK153 := bb_ BK153 hb; replace HB := am_ (below_step (hb_ : Below w.heap.size w _) hb); (try clear hb)))
     replace HO_129003 := am_ (Kd.R_drew HO_129003.out)
     replace HO_136003 := am_ (Kd.R_drew HO_136003.out)
     replace HO_143003 := am_ (Kd.R_drew HO_143003.out)
     replace HO_154003 := am_ (Kd.R_drew HO_154003.out)
     replace BK101 := am_ (blk_drew BK101.out)
     replace BK102 := am_ (blk_drew BK102.out)
     replace BK128 := am_ (blk_drew BK128.out)
     replace BK135 := am_ (blk_drew BK135.out)
     replace BK142 := am_ (blk_drew BK142.out)
     replace BK153 := am_ (blk_drew BK153.out)
     replace HB := am_ (below_drew1 HB.out)
     refine start_ (n := 13) (S := fun w' => w'.cell? ⟨gb101, 0, none⟩ = some (.int .i64 a0_0) ∧ w'.cell? ⟨gb101, 1, none⟩ = some (.int .i64 a0_1) ∧ w'.cell? ⟨gb101, 2, none⟩ = some (.int .i64 a0_2) ∧ w'.cell? ⟨gb101, 3, none⟩ = some (.slice A0_3 l0_3.length c0_3) ∧ w'.cell? ⟨gb102, 0, none⟩ = some (.int .i64 a1_0) ∧ w'.cell? ⟨gb102, 1, none⟩ = some (.int .i64 a1_1) ∧ w'.cell? ⟨gb102, 2, none⟩ = some (.int .i64 a1_2) ∧ w'.cell? ⟨gb102, 3, none⟩ = some (.slice A1_3 l1_3.length c1_3)) (ds := []) #[false, false, false, false, false, false, false, false, false, false, false, false, false] (by kernel_rfl) rfl rfl (s8_ BK101 BK102) (fun hHeld => ?_); refine with_tabW laws_FnExactMaskImage.tab38 laws_FnExactMaskImage.bits38 (fun HT_ HW_ => ?_)
     generalize w211.drew = w212 at HO_129003 HO_136003 HO_143003 HO_154003 BK101 BK102 BK128 BK135 BK142 BK153 HB hHeld ⊢
     refine pure_ (i := 4) (N := some 120) (v := ?_) (a' := ?_) #[false, false, false, false, true, false, false, false, false, false, false, false, false] rfl rfl (any_of HT_.out (by kernel_rfl)) (fun _ _ _ h => h) (Or.inl ⟨by rfl, ?_⟩) ?_ ?_
     rotate_left
     ·
      intro w'
      go_simp
      with_reducible rfl
     rotate_left
     ·
      simp only [Act.put, List.setIfInBounds_toArray, List.set_cons_zero, List.set_cons_succ, i64_w, i32_w]
      rfl
     refine take_ (i := 0) (N := some 116) (v := ?_) (a' := ?_) #[true, false, false, false, true, false, false, false, false, false, false, false, false] rfl rfl (take_ofW HT_.out HW_.out (by kernel_rfl)) (fun _ _ _ h => h) (Or.inl ⟨by rfl, ?_⟩) hHeld ?_ ?_
     rotate_left
     ·
      rintro w' ⟨s0, s1, s2, s3, s4, s5, s6, s7⟩
      go_simp
      with_reducible rfl
     rotate_left
     ·
      simp only [Act.put, List.setIfInBounds_toArray, List.set_cons_zero, List.set_cons_succ, i64_w, i32_w]
      rfl
     refine take_ (i := 2) (N := some 118) (v := ?_) (a' := ?_) #[true, false, true, false, true, false, false, false, false, false, false, false, false] rfl rfl (take_ofW HT_.out HW_.out (by kernel_rfl)) (fun _ _ _ h => h) (Or.inl ⟨by rfl, ?_⟩) hHeld ?_ ?_
     rotate_left
     ·
      rintro w' ⟨s0, s1, s2, s3, s4, s5, s6, s7⟩
      go_simp
      with_reducible rfl
     rotate_left
     ·
      simp only [Act.put, List.setIfInBounds_toArray, List.set_cons_zero, List.set_cons_succ, i64_w, i32_w]
      rfl
     refine join_ (σ := Value × Value × Value × Value × Nat) 2 #[true, true, true, true, true, true, true, true, true, true, true, false, false] (fun s_ => [(117, .agg #[.int .i64 t183, .int .i64 t184, .int .i64 t185, s_.1]), (119, .agg #[.int .i64 t189, .int .i64 t190, .int .i64 t191, s_.2.1]), (121, s_.2.2.1), (122, .tuple #[.agg #[.int .i64 t198, .int .i64 t199, .int .i64 t200, s_.2.2.2.1], .bool t204]), (18, .pointer (some ⟨s_.2.2.2.2, 0, none⟩)), (115, .tuple #[.agg #[.int .i64 t198, .int .i64 t199, .int .i64 t200, s_.2.2.2.1], .bool t204]), (123, .agg #[.int .i64 t198, .int .i64 t199, .int .i64 t200, s_.2.2.2.1]), (124, .bool t204)]) (fun s_ w' => (w'.cell? ⟨gb101, 0, none⟩ = some (.int .i64 a0_0) ∧ w'.cell? ⟨gb101, 1, none⟩ = some (.int .i64 a0_1) ∧ w'.cell? ⟨gb101, 2, none⟩ = some (.int .i64 a0_2) ∧ w'.cell? ⟨gb101, 3, none⟩ = some (.slice A0_3 l0_3.length c0_3) ∧ w'.cell? ⟨gb102, 0, none⟩ = some (.int .i64 a1_0) ∧ w'.cell? ⟨gb102, 1, none⟩ = some (.int .i64 a1_1) ∧ w'.cell? ⟨gb102, 2, none⟩ = some (.int .i64 a1_2) ∧ w'.cell? ⟨gb102, 3, none⟩ = some (.slice A1_3 l1_3.length c1_3)) ∧ (Kd.R (Kd.int .i64) 3 w' w.heap.size (fun k_ => some k_ ≠ (s_.2.1 : Value).ownBlock ∧ some k_ ≠ (s_.2.2.2.1 : Value).ownBlock ∧ some k_ ≠ (.slice Ao58 t124.length co58 : Value).ownBlock ∧ some k_ ≠ (.slice Ao68 t174.length co68 : Value).ownBlock ∧ some k_ ≠ (.slice Ao78 t176.length co78 : Value).ownBlock ∧ some k_ ≠ (.slice Ao91 t149.length co91 : Value).ownBlock) s_.1 t186) ∧ (Kd.R (Kd.int .i64) 3 w' w.heap.size (fun k_ => some k_ ≠ (s_.1 : Value).ownBlock ∧ some k_ ≠ (s_.2.2.2.1 : Value).ownBlock ∧ some k_ ≠ (.slice Ao58 t124.length co58 : Value).ownBlock ∧ some k_ ≠ (.slice Ao68 t174.length co68 : Value).ownBlock ∧ some k_ ≠ (.slice Ao78 t176.length co78 : Value).ownBlock ∧ some k_ ≠ (.slice Ao91 t149.length co91 : Value).ownBlock) s_.2.1 t192) ∧ (Kd.R k59 59 w' w.heap.size (fun _ => True) s_.2.2.1 t195) ∧ (Kd.R (Kd.int .i64) 3 w' w.heap.size (fun k_ => some k_ ≠ (s_.1 : Value).ownBlock ∧ some k_ ≠ (s_.2.1 : Value).ownBlock ∧ some k_ ≠ (.slice Ao58 t124.length co58 : Value).ownBlock ∧ some k_ ≠ (.slice Ao68 t174.length co68 : Value).ownBlock ∧ some k_ ≠ (.slice Ao78 t176.length co78 : Value).ownBlock ∧ some k_ ≠ (.slice Ao91 t149.length co91 : Value).ownBlock) s_.2.2.2.1 t201) ∧ (Kd.R (Kd.int .i64) 3 w' w.heap.size (fun k_ => some k_ ≠ (s_.1 : Value).ownBlock ∧ some k_ ≠ (s_.2.1 : Value).ownBlock ∧ some k_ ≠ (s_.2.2.2.1 : Value).ownBlock ∧ some k_ ≠ (.slice Ao68 t174.length co68 : Value).ownBlock ∧ some k_ ≠ (.slice Ao78 t176.length co78 : Value).ownBlock ∧ some k_ ≠ (.slice Ao91 t149.length co91 : Value).ownBlock) (.slice Ao58 t124.length co58) t124) ∧ (Kd.R (Kd.int .i64) 3 w' w.heap.size (fun k_ => some k_ ≠ (s_.1 : Value).ownBlock ∧ some k_ ≠ (s_.2.1 : Value).ownBlock ∧ some k_ ≠ (s_.2.2.2.1 : Value).ownBlock ∧ some k_ ≠ (.slice Ao58 t124.length co58 : Value).ownBlock ∧ some k_ ≠ (.slice Ao78 t176.length co78 : Value).ownBlock ∧ some k_ ≠ (.slice Ao91 t149.length co91 : Value).ownBlock) (.slice Ao68 t174.length co68) t174) ∧ (Kd.R (Kd.int .i64) 3 w' w.heap.size (fun k_ => some k_ ≠ (s_.1 : Value).ownBlock ∧ some k_ ≠ (s_.2.1 : Value).ownBlock ∧ some k_ ≠ (s_.2.2.2.1 : Value).ownBlock ∧ some k_ ≠ (.slice Ao58 t124.length co58 : Value).ownBlock ∧ some k_ ≠ (.slice Ao68 t174.length co68 : Value).ownBlock ∧ some k_ ≠ (.slice Ao91 t149.length co91 : Value).ownBlock) (.slice Ao78 t176.length co78) t176) ∧ (Kd.R (Kd.int .i64) 3 w' w.heap.size (fun k_ => some k_ ≠ (s_.1 : Value).ownBlock ∧ some k_ ≠ (s_.2.1 : Value).ownBlock ∧ some k_ ≠ (s_.2.2.2.1 : Value).ownBlock ∧ some k_ ≠ (.slice Ao58 t124.length co58 : Value).ownBlock ∧ some k_ ≠ (.slice Ao68 t174.length co68 : Value).ownBlock ∧ some k_ ≠ (.slice Ao78 t176.length co78 : Value).ownBlock) (.slice Ao91 t149.length co91) t181) ∧ (w'.heap[gb101]? = some (.cells #[.int .i64 a0_0, .int .i64 a0_1, .int .i64 a0_2, .slice A0_3 l0_3.length c0_3] 34 (0, 0))) ∧ (w'.heap[gb102]? = some (.cells #[.int .i64 a1_0, .int .i64 a1_1, .int .i64 a1_2, .slice A1_3 l1_3.length c1_3] 34 (0, 0))) ∧ (w'.heap[gb128]? = some (.cells #[.int .i64 t121, .int .i64 t122, .int .i64 t123, .slice Ao58 t124.length co58] 25 (0, 0))) ∧ (w'.heap[gb135]? = some (.cells #[.int .i64 t129, .int .i64 t130, .int .i64 t131, .slice Ao68 t174.length co68] 25 (0, 0))) ∧ (w'.heap[gb142]? = some (.cells #[.int .i64 t136, .int .i64 t137, .int .i64 t138, .slice Ao78 t176.length co78] 25 (0, 0))) ∧ (w'.heap[gb153]? = some (.cells #[.int .i64 t146, .int .i64 t147, .int .i64 t148, .slice Ao91 t149.length co91] 25 (0, 0))) ∧ (w'.heap[s_.2.2.2.2]? = some (.cells #[.int .i64 0, .int .i64 0, .int .i64 0, .slice none 0 0] 25 (0, 0))) ∧ (w.heap.size ≤ s_.2.2.2.2) ∧ (w.heap.size ≤ s_.2.2.2.2) ∧ (gb101 ≠ s_.2.2.2.2) ∧ (s_.2.2.2.2 ≠ gb101) ∧ (gb102 ≠ s_.2.2.2.2) ∧ (s_.2.2.2.2 ≠ gb102) ∧ (gb128 ≠ s_.2.2.2.2) ∧ (s_.2.2.2.2 ≠ gb128) ∧ (gb135 ≠ s_.2.2.2.2) ∧ (s_.2.2.2.2 ≠ gb135) ∧ (gb142 ≠ s_.2.2.2.2) ∧ (s_.2.2.2.2 ≠ gb142) ∧ (gb153 ≠ s_.2.2.2.2) ∧ (s_.2.2.2.2 ≠ gb153) ∧ (Below w.heap.size w w')) ?_ ?_
     rotate_left
     ·
      intro hJ1_3_5_6_10
      refine join_ (σ := Value × Value × Value × Value) 3 #[true, true, true, true, true, true, true, true, true, true, false, false, false] (fun s_ => [(117, .agg #[.int .i64 t183, .int .i64 t184, .int .i64 t185, s_.1]), (119, .agg #[.int .i64 t189, .int .i64 t190, .int .i64 t191, s_.2.1]), (121, s_.2.2.1), (122, .tuple #[.agg #[.int .i64 t198, .int .i64 t199, .int .i64 t200, s_.2.2.2], .bool t204]), (115, .tuple #[.agg #[.int .i64 t198, .int .i64 t199, .int .i64 t200, s_.2.2.2], .bool t204]), (123, .agg #[.int .i64 t198, .int .i64 t199, .int .i64 t200, s_.2.2.2]), (124, .bool t204)]) (fun s_ w' => (w'.cell? ⟨gb101, 0, none⟩ = some (.int .i64 a0_0) ∧ w'.cell? ⟨gb101, 1, none⟩ = some (.int .i64 a0_1) ∧ w'.cell? ⟨gb101, 2, none⟩ = some (.int .i64 a0_2) ∧ w'.cell? ⟨gb101, 3, none⟩ = some (.slice A0_3 l0_3.length c0_3) ∧ w'.cell? ⟨gb102, 0, none⟩ = some (.int .i64 a1_0) ∧ w'.cell? ⟨gb102, 1, none⟩ = some (.int .i64 a1_1) ∧ w'.cell? ⟨gb102, 2, none⟩ = some (.int .i64 a1_2) ∧ w'.cell? ⟨gb102, 3, none⟩ = some (.slice A1_3 l1_3.length c1_3)) ∧ (Kd.R (Kd.int .i64) 3 w' w.heap.size (fun k_ => some k_ ≠ (s_.2.1 : Value).ownBlock ∧ some k_ ≠ (s_.2.2.2 : Value).ownBlock ∧ some k_ ≠ (.slice Ao58 t124.length co58 : Value).ownBlock ∧ some k_ ≠ (.slice Ao68 t174.length co68 : Value).ownBlock ∧ some k_ ≠ (.slice Ao78 t176.length co78 : Value).ownBlock ∧ some k_ ≠ (.slice Ao91 t149.length co91 : Value).ownBlock) s_.1 t186) ∧ (Kd.R (Kd.int .i64) 3 w' w.heap.size (fun k_ => some k_ ≠ (s_.1 : Value).ownBlock ∧ some k_ ≠ (s_.2.2.2 : Value).ownBlock ∧ some k_ ≠ (.slice Ao58 t124.length co58 : Value).ownBlock ∧ some k_ ≠ (.slice Ao68 t174.length co68 : Value).ownBlock ∧ some k_ ≠ (.slice Ao78 t176.length co78 : Value).ownBlock ∧ some k_ ≠ (.slice Ao91 t149.length co91 : Value).ownBlock) s_.2.1 t192) ∧ (Kd.R k59 59 w' w.heap.size (fun _ => True) s_.2.2.1 t195) ∧ (Kd.R (Kd.int .i64) 3 w' w.heap.size (fun k_ => some k_ ≠ (s_.1 : Value).ownBlock ∧ some k_ ≠ (s_.2.1 : Value).ownBlock ∧ some k_ ≠ (.slice Ao58 t124.length co58 : Value).ownBlock ∧ some k_ ≠ (.slice Ao68 t174.length co68 : Value).ownBlock ∧ some k_ ≠ (.slice Ao78 t176.length co78 : Value).ownBlock ∧ some k_ ≠ (.slice Ao91 t149.length co91 : Value).ownBlock) s_.2.2.2 t201) ∧ (Kd.R (Kd.int .i64) 3 w' w.heap.size (fun k_ => some k_ ≠ (s_.1 : Value).ownBlock ∧ some k_ ≠ (s_.2.1 : Value).ownBlock ∧ some k_ ≠ (s_.2.2.2 : Value).ownBlock ∧ some k_ ≠ (.slice Ao68 t174.length co68 : Value).ownBlock ∧ some k_ ≠ (.slice Ao78 t176.length co78 : Value).ownBlock ∧ some k_ ≠ (.slice Ao91 t149.length co91 : Value).ownBlock) (.slice Ao58 t124.length co58) t124) ∧ (Kd.R (Kd.int .i64) 3 w' w.heap.size (fun k_ => some k_ ≠ (s_.1 : Value).ownBlock ∧ some k_ ≠ (s_.2.1 : Value).ownBlock ∧ some k_ ≠ (s_.2.2.2 : Value).ownBlock ∧ some k_ ≠ (.slice Ao58 t124.length co58 : Value).ownBlock ∧ some k_ ≠ (.slice Ao78 t176.length co78 : Value).ownBlock ∧ some k_ ≠ (.slice Ao91 t149.length co91 : Value).ownBlock) (.slice Ao68 t174.length co68) t174) ∧ (Kd.R (Kd.int .i64) 3 w' w.heap.size (fun k_ => some k_ ≠ (s_.1 : Value).ownBlock ∧ some k_ ≠ (s_.2.1 : Value).ownBlock ∧ some k_ ≠ (s_.2.2.2 : Value).ownBlock ∧ some k_ ≠ (.slice Ao58 t124.length co58 : Value).ownBlock ∧ some k_ ≠ (.slice Ao68 t174.length co68 : Value).ownBlock ∧ some k_ ≠ (.slice Ao91 t149.length co91 : Value).ownBlock) (.slice Ao78 t176.length co78) t176) ∧ (Kd.R (Kd.int .i64) 3 w' w.heap.size (fun k_ => some k_ ≠ (s_.1 : Value).ownBlock ∧ some k_ ≠ (s_.2.1 : Value).ownBlock ∧ some k_ ≠ (s_.2.2.2 : Value).ownBlock ∧ some k_ ≠ (.slice Ao58 t124.length co58 : Value).ownBlock ∧ some k_ ≠ (.slice Ao68 t174.length co68 : Value).ownBlock ∧ some k_ ≠ (.slice Ao78 t176.length co78 : Value).ownBlock) (.slice Ao91 t149.length co91) t181) ∧ (w'.heap[gb101]? = some (.cells #[.int .i64 a0_0, .int .i64 a0_1, .int .i64 a0_2, .slice A0_3 l0_3.length c0_3] 34 (0, 0))) ∧ (w'.heap[gb102]? = some (.cells #[.int .i64 a1_0, .int .i64 a1_1, .int .i64 a1_2, .slice A1_3 l1_3.length c1_3] 34 (0, 0))) ∧ (w'.heap[gb128]? = some (.cells #[.int .i64 t121, .int .i64 t122, .int .i64 t123, .slice Ao58 t124.length co58] 25 (0, 0))) ∧ (w'.heap[gb135]? = some (.cells #[.int .i64 t129, .int .i64 t130, .int .i64 t131, .slice Ao68 t174.length co68] 25 (0, 0))) ∧ (w'.heap[gb142]? = some (.cells #[.int .i64 t136, .int .i64 t137, .int .i64 t138, .slice Ao78 t176.length co78] 25 (0, 0))) ∧ (w'.heap[gb153]? = some (.cells #[.int .i64 t146, .int .i64 t147, .int .i64 t148, .slice Ao91 t149.length co91] 25 (0, 0))) ∧ (Below w.heap.size w w')) ?_ ?_
      rotate_left
      rotate_left
      ·
       skip
       rintro ⟨v187, v193, v196, v202⟩ w220 ⟨hS_, h0_, h1_, h2_, h3_, h4_, h5_, h6_, h7_, h8_, h9_, h10_, h11_, h12_, h13_, h14_⟩
       (try dsimp only at h0_ h1_ h2_ h3_ h4_ h5_ h6_ h7_ h8_ h9_ h10_ h11_ h12_ h13_ h14_)
       clear HO_129003 HO_136003 HO_143003 HO_154003 BK101 BK102 BK128 BK135 BK142 BK153 HB
       have HO188 := am_ h0_
       have HO194 := am_ h1_
       have HO197 := am_ h2_
       have HO203 := am_ h3_
       have HO_129003 := am_ h4_
       have HO_136003 := am_ h5_
       have HO_143003 := am_ h6_
       have HO_154003 := am_ h7_
       have BK101 := am_ h8_
       have BK102 := am_ h9_
       have BK128 := am_ h10_
       have BK135 := am_ h11_
       have BK142 := am_ h12_
       have BK153 := am_ h13_
       have HB := am_ h14_
       clear h0_ h1_ h2_ h3_ h4_ h5_ h6_ h7_ h8_ h9_ h10_ h11_ h12_ h13_ h14_
       have hHeld := hS_
       refine norm_ (a' := ?_) ?_ ?_
       rotate_left
       ·
        simp only [putAll, Act.put, List.setIfInBounds_toArray, List.set_cons_zero, List.set_cons_succ]
        rfl
       refine one_ (i := 10) (N := some 18) #[true, true, true, true, true, true, true, true, true, true, true, false, false] rfl rfl (one_of HT_.out (by kernel_rfl)) (by decide) (fun K hK => ?_)
       refine box_step ?hg (N := 18) ?hd (cs := #[.int .i64 0, .int .i64 0, .int .i64 0, .slice none 0 0]) (t := 25) ?hr ?_; (case hd => rfl); (case hg => rfl); (case hr => first | (go_simp; done) | (go_simp; rfl))
       intro gb205 hg w221 hbox hb
       replace HO_129003 := rb_ HO_129003 hb
       replace HO_136003 := rb_ HO_136003 hb
       replace HO_143003 := rb_ HO_143003 hb
       replace HO_154003 := rb_ HO_154003 hb
       replace HO188 := rb_ HO188 hb
       replace HO194 := rb_ HO194 hb
       replace HO197 := rb_ HO197 hb
       replace HO203 := rb_ HO203 hb
       have BK205 := am_ (hbox)
       have GW205 := am_ ((by rw [hg]; exact (below_size (hb_ : Below w.heap.size w _)) : w.heap.size ≤ gb205))
       have GE205 := GW205
       replace HB := am_ (below_step (hb_ : Below w.heap.size w _) hb)
       have NB101_205 := nb_ hg BK101
       have NB205_101 := nc_ NB101_205
       replace BK101 := bb_ BK101 hb
       have NB102_205 := nb_ hg BK102
       have NB205_102 := nc_ NB102_205
       replace BK102 := bb_ BK102 hb
       have NB128_205 := nb_ hg BK128
       have NB205_128 := nc_ NB128_205
       replace BK128 := bb_ BK128 hb
       have NB135_205 := nb_ hg BK135
       have NB205_135 := nc_ NB135_205
       replace BK135 := bb_ BK135 hb
       have NB142_205 := nb_ hg BK142
       have NB205_142 := nc_ NB142_205
       replace BK142 := bb_ BK142 hb
       have NB153_205 := nb_ hg BK153
       have NB205_153 := nc_ NB153_205
       replace BK153 := bb_ BK153 hb
       clear hb hbox hg
       refine hK.out _ _ (s8_ BK101 BK102) (fun hHeld => ?_)
       clear hK K
       refine norm_ (a' := ?_) ?_ ?_
       rotate_left
       ·
        show Act.put _ (some 18) _ = _
        simp only [Act.put, List.setIfInBounds_toArray, List.set_cons_zero, List.set_cons_succ, i64_w, i32_w]
        rfl
       exact nrm_ (hJ1_3_5_6_10 (_, _, _, _, gb205) _ ⟨hHeld, (by exact HO188.out), (by exact HO194.out), (by exact HO197.out), (by exact HO203.out), (by exact HO_129003.out), (by exact HO_136003.out), (by exact HO_143003.out), (by exact HO_154003.out), (by exact BK101.out), (by exact BK102.out), (by exact BK128.out), (by exact BK135.out), (by exact BK142.out), (by exact BK153.out), (by exact BK205.out), GW205.out, GE205.out, NB101_205.out, NB205_101.out, NB102_205.out, NB205_102.out, NB128_205.out, NB205_128.out, NB135_205.out, NB205_135.out, NB142_205.out, NB205_142.out, NB153_205.out, NB205_153.out, hb_⟩)
      intro hJ1_3_5_6
      refine join_ (σ := Value × Value × Value × Nat) 6 #[true, true, true, true, true, true, false, false, false, false, true, false, false] (fun s_ => [(117, .agg #[.int .i64 t183, .int .i64 t184, .int .i64 t185, s_.1]), (119, .agg #[.int .i64 t189, .int .i64 t190, .int .i64 t191, s_.2.1]), (121, s_.2.2.1), (18, .pointer (some ⟨s_.2.2.2, 0, none⟩))]) (fun s_ w' => (w'.cell? ⟨gb101, 0, none⟩ = some (.int .i64 a0_0) ∧ w'.cell? ⟨gb101, 1, none⟩ = some (.int .i64 a0_1) ∧ w'.cell? ⟨gb101, 2, none⟩ = some (.int .i64 a0_2) ∧ w'.cell? ⟨gb101, 3, none⟩ = some (.slice A0_3 l0_3.length c0_3) ∧ w'.cell? ⟨gb102, 0, none⟩ = some (.int .i64 a1_0) ∧ w'.cell? ⟨gb102, 1, none⟩ = some (.int .i64 a1_1) ∧ w'.cell? ⟨gb102, 2, none⟩ = some (.int .i64 a1_2) ∧ w'.cell? ⟨gb102, 3, none⟩ = some (.slice A1_3 l1_3.length c1_3)) ∧ (Kd.R (Kd.int .i64) 3 w' w.heap.size (fun k_ => some k_ ≠ (s_.2.1 : Value).ownBlock ∧ some k_ ≠ (.slice Ao58 t124.length co58 : Value).ownBlock ∧ some k_ ≠ (.slice Ao68 t174.length co68 : Value).ownBlock ∧ some k_ ≠ (.slice Ao78 t176.length co78 : Value).ownBlock ∧ some k_ ≠ (.slice Ao91 t149.length co91 : Value).ownBlock) s_.1 t186) ∧ (Kd.R (Kd.int .i64) 3 w' w.heap.size (fun k_ => some k_ ≠ (s_.1 : Value).ownBlock ∧ some k_ ≠ (.slice Ao58 t124.length co58 : Value).ownBlock ∧ some k_ ≠ (.slice Ao68 t174.length co68 : Value).ownBlock ∧ some k_ ≠ (.slice Ao78 t176.length co78 : Value).ownBlock ∧ some k_ ≠ (.slice Ao91 t149.length co91 : Value).ownBlock) s_.2.1 t192) ∧ (Kd.R k59 59 w' w.heap.size (fun _ => True) s_.2.2.1 t195) ∧ (Kd.R (Kd.int .i64) 3 w' w.heap.size (fun k_ => some k_ ≠ (s_.1 : Value).ownBlock ∧ some k_ ≠ (s_.2.1 : Value).ownBlock ∧ some k_ ≠ (.slice Ao68 t174.length co68 : Value).ownBlock ∧ some k_ ≠ (.slice Ao78 t176.length co78 : Value).ownBlock ∧ some k_ ≠ (.slice Ao91 t149.length co91 : Value).ownBlock) (.slice Ao58 t124.length co58) t124) ∧ (Kd.R (Kd.int .i64) 3 w' w.heap.size (fun k_ => some k_ ≠ (s_.1 : Value).ownBlock ∧ some k_ ≠ (s_.2.1 : Value).ownBlock ∧ some k_ ≠ (.slice Ao58 t124.length co58 : Value).ownBlock ∧ some k_ ≠ (.slice Ao78 t176.length co78 : Value).ownBlock ∧ some k_ ≠ (.slice Ao91 t149.length co91 : Value).ownBlock) (.slice Ao68 t174.length co68) t174) ∧ (Kd.R (Kd.int .i64) 3 w' w.heap.size (fun k_ => some k_ ≠ (s_.1 : Value).ownBlock ∧ some k_ ≠ (s_.2.1 : Value).ownBlock ∧ some k_ ≠ (.slice Ao58 t124.length co58 : Value).ownBlock ∧ some k_ ≠ (.slice Ao68 t174.length co68 : Value).ownBlock ∧ some k_ ≠ (.slice Ao91 t149.length co91 : Value).ownBlock) (.slice Ao78 t176.length co78) t176) ∧ (Kd.R (Kd.int .i64) 3 w' w.heap.size (fun k_ => some k_ ≠ (s_.1 : Value).ownBlock ∧ some k_ ≠ (s_.2.1 : Value).ownBlock ∧ some k_ ≠ (.slice Ao58 t124.length co58 : Value).ownBlock ∧ some k_ ≠ (.slice Ao68 t174.length co68 : Value).ownBlock ∧ some k_ ≠ (.slice Ao78 t176.length co78 : Value).ownBlock) (.slice Ao91 t149.length co91) t181) ∧ (w'.heap[gb101]? = some (.cells #[.int .i64 a0_0, .int .i64 a0_1, .int .i64 a0_2, .slice A0_3 l0_3.length c0_3] 34 (0, 0))) ∧ (w'.heap[gb102]? = some (.cells #[.int .i64 a1_0, .int .i64 a1_1, .int .i64 a1_2, .slice A1_3 l1_3.length c1_3] 34 (0, 0))) ∧ (w'.heap[gb128]? = some (.cells #[.int .i64 t121, .int .i64 t122, .int .i64 t123, .slice Ao58 t124.length co58] 25 (0, 0))) ∧ (w'.heap[gb135]? = some (.cells #[.int .i64 t129, .int .i64 t130, .int .i64 t131, .slice Ao68 t174.length co68] 25 (0, 0))) ∧ (w'.heap[gb142]? = some (.cells #[.int .i64 t136, .int .i64 t137, .int .i64 t138, .slice Ao78 t176.length co78] 25 (0, 0))) ∧ (w'.heap[gb153]? = some (.cells #[.int .i64 t146, .int .i64 t147, .int .i64 t148, .slice Ao91 t149.length co91] 25 (0, 0))) ∧ (w'.heap[s_.2.2.2]? = some (.cells #[.int .i64 0, .int .i64 0, .int .i64 0, .slice none 0 0] 25 (0, 0))) ∧ (w.heap.size ≤ s_.2.2.2) ∧ (w.heap.size ≤ s_.2.2.2) ∧ (gb101 ≠ s_.2.2.2) ∧ (s_.2.2.2 ≠ gb101) ∧ (gb102 ≠ s_.2.2.2) ∧ (s_.2.2.2 ≠ gb102) ∧ (gb128 ≠ s_.2.2.2) ∧ (s_.2.2.2 ≠ gb128) ∧ (gb135 ≠ s_.2.2.2) ∧ (s_.2.2.2 ≠ gb135) ∧ (gb142 ≠ s_.2.2.2) ∧ (s_.2.2.2 ≠ gb142) ∧ (gb153 ≠ s_.2.2.2) ∧ (s_.2.2.2 ≠ gb153) ∧ (Below w.heap.size w w')) ?_ ?_
      rotate_left
      rotate_left
      ·
       skip
       rintro ⟨v187, v193, v196, gb205⟩ w217 ⟨hS_, h0_, h1_, h2_, h3_, h4_, h5_, h6_, h7_, h8_, h9_, h10_, h11_, h12_, h13_, h14_, h15_, h16_, h17_, h18_, h19_, h20_, h21_, h22_, h23_, h24_, h25_, h26_, h27_, h28_⟩
       (try dsimp only at h0_ h1_ h2_ h3_ h4_ h5_ h6_ h7_ h8_ h9_ h10_ h11_ h12_ h13_ h14_ h15_ h16_ h17_ h18_ h19_ h20_ h21_ h22_ h23_ h24_ h25_ h26_ h27_ h28_)
       clear HO_129003 HO_136003 HO_143003 HO_154003 BK101 BK102 BK128 BK135 BK142 BK153 HB
       have HO188 := am_ h0_
       have HO194 := am_ h1_
       have HO197 := am_ h2_
       have HO_129003 := am_ h3_
       have HO_136003 := am_ h4_
       have HO_143003 := am_ h5_
       have HO_154003 := am_ h6_
       have BK101 := am_ h7_
       have BK102 := am_ h8_
       have BK128 := am_ h9_
       have BK135 := am_ h10_
       have BK142 := am_ h11_
       have BK153 := am_ h12_
       have BK205 := am_ h13_
       have GW205 := am_ h14_
       have GE205 := am_ h15_
       have NB101_205 := am_ h16_
       have NB205_101 := am_ h17_
       have NB102_205 := am_ h18_
       have NB205_102 := am_ h19_
       have NB128_205 := am_ h20_
       have NB205_128 := am_ h21_
       have NB135_205 := am_ h22_
       have NB205_135 := am_ h23_
       have NB142_205 := am_ h24_
       have NB205_142 := am_ h25_
       have NB153_205 := am_ h26_
       have NB205_153 := am_ h27_
       have HB := am_ h28_
       clear h0_ h1_ h2_ h3_ h4_ h5_ h6_ h7_ h8_ h9_ h10_ h11_ h12_ h13_ h14_ h15_ h16_ h17_ h18_ h19_ h20_ h21_ h22_ h23_ h24_ h25_ h26_ h27_ h28_
       have hHeld := hS_
       obtain ⟨Ao218, co218, eo218⟩ := Kd.R_slice HO188.out
       (first | subst eo218 | (injection eo218 with f1_ f2_ f3_; have f4_ := f1_.symm; have f5_ := f3_.symm; clear f1_ f2_ f3_; subst f4_; subst f5_))
       obtain ⟨Ao219, co219, eo219⟩ := Kd.R_slice HO194.out
       (first | subst eo219 | (injection eo219 with f1_ f2_ f3_; have f4_ := f1_.symm; have f5_ := f3_.symm; clear f1_ f2_ f3_; subst f4_; subst f5_))
       obtain ⟨Ao220, co220, eo220⟩ := Kd.R_slice HO197.out
       (first | subst eo220 | (injection eo220 with f1_ f2_ f3_; have f4_ := f1_.symm; have f5_ := f3_.symm; clear f1_ f2_ f3_; subst f4_; subst f5_))
       refine norm_ (a' := ?_) ?_ ?_
       rotate_left
       ·
        simp only [putAll, Act.put, List.setIfInBounds_toArray, List.set_cons_zero, List.set_cons_succ]
        rfl
       refine one_ (i := 6) (N := some 122) #[true, true, true, true, true, true, true, false, false, false, true, false, false] rfl rfl (one_of HT_.out (by kernel_rfl)) (by decide) (fun K hK => ?_)
       refine goes_ Try.func6 (by kernel_rfl) rfl #[.agg #[.int .i64 t183, .int .i64 t184, .int .i64 t185, .slice Ao218 t186.length co218], .agg #[.int .i64 t189, .int .i64 t190, .int .i64 t191, .slice Ao219 t192.length co219], .slice Ao220 t195.length co220] (by rfl) rfl rfl (by simp only [List.map_toArray, List.map_cons, List.map_nil]; rfl) ?_
       with_reducible refine (impl_MaskImage.calls t183 t184 t185 _ _ t186 t189 t190 t191 _ _ t192 _ _ t195 t198 t199 t200 t201 t204 _ ?side1 ?side2 ?side3 ?side4 ?side5 ?side6 A201.out).mono ?_
       (case side1 => repeat (first | exact (Kd.R_reads' HO188.out).2.2 | (with_reducible refine Kd.C_alloc ?_ _) | (with_reducible refine Kd.C_drewN ?_ _) | (with_reducible refine Kd.C_drew ?_)))
       (case side2 => exact (Kd.R_reads' HO188.out).2.1)
       (case side3 => repeat (first | exact (Kd.R_reads' HO194.out).2.2 | (with_reducible refine Kd.C_alloc ?_ _) | (with_reducible refine Kd.C_drewN ?_ _) | (with_reducible refine Kd.C_drew ?_)))
       (case side4 => exact (Kd.R_reads' HO194.out).2.1)
       (case side5 => repeat (first | exact (Kd.R_reads' HO197.out).2.2 | (with_reducible refine Kd.C_alloc ?_ _) | (with_reducible refine Kd.C_drewN ?_ _) | (with_reducible refine Kd.C_drew ?_)))
       (case side6 => exact (Kd.R_reads' HO197.out).2.1)
       rintro e w221 ⟨v202, rfl, ho0, hb⟩
       refine ⟨_, rfl, ?_⟩
       replace HO197 := rb_ HO197 hb
       have HO203 := am_ (Kd.R_lower (Kd.R_new' (Kd.R_new' (Kd.R_new' (Kd.R_new' (Kd.R_new' (Kd.R_new' ho0 (Kd.R_lt (by exact HO_129003.out))) (Kd.R_lt (by exact HO_136003.out))) (Kd.R_lt (by exact HO_143003.out))) (Kd.R_lt (by exact HO_154003.out))) (Kd.R_lt (by exact HO188.out))) (Kd.R_lt (by exact HO194.out))) (below_size (hb_ : Below w.heap.size w _)))
       replace HO_129003 := am_ (Kd.R_elder' (by exact HO_129003.out) (Kd.R_base ho0) hb)
       replace HO_136003 := am_ (Kd.R_elder' (by exact HO_136003.out) (Kd.R_base ho0) hb)
       replace HO_143003 := am_ (Kd.R_elder' (by exact HO_143003.out) (Kd.R_base ho0) hb)
       replace HO_154003 := am_ (Kd.R_elder' (by exact HO_154003.out) (Kd.R_base ho0) hb)
       replace HO188 := am_ (Kd.R_elder' (by exact HO188.out) (Kd.R_base ho0) hb)
       replace HO194 := am_ (Kd.R_elder' (by exact HO194.out) (Kd.R_base ho0) hb)
       replace BK101 := bb_ BK101 hb
       replace BK102 := bb_ BK102 hb
       replace BK128 := bb_ BK128 hb
       replace BK135 := bb_ BK135 hb
       replace BK142 := bb_ BK142 hb
       replace BK153 := bb_ BK153 hb
       replace BK205 := bb_ BK205 hb
       replace HB := am_ (below_step (hb_ : Below w.heap.size w _) hb)
       (try clear hb)
       (try clear hb2)
       (try clear hk)
       (try clear hi)
       (try clear ho0)
       refine hK.out _ _ (s8_ BK101 BK102) (fun hHeld => ?_)
       clear hK K
       refine norm_ (a' := ?_) ?_ ?_
       rotate_left
       ·
        show Act.put _ (some 122) _ = _
        simp only [Act.put, List.setIfInBounds_toArray, List.set_cons_zero, List.set_cons_succ, i64_w, i32_w]
        rfl
       refine pure_ (i := 7) (N := some 115) (v := ?_) (a' := ?_) #[true, true, true, true, true, true, true, true, false, false, true, false, false] rfl rfl (any_of HT_.out (by kernel_rfl)) (fun _ _ _ h => h) (Or.inl ⟨by rfl, ?_⟩) ?_ ?_
       rotate_left
       ·
        intro w'
        go_simp
        with_reducible rfl
       rotate_left
       ·
        simp only [Act.put, List.setIfInBounds_toArray, List.set_cons_zero, List.set_cons_succ, i64_w, i32_w]
        rfl
       refine pure_ (i := 8) (N := some 123) (v := ?_) (a' := ?_) #[true, true, true, true, true, true, true, true, true, false, true, false, false] rfl rfl (any_of HT_.out (by kernel_rfl)) (fun _ _ _ h => h) (Or.inl ⟨by rfl, ?_⟩) ?_ ?_
       rotate_left
       ·
        intro w'
        go_simp
        with_reducible rfl
       rotate_left
       ·
        simp only [Act.put, List.setIfInBounds_toArray, List.set_cons_zero, List.set_cons_succ, i64_w, i32_w]
        rfl
       refine pure_ (i := 9) (N := some 124) (v := ?_) (a' := ?_) #[true, true, true, true, true, true, true, true, true, true, true, false, false] rfl rfl (any_of HT_.out (by kernel_rfl)) (fun _ _ _ h => h) (Or.inl ⟨by rfl, ?_⟩) ?_ ?_
       rotate_left
       ·
        intro w'
        go_simp
        with_reducible rfl
       rotate_left
       ·
        simp only [Act.put, List.setIfInBounds_toArray, List.set_cons_zero, List.set_cons_succ, i64_w, i32_w]
        rfl
       exact nrm_ (hJ1_3_5_6_10 (.slice Ao218 t186.length co218, .slice Ao219 t192.length co219, .slice Ao220 t195.length co220, _, gb205) _ ⟨hHeld, (by exact Kd.R_mono HO188.out (fun _ hk => ⟨hk.1.1, ⟨hk.2, ⟨hk.1.2.1, ⟨hk.1.2.2.1, ⟨hk.1.2.2.2.1, hk.1.2.2.2.2⟩⟩⟩⟩⟩)), (by exact Kd.R_mono HO194.out (fun _ hk => ⟨hk.1.1, ⟨hk.2, ⟨hk.1.2.1, ⟨hk.1.2.2.1, ⟨hk.1.2.2.2.1, hk.1.2.2.2.2⟩⟩⟩⟩⟩)), (by exact HO197.out), (by exact Kd.R_mono HO203.out (fun _ hk => ⟨hk.1.2, ⟨hk.2, ⟨hk.1.1.1.1.1.2, ⟨hk.1.1.1.1.2, ⟨hk.1.1.1.2, hk.1.1.2⟩⟩⟩⟩⟩)), (by exact Kd.R_mono HO_129003.out (fun _ hk => ⟨hk.1.1, ⟨hk.1.2.1, ⟨hk.2, ⟨hk.1.2.2.1, ⟨hk.1.2.2.2.1, hk.1.2.2.2.2⟩⟩⟩⟩⟩)), (by exact Kd.R_mono HO_136003.out (fun _ hk => ⟨hk.1.1, ⟨hk.1.2.1, ⟨hk.2, ⟨hk.1.2.2.1, ⟨hk.1.2.2.2.1, hk.1.2.2.2.2⟩⟩⟩⟩⟩)), (by exact Kd.R_mono HO_143003.out (fun _ hk => ⟨hk.1.1, ⟨hk.1.2.1, ⟨hk.2, ⟨hk.1.2.2.1, ⟨hk.1.2.2.2.1, hk.1.2.2.2.2⟩⟩⟩⟩⟩)), (by exact Kd.R_mono HO_154003.out (fun _ hk => ⟨hk.1.1, ⟨hk.1.2.1, ⟨hk.2, ⟨hk.1.2.2.1, ⟨hk.1.2.2.2.1, hk.1.2.2.2.2⟩⟩⟩⟩⟩)), (by exact BK101.out), (by exact BK102.out), (by exact BK128.out), (by exact BK135.out), (by exact BK142.out), (by exact BK153.out), (by exact BK205.out), GW205.out, GE205.out, NB101_205.out, NB205_101.out, NB102_205.out, NB205_102.out, NB128_205.out, NB205_128.out, NB135_205.out, NB205_135.out, NB142_205.out, NB205_142.out, NB153_205.out, NB205_153.out, hb_⟩)
      intro hJ1_3_5_10
      refine join_ (σ := Value × Value × Value) 7 #[true, true, true, true, true, true, false, false, false, false, false, false, false] (fun s_ => [(117, .agg #[.int .i64 t183, .int .i64 t184, .int .i64 t185, s_.1]), (119, .agg #[.int .i64 t189, .int .i64 t190, .int .i64 t191, s_.2.1]), (121, s_.2.2)]) (fun s_ w' => (w'.cell? ⟨gb101, 0, none⟩ = some (.int .i64 a0_0) ∧ w'.cell? ⟨gb101, 1, none⟩ = some (.int .i64 a0_1) ∧ w'.cell? ⟨gb101, 2, none⟩ = some (.int .i64 a0_2) ∧ w'.cell? ⟨gb101, 3, none⟩ = some (.slice A0_3 l0_3.length c0_3) ∧ w'.cell? ⟨gb102, 0, none⟩ = some (.int .i64 a1_0) ∧ w'.cell? ⟨gb102, 1, none⟩ = some (.int .i64 a1_1) ∧ w'.cell? ⟨gb102, 2, none⟩ = some (.int .i64 a1_2) ∧ w'.cell? ⟨gb102, 3, none⟩ = some (.slice A1_3 l1_3.length c1_3)) ∧ (Kd.R (Kd.int .i64) 3 w' w.heap.size (fun k_ => some k_ ≠ (s_.2.1 : Value).ownBlock ∧ some k_ ≠ (.slice Ao58 t124.length co58 : Value).ownBlock ∧ some k_ ≠ (.slice Ao68 t174.length co68 : Value).ownBlock ∧ some k_ ≠ (.slice Ao78 t176.length co78 : Value).ownBlock ∧ some k_ ≠ (.slice Ao91 t149.length co91 : Value).ownBlock) s_.1 t186) ∧ (Kd.R (Kd.int .i64) 3 w' w.heap.size (fun k_ => some k_ ≠ (s_.1 : Value).ownBlock ∧ some k_ ≠ (.slice Ao58 t124.length co58 : Value).ownBlock ∧ some k_ ≠ (.slice Ao68 t174.length co68 : Value).ownBlock ∧ some k_ ≠ (.slice Ao78 t176.length co78 : Value).ownBlock ∧ some k_ ≠ (.slice Ao91 t149.length co91 : Value).ownBlock) s_.2.1 t192) ∧ (Kd.R k59 59 w' w.heap.size (fun _ => True) s_.2.2 t195) ∧ (Kd.R (Kd.int .i64) 3 w' w.heap.size (fun k_ => some k_ ≠ (s_.1 : Value).ownBlock ∧ some k_ ≠ (s_.2.1 : Value).ownBlock ∧ some k_ ≠ (.slice Ao68 t174.length co68 : Value).ownBlock ∧ some k_ ≠ (.slice Ao78 t176.length co78 : Value).ownBlock ∧ some k_ ≠ (.slice Ao91 t149.length co91 : Value).ownBlock) (.slice Ao58 t124.length co58) t124) ∧ (Kd.R (Kd.int .i64) 3 w' w.heap.size (fun k_ => some k_ ≠ (s_.1 : Value).ownBlock ∧ some k_ ≠ (s_.2.1 : Value).ownBlock ∧ some k_ ≠ (.slice Ao58 t124.length co58 : Value).ownBlock ∧ some k_ ≠ (.slice Ao78 t176.length co78 : Value).ownBlock ∧ some k_ ≠ (.slice Ao91 t149.length co91 : Value).ownBlock) (.slice Ao68 t174.length co68) t174) ∧ (Kd.R (Kd.int .i64) 3 w' w.heap.size (fun k_ => some k_ ≠ (s_.1 : Value).ownBlock ∧ some k_ ≠ (s_.2.1 : Value).ownBlock ∧ some k_ ≠ (.slice Ao58 t124.length co58 : Value).ownBlock ∧ some k_ ≠ (.slice Ao68 t174.length co68 : Value).ownBlock ∧ some k_ ≠ (.slice Ao91 t149.length co91 : Value).ownBlock) (.slice Ao78 t176.length co78) t176) ∧ (Kd.R (Kd.int .i64) 3 w' w.heap.size (fun k_ => some k_ ≠ (s_.1 : Value).ownBlock ∧ some k_ ≠ (s_.2.1 : Value).ownBlock ∧ some k_ ≠ (.slice Ao58 t124.length co58 : Value).ownBlock ∧ some k_ ≠ (.slice Ao68 t174.length co68 : Value).ownBlock ∧ some k_ ≠ (.slice Ao78 t176.length co78 : Value).ownBlock) (.slice Ao91 t149.length co91) t181) ∧ (w'.heap[gb101]? = some (.cells #[.int .i64 a0_0, .int .i64 a0_1, .int .i64 a0_2, .slice A0_3 l0_3.length c0_3] 34 (0, 0))) ∧ (w'.heap[gb102]? = some (.cells #[.int .i64 a1_0, .int .i64 a1_1, .int .i64 a1_2, .slice A1_3 l1_3.length c1_3] 34 (0, 0))) ∧ (w'.heap[gb128]? = some (.cells #[.int .i64 t121, .int .i64 t122, .int .i64 t123, .slice Ao58 t124.length co58] 25 (0, 0))) ∧ (w'.heap[gb135]? = some (.cells #[.int .i64 t129, .int .i64 t130, .int .i64 t131, .slice Ao68 t174.length co68] 25 (0, 0))) ∧ (w'.heap[gb142]? = some (.cells #[.int .i64 t136, .int .i64 t137, .int .i64 t138, .slice Ao78 t176.length co78] 25 (0, 0))) ∧ (w'.heap[gb153]? = some (.cells #[.int .i64 t146, .int .i64 t147, .int .i64 t148, .slice Ao91 t149.length co91] 25 (0, 0))) ∧ (Below w.heap.size w w')) ?_ ?_
      rotate_left
      rotate_left
      ·
       skip
       rintro ⟨v187, v193, v196⟩ w216 ⟨hS_, h0_, h1_, h2_, h3_, h4_, h5_, h6_, h7_, h8_, h9_, h10_, h11_, h12_, h13_⟩
       (try dsimp only at h0_ h1_ h2_ h3_ h4_ h5_ h6_ h7_ h8_ h9_ h10_ h11_ h12_ h13_)
       clear HO_129003 HO_136003 HO_143003 HO_154003 BK101 BK102 BK128 BK135 BK142 BK153 HB
       have HO188 := am_ h0_
       have HO194 := am_ h1_
       have HO197 := am_ h2_
       have HO_129003 := am_ h3_
       have HO_136003 := am_ h4_
       have HO_143003 := am_ h5_
       have HO_154003 := am_ h6_
       have BK101 := am_ h7_
       have BK102 := am_ h8_
       have BK128 := am_ h9_
       have BK135 := am_ h10_
       have BK142 := am_ h11_
       have BK153 := am_ h12_
       have HB := am_ h13_
       clear h0_ h1_ h2_ h3_ h4_ h5_ h6_ h7_ h8_ h9_ h10_ h11_ h12_ h13_
       have hHeld := hS_
       obtain ⟨Ao217, co217, eo217⟩ := Kd.R_slice HO188.out
       (first | subst eo217 | (injection eo217 with f1_ f2_ f3_; have f4_ := f1_.symm; have f5_ := f3_.symm; clear f1_ f2_ f3_; subst f4_; subst f5_))
       obtain ⟨Ao218, co218, eo218⟩ := Kd.R_slice HO194.out
       (first | subst eo218 | (injection eo218 with f1_ f2_ f3_; have f4_ := f1_.symm; have f5_ := f3_.symm; clear f1_ f2_ f3_; subst f4_; subst f5_))
       obtain ⟨Ao219, co219, eo219⟩ := Kd.R_slice HO197.out
       (first | subst eo219 | (injection eo219 with f1_ f2_ f3_; have f4_ := f1_.symm; have f5_ := f3_.symm; clear f1_ f2_ f3_; subst f4_; subst f5_))
       refine norm_ (a' := ?_) ?_ ?_
       rotate_left
       ·
        simp only [putAll, Act.put, List.setIfInBounds_toArray, List.set_cons_zero, List.set_cons_succ]
        rfl
       refine two_ (i := 6) (j := 10) (Ni := some 122) (Nj := some 18) #[true, true, true, true, true, true, true, false, false, false, false, false, false] #[true, true, true, true, true, true, false, false, false, false, true, false, false] rfl rfl rfl rfl (two_of HT_.out (by kernel_rfl)) (by decide) (by decide) (fun K hK => ?_) (fun K hK => ?_)
       ·
        skip
        refine goes_ Try.func6 (by kernel_rfl) rfl #[.agg #[.int .i64 t183, .int .i64 t184, .int .i64 t185, .slice Ao217 t186.length co217], .agg #[.int .i64 t189, .int .i64 t190, .int .i64 t191, .slice Ao218 t192.length co218], .slice Ao219 t195.length co219] (by rfl) rfl rfl (by simp only [List.map_toArray, List.map_cons, List.map_nil]; rfl) ?_
        with_reducible refine (impl_MaskImage.calls t183 t184 t185 _ _ t186 t189 t190 t191 _ _ t192 _ _ t195 t198 t199 t200 t201 t204 _ ?side1 ?side2 ?side3 ?side4 ?side5 ?side6 A201.out).mono ?_
        (case side1 => repeat (first | exact (Kd.R_reads' HO188.out).2.2 | (with_reducible refine Kd.C_alloc ?_ _) | (with_reducible refine Kd.C_drewN ?_ _) | (with_reducible refine Kd.C_drew ?_)))
        (case side2 => exact (Kd.R_reads' HO188.out).2.1)
        (case side3 => repeat (first | exact (Kd.R_reads' HO194.out).2.2 | (with_reducible refine Kd.C_alloc ?_ _) | (with_reducible refine Kd.C_drewN ?_ _) | (with_reducible refine Kd.C_drew ?_)))
        (case side4 => exact (Kd.R_reads' HO194.out).2.1)
        (case side5 => repeat (first | exact (Kd.R_reads' HO197.out).2.2 | (with_reducible refine Kd.C_alloc ?_ _) | (with_reducible refine Kd.C_drewN ?_ _) | (with_reducible refine Kd.C_drew ?_)))
        (case side6 => exact (Kd.R_reads' HO197.out).2.1)
        rintro e w220 ⟨v202, rfl, ho0, hb⟩
        refine ⟨_, rfl, ?_⟩
        replace HO197 := rb_ HO197 hb
        have HO203 := am_ (Kd.R_lower (Kd.R_new' (Kd.R_new' (Kd.R_new' (Kd.R_new' (Kd.R_new' (Kd.R_new' ho0 (Kd.R_lt (by exact HO_129003.out))) (Kd.R_lt (by exact HO_136003.out))) (Kd.R_lt (by exact HO_143003.out))) (Kd.R_lt (by exact HO_154003.out))) (Kd.R_lt (by exact HO188.out))) (Kd.R_lt (by exact HO194.out))) (below_size (hb_ : Below w.heap.size w _)))
        replace HO_129003 := am_ (Kd.R_elder' (by exact HO_129003.out) (Kd.R_base ho0) hb)
        replace HO_136003 := am_ (Kd.R_elder' (by exact HO_136003.out) (Kd.R_base ho0) hb)
        replace HO_143003 := am_ (Kd.R_elder' (by exact HO_143003.out) (Kd.R_base ho0) hb)
        replace HO_154003 := am_ (Kd.R_elder' (by exact HO_154003.out) (Kd.R_base ho0) hb)
        replace HO188 := am_ (Kd.R_elder' (by exact HO188.out) (Kd.R_base ho0) hb)
        replace HO194 := am_ (Kd.R_elder' (by exact HO194.out) (Kd.R_base ho0) hb)
        replace BK101 := bb_ BK101 hb
        replace BK102 := bb_ BK102 hb
        replace BK128 := bb_ BK128 hb
        replace BK135 := bb_ BK135 hb
        replace BK142 := bb_ BK142 hb
        replace BK153 := bb_ BK153 hb
        replace HB := am_ (below_step (hb_ : Below w.heap.size w _) hb)
        (try clear hb)
        (try clear hb2)
        (try clear hk)
        (try clear hi)
        (try clear ho0)
        refine hK.out _ _ (s8_ BK101 BK102) (fun hHeld => ?_)
        clear hK K
        refine norm_ (a' := ?_) ?_ ?_
        rotate_left
        ·
         show Act.put _ (some 122) _ = _
         simp only [Act.put, List.setIfInBounds_toArray, List.set_cons_zero, List.set_cons_succ, i64_w, i32_w]
         rfl
        refine pure_ (i := 7) (N := some 115) (v := ?_) (a' := ?_) #[true, true, true, true, true, true, true, true, false, false, false, false, false] rfl rfl (any_of HT_.out (by kernel_rfl)) (fun _ _ _ h => h) (Or.inl ⟨by rfl, ?_⟩) ?_ ?_
        rotate_left
        ·
         intro w'
         go_simp
         with_reducible rfl
        rotate_left
        ·
         simp only [Act.put, List.setIfInBounds_toArray, List.set_cons_zero, List.set_cons_succ, i64_w, i32_w]
         rfl
        refine pure_ (i := 8) (N := some 123) (v := ?_) (a' := ?_) #[true, true, true, true, true, true, true, true, true, false, false, false, false] rfl rfl (any_of HT_.out (by kernel_rfl)) (fun _ _ _ h => h) (Or.inl ⟨by rfl, ?_⟩) ?_ ?_
        rotate_left
        ·
         intro w'
         go_simp
         with_reducible rfl
        rotate_left
        ·
         simp only [Act.put, List.setIfInBounds_toArray, List.set_cons_zero, List.set_cons_succ, i64_w, i32_w]
         rfl
        refine pure_ (i := 9) (N := some 124) (v := ?_) (a' := ?_) #[true, true, true, true, true, true, true, true, true, true, false, false, false] rfl rfl (any_of HT_.out (by kernel_rfl)) (fun _ _ _ h => h) (Or.inl ⟨by rfl, ?_⟩) ?_ ?_
        rotate_left
        ·
         intro w'
         go_simp
         with_reducible rfl
        rotate_left
        ·
         simp only [Act.put, List.setIfInBounds_toArray, List.set_cons_zero, List.set_cons_succ, i64_w, i32_w]
         rfl
        exact nrm_ (hJ1_3_5_6 (.slice Ao217 t186.length co217, .slice Ao218 t192.length co218, .slice Ao219 t195.length co219, _) _ ⟨hHeld, (by exact Kd.R_mono HO188.out (fun _ hk => ⟨hk.1.1, ⟨hk.2, ⟨hk.1.2.1, ⟨hk.1.2.2.1, ⟨hk.1.2.2.2.1, hk.1.2.2.2.2⟩⟩⟩⟩⟩)), (by exact Kd.R_mono HO194.out (fun _ hk => ⟨hk.1.1, ⟨hk.2, ⟨hk.1.2.1, ⟨hk.1.2.2.1, ⟨hk.1.2.2.2.1, hk.1.2.2.2.2⟩⟩⟩⟩⟩)), (by exact HO197.out), (by exact Kd.R_mono HO203.out (fun _ hk => ⟨hk.1.2, ⟨hk.2, ⟨hk.1.1.1.1.1.2, ⟨hk.1.1.1.1.2, ⟨hk.1.1.1.2, hk.1.1.2⟩⟩⟩⟩⟩)), (by exact Kd.R_mono HO_129003.out (fun _ hk => ⟨hk.1.1, ⟨hk.1.2.1, ⟨hk.2, ⟨hk.1.2.2.1, ⟨hk.1.2.2.2.1, hk.1.2.2.2.2⟩⟩⟩⟩⟩)), (by exact Kd.R_mono HO_136003.out (fun _ hk => ⟨hk.1.1, ⟨hk.1.2.1, ⟨hk.2, ⟨hk.1.2.2.1, ⟨hk.1.2.2.2.1, hk.1.2.2.2.2⟩⟩⟩⟩⟩)), (by exact Kd.R_mono HO_143003.out (fun _ hk => ⟨hk.1.1, ⟨hk.1.2.1, ⟨hk.2, ⟨hk.1.2.2.1, ⟨hk.1.2.2.2.1, hk.1.2.2.2.2⟩⟩⟩⟩⟩)), (by exact Kd.R_mono HO_154003.out (fun _ hk => ⟨hk.1.1, ⟨hk.1.2.1, ⟨hk.2, ⟨hk.1.2.2.1, ⟨hk.1.2.2.2.1, hk.1.2.2.2.2⟩⟩⟩⟩⟩)), (by exact BK101.out), (by exact BK102.out), (by exact BK128.out), (by exact BK135.out), (by exact BK142.out), (by exact BK153.out), hb_⟩)
       skip
       refine box_step ?hg (N := 18) ?hd (cs := #[.int .i64 0, .int .i64 0, .int .i64 0, .slice none 0 0]) (t := 25) ?hr ?_; (case hd => rfl); (case hg => rfl); (case hr => first | (go_simp; done) | (go_simp; rfl))
       intro gb205 hg w217 hbox hb
       replace HO_129003 := rb_ HO_129003 hb
       replace HO_136003 := rb_ HO_136003 hb
       replace HO_143003 := rb_ HO_143003 hb
       replace HO_154003 := rb_ HO_154003 hb
       replace HO188 := rb_ HO188 hb
       replace HO194 := rb_ HO194 hb
       replace HO197 := rb_ HO197 hb
       have BK205 := am_ (hbox)
       have GW205 := am_ ((by rw [hg]; exact (below_size (hb_ : Below w.heap.size w _)) : w.heap.size ≤ gb205))
       have GE205 := GW205
       replace HB := am_ (below_step (hb_ : Below w.heap.size w _) hb)
       have NB101_205 := nb_ hg BK101
       have NB205_101 := nc_ NB101_205
       replace BK101 := bb_ BK101 hb
       have NB102_205 := nb_ hg BK102
       have NB205_102 := nc_ NB102_205
       replace BK102 := bb_ BK102 hb
       have NB128_205 := nb_ hg BK128
       have NB205_128 := nc_ NB128_205
       replace BK128 := bb_ BK128 hb
       have NB135_205 := nb_ hg BK135
       have NB205_135 := nc_ NB135_205
       replace BK135 := bb_ BK135 hb
       have NB142_205 := nb_ hg BK142
       have NB205_142 := nc_ NB142_205
       replace BK142 := bb_ BK142 hb
       have NB153_205 := nb_ hg BK153
       have NB205_153 := nc_ NB153_205
       replace BK153 := bb_ BK153 hb
       clear hb hbox hg
       refine hK.out _ _ (s8_ BK101 BK102) (fun hHeld => ?_)
       clear hK K
       refine norm_ (a' := ?_) ?_ ?_
       rotate_left
       ·
        show Act.put _ (some 18) _ = _
        simp only [Act.put, List.setIfInBounds_toArray, List.set_cons_zero, List.set_cons_succ, i64_w, i32_w]
        rfl
       exact nrm_ (hJ1_3_5_10 (_, _, _, gb205) _ ⟨hHeld, (by exact HO188.out), (by exact HO194.out), (by exact HO197.out), (by exact HO_129003.out), (by exact HO_136003.out), (by exact HO_143003.out), (by exact HO_154003.out), (by exact BK101.out), (by exact BK102.out), (by exact BK128.out), (by exact BK135.out), (by exact BK142.out), (by exact BK153.out), (by exact BK205.out), GW205.out, GE205.out, NB101_205.out, NB205_101.out, NB102_205.out, NB205_102.out, NB128_205.out, NB205_128.out, NB135_205.out, NB205_135.out, NB142_205.out, NB205_142.out, NB153_205.out, NB205_153.out, hb_⟩)
      intro hJ1_3_5
      refine join_ (σ := Value × Value × Nat) 7 #[true, true, true, true, true, false, false, false, false, false, true, false, false] (fun s_ => [(117, .agg #[.int .i64 t183, .int .i64 t184, .int .i64 t185, s_.1]), (119, .agg #[.int .i64 t189, .int .i64 t190, .int .i64 t191, s_.2.1]), (18, .pointer (some ⟨s_.2.2, 0, none⟩))]) (fun s_ w' => (w'.cell? ⟨gb101, 0, none⟩ = some (.int .i64 a0_0) ∧ w'.cell? ⟨gb101, 1, none⟩ = some (.int .i64 a0_1) ∧ w'.cell? ⟨gb101, 2, none⟩ = some (.int .i64 a0_2) ∧ w'.cell? ⟨gb101, 3, none⟩ = some (.slice A0_3 l0_3.length c0_3) ∧ w'.cell? ⟨gb102, 0, none⟩ = some (.int .i64 a1_0) ∧ w'.cell? ⟨gb102, 1, none⟩ = some (.int .i64 a1_1) ∧ w'.cell? ⟨gb102, 2, none⟩ = some (.int .i64 a1_2) ∧ w'.cell? ⟨gb102, 3, none⟩ = some (.slice A1_3 l1_3.length c1_3)) ∧ (Kd.R (Kd.int .i64) 3 w' w.heap.size (fun k_ => some k_ ≠ (s_.2.1 : Value).ownBlock ∧ some k_ ≠ (.slice Ao58 t124.length co58 : Value).ownBlock ∧ some k_ ≠ (.slice Ao68 t174.length co68 : Value).ownBlock ∧ some k_ ≠ (.slice Ao78 t176.length co78 : Value).ownBlock ∧ some k_ ≠ (.slice Ao91 t149.length co91 : Value).ownBlock) s_.1 t186) ∧ (Kd.R (Kd.int .i64) 3 w' w.heap.size (fun k_ => some k_ ≠ (s_.1 : Value).ownBlock ∧ some k_ ≠ (.slice Ao58 t124.length co58 : Value).ownBlock ∧ some k_ ≠ (.slice Ao68 t174.length co68 : Value).ownBlock ∧ some k_ ≠ (.slice Ao78 t176.length co78 : Value).ownBlock ∧ some k_ ≠ (.slice Ao91 t149.length co91 : Value).ownBlock) s_.2.1 t192) ∧ (Kd.R (Kd.int .i64) 3 w' w.heap.size (fun k_ => some k_ ≠ (s_.1 : Value).ownBlock ∧ some k_ ≠ (s_.2.1 : Value).ownBlock ∧ some k_ ≠ (.slice Ao68 t174.length co68 : Value).ownBlock ∧ some k_ ≠ (.slice Ao78 t176.length co78 : Value).ownBlock ∧ some k_ ≠ (.slice Ao91 t149.length co91 : Value).ownBlock) (.slice Ao58 t124.length co58) t124) ∧ (Kd.R (Kd.int .i64) 3 w' w.heap.size (fun k_ => some k_ ≠ (s_.1 : Value).ownBlock ∧ some k_ ≠ (s_.2.1 : Value).ownBlock ∧ some k_ ≠ (.slice Ao58 t124.length co58 : Value).ownBlock ∧ some k_ ≠ (.slice Ao78 t176.length co78 : Value).ownBlock ∧ some k_ ≠ (.slice Ao91 t149.length co91 : Value).ownBlock) (.slice Ao68 t174.length co68) t174) ∧ (Kd.R (Kd.int .i64) 3 w' w.heap.size (fun k_ => some k_ ≠ (s_.1 : Value).ownBlock ∧ some k_ ≠ (s_.2.1 : Value).ownBlock ∧ some k_ ≠ (.slice Ao58 t124.length co58 : Value).ownBlock ∧ some k_ ≠ (.slice Ao68 t174.length co68 : Value).ownBlock ∧ some k_ ≠ (.slice Ao91 t149.length co91 : Value).ownBlock) (.slice Ao78 t176.length co78) t176) ∧ (Kd.R (Kd.int .i64) 3 w' w.heap.size (fun k_ => some k_ ≠ (s_.1 : Value).ownBlock ∧ some k_ ≠ (s_.2.1 : Value).ownBlock ∧ some k_ ≠ (.slice Ao58 t124.length co58 : Value).ownBlock ∧ some k_ ≠ (.slice Ao68 t174.length co68 : Value).ownBlock ∧ some k_ ≠ (.slice Ao78 t176.length co78 : Value).ownBlock) (.slice Ao91 t149.length co91) t181) ∧ (w'.heap[gb101]? = some (.cells #[.int .i64 a0_0, .int .i64 a0_1, .int .i64 a0_2, .slice A0_3 l0_3.length c0_3] 34 (0, 0))) ∧ (w'.heap[gb102]? = some (.cells #[.int .i64 a1_0, .int .i64 a1_1, .int .i64 a1_2, .slice A1_3 l1_3.length c1_3] 34 (0, 0))) ∧ (w'.heap[gb128]? = some (.cells #[.int .i64 t121, .int .i64 t122, .int .i64 t123, .slice Ao58 t124.length co58] 25 (0, 0))) ∧ (w'.heap[gb135]? = some (.cells #[.int .i64 t129, .int .i64 t130, .int .i64 t131, .slice Ao68 t174.length co68] 25 (0, 0))) ∧ (w'.heap[gb142]? = some (.cells #[.int .i64 t136, .int .i64 t137, .int .i64 t138, .slice Ao78 t176.length co78] 25 (0, 0))) ∧ (w'.heap[gb153]? = some (.cells #[.int .i64 t146, .int .i64 t147, .int .i64 t148, .slice Ao91 t149.length co91] 25 (0, 0))) ∧ (w'.heap[s_.2.2]? = some (.cells #[.int .i64 0, .int .i64 0, .int .i64 0, .slice none 0 0] 25 (0, 0))) ∧ (w.heap.size ≤ s_.2.2) ∧ (w.heap.size ≤ s_.2.2) ∧ (gb101 ≠ s_.2.2) ∧ (s_.2.2 ≠ gb101) ∧ (gb102 ≠ s_.2.2) ∧ (s_.2.2 ≠ gb102) ∧ (gb128 ≠ s_.2.2) ∧ (s_.2.2 ≠ gb128) ∧ (gb135 ≠ s_.2.2) ∧ (s_.2.2 ≠ gb135) ∧ (gb142 ≠ s_.2.2) ∧ (s_.2.2 ≠ gb142) ∧ (gb153 ≠ s_.2.2) ∧ (s_.2.2 ≠ gb153) ∧ (Below w.heap.size w w')) ?_ ?_
      rotate_left
      rotate_left
      ·
       skip
       rintro ⟨v187, v193, gb205⟩ w216 ⟨hS_, h0_, h1_, h2_, h3_, h4_, h5_, h6_, h7_, h8_, h9_, h10_, h11_, h12_, h13_, h14_, h15_, h16_, h17_, h18_, h19_, h20_, h21_, h22_, h23_, h24_, h25_, h26_, h27_⟩
       (try dsimp only at h0_ h1_ h2_ h3_ h4_ h5_ h6_ h7_ h8_ h9_ h10_ h11_ h12_ h13_ h14_ h15_ h16_ h17_ h18_ h19_ h20_ h21_ h22_ h23_ h24_ h25_ h26_ h27_)
       clear HO_129003 HO_136003 HO_143003 HO_154003 BK101 BK102 BK128 BK135 BK142 BK153 HB
       have HO188 := am_ h0_
       have HO194 := am_ h1_
       have HO_129003 := am_ h2_
       have HO_136003 := am_ h3_
       have HO_143003 := am_ h4_
       have HO_154003 := am_ h5_
       have BK101 := am_ h6_
       have BK102 := am_ h7_
       have BK128 := am_ h8_
       have BK135 := am_ h9_
       have BK142 := am_ h10_
       have BK153 := am_ h11_
       have BK205 := am_ h12_
       have GW205 := am_ h13_
       have GE205 := am_ h14_
       have NB101_205 := am_ h15_
       have NB205_101 := am_ h16_
       have NB102_205 := am_ h17_
       have NB205_102 := am_ h18_
       have NB128_205 := am_ h19_
       have NB205_128 := am_ h20_
       have NB135_205 := am_ h21_
       have NB205_135 := am_ h22_
       have NB142_205 := am_ h23_
       have NB205_142 := am_ h24_
       have NB153_205 := am_ h25_
       have NB205_153 := am_ h26_
       have HB := am_ h27_
       clear h0_ h1_ h2_ h3_ h4_ h5_ h6_ h7_ h8_ h9_ h10_ h11_ h12_ h13_ h14_ h15_ h16_ h17_ h18_ h19_ h20_ h21_ h22_ h23_ h24_ h25_ h26_ h27_
       have hHeld := hS_
       refine norm_ (a' := ?_) ?_ ?_
       rotate_left
       ·
        simp only [putAll, Act.put, List.setIfInBounds_toArray, List.set_cons_zero, List.set_cons_succ]
        rfl
       refine one_ (i := 5) (N := some 121) #[true, true, true, true, true, true, false, false, false, false, true, false, false] rfl rfl (one_of HT_.out (by kernel_rfl)) (by decide) (fun K hK => ?_)
       refine goes_ Try.func13 (by kernel_rfl) rfl #[.slice A2 l2.length c2] (by rfl) rfl rfl (by simp only [List.map_toArray, List.map_cons, List.map_nil]; rfl) ?_
       with_reducible refine (laws_toRunS.calls kj130 _ _ l2 t195 _ ?side1 ?side2 A200.out).mono ?_
       (case side1 => repeat (first | exact (Kd.C_below HR2.out HB.out) | (with_reducible refine Kd.C_alloc ?_ _) | (with_reducible refine Kd.C_drewN ?_ _) | (with_reducible refine Kd.C_drew ?_)))
       (case side2 => exact HC2.out)
       rintro e w217 ⟨v196, rfl, ho0, hb⟩
       refine ⟨_, rfl, ?_⟩
       replace HO_129003 := rb_ HO_129003 hb
       replace HO_136003 := rb_ HO_136003 hb
       replace HO_143003 := rb_ HO_143003 hb
       replace HO_154003 := rb_ HO_154003 hb
       replace HO188 := rb_ HO188 hb
       replace HO194 := rb_ HO194 hb
       have HO197 := am_ (Kd.R_lower ho0 (below_size (hb_ : Below w.heap.size w _)))
       replace BK101 := bb_ BK101 hb
       replace BK102 := bb_ BK102 hb
       replace BK128 := bb_ BK128 hb
       replace BK135 := bb_ BK135 hb
       replace BK142 := bb_ BK142 hb
       replace BK153 := bb_ BK153 hb
       replace BK205 := bb_ BK205 hb
       replace HB := am_ (below_step (hb_ : Below w.heap.size w _) hb)
       (try clear hb)
       (try clear hb2)
       (try clear hk)
       (try clear hi)
       (try clear ho0)
       refine hK.out _ _ (s8_ BK101 BK102) (fun hHeld => ?_)
       clear hK K
       refine norm_ (a' := ?_) ?_ ?_
       rotate_left
       ·
        show Act.put _ (some 121) _ = _
        simp only [Act.put, List.setIfInBounds_toArray, List.set_cons_zero, List.set_cons_succ, i64_w, i32_w]
        rfl
       exact nrm_ (hJ1_3_5_10 (_, _, _, gb205) _ ⟨hHeld, (by exact HO188.out), (by exact HO194.out), (by exact HO197.out), (by exact HO_129003.out), (by exact HO_136003.out), (by exact HO_143003.out), (by exact HO_154003.out), (by exact BK101.out), (by exact BK102.out), (by exact BK128.out), (by exact BK135.out), (by exact BK142.out), (by exact BK153.out), (by exact BK205.out), GW205.out, GE205.out, NB101_205.out, NB205_101.out, NB102_205.out, NB205_102.out, NB128_205.out, NB205_128.out, NB135_205.out, NB205_135.out, NB142_205.out, NB205_142.out, NB153_205.out, NB205_153.out, hb_⟩)
      intro hJ1_3_10
      refine join_ (σ := Value × Value) 8 #[true, true, true, true, true, false, false, false, false, false, false, false, false] (fun s_ => [(117, .agg #[.int .i64 t183, .int .i64 t184, .int .i64 t185, s_.1]), (119, .agg #[.int .i64 t189, .int .i64 t190, .int .i64 t191, s_.2])]) (fun s_ w' => (w'.cell? ⟨gb101, 0, none⟩ = some (.int .i64 a0_0) ∧ w'.cell? ⟨gb101, 1, none⟩ = some (.int .i64 a0_1) ∧ w'.cell? ⟨gb101, 2, none⟩ = some (.int .i64 a0_2) ∧ w'.cell? ⟨gb101, 3, none⟩ = some (.slice A0_3 l0_3.length c0_3) ∧ w'.cell? ⟨gb102, 0, none⟩ = some (.int .i64 a1_0) ∧ w'.cell? ⟨gb102, 1, none⟩ = some (.int .i64 a1_1) ∧ w'.cell? ⟨gb102, 2, none⟩ = some (.int .i64 a1_2) ∧ w'.cell? ⟨gb102, 3, none⟩ = some (.slice A1_3 l1_3.length c1_3)) ∧ (Kd.R (Kd.int .i64) 3 w' w.heap.size (fun k_ => some k_ ≠ (s_.2 : Value).ownBlock ∧ some k_ ≠ (.slice Ao58 t124.length co58 : Value).ownBlock ∧ some k_ ≠ (.slice Ao68 t174.length co68 : Value).ownBlock ∧ some k_ ≠ (.slice Ao78 t176.length co78 : Value).ownBlock ∧ some k_ ≠ (.slice Ao91 t149.length co91 : Value).ownBlock) s_.1 t186) ∧ (Kd.R (Kd.int .i64) 3 w' w.heap.size (fun k_ => some k_ ≠ (s_.1 : Value).ownBlock ∧ some k_ ≠ (.slice Ao58 t124.length co58 : Value).ownBlock ∧ some k_ ≠ (.slice Ao68 t174.length co68 : Value).ownBlock ∧ some k_ ≠ (.slice Ao78 t176.length co78 : Value).ownBlock ∧ some k_ ≠ (.slice Ao91 t149.length co91 : Value).ownBlock) s_.2 t192) ∧ (Kd.R (Kd.int .i64) 3 w' w.heap.size (fun k_ => some k_ ≠ (s_.1 : Value).ownBlock ∧ some k_ ≠ (s_.2 : Value).ownBlock ∧ some k_ ≠ (.slice Ao68 t174.length co68 : Value).ownBlock ∧ some k_ ≠ (.slice Ao78 t176.length co78 : Value).ownBlock ∧ some k_ ≠ (.slice Ao91 t149.length co91 : Value).ownBlock) (.slice Ao58 t124.length co58) t124) ∧ (Kd.R (Kd.int .i64) 3 w' w.heap.size (fun k_ => some k_ ≠ (s_.1 : Value).ownBlock ∧ some k_ ≠ (s_.2 : Value).ownBlock ∧ some k_ ≠ (.slice Ao58 t124.length co58 : Value).ownBlock ∧ some k_ ≠ (.slice Ao78 t176.length co78 : Value).ownBlock ∧ some k_ ≠ (.slice Ao91 t149.length co91 : Value).ownBlock) (.slice Ao68 t174.length co68) t174) ∧ (Kd.R (Kd.int .i64) 3 w' w.heap.size (fun k_ => some k_ ≠ (s_.1 : Value).ownBlock ∧ some k_ ≠ (s_.2 : Value).ownBlock ∧ some k_ ≠ (.slice Ao58 t124.length co58 : Value).ownBlock ∧ some k_ ≠ (.slice Ao68 t174.length co68 : Value).ownBlock ∧ some k_ ≠ (.slice Ao91 t149.length co91 : Value).ownBlock) (.slice Ao78 t176.length co78) t176) ∧ (Kd.R (Kd.int .i64) 3 w' w.heap.size (fun k_ => some k_ ≠ (s_.1 : Value).ownBlock ∧ some k_ ≠ (s_.2 : Value).ownBlock ∧ some k_ ≠ (.slice Ao58 t124.length co58 : Value).ownBlock ∧ some k_ ≠ (.slice Ao68 t174.length co68 : Value).ownBlock ∧ some k_ ≠ (.slice Ao78 t176.length co78 : Value).ownBlock) (.slice Ao91 t149.length co91) t181) ∧ (w'.heap[gb101]? = some (.cells #[.int .i64 a0_0, .int .i64 a0_1, .int .i64 a0_2, .slice A0_3 l0_3.length c0_3] 34 (0, 0))) ∧ (w'.heap[gb102]? = some (.cells #[.int .i64 a1_0, .int .i64 a1_1, .int .i64 a1_2, .slice A1_3 l1_3.length c1_3] 34 (0, 0))) ∧ (w'.heap[gb128]? = some (.cells #[.int .i64 t121, .int .i64 t122, .int .i64 t123, .slice Ao58 t124.length co58] 25 (0, 0))) ∧ (w'.heap[gb135]? = some (.cells #[.int .i64 t129, .int .i64 t130, .int .i64 t131, .slice Ao68 t174.length co68] 25 (0, 0))) ∧ (w'.heap[gb142]? = some (.cells #[.int .i64 t136, .int .i64 t137, .int .i64 t138, .slice Ao78 t176.length co78] 25 (0, 0))) ∧ (w'.heap[gb153]? = some (.cells #[.int .i64 t146, .int .i64 t147, .int .i64 t148, .slice Ao91 t149.length co91] 25 (0, 0))) ∧ (Below w.heap.size w w')) ?_ ?_
      rotate_left
      rotate_left
      ·
       skip
       rintro ⟨v187, v193⟩ w215 ⟨hS_, h0_, h1_, h2_, h3_, h4_, h5_, h6_, h7_, h8_, h9_, h10_, h11_, h12_⟩
       (try dsimp only at h0_ h1_ h2_ h3_ h4_ h5_ h6_ h7_ h8_ h9_ h10_ h11_ h12_)
       clear HO_129003 HO_136003 HO_143003 HO_154003 BK101 BK102 BK128 BK135 BK142 BK153 HB
       have HO188 := am_ h0_
       have HO194 := am_ h1_
       have HO_129003 := am_ h2_
       have HO_136003 := am_ h3_
       have HO_143003 := am_ h4_
       have HO_154003 := am_ h5_
       have BK101 := am_ h6_
       have BK102 := am_ h7_
       have BK128 := am_ h8_
       have BK135 := am_ h9_
       have BK142 := am_ h10_
       have BK153 := am_ h11_
       have HB := am_ h12_
       clear h0_ h1_ h2_ h3_ h4_ h5_ h6_ h7_ h8_ h9_ h10_ h11_ h12_
       have hHeld := hS_
       refine norm_ (a' := ?_) ?_ ?_
       rotate_left
       ·
        simp only [putAll, Act.put, List.setIfInBounds_toArray, List.set_cons_zero, List.set_cons_succ]
        rfl
       refine two_ (i := 5) (j := 10) (Ni := some 121) (Nj := some 18) #[true, true, true, true, true, true, false, false, false, false, false, false, false] #[true, true, true, true, true, false, false, false, false, false, true, false, false] rfl rfl rfl rfl (two_of HT_.out (by kernel_rfl)) (by decide) (by decide) (fun K hK => ?_) (fun K hK => ?_)
       ·
        skip
        refine goes_ Try.func13 (by kernel_rfl) rfl #[.slice A2 l2.length c2] (by rfl) rfl rfl (by simp only [List.map_toArray, List.map_cons, List.map_nil]; rfl) ?_
        with_reducible refine (laws_toRunS.calls kj130 _ _ l2 t195 _ ?side1 ?side2 A200.out).mono ?_
        (case side1 => repeat (first | exact (Kd.C_below HR2.out HB.out) | (with_reducible refine Kd.C_alloc ?_ _) | (with_reducible refine Kd.C_drewN ?_ _) | (with_reducible refine Kd.C_drew ?_)))
        (case side2 => exact HC2.out)
        rintro e w216 ⟨v196, rfl, ho0, hb⟩
        refine ⟨_, rfl, ?_⟩
        replace HO_129003 := rb_ HO_129003 hb
        replace HO_136003 := rb_ HO_136003 hb
        replace HO_143003 := rb_ HO_143003 hb
        replace HO_154003 := rb_ HO_154003 hb
        replace HO188 := rb_ HO188 hb
        replace HO194 := rb_ HO194 hb
        have HO197 := am_ (Kd.R_lower ho0 (below_size (hb_ : Below w.heap.size w _)))
        replace BK101 := bb_ BK101 hb
        replace BK102 := bb_ BK102 hb
        replace BK128 := bb_ BK128 hb
        replace BK135 := bb_ BK135 hb
        replace BK142 := bb_ BK142 hb
        replace BK153 := bb_ BK153 hb
        replace HB := am_ (below_step (hb_ : Below w.heap.size w _) hb)
        (try clear hb)
        (try clear hb2)
        (try clear hk)
        (try clear hi)
        (try clear ho0)
        refine hK.out _ _ (s8_ BK101 BK102) (fun hHeld => ?_)
        clear hK K
        refine norm_ (a' := ?_) ?_ ?_
        rotate_left
        ·
         show Act.put _ (some 121) _ = _
         simp only [Act.put, List.setIfInBounds_toArray, List.set_cons_zero, List.set_cons_succ, i64_w, i32_w]
         rfl
        exact nrm_ (hJ1_3_5 (_, _, _) _ ⟨hHeld, (by exact HO188.out), (by exact HO194.out), (by exact HO197.out), (by exact HO_129003.out), (by exact HO_136003.out), (by exact HO_143003.out), (by exact HO_154003.out), (by exact BK101.out), (by exact BK102.out), (by exact BK128.out), (by exact BK135.out), (by exact BK142.out), (by exact BK153.out), hb_⟩)
       skip
       refine box_step ?hg (N := 18) ?hd (cs := #[.int .i64 0, .int .i64 0, .int .i64 0, .slice none 0 0]) (t := 25) ?hr ?_; (case hd => rfl); (case hg => rfl); (case hr => first | (go_simp; done) | (go_simp; rfl))
       intro gb205 hg w216 hbox hb
       replace HO_129003 := rb_ HO_129003 hb
       replace HO_136003 := rb_ HO_136003 hb
       replace HO_143003 := rb_ HO_143003 hb
       replace HO_154003 := rb_ HO_154003 hb
       replace HO188 := rb_ HO188 hb
       replace HO194 := rb_ HO194 hb
       have BK205 := am_ (hbox)
       have GW205 := am_ ((by rw [hg]; exact (below_size (hb_ : Below w.heap.size w _)) : w.heap.size ≤ gb205))
       have GE205 := GW205
       replace HB := am_ (below_step (hb_ : Below w.heap.size w _) hb)
       have NB101_205 := nb_ hg BK101
       have NB205_101 := nc_ NB101_205
       replace BK101 := bb_ BK101 hb
       have NB102_205 := nb_ hg BK102
       have NB205_102 := nc_ NB102_205
       replace BK102 := bb_ BK102 hb
       have NB128_205 := nb_ hg BK128
       have NB205_128 := nc_ NB128_205
       replace BK128 := bb_ BK128 hb
       have NB135_205 := nb_ hg BK135
       have NB205_135 := nc_ NB135_205
       replace BK135 := bb_ BK135 hb
       have NB142_205 := nb_ hg BK142
       have NB205_142 := nc_ NB142_205
       replace BK142 := bb_ BK142 hb
       have NB153_205 := nb_ hg BK153
       have NB205_153 := nc_ NB153_205
       replace BK153 := bb_ BK153 hb
       clear hb hbox hg
       refine hK.out _ _ (s8_ BK101 BK102) (fun hHeld => ?_)
       clear hK K
       refine norm_ (a' := ?_) ?_ ?_
       rotate_left
       ·
        show Act.put _ (some 18) _ = _
        simp only [Act.put, List.setIfInBounds_toArray, List.set_cons_zero, List.set_cons_succ, i64_w, i32_w]
        rfl
       exact nrm_ (hJ1_3_10 (_, _, gb205) _ ⟨hHeld, (by exact HO188.out), (by exact HO194.out), (by exact HO_129003.out), (by exact HO_136003.out), (by exact HO_143003.out), (by exact HO_154003.out), (by exact BK101.out), (by exact BK102.out), (by exact BK128.out), (by exact BK135.out), (by exact BK142.out), (by exact BK153.out), (by exact BK205.out), GW205.out, GE205.out, NB101_205.out, NB205_101.out, NB102_205.out, NB205_102.out, NB128_205.out, NB205_128.out, NB135_205.out, NB205_135.out, NB142_205.out, NB205_142.out, NB153_205.out, NB205_153.out, hb_⟩)
      intro hJ1_3
      refine join_ (σ := Value × Nat) 8 #[true, true, true, false, true, false, false, false, false, false, true, false, false] (fun s_ => [(117, .agg #[.int .i64 t183, .int .i64 t184, .int .i64 t185, s_.1]), (18, .pointer (some ⟨s_.2, 0, none⟩))]) (fun s_ w' => (w'.cell? ⟨gb101, 0, none⟩ = some (.int .i64 a0_0) ∧ w'.cell? ⟨gb101, 1, none⟩ = some (.int .i64 a0_1) ∧ w'.cell? ⟨gb101, 2, none⟩ = some (.int .i64 a0_2) ∧ w'.cell? ⟨gb101, 3, none⟩ = some (.slice A0_3 l0_3.length c0_3) ∧ w'.cell? ⟨gb102, 0, none⟩ = some (.int .i64 a1_0) ∧ w'.cell? ⟨gb102, 1, none⟩ = some (.int .i64 a1_1) ∧ w'.cell? ⟨gb102, 2, none⟩ = some (.int .i64 a1_2) ∧ w'.cell? ⟨gb102, 3, none⟩ = some (.slice A1_3 l1_3.length c1_3)) ∧ (Kd.R (Kd.int .i64) 3 w' w.heap.size (fun k_ => some k_ ≠ (.slice Ao58 t124.length co58 : Value).ownBlock ∧ some k_ ≠ (.slice Ao68 t174.length co68 : Value).ownBlock ∧ some k_ ≠ (.slice Ao78 t176.length co78 : Value).ownBlock ∧ some k_ ≠ (.slice Ao91 t149.length co91 : Value).ownBlock) s_.1 t186) ∧ (Kd.R (Kd.int .i64) 3 w' w.heap.size (fun k_ => some k_ ≠ (s_.1 : Value).ownBlock ∧ some k_ ≠ (.slice Ao68 t174.length co68 : Value).ownBlock ∧ some k_ ≠ (.slice Ao78 t176.length co78 : Value).ownBlock ∧ some k_ ≠ (.slice Ao91 t149.length co91 : Value).ownBlock) (.slice Ao58 t124.length co58) t124) ∧ (Kd.R (Kd.int .i64) 3 w' w.heap.size (fun k_ => some k_ ≠ (s_.1 : Value).ownBlock ∧ some k_ ≠ (.slice Ao58 t124.length co58 : Value).ownBlock ∧ some k_ ≠ (.slice Ao78 t176.length co78 : Value).ownBlock ∧ some k_ ≠ (.slice Ao91 t149.length co91 : Value).ownBlock) (.slice Ao68 t174.length co68) t174) ∧ (Kd.R (Kd.int .i64) 3 w' w.heap.size (fun k_ => some k_ ≠ (s_.1 : Value).ownBlock ∧ some k_ ≠ (.slice Ao58 t124.length co58 : Value).ownBlock ∧ some k_ ≠ (.slice Ao68 t174.length co68 : Value).ownBlock ∧ some k_ ≠ (.slice Ao91 t149.length co91 : Value).ownBlock) (.slice Ao78 t176.length co78) t176) ∧ (Kd.R (Kd.int .i64) 3 w' w.heap.size (fun k_ => some k_ ≠ (s_.1 : Value).ownBlock ∧ some k_ ≠ (.slice Ao58 t124.length co58 : Value).ownBlock ∧ some k_ ≠ (.slice Ao68 t174.length co68 : Value).ownBlock ∧ some k_ ≠ (.slice Ao78 t176.length co78 : Value).ownBlock) (.slice Ao91 t149.length co91) t181) ∧ (w'.heap[gb101]? = some (.cells #[.int .i64 a0_0, .int .i64 a0_1, .int .i64 a0_2, .slice A0_3 l0_3.length c0_3] 34 (0, 0))) ∧ (w'.heap[gb102]? = some (.cells #[.int .i64 a1_0, .int .i64 a1_1, .int .i64 a1_2, .slice A1_3 l1_3.length c1_3] 34 (0, 0))) ∧ (w'.heap[gb128]? = some (.cells #[.int .i64 t121, .int .i64 t122, .int .i64 t123, .slice Ao58 t124.length co58] 25 (0, 0))) ∧ (w'.heap[gb135]? = some (.cells #[.int .i64 t129, .int .i64 t130, .int .i64 t131, .slice Ao68 t174.length co68] 25 (0, 0))) ∧ (w'.heap[gb142]? = some (.cells #[.int .i64 t136, .int .i64 t137, .int .i64 t138, .slice Ao78 t176.length co78] 25 (0, 0))) ∧ (w'.heap[gb153]? = some (.cells #[.int .i64 t146, .int .i64 t147, .int .i64 t148, .slice Ao91 t149.length co91] 25 (0, 0))) ∧ (w'.heap[s_.2]? = some (.cells #[.int .i64 0, .int .i64 0, .int .i64 0, .slice none 0 0] 25 (0, 0))) ∧ (w.heap.size ≤ s_.2) ∧ (w.heap.size ≤ s_.2) ∧ (gb101 ≠ s_.2) ∧ (s_.2 ≠ gb101) ∧ (gb102 ≠ s_.2) ∧ (s_.2 ≠ gb102) ∧ (gb128 ≠ s_.2) ∧ (s_.2 ≠ gb128) ∧ (gb135 ≠ s_.2) ∧ (s_.2 ≠ gb135) ∧ (gb142 ≠ s_.2) ∧ (s_.2 ≠ gb142) ∧ (gb153 ≠ s_.2) ∧ (s_.2 ≠ gb153) ∧ (Below w.heap.size w w')) ?_ ?_
      rotate_left
      rotate_left
      ·
       skip
       rintro ⟨v187, gb205⟩ w215 ⟨hS_, h0_, h1_, h2_, h3_, h4_, h5_, h6_, h7_, h8_, h9_, h10_, h11_, h12_, h13_, h14_, h15_, h16_, h17_, h18_, h19_, h20_, h21_, h22_, h23_, h24_, h25_, h26_⟩
       (try dsimp only at h0_ h1_ h2_ h3_ h4_ h5_ h6_ h7_ h8_ h9_ h10_ h11_ h12_ h13_ h14_ h15_ h16_ h17_ h18_ h19_ h20_ h21_ h22_ h23_ h24_ h25_ h26_)
       clear HO_129003 HO_136003 HO_143003 HO_154003 BK101 BK102 BK128 BK135 BK142 BK153 HB
       have HO188 := am_ h0_
       have HO_129003 := am_ h1_
       have HO_136003 := am_ h2_
       have HO_143003 := am_ h3_
       have HO_154003 := am_ h4_
       have BK101 := am_ h5_
       have BK102 := am_ h6_
       have BK128 := am_ h7_
       have BK135 := am_ h8_
       have BK142 := am_ h9_
       have BK153 := am_ h10_
       have BK205 := am_ h11_
       have GW205 := am_ h12_
       have GE205 := am_ h13_
       have NB101_205 := am_ h14_
       have NB205_101 := am_ h15_
       have NB102_205 := am_ h16_
       have NB205_102 := am_ h17_
       have NB128_205 := am_ h18_
       have NB205_128 := am_ h19_
       have NB135_205 := am_ h20_
       have NB205_135 := am_ h21_
       have NB142_205 := am_ h22_
       have NB205_142 := am_ h23_
       have NB153_205 := am_ h24_
       have NB205_153 := am_ h25_
       have HB := am_ h26_
       clear h0_ h1_ h2_ h3_ h4_ h5_ h6_ h7_ h8_ h9_ h10_ h11_ h12_ h13_ h14_ h15_ h16_ h17_ h18_ h19_ h20_ h21_ h22_ h23_ h24_ h25_ h26_
       have hHeld := hS_
       refine norm_ (a' := ?_) ?_ ?_
       rotate_left
       ·
        simp only [putAll, Act.put, List.setIfInBounds_toArray, List.set_cons_zero, List.set_cons_succ]
        rfl
       refine one_ (i := 3) (N := some 119) #[true, true, true, true, true, false, false, false, false, false, true, false, false] rfl rfl (one_of HT_.out (by kernel_rfl)) (by decide) (fun K hK => ?_)
       refine goes_ Try.func12 (by kernel_rfl) rfl #[.agg #[.int .i64 a1_0, .int .i64 a1_1, .int .i64 a1_2, .slice A1_3 l1_3.length c1_3]] (by rfl) rfl rfl (by simp only [List.map_toArray, List.map_cons, List.map_nil]; rfl) ?_
       with_reducible refine (laws_toImage.calls kj130 a1_0 a1_1 a1_2 _ _ l1_3 t189 t190 t191 t192 _ ?side1 ?side2 A199.out).mono ?_
       (case side1 => repeat (first | exact (Kd.C_below HR1_3.out HB.out) | (with_reducible refine Kd.C_alloc ?_ _) | (with_reducible refine Kd.C_drewN ?_ _) | (with_reducible refine Kd.C_drew ?_)))
       (case side2 => exact HC1_3.out)
       rintro e w216 ⟨v193, rfl, ho0, hb⟩
       refine ⟨_, rfl, ?_⟩
       have HO194 := am_ (Kd.R_lower (Kd.R_new' (Kd.R_new' (Kd.R_new' (Kd.R_new' (Kd.R_new' ho0 (Kd.R_lt (by exact HO_129003.out))) (Kd.R_lt (by exact HO_136003.out))) (Kd.R_lt (by exact HO_143003.out))) (Kd.R_lt (by exact HO_154003.out))) (Kd.R_lt (by exact HO188.out))) (below_size (hb_ : Below w.heap.size w _)))
       replace HO_129003 := am_ (Kd.R_elder' (by exact HO_129003.out) (Kd.R_base ho0) hb)
       replace HO_136003 := am_ (Kd.R_elder' (by exact HO_136003.out) (Kd.R_base ho0) hb)
       replace HO_143003 := am_ (Kd.R_elder' (by exact HO_143003.out) (Kd.R_base ho0) hb)
       replace HO_154003 := am_ (Kd.R_elder' (by exact HO_154003.out) (Kd.R_base ho0) hb)
       replace HO188 := am_ (Kd.R_elder' (by exact HO188.out) (Kd.R_base ho0) hb)
       replace BK101 := bb_ BK101 hb
       replace BK102 := bb_ BK102 hb
       replace BK128 := bb_ BK128 hb
       replace BK135 := bb_ BK135 hb
       replace BK142 := bb_ BK142 hb
       replace BK153 := bb_ BK153 hb
       replace BK205 := bb_ BK205 hb
       replace HB := am_ (below_step (hb_ : Below w.heap.size w _) hb)
       (try clear hb)
       (try clear hb2)
       (try clear hk)
       (try clear hi)
       (try clear ho0)
       refine hK.out _ _ (s8_ BK101 BK102) (fun hHeld => ?_)
       clear hK K
       refine norm_ (a' := ?_) ?_ ?_
       rotate_left
       ·
        show Act.put _ (some 119) _ = _
        simp only [Act.put, List.setIfInBounds_toArray, List.set_cons_zero, List.set_cons_succ, i64_w, i32_w]
        rfl
       exact nrm_ (hJ1_3_10 (_, _, gb205) _ ⟨hHeld, (by exact Kd.R_mono HO188.out (fun _ hk => ⟨hk.2, ⟨hk.1.1, ⟨hk.1.2.1, ⟨hk.1.2.2.1, hk.1.2.2.2⟩⟩⟩⟩)), (by exact Kd.R_mono HO194.out (fun _ hk => ⟨hk.2, ⟨hk.1.1.1.1.2, ⟨hk.1.1.1.2, ⟨hk.1.1.2, hk.1.2⟩⟩⟩⟩)), (by exact Kd.R_mono HO_129003.out (fun _ hk => ⟨hk.1.1, ⟨hk.2, ⟨hk.1.2.1, ⟨hk.1.2.2.1, hk.1.2.2.2⟩⟩⟩⟩)), (by exact Kd.R_mono HO_136003.out (fun _ hk => ⟨hk.1.1, ⟨hk.2, ⟨hk.1.2.1, ⟨hk.1.2.2.1, hk.1.2.2.2⟩⟩⟩⟩)), (by exact Kd.R_mono HO_143003.out (fun _ hk => ⟨hk.1.1, ⟨hk.2, ⟨hk.1.2.1, ⟨hk.1.2.2.1, hk.1.2.2.2⟩⟩⟩⟩)), (by exact Kd.R_mono HO_154003.out (fun _ hk => ⟨hk.1.1, ⟨hk.2, ⟨hk.1.2.1, ⟨hk.1.2.2.1, hk.1.2.2.2⟩⟩⟩⟩)), (by exact BK101.out), (by exact BK102.out), (by exact BK128.out), (by exact BK135.out), (by exact BK142.out), (by exact BK153.out), (by exact BK205.out), GW205.out, GE205.out, NB101_205.out, NB205_101.out, NB102_205.out, NB205_102.out, NB128_205.out, NB205_128.out, NB135_205.out, NB205_135.out, NB142_205.out, NB205_142.out, NB153_205.out, NB205_153.out, hb_⟩)
      intro hJ1_10
      refine join_ (σ := Value) 9 #[true, true, true, false, true, false, false, false, false, false, false, false, false] (fun s_ => [(117, .agg #[.int .i64 t183, .int .i64 t184, .int .i64 t185, s_])]) (fun s_ w' => (w'.cell? ⟨gb101, 0, none⟩ = some (.int .i64 a0_0) ∧ w'.cell? ⟨gb101, 1, none⟩ = some (.int .i64 a0_1) ∧ w'.cell? ⟨gb101, 2, none⟩ = some (.int .i64 a0_2) ∧ w'.cell? ⟨gb101, 3, none⟩ = some (.slice A0_3 l0_3.length c0_3) ∧ w'.cell? ⟨gb102, 0, none⟩ = some (.int .i64 a1_0) ∧ w'.cell? ⟨gb102, 1, none⟩ = some (.int .i64 a1_1) ∧ w'.cell? ⟨gb102, 2, none⟩ = some (.int .i64 a1_2) ∧ w'.cell? ⟨gb102, 3, none⟩ = some (.slice A1_3 l1_3.length c1_3)) ∧ (Kd.R (Kd.int .i64) 3 w' w.heap.size (fun k_ => some k_ ≠ (.slice Ao58 t124.length co58 : Value).ownBlock ∧ some k_ ≠ (.slice Ao68 t174.length co68 : Value).ownBlock ∧ some k_ ≠ (.slice Ao78 t176.length co78 : Value).ownBlock ∧ some k_ ≠ (.slice Ao91 t149.length co91 : Value).ownBlock) s_ t186) ∧ (Kd.R (Kd.int .i64) 3 w' w.heap.size (fun k_ => some k_ ≠ (s_ : Value).ownBlock ∧ some k_ ≠ (.slice Ao68 t174.length co68 : Value).ownBlock ∧ some k_ ≠ (.slice Ao78 t176.length co78 : Value).ownBlock ∧ some k_ ≠ (.slice Ao91 t149.length co91 : Value).ownBlock) (.slice Ao58 t124.length co58) t124) ∧ (Kd.R (Kd.int .i64) 3 w' w.heap.size (fun k_ => some k_ ≠ (s_ : Value).ownBlock ∧ some k_ ≠ (.slice Ao58 t124.length co58 : Value).ownBlock ∧ some k_ ≠ (.slice Ao78 t176.length co78 : Value).ownBlock ∧ some k_ ≠ (.slice Ao91 t149.length co91 : Value).ownBlock) (.slice Ao68 t174.length co68) t174) ∧ (Kd.R (Kd.int .i64) 3 w' w.heap.size (fun k_ => some k_ ≠ (s_ : Value).ownBlock ∧ some k_ ≠ (.slice Ao58 t124.length co58 : Value).ownBlock ∧ some k_ ≠ (.slice Ao68 t174.length co68 : Value).ownBlock ∧ some k_ ≠ (.slice Ao91 t149.length co91 : Value).ownBlock) (.slice Ao78 t176.length co78) t176) ∧ (Kd.R (Kd.int .i64) 3 w' w.heap.size (fun k_ => some k_ ≠ (s_ : Value).ownBlock ∧ some k_ ≠ (.slice Ao58 t124.length co58 : Value).ownBlock ∧ some k_ ≠ (.slice Ao68 t174.length co68 : Value).ownBlock ∧ some k_ ≠ (.slice Ao78 t176.length co78 : Value).ownBlock) (.slice Ao91 t149.length co91) t181) ∧ (w'.heap[gb101]? = some (.cells #[.int .i64 a0_0, .int .i64 a0_1, .int .i64 a0_2, .slice A0_3 l0_3.length c0_3] 34 (0, 0))) ∧ (w'.heap[gb102]? = some (.cells #[.int .i64 a1_0, .int .i64 a1_1, .int .i64 a1_2, .slice A1_3 l1_3.length c1_3] 34 (0, 0))) ∧ (w'.heap[gb128]? = some (.cells #[.int .i64 t121, .int .i64 t122, .int .i64 t123, .slice Ao58 t124.length co58] 25 (0, 0))) ∧ (w'.heap[gb135]? = some (.cells #[.int .i64 t129, .int .i64 t130, .int .i64 t131, .slice Ao68 t174.length co68] 25 (0, 0))) ∧ (w'.heap[gb142]? = some (.cells #[.int .i64 t136, .int .i64 t137, .int .i64 t138, .slice Ao78 t176.length co78] 25 (0, 0))) ∧ (w'.heap[gb153]? = some (.cells #[.int .i64 t146, .int .i64 t147, .int .i64 t148, .slice Ao91 t149.length co91] 25 (0, 0))) ∧ (Below w.heap.size w w')) ?_ ?_
      rotate_left
      ·
       intro hJ1
       refine join_ (σ := Nat) 9 #[true, false, true, false, true, false, false, false, false, false, true, false, false] (fun s_ => [(18, .pointer (some ⟨s_, 0, none⟩))]) (fun s_ w' => (w'.cell? ⟨gb101, 0, none⟩ = some (.int .i64 a0_0) ∧ w'.cell? ⟨gb101, 1, none⟩ = some (.int .i64 a0_1) ∧ w'.cell? ⟨gb101, 2, none⟩ = some (.int .i64 a0_2) ∧ w'.cell? ⟨gb101, 3, none⟩ = some (.slice A0_3 l0_3.length c0_3) ∧ w'.cell? ⟨gb102, 0, none⟩ = some (.int .i64 a1_0) ∧ w'.cell? ⟨gb102, 1, none⟩ = some (.int .i64 a1_1) ∧ w'.cell? ⟨gb102, 2, none⟩ = some (.int .i64 a1_2) ∧ w'.cell? ⟨gb102, 3, none⟩ = some (.slice A1_3 l1_3.length c1_3)) ∧ (Kd.R (Kd.int .i64) 3 w' w.heap.size (fun k_ => some k_ ≠ (.slice Ao68 t174.length co68 : Value).ownBlock ∧ some k_ ≠ (.slice Ao78 t176.length co78 : Value).ownBlock ∧ some k_ ≠ (.slice Ao91 t149.length co91 : Value).ownBlock) (.slice Ao58 t124.length co58) t124) ∧ (Kd.R (Kd.int .i64) 3 w' w.heap.size (fun k_ => some k_ ≠ (.slice Ao58 t124.length co58 : Value).ownBlock ∧ some k_ ≠ (.slice Ao78 t176.length co78 : Value).ownBlock ∧ some k_ ≠ (.slice Ao91 t149.length co91 : Value).ownBlock) (.slice Ao68 t174.length co68) t174) ∧ (Kd.R (Kd.int .i64) 3 w' w.heap.size (fun k_ => some k_ ≠ (.slice Ao58 t124.length co58 : Value).ownBlock ∧ some k_ ≠ (.slice Ao68 t174.length co68 : Value).ownBlock ∧ some k_ ≠ (.slice Ao91 t149.length co91 : Value).ownBlock) (.slice Ao78 t176.length co78) t176) ∧ (Kd.R (Kd.int .i64) 3 w' w.heap.size (fun k_ => some k_ ≠ (.slice Ao58 t124.length co58 : Value).ownBlock ∧ some k_ ≠ (.slice Ao68 t174.length co68 : Value).ownBlock ∧ some k_ ≠ (.slice Ao78 t176.length co78 : Value).ownBlock) (.slice Ao91 t149.length co91) t181) ∧ (w'.heap[gb101]? = some (.cells #[.int .i64 a0_0, .int .i64 a0_1, .int .i64 a0_2, .slice A0_3 l0_3.length c0_3] 34 (0, 0))) ∧ (w'.heap[gb102]? = some (.cells #[.int .i64 a1_0, .int .i64 a1_1, .int .i64 a1_2, .slice A1_3 l1_3.length c1_3] 34 (0, 0))) ∧ (w'.heap[gb128]? = some (.cells #[.int .i64 t121, .int .i64 t122, .int .i64 t123, .slice Ao58 t124.length co58] 25 (0, 0))) ∧ (w'.heap[gb135]? = some (.cells #[.int .i64 t129, .int .i64 t130, .int .i64 t131, .slice Ao68 t174.length co68] 25 (0, 0))) ∧ (w'.heap[gb142]? = some (.cells #[.int .i64 t136, .int .i64 t137, .int .i64 t138, .slice Ao78 t176.length co78] 25 (0, 0))) ∧ (w'.heap[gb153]? = some (.cells #[.int .i64 t146, .int .i64 t147, .int .i64 t148, .slice Ao91 t149.length co91] 25 (0, 0))) ∧ (w'.heap[s_]? = some (.cells #[.int .i64 0, .int .i64 0, .int .i64 0, .slice none 0 0] 25 (0, 0))) ∧ (w.heap.size ≤ s_) ∧ (w.heap.size ≤ s_) ∧ (gb101 ≠ s_) ∧ (s_ ≠ gb101) ∧ (gb102 ≠ s_) ∧ (s_ ≠ gb102) ∧ (gb128 ≠ s_) ∧ (s_ ≠ gb128) ∧ (gb135 ≠ s_) ∧ (s_ ≠ gb135) ∧ (gb142 ≠ s_) ∧ (s_ ≠ gb142) ∧ (gb153 ≠ s_) ∧ (s_ ≠ gb153) ∧ (Below w.heap.size w w')) ?_ ?_
       rotate_left
       ·
        intro hJ10
        refine two_ (i := 1) (j := 10) (Ni := some 117) (Nj := some 18) #[true, true, true, false, true, false, false, false, false, false, false, false, false] #[true, false, true, false, true, false, false, false, false, false, true, false, false] rfl rfl rfl rfl (two_of HT_.out (by kernel_rfl)) (by decide) (by decide) (fun K hK => ?_) (fun K hK => ?_)
        ·
         skip
         refine goes_ Try.func12 (by kernel_rfl) rfl #[.agg #[.int .i64 a0_0, .int .i64 a0_1, .int .i64 a0_2, .slice A0_3 l0_3.length c0_3]] (by rfl) rfl rfl (by simp only [List.map_toArray, List.map_cons, List.map_nil]; rfl) ?_
         with_reducible refine (laws_toImage.calls kj130 a0_0 a0_1 a0_2 _ _ l0_3 t183 t184 t185 t186 _ ?side1 ?side2 A198.out).mono ?_
         (case side1 => repeat (first | exact (Kd.C_below HR0_3.out HB.out) | (with_reducible refine Kd.C_alloc ?_ _) | (with_reducible refine Kd.C_drewN ?_ _) | (with_reducible refine Kd.C_drew ?_)))
         (case side2 => exact HC0_3.out)
         rintro e w213 ⟨v187, rfl, ho0, hb⟩
         refine ⟨_, rfl, ?_⟩
         have HO188 := am_ (Kd.R_lower (Kd.R_new' (Kd.R_new' (Kd.R_new' (Kd.R_new' ho0 (Kd.R_lt (by exact HO_129003.out))) (Kd.R_lt (by exact HO_136003.out))) (Kd.R_lt (by exact HO_143003.out))) (Kd.R_lt (by exact HO_154003.out))) (below_size (hb_ : Below w.heap.size w _)))
         replace HO_129003 := am_ (Kd.R_elder' (by exact HO_129003.out) (Kd.R_base ho0) hb)
         replace HO_136003 := am_ (Kd.R_elder' (by exact HO_136003.out) (Kd.R_base ho0) hb)
         replace HO_143003 := am_ (Kd.R_elder' (by exact HO_143003.out) (Kd.R_base ho0) hb)
         replace HO_154003 := am_ (Kd.R_elder' (by exact HO_154003.out) (Kd.R_base ho0) hb)
         replace BK101 := bb_ BK101 hb
         replace BK102 := bb_ BK102 hb
         replace BK128 := bb_ BK128 hb
         replace BK135 := bb_ BK135 hb
         replace BK142 := bb_ BK142 hb
         replace BK153 := bb_ BK153 hb
         replace HB := am_ (below_step (hb_ : Below w.heap.size w _) hb)
         (try clear hb)
         (try clear hb2)
         (try clear hk)
         (try clear hi)
         (try clear ho0)
         refine hK.out _ _ (s8_ BK101 BK102) (fun hHeld => ?_)
         clear hK K
         refine norm_ (a' := ?_) ?_ ?_
         rotate_left
         ·
          show Act.put _ (some 117) _ = _
          simp only [Act.put, List.setIfInBounds_toArray, List.set_cons_zero, List.set_cons_succ, i64_w, i32_w]
          rfl
         exact nrm_ (hJ1 (_) _ ⟨hHeld, (by exact Kd.R_mono HO188.out (fun _ hk => ⟨hk.1.1.1.2, ⟨hk.1.1.2, ⟨hk.1.2, hk.2⟩⟩⟩)), (by exact Kd.R_mono HO_129003.out (fun _ hk => ⟨hk.2, ⟨hk.1.1, ⟨hk.1.2.1, hk.1.2.2⟩⟩⟩)), (by exact Kd.R_mono HO_136003.out (fun _ hk => ⟨hk.2, ⟨hk.1.1, ⟨hk.1.2.1, hk.1.2.2⟩⟩⟩)), (by exact Kd.R_mono HO_143003.out (fun _ hk => ⟨hk.2, ⟨hk.1.1, ⟨hk.1.2.1, hk.1.2.2⟩⟩⟩)), (by exact Kd.R_mono HO_154003.out (fun _ hk => ⟨hk.2, ⟨hk.1.1, ⟨hk.1.2.1, hk.1.2.2⟩⟩⟩)), (by exact BK101.out), (by exact BK102.out), (by exact BK128.out), (by exact BK135.out), (by exact BK142.out), (by exact BK153.out), hb_⟩)
        skip
        refine box_step ?hg (N := 18) ?hd (cs := #[.int .i64 0, .int .i64 0, .int .i64 0, .slice none 0 0]) (t := 25) ?hr ?_; (case hd => rfl); (case hg => rfl); (case hr => first | (go_simp; done) | (go_simp; rfl))
        intro gb205 hg w213 hbox hb
        replace HO_129003 := rb_ HO_129003 hb
        replace HO_136003 := rb_ HO_136003 hb
        replace HO_143003 := rb_ HO_143003 hb
        replace HO_154003 := rb_ HO_154003 hb
        have BK205 := am_ (hbox)
        have GW205 := am_ ((by rw [hg]; exact (below_size (hb_ : Below w.heap.size w _)) : w.heap.size ≤ gb205))
        have GE205 := GW205
        replace HB := am_ (below_step (hb_ : Below w.heap.size w _) hb)
        have NB101_205 := nb_ hg BK101
        have NB205_101 := nc_ NB101_205
        replace BK101 := bb_ BK101 hb
        have NB102_205 := nb_ hg BK102
        have NB205_102 := nc_ NB102_205
        replace BK102 := bb_ BK102 hb
        have NB128_205 := nb_ hg BK128
        have NB205_128 := nc_ NB128_205
        replace BK128 := bb_ BK128 hb
        have NB135_205 := nb_ hg BK135
        have NB205_135 := nc_ NB135_205
        replace BK135 := bb_ BK135 hb
        have NB142_205 := nb_ hg BK142
        have NB205_142 := nc_ NB142_205
        replace BK142 := bb_ BK142 hb
        have NB153_205 := nb_ hg BK153
        have NB205_153 := nc_ NB153_205
        replace BK153 := bb_ BK153 hb
        clear hb hbox hg
        refine hK.out _ _ (s8_ BK101 BK102) (fun hHeld => ?_)
        clear hK K
        refine norm_ (a' := ?_) ?_ ?_
        rotate_left
        ·
         show Act.put _ (some 18) _ = _
         simp only [Act.put, List.setIfInBounds_toArray, List.set_cons_zero, List.set_cons_succ, i64_w, i32_w]
         rfl
        exact nrm_ (hJ10 (gb205) _ ⟨hHeld, (by exact HO_129003.out), (by exact HO_136003.out), (by exact HO_143003.out), (by exact HO_154003.out), (by exact BK101.out), (by exact BK102.out), (by exact BK128.out), (by exact BK135.out), (by exact BK142.out), (by exact BK153.out), (by exact BK205.out), GW205.out, GE205.out, NB101_205.out, NB205_101.out, NB102_205.out, NB205_102.out, NB128_205.out, NB205_128.out, NB135_205.out, NB205_135.out, NB142_205.out, NB205_142.out, NB153_205.out, NB205_153.out, hb_⟩)
       skip
       rintro gb205 w214 ⟨hS_, h0_, h1_, h2_, h3_, h4_, h5_, h6_, h7_, h8_, h9_, h10_, h11_, h12_, h13_, h14_, h15_, h16_, h17_, h18_, h19_, h20_, h21_, h22_, h23_, h24_, h25_⟩
       (try dsimp only at h0_ h1_ h2_ h3_ h4_ h5_ h6_ h7_ h8_ h9_ h10_ h11_ h12_ h13_ h14_ h15_ h16_ h17_ h18_ h19_ h20_ h21_ h22_ h23_ h24_ h25_)
       clear HO_129003 HO_136003 HO_143003 HO_154003 BK101 BK102 BK128 BK135 BK142 BK153 HB
       have HO_129003 := am_ h0_
       have HO_136003 := am_ h1_
       have HO_143003 := am_ h2_
       have HO_154003 := am_ h3_
       have BK101 := am_ h4_
       have BK102 := am_ h5_
       have BK128 := am_ h6_
       have BK135 := am_ h7_
       have BK142 := am_ h8_
       have BK153 := am_ h9_
       have BK205 := am_ h10_
       have GW205 := am_ h11_
       have GE205 := am_ h12_
       have NB101_205 := am_ h13_
       have NB205_101 := am_ h14_
       have NB102_205 := am_ h15_
       have NB205_102 := am_ h16_
       have NB128_205 := am_ h17_
       have NB205_128 := am_ h18_
       have NB135_205 := am_ h19_
       have NB205_135 := am_ h20_
       have NB142_205 := am_ h21_
       have NB205_142 := am_ h22_
       have NB153_205 := am_ h23_
       have NB205_153 := am_ h24_
       have HB := am_ h25_
       clear h0_ h1_ h2_ h3_ h4_ h5_ h6_ h7_ h8_ h9_ h10_ h11_ h12_ h13_ h14_ h15_ h16_ h17_ h18_ h19_ h20_ h21_ h22_ h23_ h24_ h25_
       have hHeld := hS_
       refine norm_ (a' := ?_) ?_ ?_
       rotate_left
       ·
        simp only [putAll, Act.put, List.setIfInBounds_toArray, List.set_cons_zero, List.set_cons_succ]
        rfl
       refine one_ (i := 1) (N := some 117) #[true, true, true, false, true, false, false, false, false, false, true, false, false] rfl rfl (one_of HT_.out (by kernel_rfl)) (by decide) (fun K hK => ?_)
       refine goes_ Try.func12 (by kernel_rfl) rfl #[.agg #[.int .i64 a0_0, .int .i64 a0_1, .int .i64 a0_2, .slice A0_3 l0_3.length c0_3]] (by rfl) rfl rfl (by simp only [List.map_toArray, List.map_cons, List.map_nil]; rfl) ?_
       with_reducible refine (laws_toImage.calls kj130 a0_0 a0_1 a0_2 _ _ l0_3 t183 t184 t185 t186 _ ?side1 ?side2 A198.out).mono ?_
       (case side1 => repeat (first | exact (Kd.C_below HR0_3.out HB.out) | (with_reducible refine Kd.C_alloc ?_ _) | (with_reducible refine Kd.C_drewN ?_ _) | (with_reducible refine Kd.C_drew ?_)))
       (case side2 => exact HC0_3.out)
       rintro e w215 ⟨v187, rfl, ho0, hb⟩
       refine ⟨_, rfl, ?_⟩
       have HO188 := am_ (Kd.R_lower (Kd.R_new' (Kd.R_new' (Kd.R_new' (Kd.R_new' ho0 (Kd.R_lt (by exact HO_129003.out))) (Kd.R_lt (by exact HO_136003.out))) (Kd.R_lt (by exact HO_143003.out))) (Kd.R_lt (by exact HO_154003.out))) (below_size (hb_ : Below w.heap.size w _)))
       replace HO_129003 := am_ (Kd.R_elder' (by exact HO_129003.out) (Kd.R_base ho0) hb)
       replace HO_136003 := am_ (Kd.R_elder' (by exact HO_136003.out) (Kd.R_base ho0) hb)
       replace HO_143003 := am_ (Kd.R_elder' (by exact HO_143003.out) (Kd.R_base ho0) hb)
       replace HO_154003 := am_ (Kd.R_elder' (by exact HO_154003.out) (Kd.R_base ho0) hb)
       replace BK101 := bb_ BK101 hb
       replace BK102 := bb_ BK102 hb
       replace BK128 := bb_ BK128 hb
       replace BK135 := bb_ BK135 hb
       replace BK142 := bb_ BK142 hb
       replace BK153 := bb_ BK153 hb
       replace BK205 := bb_ BK205 hb
       replace HB := am_ (below_step (hb_ : Below w.heap.size w _) hb)
       (try clear hb)
       (try clear hb2)
       (try clear hk)
       (try clear hi)
       (try clear ho0)
       refine hK.out _ _ (s8_ BK101 BK102) (fun hHeld => ?_)
       clear hK K
       refine norm_ (a' := ?_) ?_ ?_
       rotate_left
       ·
        show Act.put _ (some 117) _ = _
        simp only [Act.put, List.setIfInBounds_toArray, List.set_cons_zero, List.set_cons_succ, i64_w, i32_w]
        rfl
       exact nrm_ (hJ1_10 (_, gb205) _ ⟨hHeld, (by exact Kd.R_mono HO188.out (fun _ hk => ⟨hk.1.1.1.2, ⟨hk.1.1.2, ⟨hk.1.2, hk.2⟩⟩⟩)), (by exact Kd.R_mono HO_129003.out (fun _ hk => ⟨hk.2, ⟨hk.1.1, ⟨hk.1.2.1, hk.1.2.2⟩⟩⟩)), (by exact Kd.R_mono HO_136003.out (fun _ hk => ⟨hk.2, ⟨hk.1.1, ⟨hk.1.2.1, hk.1.2.2⟩⟩⟩)), (by exact Kd.R_mono HO_143003.out (fun _ hk => ⟨hk.2, ⟨hk.1.1, ⟨hk.1.2.1, hk.1.2.2⟩⟩⟩)), (by exact Kd.R_mono HO_154003.out (fun _ hk => ⟨hk.2, ⟨hk.1.1, ⟨hk.1.2.1, hk.1.2.2⟩⟩⟩)), (by exact BK101.out), (by exact BK102.out), (by exact BK128.out), (by exact BK135.out), (by exact BK142.out), (by exact BK153.out), (by exact BK205.out), GW205.out, GE205.out, NB101_205.out, NB205_101.out, NB102_205.out, NB205_102.out, NB128_205.out, NB205_128.out, NB135_205.out, NB205_135.out, NB142_205.out, NB205_142.out, NB153_205.out, NB205_153.out, hb_⟩)
      skip
      rintro v187 w214 ⟨hS_, h0_, h1_, h2_, h3_, h4_, h5_, h6_, h7_, h8_, h9_, h10_, h11_⟩
      (try dsimp only at h0_ h1_ h2_ h3_ h4_ h5_ h6_ h7_ h8_ h9_ h10_ h11_)
      clear HO_129003 HO_136003 HO_143003 HO_154003 BK101 BK102 BK128 BK135 BK142 BK153 HB
      have HO188 := am_ h0_
      have HO_129003 := am_ h1_
      have HO_136003 := am_ h2_
      have HO_143003 := am_ h3_
      have HO_154003 := am_ h4_
      have BK101 := am_ h5_
      have BK102 := am_ h6_
      have BK128 := am_ h7_
      have BK135 := am_ h8_
      have BK142 := am_ h9_
      have BK153 := am_ h10_
      have HB := am_ h11_
      clear h0_ h1_ h2_ h3_ h4_ h5_ h6_ h7_ h8_ h9_ h10_ h11_
      have hHeld := hS_
      refine norm_ (a' := ?_) ?_ ?_
      rotate_left
      ·
       simp only [putAll, Act.put, List.setIfInBounds_toArray, List.set_cons_zero, List.set_cons_succ]
       rfl
      refine two_ (i := 3) (j := 10) (Ni := some 119) (Nj := some 18) #[true, true, true, true, true, false, false, false, false, false, false, false, false] #[true, true, true, false, true, false, false, false, false, false, true, false, false] rfl rfl rfl rfl (two_of HT_.out (by kernel_rfl)) (by decide) (by decide) (fun K hK => ?_) (fun K hK => ?_)
      ·
       skip
       refine goes_ Try.func12 (by kernel_rfl) rfl #[.agg #[.int .i64 a1_0, .int .i64 a1_1, .int .i64 a1_2, .slice A1_3 l1_3.length c1_3]] (by rfl) rfl rfl (by simp only [List.map_toArray, List.map_cons, List.map_nil]; rfl) ?_
       with_reducible refine (laws_toImage.calls kj130 a1_0 a1_1 a1_2 _ _ l1_3 t189 t190 t191 t192 _ ?side1 ?side2 A199.out).mono ?_
       (case side1 => repeat (first | exact (Kd.C_below HR1_3.out HB.out) | (with_reducible refine Kd.C_alloc ?_ _) | (with_reducible refine Kd.C_drewN ?_ _) | (with_reducible refine Kd.C_drew ?_)))
       (case side2 => exact HC1_3.out)
       rintro e w215 ⟨v193, rfl, ho0, hb⟩
       refine ⟨_, rfl, ?_⟩
       have HO194 := am_ (Kd.R_lower (Kd.R_new' (Kd.R_new' (Kd.R_new' (Kd.R_new' (Kd.R_new' ho0 (Kd.R_lt (by exact HO_129003.out))) (Kd.R_lt (by exact HO_136003.out))) (Kd.R_lt (by exact HO_143003.out))) (Kd.R_lt (by exact HO_154003.out))) (Kd.R_lt (by exact HO188.out))) (below_size (hb_ : Below w.heap.size w _)))
       replace HO_129003 := am_ (Kd.R_elder' (by exact HO_129003.out) (Kd.R_base ho0) hb)
       replace HO_136003 := am_ (Kd.R_elder' (by exact HO_136003.out) (Kd.R_base ho0) hb)
       replace HO_143003 := am_ (Kd.R_elder' (by exact HO_143003.out) (Kd.R_base ho0) hb)
       replace HO_154003 := am_ (Kd.R_elder' (by exact HO_154003.out) (Kd.R_base ho0) hb)
       replace HO188 := am_ (Kd.R_elder' (by exact HO188.out) (Kd.R_base ho0) hb)
       replace BK101 := bb_ BK101 hb
       replace BK102 := bb_ BK102 hb
       replace BK128 := bb_ BK128 hb
       replace BK135 := bb_ BK135 hb
       replace BK142 := bb_ BK142 hb
       replace BK153 := bb_ BK153 hb
       replace HB := am_ (below_step (hb_ : Below w.heap.size w _) hb)
       (try clear hb)
       (try clear hb2)
       (try clear hk)
       (try clear hi)
       (try clear ho0)
       refine hK.out _ _ (s8_ BK101 BK102) (fun hHeld => ?_)
       clear hK K
       refine norm_ (a' := ?_) ?_ ?_
       rotate_left
       ·
        show Act.put _ (some 119) _ = _
        simp only [Act.put, List.setIfInBounds_toArray, List.set_cons_zero, List.set_cons_succ, i64_w, i32_w]
        rfl
       exact nrm_ (hJ1_3 (_, _) _ ⟨hHeld, (by exact Kd.R_mono HO188.out (fun _ hk => ⟨hk.2, ⟨hk.1.1, ⟨hk.1.2.1, ⟨hk.1.2.2.1, hk.1.2.2.2⟩⟩⟩⟩)), (by exact Kd.R_mono HO194.out (fun _ hk => ⟨hk.2, ⟨hk.1.1.1.1.2, ⟨hk.1.1.1.2, ⟨hk.1.1.2, hk.1.2⟩⟩⟩⟩)), (by exact Kd.R_mono HO_129003.out (fun _ hk => ⟨hk.1.1, ⟨hk.2, ⟨hk.1.2.1, ⟨hk.1.2.2.1, hk.1.2.2.2⟩⟩⟩⟩)), (by exact Kd.R_mono HO_136003.out (fun _ hk => ⟨hk.1.1, ⟨hk.2, ⟨hk.1.2.1, ⟨hk.1.2.2.1, hk.1.2.2.2⟩⟩⟩⟩)), (by exact Kd.R_mono HO_143003.out (fun _ hk => ⟨hk.1.1, ⟨hk.2, ⟨hk.1.2.1, ⟨hk.1.2.2.1, hk.1.2.2.2⟩⟩⟩⟩)), (by exact Kd.R_mono HO_154003.out (fun _ hk => ⟨hk.1.1, ⟨hk.2, ⟨hk.1.2.1, ⟨hk.1.2.2.1, hk.1.2.2.2⟩⟩⟩⟩)), (by exact BK101.out), (by exact BK102.out), (by exact BK128.out), (by exact BK135.out), (by exact BK142.out), (by exact BK153.out), hb_⟩)
      skip
      refine box_step ?hg (N := 18) ?hd (cs := #[.int .i64 0, .int .i64 0, .int .i64 0, .slice none 0 0]) (t := 25) ?hr ?_; (case hd => rfl); (case hg => rfl); (case hr => first | (go_simp; done) | (go_simp; rfl))
      intro gb205 hg w215 hbox hb
      replace HO_129003 := rb_ HO_129003 hb
      replace HO_136003 := rb_ HO_136003 hb
      replace HO_143003 := rb_ HO_143003 hb
      replace HO_154003 := rb_ HO_154003 hb
      replace HO188 := rb_ HO188 hb
      have BK205 := am_ (hbox)
      have GW205 := am_ ((by rw [hg]; exact (below_size (hb_ : Below w.heap.size w _)) : w.heap.size ≤ gb205))
      have GE205 := GW205
      replace HB := am_ (below_step (hb_ : Below w.heap.size w _) hb)
      have NB101_205 := nb_ hg BK101
      have NB205_101 := nc_ NB101_205
      replace BK101 := bb_ BK101 hb
      have NB102_205 := nb_ hg BK102
      have NB205_102 := nc_ NB102_205
      replace BK102 := bb_ BK102 hb
      have NB128_205 := nb_ hg BK128
      have NB205_128 := nc_ NB128_205
      replace BK128 := bb_ BK128 hb
      have NB135_205 := nb_ hg BK135
      have NB205_135 := nc_ NB135_205
      replace BK135 := bb_ BK135 hb
      have NB142_205 := nb_ hg BK142
      have NB205_142 := nc_ NB142_205
      replace BK142 := bb_ BK142 hb
      have NB153_205 := nb_ hg BK153
      have NB205_153 := nc_ NB153_205
      replace BK153 := bb_ BK153 hb
      clear hb hbox hg
      refine hK.out _ _ (s8_ BK101 BK102) (fun hHeld => ?_)
      clear hK K
      refine norm_ (a' := ?_) ?_ ?_
      rotate_left
      ·
       show Act.put _ (some 18) _ = _
       simp only [Act.put, List.setIfInBounds_toArray, List.set_cons_zero, List.set_cons_succ, i64_w, i32_w]
       rfl
      exact nrm_ (hJ1_10 (_, gb205) _ ⟨hHeld, (by exact HO188.out), (by exact HO_129003.out), (by exact HO_136003.out), (by exact HO_143003.out), (by exact HO_154003.out), (by exact BK101.out), (by exact BK102.out), (by exact BK128.out), (by exact BK135.out), (by exact BK142.out), (by exact BK153.out), (by exact BK205.out), GW205.out, GE205.out, NB101_205.out, NB205_101.out, NB102_205.out, NB205_102.out, NB128_205.out, NB205_128.out, NB135_205.out, NB205_135.out, NB142_205.out, NB205_142.out, NB153_205.out, NB205_153.out, hb_⟩)
     rintro ⟨v187, v193, v196, v202, gb205⟩ w221 ⟨hS_, h0_, h1_, h2_, h3_, h4_, h5_, h6_, h7_, h8_, h9_, h10_, h11_, h12_, h13_, h14_, h15_, h16_, h17_, h18_, h19_, h20_, h21_, h22_, h23_, h24_, h25_, h26_, h27_, h28_, h29_⟩
     (try dsimp only at h0_ h1_ h2_ h3_ h4_ h5_ h6_ h7_ h8_ h9_ h10_ h11_ h12_ h13_ h14_ h15_ h16_ h17_ h18_ h19_ h20_ h21_ h22_ h23_ h24_ h25_ h26_ h27_ h28_ h29_)
     clear HO_129003 HO_136003 HO_143003 HO_154003 BK101 BK102 BK128 BK135 BK142 BK153 HB
     have HO188 := am_ h0_
     have HO194 := am_ h1_
     have HO197 := am_ h2_
     have HO203 := am_ h3_
     have HO_129003 := am_ h4_
     have HO_136003 := am_ h5_
     have HO_143003 := am_ h6_
     have HO_154003 := am_ h7_
     have BK101 := am_ h8_
     have BK102 := am_ h9_
     have BK128 := am_ h10_
     have BK135 := am_ h11_
     have BK142 := am_ h12_
     have BK153 := am_ h13_
     have BK205 := am_ h14_
     have GW205 := am_ h15_
     have GE205 := am_ h16_
     have NB101_205 := am_ h17_
     have NB205_101 := am_ h18_
     have NB102_205 := am_ h19_
     have NB205_102 := am_ h20_
     have NB128_205 := am_ h21_
     have NB205_128 := am_ h22_
     have NB135_205 := am_ h23_
     have NB205_135 := am_ h24_
     have NB142_205 := am_ h25_
     have NB205_142 := am_ h26_
     have NB153_205 := am_ h27_
     have NB205_153 := am_ h28_
     have HB := am_ h29_
     clear h0_ h1_ h2_ h3_ h4_ h5_ h6_ h7_ h8_ h9_ h10_ h11_ h12_ h13_ h14_ h15_ h16_ h17_ h18_ h19_ h20_ h21_ h22_ h23_ h24_ h25_ h26_ h27_ h28_ h29_
     have hHeld := hS_
     obtain ⟨Ao225, co225, eo225⟩ := Kd.R_slice HO203.out
     (first | subst eo225 | (injection eo225 with f1_ f2_ f3_; have f4_ := f1_.symm; have f5_ := f3_.symm; clear f1_ f2_ f3_; subst f4_; subst f5_))
     refine norm_ (a' := ?_) ?_ ?_
     rotate_left
     ·
      simp only [putAll, Act.put, List.setIfInBounds_toArray, List.set_cons_zero, List.set_cons_succ]
      rfl
     refine one_ (i := 11) (N := none) #[true, true, true, true, true, true, true, true, true, true, true, true, false] rfl rfl (one_of HT_.out (by kernel_rfl)) (by decide) (fun K hK => ?_)
     have hs222 : w221.cell? ⟨gb205, 0, none⟩ = some (.int .i64 0) := (blk_cell BK205.out 0).trans rfl
     have hfs222 := blk_frozen BK205.out 0
     have hns222_0 := NB101_205.out
     have hns222_1 := NB102_205.out
     have hns222_2 := NB128_205.out
     have hns222_3 := NB135_205.out
     have hns222_4 := NB142_205.out
     have hns222_5 := NB153_205.out
     have hms222_0 := NB205_101.out
     have hms222_1 := NB205_102.out
     have hms222_2 := NB205_128.out
     have hms222_3 := NB205_135.out
     have hms222_4 := NB205_142.out
     have hms222_5 := NB205_153.out
     have hs223 : w221.cell? ⟨gb205, 1, none⟩ = some (.int .i64 0) := (blk_cell BK205.out 1).trans rfl
     have hfs223 := blk_frozen BK205.out 1
     have hns223_0 := NB101_205.out
     have hns223_1 := NB102_205.out
     have hns223_2 := NB128_205.out
     have hns223_3 := NB135_205.out
     have hns223_4 := NB142_205.out
     have hns223_5 := NB153_205.out
     have hms223_0 := NB205_101.out
     have hms223_1 := NB205_102.out
     have hms223_2 := NB205_128.out
     have hms223_3 := NB205_135.out
     have hms223_4 := NB205_142.out
     have hms223_5 := NB205_153.out
     have hs224 : w221.cell? ⟨gb205, 2, none⟩ = some (.int .i64 0) := (blk_cell BK205.out 2).trans rfl
     have hfs224 := blk_frozen BK205.out 2
     have hns224_0 := NB101_205.out
     have hns224_1 := NB102_205.out
     have hns224_2 := NB128_205.out
     have hns224_3 := NB135_205.out
     have hns224_4 := NB142_205.out
     have hns224_5 := NB153_205.out
     have hms224_0 := NB205_101.out
     have hms224_1 := NB205_102.out
     have hms224_2 := NB205_128.out
     have hms224_3 := NB205_135.out
     have hms224_4 := NB205_142.out
     have hms224_5 := NB205_153.out
     have hs226 : w221.cell? ⟨gb205, 3, none⟩ = some (.slice none 0 0) := (blk_cell BK205.out 3).trans rfl
     have hfs226 := blk_frozen BK205.out 3
     have hns226_0 := NB101_205.out
     have hns226_1 := NB102_205.out
     have hns226_2 := NB128_205.out
     have hns226_3 := NB135_205.out
     have hns226_4 := NB142_205.out
     have hns226_5 := NB153_205.out
     have hms226_0 := NB205_101.out
     have hms226_1 := NB205_102.out
     have hms226_2 := NB205_128.out
     have hms226_3 := NB205_135.out
     have hms226_4 := NB205_142.out
     have hms226_5 := NB205_153.out
     refine skip_ (w1 := ?_) (by rfl) rfl ?_ ?_
     rotate_left
     ·
      go_simp
      rfl
     refine hK.out _ _ ⟨((cell_far (p := ⟨gb205, _, none⟩) NB101_205.out _).trans (((cell_far (p := ⟨gb205, _, none⟩) NB101_205.out _).trans (((cell_far (p := ⟨gb205, _, none⟩) NB101_205.out _).trans (((cell_far (p := ⟨gb205, _, none⟩) NB101_205.out _).trans (hHeld.1)))))))), ((cell_far (p := ⟨gb205, _, none⟩) NB101_205.out _).trans (((cell_far (p := ⟨gb205, _, none⟩) NB101_205.out _).trans (((cell_far (p := ⟨gb205, _, none⟩) NB101_205.out _).trans (((cell_far (p := ⟨gb205, _, none⟩) NB101_205.out _).trans (hHeld.2.1)))))))), ((cell_far (p := ⟨gb205, _, none⟩) NB101_205.out _).trans (((cell_far (p := ⟨gb205, _, none⟩) NB101_205.out _).trans (((cell_far (p := ⟨gb205, _, none⟩) NB101_205.out _).trans (((cell_far (p := ⟨gb205, _, none⟩) NB101_205.out _).trans (hHeld.2.2.1)))))))), ((cell_far (p := ⟨gb205, _, none⟩) NB101_205.out _).trans (((cell_far (p := ⟨gb205, _, none⟩) NB101_205.out _).trans (((cell_far (p := ⟨gb205, _, none⟩) NB101_205.out _).trans (((cell_far (p := ⟨gb205, _, none⟩) NB101_205.out _).trans (hHeld.2.2.2.1)))))))), ((cell_far (p := ⟨gb205, _, none⟩) NB102_205.out _).trans (((cell_far (p := ⟨gb205, _, none⟩) NB102_205.out _).trans (((cell_far (p := ⟨gb205, _, none⟩) NB102_205.out _).trans (((cell_far (p := ⟨gb205, _, none⟩) NB102_205.out _).trans (hHeld.2.2.2.2.1)))))))), ((cell_far (p := ⟨gb205, _, none⟩) NB102_205.out _).trans (((cell_far (p := ⟨gb205, _, none⟩) NB102_205.out _).trans (((cell_far (p := ⟨gb205, _, none⟩) NB102_205.out _).trans (((cell_far (p := ⟨gb205, _, none⟩) NB102_205.out _).trans (hHeld.2.2.2.2.2.1)))))))), ((cell_far (p := ⟨gb205, _, none⟩) NB102_205.out _).trans (((cell_far (p := ⟨gb205, _, none⟩) NB102_205.out _).trans (((cell_far (p := ⟨gb205, _, none⟩) NB102_205.out _).trans (((cell_far (p := ⟨gb205, _, none⟩) NB102_205.out _).trans (hHeld.2.2.2.2.2.2.1)))))))), ((cell_far (p := ⟨gb205, _, none⟩) NB102_205.out _).trans (((cell_far (p := ⟨gb205, _, none⟩) NB102_205.out _).trans (((cell_far (p := ⟨gb205, _, none⟩) NB102_205.out _).trans (((cell_far (p := ⟨gb205, _, none⟩) NB102_205.out _).trans (hHeld.2.2.2.2.2.2.2))))))))⟩ (fun hHeld => ?_)
     clear hK K
     refine pure_ (i := 12) (N := some 19) (v := ?_) (a' := ?_) #[true, true, true, true, true, true, true, true, true, true, true, true, true] rfl rfl (any_of HT_.out (by kernel_rfl)) (fun _ _ _ h => h) (Or.inl ⟨by rfl, ?_⟩) ?_ ?_
     rotate_left
     ·
      intro w'
      go_simp
      with_reducible rfl
     rotate_left
     ·
      simp only [Act.put, List.setIfInBounds_toArray, List.set_cons_zero, List.set_cons_succ, i64_w, i32_w]
      rfl
     refine done_ (done_of HT_.out (by kernel_rfl)) ?_
     go_upto_region 39 with (fail)
     go_cut [133] (fun v133 wc => ∃ (kq : Nat) (x133_201 : Bool), v133 = .bool x133_201 ∧ Aside0 (laws_FnExactMaskImage.j2 kq t180 x133_201 t146 t147 t148 t181 = some r) ∧ Aside0 (kq ≤ kj130) ∧ Aside0 (Kd.R (Kd.int .i64) 3 wc w.heap.size (fun k_ => some k_ ≠ ((.slice Ao68 t174.length co68) : Value).ownBlock ∧ some k_ ≠ ((.slice Ao78 t176.length co78) : Value).ownBlock ∧ some k_ ≠ ((.slice Ao91 t149.length co91) : Value).ownBlock ∧ some k_ ≠ ((.slice Ao225 t201.length co225) : Value).ownBlock) (.slice Ao58 t124.length co58) t124) ∧ Aside0 (Kd.R (Kd.int .i64) 3 wc w.heap.size (fun k_ => some k_ ≠ ((.slice Ao58 t124.length co58) : Value).ownBlock ∧ some k_ ≠ ((.slice Ao78 t176.length co78) : Value).ownBlock ∧ some k_ ≠ ((.slice Ao91 t149.length co91) : Value).ownBlock ∧ some k_ ≠ ((.slice Ao225 t201.length co225) : Value).ownBlock) (.slice Ao68 t174.length co68) t174) ∧ Aside0 (Kd.R (Kd.int .i64) 3 wc w.heap.size (fun k_ => some k_ ≠ ((.slice Ao58 t124.length co58) : Value).ownBlock ∧ some k_ ≠ ((.slice Ao68 t174.length co68) : Value).ownBlock ∧ some k_ ≠ ((.slice Ao91 t149.length co91) : Value).ownBlock ∧ some k_ ≠ ((.slice Ao225 t201.length co225) : Value).ownBlock) (.slice Ao78 t176.length co78) t176) ∧ Aside0 (Kd.R (Kd.int .i64) 3 wc w.heap.size (fun k_ => some k_ ≠ ((.slice Ao58 t124.length co58) : Value).ownBlock ∧ some k_ ≠ ((.slice Ao68 t174.length co68) : Value).ownBlock ∧ some k_ ≠ ((.slice Ao78 t176.length co78) : Value).ownBlock ∧ some k_ ≠ ((.slice Ao225 t201.length co225) : Value).ownBlock) (.slice Ao91 t149.length co91) t181) ∧ Aside0 (Kd.R (Kd.int .i64) 3 wc w.heap.size (fun k_ => some k_ ≠ ((.slice Ao58 t124.length co58) : Value).ownBlock ∧ some k_ ≠ ((.slice Ao68 t174.length co68) : Value).ownBlock ∧ some k_ ≠ ((.slice Ao78 t176.length co78) : Value).ownBlock ∧ some k_ ≠ ((.slice Ao91 t149.length co91) : Value).ownBlock) (.slice Ao225 t201.length co225) t201) ∧ Aside0 (wc.heap[gb101]? = some (.cells #[.int .i64 a0_0, .int .i64 a0_1, .int .i64 a0_2, (.slice A0_3 l0_3.length c0_3)] 34 (0, 0))) ∧ Aside0 (wc.heap[gb102]? = some (.cells #[.int .i64 a1_0, .int .i64 a1_1, .int .i64 a1_2, (.slice A1_3 l1_3.length c1_3)] 34 (0, 0))) ∧ Aside0 (wc.heap[gb128]? = some (.cells #[.int .i64 t121, .int .i64 t122, .int .i64 t123, (.slice Ao58 t124.length co58)] 25 (0, 0))) ∧ Aside0 (wc.heap[gb135]? = some (.cells #[.int .i64 t129, .int .i64 t130, .int .i64 t131, (.slice Ao68 t174.length co68)] 25 (0, 0))) ∧ Aside0 (wc.heap[gb142]? = some (.cells #[.int .i64 t136, .int .i64 t137, .int .i64 t138, (.slice Ao78 t176.length co78)] 25 (0, 0))) ∧ Aside0 (wc.heap[gb153]? = some (.cells #[.int .i64 t146, .int .i64 t147, .int .i64 t148, (.slice Ao91 t149.length co91)] 25 (0, 0))) ∧ Aside0 (wc.heap[gb205]? = some (.cells #[.int .i64 t198, .int .i64 t199, .int .i64 t200, (.slice Ao225 t201.length co225)] 25 (0, 0))) ∧ Aside0 (Below w.heap.size w wc))
     case first =>
      have H := HC202.out
      clear HC202
      replace H := Option.bind_eq_some_iff.mp H
      obtain ⟨t206, A2270, H⟩ := H
      (try dsimp only at H)
      have A227 := Aside0.mk A2270
      clear A2270
      by_cases c228 : t206 = true
      ·
       subst c228
       rw [if_pos rfl] at H
       have H' := Aside0.mk H
       clear H
       have hnb229 := NB205_101.out
       have hnc229 := NB101_205.out
       have hnb230 := NB205_102.out
       have hnc230 := NB102_205.out
       have hnb231 := NB205_128.out
       have hnc231 := NB128_205.out
       have hnb232 := NB205_135.out
       have hnc232 := NB135_205.out
       have hnb233 := NB205_142.out
       have hnc233 := NB142_205.out
       have hnb234 := NB205_153.out
       have hnc234 := NB153_205.out
       obtain ⟨hcz235_0, hcz235_1, hcz235_2, hcz235_3, hfz235_0, hfz235_1, hfz235_2, hfz235_3⟩ := blk4_ BK205.out
       have hnb236 := NB128_101.out
       have hnc236 := NB101_128.out
       have hnb237 := NB128_102.out
       have hnc237 := NB102_128.out
       have hnb238 := NB128_135.out
       have hnc238 := NB135_128.out
       have hnb239 := NB128_142.out
       have hnc239 := NB142_128.out
       have hnb240 := NB128_153.out
       have hnc240 := NB153_128.out
       obtain ⟨hcz241_0, hcz241_1, hcz241_2, hcz241_3, hfz241_0, hfz241_1, hfz241_2, hfz241_3⟩ := blk4_ BK128.out
       go_wp2_with (first | ((with_reducible refine gate_callee (f := 14) rfl ?_); refine goesL_ (some 127) rfl rfl Try.func14 (by kernel_rfl) rfl #[.agg #[.int .i64 t198, .int .i64 t199, .int .i64 t200, .slice Ao225 t201.length co225], .agg #[.int .i64 t121, .int .i64 t122, .int .i64 t123, .slice Ao58 t124.length co58]] rfl (by simp only [List.map_toArray, List.map_cons, List.map_nil]; rfl) ?_; (with_reducible refine (laws_eqImage.calls kj130 t198 t199 t200 _ _ t201 t121 t122 t123 _ _ t124 true _ ?side1 ?side2 ?side3 ?side4 A227.out).mono ?_); (case side1 => refine (Kd.R_reads' (e := 3) (base := w.heap.size) (ok := fun k_ => (some k_ ≠ (v187 : Value).ownBlock ∧ (some k_ ≠ (v193 : Value).ownBlock ∧ (some k_ ≠ (.slice Ao58 t124.length co58 : Value).ownBlock ∧ (some k_ ≠ (.slice Ao68 t174.length co68 : Value).ownBlock ∧ (some k_ ≠ (.slice Ao78 t176.length co78 : Value).ownBlock ∧ some k_ ≠ (.slice Ao91 t149.length co91 : Value).ownBlock)))))) (n := t201.length) (c := co225) ?_).2.2; exact (by exact (R4_ HO203.out BK205.out (by decide) _ _ _ _))); (case side2 => exact (Kd.R_reads' HO203.out).2.1); (case side3 => refine (Kd.R_reads' (e := 3) (base := w.heap.size) (ok := fun k_ => (some k_ ≠ (v187 : Value).ownBlock ∧ (some k_ ≠ (v193 : Value).ownBlock ∧ (some k_ ≠ (.slice Ao225 t201.length co225 : Value).ownBlock ∧ (some k_ ≠ (.slice Ao68 t174.length co68 : Value).ownBlock ∧ (some k_ ≠ (.slice Ao78 t176.length co78 : Value).ownBlock ∧ some k_ ≠ (.slice Ao91 t149.length co91 : Value).ownBlock)))))) (n := t124.length) (c := co58) ?_).2.2; exact (by exact (R4_ HO_129003.out BK205.out (by decide) _ _ _ _))); (case side4 => exact (Kd.R_reads' HO_129003.out).2.1); rintro e w242 ⟨rfl, hb⟩; refine ⟨_, rfl, ?_⟩; replace HO_129003 := am_ (Kd.R_below (by exact (R4_ HO_129003.out BK205.out (by decide) _ _ _ _)) hb); replace HO_136003 := am_ (Kd.R_below (by exact (R4_ HO_136003.out BK205.out (by decide) _ _ _ _)) hb); replace HO_143003 := am_ (Kd.R_below (by exact (R4_ HO_143003.out BK205.out (by decide) _ _ _ _)) hb); replace HO_154003 := am_ (Kd.R_below (by exact (R4_ HO_154003.out BK205.out (by decide) _ _ _ _)) hb); replace HO188 := am_ (Kd.R_below (by exact (R4_ HO188.out BK205.out (by decide) _ _ _ _)) hb); replace HO194 := am_ (Kd.R_below (by exact (R4_ HO194.out BK205.out (by decide) _ _ _ _)) hb); replace HO197 := am_ (Kd.R_below (by exact (R4_ HO197.out BK205.out (by decide) _ _ _ _)) hb); replace HO203 := am_ (Kd.R_below (by exact (R4_ HO203.out BK205.out (by decide) _ _ _ _)) hb); replace BK101 := am_ (blk_below (by exact far4_ BK101.out NB101_205.out _ _ _ _) hb); replace BK102 := am_ (blk_below (by exact far4_ BK102.out NB102_205.out _ _ _ _) hb); replace BK128 := am_ (blk_below (by exact far4_ BK128.out NB128_205.out _ _ _ _) hb); replace BK135 := am_ (blk_below (by exact far4_ BK135.out NB135_205.out _ _ _ _) hb); replace BK142 := am_ (blk_below (by exact far4_ BK142.out NB142_205.out _ _ _ _) hb); replace BK153 := am_ (blk_below (by exact far4_ BK153.out NB153_205.out _ _ _ _) hb); replace BK205 := am_ (blk_below (by exact put4_ BK205.out _ _ _ _) hb); replace HB := am_ (below_step (hb_ : Below w.heap.size w _) hb); (try clear hb)))
       go_meet
       case rel => exact ⟨_, ((t204 != t127)), (by first | rfl | (simp; done) | (simp [*]; done)), H', ⟨by have := HJ36.out; have := HJ130.out; first | omega | exact Nat.le_refl _⟩, ⟨by (try simp only [hl136003_130]); (try simp only [hl143003_130]); (with_reducible repeat (first | apply Kd.R_alloc | apply Kd.R_drewN | apply Kd.R_drew)); exact Kd.R_mono HO_129003.out (fun _ hk => ⟨hk.2.2.2.1, ⟨hk.2.2.2.2.1, ⟨hk.2.2.2.2.2, hk.2.2.1⟩⟩⟩)⟩, ⟨by (try simp only [hl136003_130]); (try simp only [hl143003_130]); (with_reducible repeat (first | apply Kd.R_alloc | apply Kd.R_drewN | apply Kd.R_drew)); exact Kd.R_mono HO_136003.out (fun _ hk => ⟨hk.2.2.2.1, ⟨hk.2.2.2.2.1, ⟨hk.2.2.2.2.2, hk.2.2.1⟩⟩⟩)⟩, ⟨by (try simp only [hl136003_130]); (try simp only [hl143003_130]); (with_reducible repeat (first | apply Kd.R_alloc | apply Kd.R_drewN | apply Kd.R_drew)); exact Kd.R_mono HO_143003.out (fun _ hk => ⟨hk.2.2.2.1, ⟨hk.2.2.2.2.1, ⟨hk.2.2.2.2.2, hk.2.2.1⟩⟩⟩)⟩, ⟨by (try simp only [hl136003_130]); (try simp only [hl143003_130]); (with_reducible repeat (first | apply Kd.R_alloc | apply Kd.R_drewN | apply Kd.R_drew)); exact Kd.R_mono HO_154003.out (fun _ hk => ⟨hk.2.2.2.1, ⟨hk.2.2.2.2.1, ⟨hk.2.2.2.2.2, hk.2.2.1⟩⟩⟩)⟩, ⟨by (try simp only [hl136003_130]); (try simp only [hl143003_130]); (with_reducible repeat (first | apply Kd.R_alloc | apply Kd.R_drewN | apply Kd.R_drew)); exact Kd.R_mono HO203.out (fun _ hk => ⟨hk.2.2.1, ⟨hk.2.2.2.1, ⟨hk.2.2.2.2.1, hk.2.2.2.2.2⟩⟩⟩)⟩, ⟨by (try simp only [hl136003_130]); (try simp only [hl143003_130]); (with_reducible repeat (first | refine blk_drewN ?_ _ | refine blk_drew ?_ | refine blk_alloc ?_ _)); exact BK101.out⟩, ⟨by (try simp only [hl136003_130]); (try simp only [hl143003_130]); (with_reducible repeat (first | refine blk_drewN ?_ _ | refine blk_drew ?_ | refine blk_alloc ?_ _)); exact BK102.out⟩, ⟨by (try simp only [hl136003_130]); (try simp only [hl143003_130]); (with_reducible repeat (first | refine blk_drewN ?_ _ | refine blk_drew ?_ | refine blk_alloc ?_ _)); exact BK128.out⟩, ⟨by (try simp only [hl136003_130]); (try simp only [hl143003_130]); (with_reducible repeat (first | refine blk_drewN ?_ _ | refine blk_drew ?_ | refine blk_alloc ?_ _)); exact BK135.out⟩, ⟨by (try simp only [hl136003_130]); (try simp only [hl143003_130]); (with_reducible repeat (first | refine blk_drewN ?_ _ | refine blk_drew ?_ | refine blk_alloc ?_ _)); exact BK142.out⟩, ⟨by (try simp only [hl136003_130]); (try simp only [hl143003_130]); (with_reducible repeat (first | refine blk_drewN ?_ _ | refine blk_drew ?_ | refine blk_alloc ?_ _)); exact BK153.out⟩, ⟨by (try simp only [hl136003_130]); (try simp only [hl143003_130]); (with_reducible repeat (first | refine blk_drewN ?_ _ | refine blk_drew ?_ | refine blk_alloc ?_ _)); exact BK205.out⟩, ⟨by repeat (first | (with_reducible first | exact HB.out | apply below_alloc | apply pw_below_drewN | apply below_drew1 | refine below_set ?_ GE101.out | refine below_set ?_ GE102.out | refine below_set ?_ GE128.out | refine below_set ?_ GE135.out | refine below_set ?_ GE142.out | refine below_set ?_ GE153.out | refine below_set ?_ GE205.out) | exact HB.out)⟩⟩
      replace c228 := Bool.eq_false_iff.mpr c228
      subst c228
      have H1 : (none) = some r := by rw [if_neg (show ¬ (false = true) by decide)] at H; exact H
      exact absurd H1 (by simp)
     case rest =>
      clear HC202
      try clear c1
      try clear c2
      try clear p2
      try clear c6
      try clear c14
      try clear c22
      try clear c23
      try clear c24
      try clear c25
      try clear c228
      try clear c229
      try clear c230
      try clear c231
      try clear c232
      try clear c233
      try clear c234
      try clear c236
      try clear c237
      try clear c238
      try clear c239
      try clear c240
      try clear c243
      try clear c244
      try clear c245
      try clear c246
      try clear c247
      try clear c248
      try clear c250
      try clear c251
      try clear c252
      try clear c253
      try clear c254
      try clear hcz235_0
      try clear hcz235_1
      try clear hcz235_2
      try clear hcz235_3
      try clear hcz241_0
      try clear hcz241_1
      try clear hcz241_2
      try clear hcz241_3
      try clear hcz249_0
      try clear hcz249_1
      try clear hcz249_2
      try clear hcz249_3
      try clear hcz255_0
      try clear hcz255_1
      try clear hcz255_2
      try clear hcz255_3
      try clear hfz235_0
      try clear hfz235_1
      try clear hfz235_2
      try clear hfz235_3
      try clear hfz241_0
      try clear hfz241_1
      try clear hfz241_2
      try clear hfz241_3
      try clear hfz249_0
      try clear hfz249_1
      try clear hfz249_2
      try clear hfz249_3
      try clear hfz255_0
      try clear hfz255_1
      try clear hfz255_2
      try clear hfz255_3
      obtain ⟨kq, x133_201, rfl, HA, HJ201, HO_129003, HO_136003, HO_143003, HO_154003, HO_206003, BK101, BK102, BK128, BK135, BK142, BK153, BK205, HB⟩ := hcut
      have hl154003_201 := (Kd.R_reads' HO_154003.out).1
      rw [hl154003_201] at HO_154003
      (try simp only [hl154003_201])
      (try simp only [hl154003_201] at BK101)
      (try simp only [hl154003_201] at BK102)
      (try simp only [hl154003_201] at BK128)
      (try simp only [hl154003_201] at BK135)
      (try simp only [hl154003_201] at BK142)
      (try simp only [hl154003_201] at BK153)
      (try simp only [hl154003_201] at BK205)
      (try simp only [hl154003_201] at HO_129003)
      (try simp only [hl154003_201] at HO_136003)
      (try simp only [hl154003_201] at HO_143003)
      (try simp only [hl154003_201] at HO_206003)
      cases kq with
      | zero => exact absurd HA.out (by simp [laws_FnExactMaskImage.j2])
      | succ kj201 =>
       have H := HA.out
       clear HA
       simp only [laws_FnExactMaskImage.j2] at H
       by_cases c257 : x133_201 = true
       ·
        subst c257
        have H1 : (none) = some r := by rw [if_pos rfl] at H; exact H
        exact absurd H1 (by simp)
       replace c257 := Bool.eq_false_iff.mpr c257
       subst c257
       rw [if_neg (show ¬ (false = true) by decide)] at H
       replace H := Option.bind_eq_some_iff.mp H
       obtain ⟨t207, A2580, H⟩ := H
       (try dsimp only at H)
       have A258 := Aside0.mk A2580
       clear A2580
       by_cases c259 : t207 < 0
       ·
        rw [if_pos c259] at H
        exact absurd H (by simp)
       rw [if_neg c259] at H
       have c259b0 : decide (t207 < 0) = false := decide_eq_false c259
       clear c259
       by_cases c268 : t207 = t180
       ·
        rw [if_pos c268] at H
        have c268b0 : (t207 == t180) = true := beq_iff_eq.mpr c268
        have c268b1 : (t207 != t180) = false := bne_eq_false_iff_eq.mpr c268
        clear c268
        obtain rfl := Option.some.inj H
        have hnb269 := NB153_101.out
        have hnc269 := NB101_153.out
        have hnb270 := NB153_102.out
        have hnc270 := NB102_153.out
        have hnb271 := NB153_128.out
        have hnc271 := NB128_153.out
        have hnb272 := NB153_135.out
        have hnc272 := NB135_153.out
        have hnb273 := NB153_142.out
        have hnc273 := NB142_153.out
        have hnb274 := NB153_205.out
        have hnc274 := NB205_153.out
        obtain ⟨hcz275_0, hcz275_1, hcz275_2, hcz275_3, hfz275_0, hfz275_1, hfz275_2, hfz275_3⟩ := blk4_ BK153.out
        go_wp2_with (first | ((with_reducible refine gate_callee (f := 18) rfl ?_); refine goesL_ (some 136) rfl rfl Try.func18 (by kernel_rfl) rfl #[.agg #[.int .i64 t146, .int .i64 t147, .int .i64 t148, .slice Ao91 t181.length co91], .int .i64 1] rfl (by simp only [List.map_toArray, List.map_cons, List.map_nil]; rfl) ?_; (with_reducible refine (laws_heldImage.calls kj201 t146 t147 t148 _ _ t181 1 t207 _ ?side1 ?side2 A258.out).mono ?_); (case side1 => repeat (first | exact (Kd.R_reads' HO_154003.out).2.2 | (with_reducible refine Kd.C_alloc ?_ _) | (with_reducible refine Kd.C_drewN ?_ _) | (with_reducible refine Kd.C_drew ?_))); (case side2 => exact (Kd.R_reads' HO_154003.out).2.1); rintro e w276 ⟨rfl, hb⟩; refine ⟨_, rfl, ?_⟩; replace HO_129003 := rb_ HO_129003 hb; replace HO_136003 := rb_ HO_136003 hb; replace HO_143003 := rb_ HO_143003 hb; replace HO_154003 := rb_ HO_154003 hb; replace HO_206003 := rb_ HO_206003 hb; replace BK101 := bb_ BK101 hb; replace BK102 := bb_ BK102 hb; replace BK128 := bb_ BK128 hb; replace BK135 := bb_ BK135 hb; replace BK142 := bb_ BK142 hb; replace BK153 := bb_ BK153 hb; replace BK205 := bb_ BK205 hb; replace HB := am_ (below_step (hb_ : Below w.heap.size w _) hb); (try clear hb)))
        go_ret
        exact ⟨by first | rfl | (simp [errW_none, errW_some] <;> rfl) | (simp [*, errW_none, errW_some] <;> rfl), by repeat (first | (with_reducible first | exact HB.out | apply below_alloc | apply pw_below_drewN | apply below_drew1 | refine below_set ?_ GE101.out | refine below_set ?_ GE102.out | refine below_set ?_ GE128.out | refine below_set ?_ GE135.out | refine below_set ?_ GE142.out | refine below_set ?_ GE153.out | refine below_set ?_ GE205.out) | exact HB.out)⟩
       rw [if_neg c268] at H
       exact absurd H (by simp)

/-- THE ONE PURE STATEMENT of laws_FnExactMaskImage. -/
def laws_FnExactMaskImage.Pure : Prop := ∀ (a0_0 : Int) (a0_1 : Int) (a0_2 : Int) (l0_3 : List Int) (a1_0 : Int) (a1_1 : Int) (a1_2 : Int) (l1_3 : List Int) (l2 : List (S67)), (Lit.int .i64 a0_0).wf = true → (Lit.int .i64 a0_1).wf = true → (Lit.int .i64 a0_2).wf = true → l0_3.length ≤ maxLen → (∀ x ∈ l0_3, (Lit.int .i64 x).wf = true) → (Lit.int .i64 a1_0).wf = true → (Lit.int .i64 a1_1).wf = true → (Lit.int .i64 a1_2).wf = true → l1_3.length ≤ maxLen → (∀ x ∈ l1_3, (Lit.int .i64 x).wf = true) → l2.length ≤ maxLen → (∀ x ∈ l2, (Lit.int .i64 x.f0).wf = true ∧ (Lit.int .i64 x.f1).wf = true ∧ (Lit.int .i64 x.f2).wf = true) → ∃ k, laws_FnExactMaskImage.f k a0_0 a0_1 a0_2 l0_3 a1_0 a1_1 a1_2 l1_3 l2 = some true
theorem laws_FnExactMaskImage.walk (P : laws_FnExactMaskImage.Pure) (a0_0 : Int) (a0_1 : Int) (a0_2 : Int) (A0_3 : Option Addr) (c0_3 : Nat) (l0_3 : List Int) (a1_0 : Int) (a1_1 : Int) (a1_2 : Int) (A1_3 : Option Addr) (c1_3 : Nat) (l1_3 : List Int) (A2 : Option Addr) (c2 : Nat) (l2 : List (S67)) (w : World) (w0_0 : (Lit.int .i64 a0_0).wf = true) (w0_1 : (Lit.int .i64 a0_1).wf = true) (w0_2 : (Lit.int .i64 a0_2).wf = true) (hr0_3 : Kd.C (Kd.int .i64) w A0_3 l0_3.length l0_3) (hc0_3 : l0_3.length ≤ c0_3) (hm0_3 : l0_3.length ≤ maxLen) (hw0_3 : ∀ x ∈ l0_3, (Lit.int .i64 x).wf = true) (w1_0 : (Lit.int .i64 a1_0).wf = true) (w1_1 : (Lit.int .i64 a1_1).wf = true) (w1_2 : (Lit.int .i64 a1_2).wf = true) (hr1_3 : Kd.C (Kd.int .i64) w A1_3 l1_3.length l1_3) (hc1_3 : l1_3.length ≤ c1_3) (hm1_3 : l1_3.length ≤ maxLen) (hw1_3 : ∀ x ∈ l1_3, (Lit.int .i64 x).wf = true) (hr2 : Kd.C k67 w A2 l2.length l2) (hc2 : l2.length ≤ c2) (hm2 : l2.length ≤ maxLen) (hw2 : ∀ x ∈ l2, (Lit.int .i64 x.f0).wf = true ∧ (Lit.int .i64 x.f1).wf = true ∧ (Lit.int .i64 x.f2).wf = true) :
  Calls Try.prog 4 #[.agg #[.int .i64 a0_0, .int .i64 a0_1, .int .i64 a0_2, .slice A0_3 l0_3.length c0_3], .agg #[.int .i64 a1_0, .int .i64 a1_1, .int .i64 a1_2, .slice A1_3 l1_3.length c1_3], .slice A2 l2.length c2] w fun e w' => e = .returned (.bool true) ∧ Below w.heap.size w w' := by
 obtain ⟨k, h⟩ := P a0_0 a0_1 a0_2 l0_3 a1_0 a1_1 a1_2 l1_3 l2 w0_0 w0_1 w0_2 hm0_3 hw0_3 w1_0 w1_1 w1_2 hm1_3 hw1_3 hm2 hw2
 refine (laws_FnExactMaskImage.calls k a0_0 a0_1 a0_2 A0_3 c0_3 l0_3 a1_0 a1_1 a1_2 A1_3 c1_3 l1_3 A2 c2 l2 true w hr0_3 hc0_3 hr1_3 hc1_3 hr2 hc2 h).mono ?_
 rintro e w' ⟨rfl, hd⟩
 exact ⟨rfl, hd⟩

end Go.Proofs.Ytbkhhlifpknbeaa.Print
