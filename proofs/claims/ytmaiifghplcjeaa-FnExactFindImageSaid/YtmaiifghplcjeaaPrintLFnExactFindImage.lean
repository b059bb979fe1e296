-- laid by hp.py (a program of this work over the kit's print), with contracts by hand for what the print does not take
import Derived.Test.YtmaiifghplcjeaaPrint0
import Derived.Test.YtmaiifghplcjeaaPrintHimplFindImage
import Derived.Test.YtmaiifghplcjeaaPrintHx0
import Derived.Test.YtmaiifghplcjeaaPrintR1x0
import Derived.Test.YtmaiifghplcjeaaPrintR1x3
import Derived.Test.YtmaiifghplcjeaaPrintR1x4
namespace Go.Proofs.Ytmaiifghplcjeaa.Print
open Go.RowKit Go.Proofs.YtmaiifghplcjeaaW.PrintWords Go.Proofs.YtmaiifghplcjeaaW.PrintLast Go.Proofs.YtmaiifghplcjeaaW.PrintMore
attribute [local go_sem] max2_int min2_int max_two min_two max_three min_three max_four min_four   -- for this text's walks alone
set_option linter.unusedVariables false
set_option linter.unusedSimpArgs false

/-! ### laws_FnExactFindImage: function 9 -/
def laws_FnExactFindImage.j0 : Nat → Bool → Int → Int → Int → List Int → Int → Int → Int → List Int → Int → Int → Int → List Int → Int → Int → Int → List Int → Option (Bool)
 | 0, _, _, _, _, _, _, _, _, _, _, _, _, _, _, _, _, _ => none
 | k + 1, x48, x102000, x102001, x102002, x102003, x103000, x103001, x103002, x103003, x130000, x130001, x130002, x130003, x137000, x137001, x137002, x137003 => if x48 = true then (some false) else ((laws_toImage.f k x102000 x102001 x102002 x102003).bind fun bt144 => ((laws_eqImage.f k x130000 x130001 x130002 x130003 bt144.1 bt144.2.1 bt144.2.2.1 bt144.2.2.2).bind fun t150 => (if t150 = true then ((laws_toImage.f k x103000 x103001 x103002 x103003).bind fun bt151 => ((laws_eqImage.f k x137000 x137001 x137002 x137003 bt151.1 bt151.2.1 bt151.2.2.1 bt151.2.2.2).bind fun t157 => (if t157 = true then (some true) else (some false)))) else (some false))))
def laws_FnExactFindImage.f (k : Nat) (a0_0 : Int) (a0_1 : Int) (a0_2 : Int) (l0_3 : List Int) (a1_0 : Int) (a1_1 : Int) (a1_2 : Int) (l1_3 : List Int) : Option (Bool) := (laws_szImage.f a0_0 a0_1 a0_2 l0_3 1048576).bind fun t103 => (if t103 < 0 then (some true) else ((laws_szImage.f a1_0 a1_1 a1_2 l1_3 t103).bind fun t104 => (if t104 < 0 then (some true) else ((laws_toImage.f k a0_0 a0_1 a0_2 l0_3).bind fun bt105 => ((laws_toImage.f k a1_0 a1_1 a1_2 l1_3).bind fun bt111 => ((spec_FindImage.f k bt105.1 bt105.2.1 bt105.2.2.1 bt105.2.2.2 bt111.1 bt111.2.1 bt111.2.2.1 bt111.2.2.2).bind fun bt117 => ((laws_toImage.f k a0_0 a0_1 a0_2 l0_3).bind fun bt123 => ((laws_toImage.f k a1_0 a1_1 a1_2 l1_3).bind fun bt130 => ((impl_FindImage.f bt123.1 bt123.2.1 bt123.2.2.1 bt123.2.2.2 bt130.1 bt130.2.1 bt130.2.2.1 bt130.2.2.2).bind fun bt137 => ((laws_eqBox.f bt137.1 bt137.2.1 bt137.2.2.1 bt137.2.2.2.1 bt117.1 bt117.2.1 bt117.2.2.1 bt117.2.2.2.1).bind fun t143 => (if t143 = true then (laws_FnExactFindImage.j0 k (bt137.2.2.2.2 != bt117.2.2.2.2) a0_0 a0_1 a0_2 l0_3 a1_0 a1_1 a1_2 l1_3 bt123.1 bt123.2.1 bt123.2.2.1 bt123.2.2.2 bt130.1 bt130.2.1 bt130.2.2.1 bt130.2.2.2) else (laws_FnExactFindImage.j0 k true a0_0 a0_1 a0_2 l0_3 a1_0 a1_1 a1_2 l1_3 bt123.1 bt123.2.1 bt123.2.2.1 bt123.2.2.2 bt130.1 bt130.2.1 bt130.2.2.1 bt130.2.2.2))))))))))))
theorem laws_FnExactFindImage.mono_l : ∀ k, (∀ y0 y1 y2 y3 y4 y5 y6 y7 y8 y9 y10 y11 y12 y13 y14 y15 y16, LeO (laws_FnExactFindImage.j0 k y0 y1 y2 y3 y4 y5 y6 y7 y8 y9 y10 y11 y12 y13 y14 y15 y16) (laws_FnExactFindImage.j0 (k + 1) y0 y1 y2 y3 y4 y5 y6 y7 y8 y9 y10 y11 y12 y13 y14 y15 y16))
 | 0 => fun _ _ _ _ _ _ _ _ _ _ _ _ _ _ _ _ _ r h => by simp [laws_FnExactFindImage.j0] at h
 | k + 1 => by
  have ih0 := laws_FnExactFindImage.mono_l k
  intro y0 y1 y2 y3 y4 y5 y6 y7 y8 y9 y10 y11 y12 y13 y14 y15 y16
  unfold laws_FnExactFindImage.j0
  repeat' first
  | (with_reducible exact ih0 _ _ _ _ _ _ _ _ _ _ _ _ _ _ _ _ _)
  | (with_reducible exact laws_eqImage.mono _ _ _ _ _ _ _ _ _)
  | (with_reducible exact laws_toImage.mono _ _ _ _ _)
  | (with_reducible exact spec_FindImage.mono _ _ _ _ _ _ _ _ _)
  | (with_reducible exact LeO.refl _)
  | (with_reducible exact LeO.none _)
  | (with_reducible refine LeO.ite ?_ ?_)
  | (with_reducible refine LeO.bind ?_ (fun _ => ?_))
  | exact ih0 _ _ _ _ _ _ _ _ _ _ _ _ _ _ _ _ _
  | exact laws_eqImage.mono _ _ _ _ _ _ _ _ _
  | exact laws_toImage.mono _ _ _ _ _
  | exact spec_FindImage.mono _ _ _ _ _ _ _ _ _
  | exact LeO.none _
  | refine LeO.ite ?_ ?_
  | refine LeO.bind ?_ (fun _ => ?_)
theorem laws_FnExactFindImage.mono : ∀ a0 a1 a2 a3 a4 a5 a6 a7 k, LeO (laws_FnExactFindImage.f k a0 a1 a2 a3 a4 a5 a6 a7) (laws_FnExactFindImage.f (k + 1) a0 a1 a2 a3 a4 a5 a6 a7) := by
 intro a0 a1 a2 a3 a4 a5 a6 a7 k
 have ih0 := laws_FnExactFindImage.mono_l k
 unfold laws_FnExactFindImage.f
 repeat' first
   | (with_reducible exact ih0 _ _ _ _ _ _ _ _ _ _ _ _ _ _ _ _ _)
   | (with_reducible exact laws_eqImage.mono _ _ _ _ _ _ _ _ _)
   | (with_reducible exact laws_toImage.mono _ _ _ _ _)
   | (with_reducible exact spec_FindImage.mono _ _ _ _ _ _ _ _ _)
   | (with_reducible exact LeO.refl _)
   | (with_reducible exact LeO.none _)
   | (with_reducible refine LeO.ite ?_ ?_)
   | (with_reducible refine LeO.bind ?_ (fun _ => ?_))
   | exact ih0 _ _ _ _ _ _ _ _ _ _ _ _ _ _ _ _ _
   | exact laws_eqImage.mono _ _ _ _ _ _ _ _ _
   | exact laws_toImage.mono _ _ _ _ _
   | exact spec_FindImage.mono _ _ _ _ _ _ _ _ _
   | exact LeO.none _
   | refine LeO.ite ?_ ?_
   | refine LeO.bind ?_ (fun _ => ?_)
def laws_FnExactFindImage.T8 : Bool × List (List Nat × List Nat) := (true, [([], []), ([0], [0]), ([], []), ([2, 1], [2]), ([1, 3, 3], [1, 3]), ([4], [4]), ([5], [5]), ([5], [5]), ([], []), ([8, 6, 4, 0, 1, 2, 3, 4, 5, 6, 8], [6, 8]), ([7, 9, 0, 1, 2, 3, 4, 5, 6, 7, 8, 9], [7])])
def laws_FnExactFindImage.B8 : List Nat := [0, 1, 0, 7, 15, 31, 63, 63, 0, 383, 1023]
theorem laws_FnExactFindImage.tab8 : rtab .any (opsOf Try.f9 8) = laws_FnExactFindImage.T8 := by kernel_rfl
theorem laws_FnExactFindImage.bits8 : waitsOk laws_FnExactFindImage.T8.2 laws_FnExactFindImage.B8 = true := by kernel_rfl
set_option maxHeartbeats 8000000 in
set_option maxRecDepth 100000 in
theorem laws_FnExactFindImage.calls (k : Nat) (a0_0 : Int) (a0_1 : Int) (a0_2 : Int) (A0_3 : Option Addr) (c0_3 : Nat) (l0_3 : List Int) (a1_0 : Int) (a1_1 : Int) (a1_2 : Int) (A1_3 : Option Addr) (c1_3 : Nat) (l1_3 : List Int) (r : Bool) (w : World) (hr0_3 : Kd.C (Kd.int .i64) w A0_3 l0_3.length l0_3) (hc0_3 : l0_3.length ≤ c0_3) (hr1_3 : Kd.C (Kd.int .i64) w A1_3 l1_3.length l1_3) (hc1_3 : l1_3.length ≤ c1_3) (h : laws_FnExactFindImage.f k a0_0 a0_1 a0_2 l0_3 a1_0 a1_1 a1_2 l1_3 = some r) :
  Calls Try.prog 9 #[.agg #[.int .i64 a0_0, .int .i64 a0_1, .int .i64 a0_2, .slice A0_3 l0_3.length c0_3], .agg #[.int .i64 a1_0, .int .i64 a1_1, .int .i64 a1_2, .slice A1_3 l1_3.length c1_3]] w fun e w' => e = .returned (.bool r) ∧ Below w.heap.size w w' := by
 have hu24 := Try.underlying24
 have hu40 := Try.underlying40
 have hu26 := Try.underlying26
 have HR0_3 := Aside0.mk hr0_3
 have HC0_3 := Aside0.mk hc0_3
 clear hr0_3 hc0_3
 have HR1_3 := Aside0.mk hr1_3
 have HC1_3 := Aside0.mk hc1_3
 clear hr1_3 hc1_3
 have HB := Aside0.mk (Below.refl w.heap.size w)
 have H : ((laws_szImage.f a0_0 a0_1 a0_2 l0_3 1048576).bind fun t103 => (if t103 < 0 then (some true) else ((laws_szImage.f a1_0 a1_1 a1_2 l1_3 t103).bind fun t104 => (if t104 < 0 then (some true) else ((laws_toImage.f k a0_0 a0_1 a0_2 l0_3).bind fun bt105 => ((laws_toImage.f k a1_0 a1_1 a1_2 l1_3).bind fun bt111 => ((spec_FindImage.f k bt105.1 bt105.2.1 bt105.2.2.1 bt105.2.2.2 bt111.1 bt111.2.1 bt111.2.2.1 bt111.2.2.2).bind fun bt117 => ((laws_toImage.f k a0_0 a0_1 a0_2 l0_3).bind fun bt123 => ((laws_toImage.f k a1_0 a1_1 a1_2 l1_3).bind fun bt130 => ((impl_FindImage.f bt123.1 bt123.2.1 bt123.2.2.1 bt123.2.2.2 bt130.1 bt130.2.1 bt130.2.2.1 bt130.2.2.2).bind fun bt137 => ((laws_eqBox.f bt137.1 bt137.2.1 bt137.2.2.1 bt137.2.2.2.1 bt117.1 bt117.2.1 bt117.2.2.1 bt117.2.2.2.1).bind fun t143 => (if t143 = true then (laws_FnExactFindImage.j0 k (bt137.2.2.2.2 != bt117.2.2.2.2) a0_0 a0_1 a0_2 l0_3 a1_0 a1_1 a1_2 l1_3 bt123.1 bt123.2.1 bt123.2.2.1 bt123.2.2.2 bt130.1 bt130.2.1 bt130.2.2.1 bt130.2.2.2) else (laws_FnExactFindImage.j0 k true a0_0 a0_1 a0_2 l0_3 a1_0 a1_1 a1_2 l1_3 bt123.1 bt123.2.1 bt123.2.2.1 bt123.2.2.2 bt130.1 bt130.2.1 bt130.2.2.1 bt130.2.2.2))))))))))))) = some r := h
 clear h
 replace H := Option.bind_eq_some_iff.mp H
 obtain ⟨t103, A30, H⟩ := H
 replace H : (if t103 < 0 then (some true) else ((laws_szImage.f a1_0 a1_1 a1_2 l1_3 t103).bind fun t104 => (if t104 < 0 then (some true) else ((laws_toImage.f k a0_0 a0_1 a0_2 l0_3).bind fun bt105 => ((laws_toImage.f k a1_0 a1_1 a1_2 l1_3).bind fun bt111 => ((spec_FindImage.f k bt105.1 bt105.2.1 bt105.2.2.1 bt105.2.2.2 bt111.1 bt111.2.1 bt111.2.2.1 bt111.2.2.2).bind fun bt117 => ((laws_toImage.f k a0_0 a0_1 a0_2 l0_3).bind fun bt123 => ((laws_toImage.f k a1_0 a1_1 a1_2 l1_3).bind fun bt130 => ((impl_FindImage.f bt123.1 bt123.2.1 bt123.2.2.1 bt123.2.2.2 bt130.1 bt130.2.1 bt130.2.2.1 bt130.2.2.2).bind fun bt137 => ((laws_eqBox.f bt137.1 bt137.2.1 bt137.2.2.1 bt137.2.2.2.1 bt117.1 bt117.2.1 bt117.2.2.1 bt117.2.2.2.1).bind fun t143 => (if t143 = true then (laws_FnExactFindImage.j0 k (bt137.2.2.2.2 != bt117.2.2.2.2) a0_0 a0_1 a0_2 l0_3 a1_0 a1_1 a1_2 l1_3 bt123.1 bt123.2.1 bt123.2.2.1 bt123.2.2.2 bt130.1 bt130.2.1 bt130.2.2.1 bt130.2.2.2) else (laws_FnExactFindImage.j0 k true a0_0 a0_1 a0_2 l0_3 a1_0 a1_1 a1_2 l1_3 bt123.1 bt123.2.1 bt123.2.2.1 bt123.2.2.2 bt130.1 bt130.2.1 bt130.2.2.1 bt130.2.2.2)))))))))))) = some r := H
 have A3 := Aside0.mk A30
 clear A30
 by_cases c4 : t103 < 0
 ·
  rw [if_pos c4] at H
  have c4b0 : decide (t103 < 0) = true := decide_eq_true c4
  clear c4
  obtain rfl := Option.some.inj H
  go_enter Try.func9, Try.ntmps9
  go_wp2_with (first | ((with_reducible refine gate_dst (N := 2) rfl ?_); refine box_event ?hg (N := 2) ?hd (cs := #[.int .i64 a0_0, .int .i64 a0_1, .int .i64 a0_2, .slice A0_3 l0_3.length c0_3]) (t := 24) ?hr ?_; (case hd => rfl); (case hg => rfl); (case hr => first | (go_simp; done) | (go_simp; rfl)); intro gb101 hg w5 hbox hb; have BK101 := am_ (hbox); have GW101 := am_ ((by rw [hg]; exact (below_size (by repeat (first | (with_reducible first | exact HB.out | apply below_alloc | apply pw_below_drewN | apply below_drew1) | exact HB.out))) : w.heap.size ≤ gb101)); have GE101 := GW101; replace HB := am_ (below_step (by repeat (first | (with_reducible first | exact HB.out | apply below_alloc | apply pw_below_drewN | apply below_drew1) | exact HB.out)) hb); clear hb hbox hg) | ((with_reducible refine gate_dst (N := 3) rfl ?_); refine box_event ?hg (N := 3) ?hd (cs := #[.int .i64 a1_0, .int .i64 a1_1, .int .i64 a1_2, .slice A1_3 l1_3.length c1_3]) (t := 24) ?hr ?_; (case hd => rfl); (case hg => rfl); (case hr => first | (go_simp; done) | (go_simp; rfl)); intro gb102 hg w6 hbox hb; have BK102 := am_ (hbox); have GW102 := am_ ((by rw [hg]; exact (below_size (by repeat (first | (with_reducible first | exact HB.out | apply below_alloc | apply pw_below_drewN | apply below_drew1 | refine below_set ?_ GE101.out) | exact HB.out))) : w.heap.size ≤ gb102)); have GE102 := GW102; replace HB := am_ (below_step (by repeat (first | (with_reducible first | exact HB.out | apply below_alloc | apply pw_below_drewN | apply below_drew1 | refine below_set ?_ GE101.out) | exact HB.out)) hb); have NB101_102 := am_ ((by rw [hg]; exact Nat.ne_of_lt (blk_lt (by exact BK101.out)) : gb101 ≠ gb102)); have NB102_101 := am_ ((by rw [hg]; exact Nat.ne_of_gt (blk_lt (by exact BK101.out)) : gb102 ≠ gb101)); replace BK101 := am_ (blk_below (by exact BK101.out) hb); clear hb hbox hg; have hnb7 := NB101_102.out; have hnc7 := NB102_101.out; obtain ⟨hcz8_0, hcz8_1, hcz8_2, hcz8_3, hfz8_0, hfz8_1, hfz8_2, hfz8_3⟩ := blk4_ BK101.out) | ((with_reducible refine gate_callee (f := 15) rfl ?_); refine goesL_ (some 14) rfl rfl Try.func15 (by kernel_rfl) rfl #[.agg #[.int .i64 a0_0, .int .i64 a0_1, .int .i64 a0_2, .slice A0_3 l0_3.length c0_3], .int .i64 1048576] rfl (by simp only [List.map_toArray, List.map_cons, List.map_nil]; rfl) ?_; (with_reducible refine (laws_szImage.calls a0_0 a0_1 a0_2 _ _ l0_3 1048576 t103 _ ?side1 ?side2 A3.out).mono ?_); (case side1 => repeat (first | exact (Kd.C_below HR0_3.out HB.out) | (with_reducible refine Kd.C_alloc ?_ _) | (with_reducible refine Kd.C_drewN ?_ _) | (with_reducible refine Kd.C_drew ?_))); (case side2 => exact HC0_3.out); rintro e w9 ⟨rfl, hb⟩; refine ⟨_, rfl, ?_⟩; replace BK101 := am_ (blk_below (by exact BK101.out) hb); replace BK102 := am_ (blk_below (by exact BK102.out) hb); replace HB := am_ (below_step (by repeat (first | (with_reducible first | exact HB.out | apply below_alloc | apply pw_below_drewN | apply below_drew1 | refine below_set ?_ GE101.out | refine below_set ?_ GE102.out) | exact HB.out)) hb); (try clear hb); (try clear hb2); (try clear hk); (try clear hi)))
  go_ret
  exact ⟨by first | rfl | (simp [errW_none, errW_some] <;> rfl) | (simp [*, errW_none, errW_some] <;> rfl), by repeat (first | (with_reducible first | exact HB.out | apply below_alloc | apply pw_below_drewN | apply below_drew1 | refine below_set ?_ GE101.out | refine below_set ?_ GE102.out) | exact HB.out)⟩
 rw [if_neg c4] at H
 have c4b0 : decide (t103 < 0) = false := decide_eq_false c4
 clear c4
 replace H := Option.bind_eq_some_iff.mp H
 obtain ⟨t104, A100, H⟩ := H
 replace H : (if t104 < 0 then (some true) else ((laws_toImage.f k a0_0 a0_1 a0_2 l0_3).bind fun bt105 => ((laws_toImage.f k a1_0 a1_1 a1_2 l1_3).bind fun bt111 => ((spec_FindImage.f k bt105.1 bt105.2.1 bt105.2.2.1 bt105.2.2.2 bt111.1 bt111.2.1 bt111.2.2.1 bt111.2.2.2).bind fun bt117 => ((laws_toImage.f k a0_0 a0_1 a0_2 l0_3).bind fun bt123 => ((laws_toImage.f k a1_0 a1_1 a1_2 l1_3).bind fun bt130 => ((impl_FindImage.f bt123.1 bt123.2.1 bt123.2.2.1 bt123.2.2.2 bt130.1 bt130.2.1 bt130.2.2.1 bt130.2.2.2).bind fun bt137 => ((laws_eqBox.f bt137.1 bt137.2.1 bt137.2.2.1 bt137.2.2.2.1 bt117.1 bt117.2.1 bt117.2.2.1 bt117.2.2.2.1).bind fun t143 => (if t143 = true then (laws_FnExactFindImage.j0 k (bt137.2.2.2.2 != bt117.2.2.2.2) a0_0 a0_1 a0_2 l0_3 a1_0 a1_1 a1_2 l1_3 bt123.1 bt123.2.1 bt123.2.2.1 bt123.2.2.2 bt130.1 bt130.2.1 bt130.2.2.1 bt130.2.2.2) else (laws_FnExactFindImage.j0 k true a0_0 a0_1 a0_2 l0_3 a1_0 a1_1 a1_2 l1_3 bt123.1 bt123.2.1 bt123.2.2.1 bt123.2.2.2 bt130.1 bt130.2.1 bt130.2.2.1 bt130.2.2.2)))))))))) = some r := H
 have A10 := Aside0.mk A100
 clear A100
 by_cases c11 : t104 < 0
 ·
  rw [if_pos c11] at H
  have c11b0 : decide (t104 < 0) = true := decide_eq_true c11
  clear c11
  obtain rfl := Option.some.inj H
  go_enter Try.func9, Try.ntmps9
  go_wp2_with (first | ((with_reducible refine gate_dst (N := 2) rfl ?_); refine box_event ?hg (N := 2) ?hd (cs := #[.int .i64 a0_0, .int .i64 a0_1, .int .i64 a0_2, .slice A0_3 l0_3.length c0_3]) (t := 24) ?hr ?_; (case hd => rfl); (case hg => rfl); (case hr => first | (go_simp; done) | (go_simp; rfl)); intro gb101 hg w12 hbox hb; have BK101 := am_ (hbox); have GW101 := am_ ((by rw [hg]; exact (below_size (by repeat (first | (with_reducible first | exact HB.out | apply below_alloc | apply pw_below_drewN | apply below_drew1) | exact HB.out))) : w.heap.size ≤ gb101)); have GE101 := GW101; replace HB := am_ (below_step (by repeat (first | (with_reducible first | exact HB.out | apply below_alloc | apply pw_below_drewN | apply below_drew1) | exact HB.out)) hb); clear hb hbox hg) | ((with_reducible refine gate_dst (N := 3) rfl ?_); refine box_event ?hg (N := 3) ?hd (cs := #[.int .i64 a1_0, .int .i64 a1_1, .int .i64 a1_2, .slice A1_3 l1_3.length c1_3]) (t := 24) ?hr ?_; (case hd => rfl); (case hg => rfl); (case hr => first | (go_simp; done) | (go_simp; rfl)); intro gb102 hg w13 hbox hb; have BK102 := am_ (hbox); have GW102 := am_ ((by rw [hg]; exact (below_size (by repeat (first | (with_reducible first | exact HB.out | apply below_alloc | apply pw_below_drewN | apply below_drew1 | refine below_set ?_ GE101.out) | exact HB.out))) : w.heap.size ≤ gb102)); have GE102 := GW102; replace HB := am_ (below_step (by repeat (first | (with_reducible first | exact HB.out | apply below_alloc | apply pw_below_drewN | apply below_drew1 | refine below_set ?_ GE101.out) | exact HB.out)) hb); have NB101_102 := am_ ((by rw [hg]; exact Nat.ne_of_lt (blk_lt (by exact BK101.out)) : gb101 ≠ gb102)); have NB102_101 := am_ ((by rw [hg]; exact Nat.ne_of_gt (blk_lt (by exact BK101.out)) : gb102 ≠ gb101)); replace BK101 := am_ (blk_below (by exact BK101.out) hb); clear hb hbox hg; have hnb14 := NB101_102.out; have hnc14 := NB102_101.out; obtain ⟨hcz15_0, hcz15_1, hcz15_2, hcz15_3, hfz15_0, hfz15_1, hfz15_2, hfz15_3⟩ := blk4_ BK101.out) | ((with_reducible refine gate_callee (f := 15) rfl ?_); refine goesL_ (some 14) rfl rfl Try.func15 (by kernel_rfl) rfl #[.agg #[.int .i64 a0_0, .int .i64 a0_1, .int .i64 a0_2, .slice A0_3 l0_3.length c0_3], .int .i64 1048576] rfl (by simp only [List.map_toArray, List.map_cons, List.map_nil]; rfl) ?_; (with_reducible refine (laws_szImage.calls a0_0 a0_1 a0_2 _ _ l0_3 1048576 t103 _ ?side1 ?side2 A3.out).mono ?_); (case side1 => repeat (first | exact (Kd.C_below HR0_3.out HB.out) | (with_reducible refine Kd.C_alloc ?_ _) | (with_reducible refine Kd.C_drewN ?_ _) | (with_reducible refine Kd.C_drew ?_))); (case side2 => exact HC0_3.out); rintro e w16 ⟨rfl, hb⟩; refine ⟨_, rfl, ?_⟩; replace BK101 := am_ (blk_below (by exact BK101.out) hb); replace BK102 := am_ (blk_below (by exact BK102.out) hb); replace HB := am_ (below_step (by repeat (first | (with_reducible first | exact HB.out | apply below_alloc | apply pw_below_drewN | apply below_drew1 | refine below_set ?_ GE101.out | refine below_set ?_ GE102.out) | exact HB.out)) hb); (try clear hb); (try clear hb2); (try clear hk); (try clear hi); obtain ⟨hcz17_0, hcz17_1, hcz17_2, hcz17_3, hfz17_0, hfz17_1, hfz17_2, hfz17_3⟩ := blk4_ BK102.out) | ((with_reducible refine gate_callee (f := 15) rfl ?_); refine goesL_ (some 19) rfl rfl Try.func15 (by kernel_rfl) rfl #[.agg #[.int .i64 a1_0, .int .i64 a1_1, .int .i64 a1_2, .slice A1_3 l1_3.length c1_3], .int .i64 t103] rfl (by simp only [List.map_toArray, List.map_cons, List.map_nil]; rfl) ?_; (with_reducible refine (laws_szImage.calls a1_0 a1_1 a1_2 _ _ l1_3 t103 t104 _ ?side1 ?side2 A10.out).mono ?_); (case side1 => repeat (first | exact (Kd.C_below HR1_3.out HB.out) | (with_reducible refine Kd.C_alloc ?_ _) | (with_reducible refine Kd.C_drewN ?_ _) | (with_reducible refine Kd.C_drew ?_))); (case side2 => exact HC1_3.out); rintro e w18 ⟨rfl, hb⟩; refine ⟨_, rfl, ?_⟩; replace BK101 := am_ (blk_below (by exact BK101.out) hb); replace BK102 := am_ (blk_below (by exact BK102.out) hb); replace HB := am_ (below_step (by repeat (first | (with_reducible first | exact HB.out | apply below_alloc | apply pw_below_drewN | apply below_drew1 | refine below_set ?_ GE101.out | refine below_set ?_ GE102.out) | exact HB.out)) hb); (try clear hb); (try clear hb2); (try clear hk); (try clear hi)))
  go_ret
  exact ⟨by first | rfl | (simp [errW_none, errW_some] <;> rfl) | (simp [*, errW_none, errW_some] <;> rfl), by repeat (first | (with_reducible first | exact HB.out | apply below_alloc | apply pw_below_drewN | apply below_drew1 | refine below_set ?_ GE101.out | refine below_set ?_ GE102.out) | exact HB.out)⟩
 rw [if_neg c11] at H
 have c11b0 : decide (t104 < 0) = false := decide_eq_false c11
 clear c11
 replace H := Option.bind_eq_some_iff.mp H
 obtain ⟨⟨t105, t106, t107, t108⟩, A190, H⟩ := H
 replace H : ((laws_toImage.f k a1_0 a1_1 a1_2 l1_3).bind fun bt111 => ((spec_FindImage.f k t105 t106 t107 t108 bt111.1 bt111.2.1 bt111.2.2.1 bt111.2.2.2).bind fun bt117 => ((laws_toImage.f k a0_0 a0_1 a0_2 l0_3).bind fun bt123 => ((laws_toImage.f k a1_0 a1_1 a1_2 l1_3).bind fun bt130 => ((impl_FindImage.f bt123.1 bt123.2.1 bt123.2.2.1 bt123.2.2.2 bt130.1 bt130.2.1 bt130.2.2.1 bt130.2.2.2).bind fun bt137 => ((laws_eqBox.f bt137.1 bt137.2.1 bt137.2.2.1 bt137.2.2.2.1 bt117.1 bt117.2.1 bt117.2.2.1 bt117.2.2.2.1).bind fun t143 => (if t143 = true then (laws_FnExactFindImage.j0 k (bt137.2.2.2.2 != bt117.2.2.2.2) a0_0 a0_1 a0_2 l0_3 a1_0 a1_1 a1_2 l1_3 bt123.1 bt123.2.1 bt123.2.2.1 bt123.2.2.2 bt130.1 bt130.2.1 bt130.2.2.1 bt130.2.2.2) else (laws_FnExactFindImage.j0 k true a0_0 a0_1 a0_2 l0_3 a1_0 a1_1 a1_2 l1_3 bt123.1 bt123.2.1 bt123.2.2.1 bt123.2.2.2 bt130.1 bt130.2.1 bt130.2.2.1 bt130.2.2.2)))))))) = some r := H
 have A19 := Aside0.mk A190
 clear A190
 replace H := Option.bind_eq_some_iff.mp H
 obtain ⟨⟨t111, t112, t113, t114⟩, A200, H⟩ := H
 replace H : ((spec_FindImage.f k t105 t106 t107 t108 t111 t112 t113 t114).bind fun bt117 => ((laws_toImage.f k a0_0 a0_1 a0_2 l0_3).bind fun bt123 => ((laws_toImage.f k a1_0 a1_1 a1_2 l1_3).bind fun bt130 => ((impl_FindImage.f bt123.1 bt123.2.1 bt123.2.2.1 bt123.2.2.2 bt130.1 bt130.2.1 bt130.2.2.1 bt130.2.2.2).bind fun bt137 => ((laws_eqBox.f bt137.1 bt137.2.1 bt137.2.2.1 bt137.2.2.2.1 bt117.1 bt117.2.1 bt117.2.2.1 bt117.2.2.2.1).bind fun t143 => (if t143 = true then (laws_FnExactFindImage.j0 k (bt137.2.2.2.2 != bt117.2.2.2.2) a0_0 a0_1 a0_2 l0_3 a1_0 a1_1 a1_2 l1_3 bt123.1 bt123.2.1 bt123.2.2.1 bt123.2.2.2 bt130.1 bt130.2.1 bt130.2.2.1 bt130.2.2.2) else (laws_FnExactFindImage.j0 k true a0_0 a0_1 a0_2 l0_3 a1_0 a1_1 a1_2 l1_3 bt123.1 bt123.2.1 bt123.2.2.1 bt123.2.2.2 bt130.1 bt130.2.1 bt130.2.2.1 bt130.2.2.2))))))) = some r := H
 have A20 := Aside0.mk A200
 clear A200
 replace H := Option.bind_eq_some_iff.mp H
 obtain ⟨⟨t117, t118, t119, t120, t121⟩, A210, H⟩ := H
 replace H : ((laws_toImage.f k a0_0 a0_1 a0_2 l0_3).bind fun bt123 => ((laws_toImage.f k a1_0 a1_1 a1_2 l1_3).bind fun bt130 => ((impl_FindImage.f bt123.1 bt123.2.1 bt123.2.2.1 bt123.2.2.2 bt130.1 bt130.2.1 bt130.2.2.1 bt130.2.2.2).bind fun bt137 => ((laws_eqBox.f bt137.1 bt137.2.1 bt137.2.2.1 bt137.2.2.2.1 t117 t118 t119 t120).bind fun t143 => (if t143 = true then (laws_FnExactFindImage.j0 k (bt137.2.2.2.2 != t121) a0_0 a0_1 a0_2 l0_3 a1_0 a1_1 a1_2 l1_3 bt123.1 bt123.2.1 bt123.2.2.1 bt123.2.2.2 bt130.1 bt130.2.1 bt130.2.2.1 bt130.2.2.2) else (laws_FnExactFindImage.j0 k true a0_0 a0_1 a0_2 l0_3 a1_0 a1_1 a1_2 l1_3 bt123.1 bt123.2.1 bt123.2.2.1 bt123.2.2.2 bt130.1 bt130.2.1 bt130.2.2.1 bt130.2.2.2)))))) = some r := H
 have A21 := Aside0.mk A210
 clear A210
 replace H := Option.bind_eq_some_iff.mp H
 obtain ⟨⟨t123, t124, t125, t126⟩, A220, H⟩ := H
 replace H : ((laws_toImage.f k a1_0 a1_1 a1_2 l1_3).bind fun bt130 => ((impl_FindImage.f t123 t124 t125 t126 bt130.1 bt130.2.1 bt130.2.2.1 bt130.2.2.2).bind fun bt137 => ((laws_eqBox.f bt137.1 bt137.2.1 bt137.2.2.1 bt137.2.2.2.1 t117 t118 t119 t120).bind fun t143 => (if t143 = true then (laws_FnExactFindImage.j0 k (bt137.2.2.2.2 != t121) a0_0 a0_1 a0_2 l0_3 a1_0 a1_1 a1_2 l1_3 t123 t124 t125 t126 bt130.1 bt130.2.1 bt130.2.2.1 bt130.2.2.2) else (laws_FnExactFindImage.j0 k true a0_0 a0_1 a0_2 l0_3 a1_0 a1_1 a1_2 l1_3 t123 t124 t125 t126 bt130.1 bt130.2.1 bt130.2.2.1 bt130.2.2.2))))) = some r := H
 have A22 := Aside0.mk A220
 clear A220
 replace H := Option.bind_eq_some_iff.mp H
 obtain ⟨⟨t130, t131, t132, t133⟩, A230, H⟩ := H
 replace H : ((impl_FindImage.f t123 t124 t125 t126 t130 t131 t132 t133).bind fun bt137 => ((laws_eqBox.f bt137.1 bt137.2.1 bt137.2.2.1 bt137.2.2.2.1 t117 t118 t119 t120).bind fun t143 => (if t143 = true then (laws_FnExactFindImage.j0 k (bt137.2.2.2.2 != t121) a0_0 a0_1 a0_2 l0_3 a1_0 a1_1 a1_2 l1_3 t123 t124 t125 t126 t130 t131 t132 t133) else (laws_FnExactFindImage.j0 k true a0_0 a0_1 a0_2 l0_3 a1_0 a1_1 a1_2 l1_3 t123 t124 t125 t126 t130 t131 t132 t133)))) = some r := H
 have A23 := Aside0.mk A230
 clear A230
 replace H := Option.bind_eq_some_iff.mp H
 obtain ⟨⟨t137, t138, t139, t140, t141⟩, A240, H⟩ := H
 replace H : ((laws_eqBox.f t137 t138 t139 t140 t117 t118 t119 t120).bind fun t143 => (if t143 = true then (laws_FnExactFindImage.j0 k (t141 != t121) a0_0 a0_1 a0_2 l0_3 a1_0 a1_1 a1_2 l1_3 t123 t124 t125 t126 t130 t131 t132 t133) else (laws_FnExactFindImage.j0 k true a0_0 a0_1 a0_2 l0_3 a1_0 a1_1 a1_2 l1_3 t123 t124 t125 t126 t130 t131 t132 t133))) = some r := H
 have A24 := Aside0.mk A240
 clear A240
 have HC25 := Aside0.mk H
 clear H
 go_enter Try.func9, Try.ntmps9
 try go_wp2_with (first | ((with_reducible refine gate_dst (N := 2) rfl ?_); refine box_event ?hg (N := 2) ?hd (cs := #[.int .i64 a0_0, .int .i64 a0_1, .int .i64 a0_2, .slice A0_3 l0_3.length c0_3]) (t := 24) ?hr ?_; (case hd => rfl); (case hg => rfl); (case hr => first | (go_simp; done) | (go_simp; rfl)); intro gb101 hg w26 hbox hb; have BK101 := am_ (hbox); have GW101 := am_ ((by rw [hg]; exact (below_size (by repeat (first | (with_reducible first | exact HB.out | apply below_alloc | apply pw_below_drewN | apply below_drew1) | exact HB.out))) : w.heap.size ≤ gb101)); have GE101 := GW101; replace HB := am_ (below_step (by repeat (first | (with_reducible first | exact HB.out | apply below_alloc | apply pw_below_drewN | apply below_drew1) | exact HB.out)) hb); clear hb hbox hg) | ((with_reducible refine gate_dst (N := 3) rfl ?_); refine box_event ?hg (N := 3) ?hd (cs := #[.int .i64 a1_0, .int .i64 a1_1, .int .i64 a1_2, .slice A1_3 l1_3.length c1_3]) (t := 24) ?hr ?_; (case hd => rfl); (case hg => rfl); (case hr => first | (go_simp; done) | (go_simp; rfl)); intro gb102 hg w27 hbox hb; have BK102 := am_ (hbox); have GW102 := am_ ((by rw [hg]; exact (below_size (by repeat (first | (with_reducible first | exact HB.out | apply below_alloc | apply pw_below_drewN | apply below_drew1 | refine below_set ?_ GE101.out) | exact HB.out))) : w.heap.size ≤ gb102)); have GE102 := GW102; replace HB := am_ (below_step (by repeat (first | (with_reducible first | exact HB.out | apply below_alloc | apply pw_below_drewN | apply below_drew1 | refine below_set ?_ GE101.out) | exact HB.out)) hb); have NB101_102 := am_ ((by rw [hg]; exact Nat.ne_of_lt (blk_lt (by exact BK101.out)) : gb101 ≠ gb102)); have NB102_101 := am_ ((by rw [hg]; exact Nat.ne_of_gt (blk_lt (by exact BK101.out)) : gb102 ≠ gb101)); replace BK101 := am_ (blk_below (by exact BK101.out) hb); clear hb hbox hg; have hnb28 := NB101_102.out; have hnc28 := NB102_101.out; obtain ⟨hcz29_0, hcz29_1, hcz29_2, hcz29_3, hfz29_0, hfz29_1, hfz29_2, hfz29_3⟩ := blk4_ BK101.out) | ((with_reducible refine gate_callee (f := 15) rfl ?_); refine goesL_ (some 14) rfl rfl Try.func15 (by kernel_rfl) rfl #[.agg #[.int .i64 a0_0, .int .i64 a0_1, .int .i64 a0_2, .slice A0_3 l0_3.length c0_3], .int .i64 1048576] rfl (by simp only [List.map_toArray, List.map_cons, List.map_nil]; rfl) ?_; (with_reducible refine (laws_szImage.calls a0_0 a0_1 a0_2 _ _ l0_3 1048576 t103 _ ?side1 ?side2 A3.out).mono ?_); (case side1 => repeat (first | exact (Kd.C_below HR0_3.out HB.out) | (with_reducible refine Kd.C_alloc ?_ _) | (with_reducible refine Kd.C_drewN ?_ _) | (with_reducible refine Kd.C_drew ?_))); (case side2 => exact HC0_3.out); rintro e w30 ⟨rfl, hb⟩; refine ⟨_, rfl, ?_⟩; replace BK101 := am_ (blk_below (by exact BK101.out) hb); replace BK102 := am_ (blk_below (by exact BK102.out) hb); replace HB := am_ (below_step (by repeat (first | (with_reducible first | exact HB.out | apply below_alloc | apply pw_below_drewN | apply below_drew1 | refine below_set ?_ GE101.out | refine below_set ?_ GE102.out) | exact HB.out)) hb); (try clear hb); (try clear hb2); (try clear hk); (try clear hi); obtain ⟨hcz31_0, hcz31_1, hcz31_2, hcz31_3, hfz31_0, hfz31_1, hfz31_2, hfz31_3⟩ := blk4_ BK102.out) | ((with_reducible refine gate_callee (f := 15) rfl ?_); refine goesL_ (some 19) rfl rfl Try.func15 (by kernel_rfl) rfl #[.agg #[.int .i64 a1_0, .int .i64 a1_1, .int .i64 a1_2, .slice A1_3 l1_3.length c1_3], .int .i64 t103] rfl (by simp only [List.map_toArray, List.map_cons, List.map_nil]; rfl) ?_; (with_reducible refine (laws_szImage.calls a1_0 a1_1 a1_2 _ _ l1_3 t103 t104 _ ?side1 ?side2 A10.out).mono ?_); (case side1 => repeat (first | exact (Kd.C_below HR1_3.out HB.out) | (with_reducible refine Kd.C_alloc ?_ _) | (with_reducible refine Kd.C_drewN ?_ _) | (with_reducible refine Kd.C_drew ?_))); (case side2 => exact HC1_3.out); rintro e w32 ⟨rfl, hb⟩; refine ⟨_, rfl, ?_⟩; replace BK101 := am_ (blk_below (by exact BK101.out) hb); replace BK102 := am_ (blk_below (by exact BK102.out) hb); replace HB := am_ (below_step (by repeat (first | (with_reducible first | exact HB.out | apply below_alloc | apply pw_below_drewN | apply below_drew1 | refine below_set ?_ GE101.out | refine below_set ?_ GE102.out) | exact HB.out)) hb); (try clear hb); (try clear hb2); (try clear hk); (try clear hi)))
 replace BK101 := am_ (blk_drew BK101.out)
 replace BK102 := am_ (blk_drew BK102.out)
 replace HB := am_ (below_drew1 HB.out)
 refine start_ (n := 11) (S := fun w' => w'.cell? ⟨gb101, 0, none⟩ = some (.int .i64 a0_0) ∧ w'.cell? ⟨gb101, 1, none⟩ = some (.int .i64 a0_1) ∧ w'.cell? ⟨gb101, 2, none⟩ = some (.int .i64 a0_2) ∧ w'.cell? ⟨gb101, 3, none⟩ = some (.slice A0_3 l0_3.length c0_3) ∧ w'.cell? ⟨gb102, 0, none⟩ = some (.int .i64 a1_0) ∧ w'.cell? ⟨gb102, 1, none⟩ = some (.int .i64 a1_1) ∧ w'.cell? ⟨gb102, 2, none⟩ = some (.int .i64 a1_2) ∧ w'.cell? ⟨gb102, 3, none⟩ = some (.slice A1_3 l1_3.length c1_3)) (ds := []) #[false, false, false, false, false, false, false, false, false, false, false] (by kernel_rfl) rfl rfl ⟨(blk_cell BK101.out 0).trans rfl, (blk_cell BK101.out 1).trans rfl, (blk_cell BK101.out 2).trans rfl, (blk_cell BK101.out 3).trans rfl, (blk_cell BK102.out 0).trans rfl, (blk_cell BK102.out 1).trans rfl, (blk_cell BK102.out 2).trans rfl, (blk_cell BK102.out 3).trans rfl⟩ (fun hHeld => ?_); refine with_tabW laws_FnExactFindImage.tab8 laws_FnExactFindImage.bits8 (fun HT_ HW_ => ?_)
 generalize w32.drew = w33 at BK101 BK102 HB hHeld ⊢
 refine take_ (i := 0) (N := some 23) (v := ?_) (a' := ?_) #[true, false, false, false, false, false, false, false, false, false, false] rfl rfl (take_ofW HT_.out HW_.out (by kernel_rfl)) (fun _ _ _ h => h) (Or.inl ⟨by rfl, ?_⟩) hHeld ?_ ?_
 rotate_left
 ·
  rintro w' ⟨s0, s1, s2, s3, s4, s5, s6, s7⟩
  go_simp
  with_reducible rfl
 rotate_left
 ·
  simp only [Act.put, List.setIfInBounds_toArray, List.set_cons_zero, List.set_cons_succ, i64_w, i32_w]
  rfl
 refine take_ (i := 2) (N := some 25) (v := ?_) (a' := ?_) #[true, false, true, false, false, false, false, false, false, false, false] rfl rfl (take_ofW HT_.out HW_.out (by kernel_rfl)) (fun _ _ _ h => h) (Or.inl ⟨by rfl, ?_⟩) hHeld ?_ ?_
 rotate_left
 ·
  rintro w' ⟨s0, s1, s2, s3, s4, s5, s6, s7⟩
  go_simp
  with_reducible rfl
 rotate_left
 ·
  simp only [Act.put, List.setIfInBounds_toArray, List.set_cons_zero, List.set_cons_succ, i64_w, i32_w]
  rfl
 refine join_ (σ := Value × Value × Nat) 2 #[true, true, true, true, true, true, true, true, true, false, false] (fun s_ => [(24, .agg #[.int .i64 t105, .int .i64 t106, .int .i64 t107, s_.1]), (26, .agg #[.int .i64 t111, .int .i64 t112, .int .i64 t113, s_.2.1]), (27, .tuple #[.agg #[.int .i64 t117, .int .i64 t118, .int .i64 t119, .int .i64 t120], .int .i64 t121]), (6, .pointer (some ⟨s_.2.2, 0, none⟩)), (22, .tuple #[.agg #[.int .i64 t117, .int .i64 t118, .int .i64 t119, .int .i64 t120], .int .i64 t121]), (28, .agg #[.int .i64 t117, .int .i64 t118, .int .i64 t119, .int .i64 t120]), (29, .int .i64 t121)]) (fun s_ w' => (w'.cell? ⟨gb101, 0, none⟩ = some (.int .i64 a0_0) ∧ w'.cell? ⟨gb101, 1, none⟩ = some (.int .i64 a0_1) ∧ w'.cell? ⟨gb101, 2, none⟩ = some (.int .i64 a0_2) ∧ w'.cell? ⟨gb101, 3, none⟩ = some (.slice A0_3 l0_3.length c0_3) ∧ w'.cell? ⟨gb102, 0, none⟩ = some (.int .i64 a1_0) ∧ w'.cell? ⟨gb102, 1, none⟩ = some (.int .i64 a1_1) ∧ w'.cell? ⟨gb102, 2, none⟩ = some (.int .i64 a1_2) ∧ w'.cell? ⟨gb102, 3, none⟩ = some (.slice A1_3 l1_3.length c1_3)) ∧ (Kd.R (Kd.int .i64) 3 w' w.heap.size (fun k_ => some k_ ≠ (s_.2.1 : Value).ownBlock) s_.1 t108) ∧ (Kd.R (Kd.int .i64) 3 w' w.heap.size (fun k_ => some k_ ≠ (s_.1 : Value).ownBlock) s_.2.1 t114) ∧ (w'.heap[gb101]? = some (.cells #[.int .i64 a0_0, .int .i64 a0_1, .int .i64 a0_2, .slice A0_3 l0_3.length c0_3] 24 (0, 0))) ∧ (w'.heap[gb102]? = some (.cells #[.int .i64 a1_0, .int .i64 a1_1, .int .i64 a1_2, .slice A1_3 l1_3.length c1_3] 24 (0, 0))) ∧ (w'.heap[s_.2.2]? = some (.cells #[.int .i64 0, .int .i64 0, .int .i64 0, .int .i64 0] 40 (0, 0))) ∧ (w.heap.size ≤ s_.2.2) ∧ (w.heap.size ≤ s_.2.2) ∧ (gb101 ≠ s_.2.2) ∧ (s_.2.2 ≠ gb101) ∧ (gb102 ≠ s_.2.2) ∧ (s_.2.2 ≠ gb102) ∧ (Below w.heap.size w w')) ?_ ?_
 rotate_left
 ·
  intro hCont
  refine two_ (i := 1) (j := 8) (Ni := some 24) (Nj := some 6) #[true, true, true, false, false, false, false, false, false, false, false] #[true, false, true, false, false, false, false, false, true, false, false] rfl rfl rfl rfl (two_of HT_.out (by kernel_rfl)) (by decide) (by decide) (fun K hK => ?_) (fun K hK => ?_)
  rotate_left
  ·
   skip
   refine box_step ?hg (N := 6) ?hd (cs := #[.int .i64 0, .int .i64 0, .int .i64 0, .int .i64 0]) (t := 40) ?hr ?_; (case hd => rfl); (case hg => rfl); (case hr => first | (go_simp; done) | (go_simp; rfl))
   intro gb122 hg w34 hbox hb
   have BK122 := am_ (hbox)
   have GW122 := am_ ((by rw [hg]; exact (below_size (by repeat (first | (with_reducible first | exact HB.out | apply below_alloc | apply pw_below_drewN | apply below_drew1 | refine below_set ?_ GE101.out | refine below_set ?_ GE102.out) | exact HB.out))) : w.heap.size ≤ gb122))
   have GE122 := GW122
   replace HB := am_ (below_step (by repeat (first | (with_reducible first | exact HB.out | apply below_alloc | apply pw_below_drewN | apply below_drew1 | refine below_set ?_ GE101.out | refine below_set ?_ GE102.out) | exact HB.out)) hb)
   have NB101_122 := am_ ((by rw [hg]; exact Nat.ne_of_lt (blk_lt (by exact BK101.out)) : gb101 ≠ gb122))
   have NB122_101 := am_ ((by rw [hg]; exact Nat.ne_of_gt (blk_lt (by exact BK101.out)) : gb122 ≠ gb101))
   replace BK101 := am_ (blk_below (by exact BK101.out) hb)
   have NB102_122 := am_ ((by rw [hg]; exact Nat.ne_of_lt (blk_lt (by exact BK102.out)) : gb102 ≠ gb122))
   have NB122_102 := am_ ((by rw [hg]; exact Nat.ne_of_gt (blk_lt (by exact BK102.out)) : gb122 ≠ gb102))
   replace BK102 := am_ (blk_below (by exact BK102.out) hb)
   clear hb hbox hg
   refine hK.out _ _ ⟨(blk_cell BK101.out 0).trans rfl, (blk_cell BK101.out 1).trans rfl, (blk_cell BK101.out 2).trans rfl, (blk_cell BK101.out 3).trans rfl, (blk_cell BK102.out 0).trans rfl, (blk_cell BK102.out 1).trans rfl, (blk_cell BK102.out 2).trans rfl, (blk_cell BK102.out 3).trans rfl⟩ (fun hHeld => ?_)
   clear hK K
   refine norm_ (a' := ?_) ?_ ?_
   rotate_left
   ·
    show Act.put _ (some 6) _ = _
    simp only [Act.put, List.setIfInBounds_toArray, List.set_cons_zero, List.set_cons_succ, i64_w, i32_w]
    rfl
   refine one_ (i := 1) (N := some 24) #[true, true, true, false, false, false, false, false, true, false, false] rfl rfl (one_of HT_.out (by kernel_rfl)) (by decide) (fun K hK => ?_)
   refine goes_ Try.func17 (by kernel_rfl) rfl #[.agg #[.int .i64 a0_0, .int .i64 a0_1, .int .i64 a0_2, .slice A0_3 l0_3.length c0_3]] (by rfl) rfl rfl (by simp only [List.map_toArray, List.map_cons, List.map_nil]; rfl) ?_
   with_reducible refine (laws_toImage.calls k a0_0 a0_1 a0_2 _ _ l0_3 t105 t106 t107 t108 _ ?side1 ?side2 A19.out).mono ?_
   (case side1 => repeat (first | exact (Kd.C_below HR0_3.out HB.out) | (with_reducible refine Kd.C_alloc ?_ _) | (with_reducible refine Kd.C_drewN ?_ _) | (with_reducible refine Kd.C_drew ?_)))
   (case side2 => exact HC0_3.out)
   rintro e w35 ⟨v109, rfl, ho0, hb⟩
   refine ⟨_, rfl, ?_⟩
   have HO110 := am_ (Kd.R_lower ho0 (below_size (by repeat (first | (with_reducible first | exact HB.out | apply below_alloc | apply pw_below_drewN | apply below_drew1 | refine below_set ?_ GE101.out | refine below_set ?_ GE102.out | refine below_set ?_ GE122.out) | exact HB.out))))
   replace BK101 := am_ (blk_below (by exact BK101.out) hb)
   replace BK102 := am_ (blk_below (by exact BK102.out) hb)
   replace BK122 := am_ (blk_below (by exact BK122.out) hb)
   replace HB := am_ (below_step (by repeat (first | (with_reducible first | exact HB.out | apply below_alloc | apply pw_below_drewN | apply below_drew1 | refine below_set ?_ GE101.out | refine below_set ?_ GE102.out | refine below_set ?_ GE122.out) | exact HB.out)) hb)
   (try clear hb)
   (try clear hb2)
   (try clear hk)
   (try clear hi)
   (try clear ho0)
   refine hK.out _ _ ⟨(blk_cell BK101.out 0).trans rfl, (blk_cell BK101.out 1).trans rfl, (blk_cell BK101.out 2).trans rfl, (blk_cell BK101.out 3).trans rfl, (blk_cell BK102.out 0).trans rfl, (blk_cell BK102.out 1).trans rfl, (blk_cell BK102.out 2).trans rfl, (blk_cell BK102.out 3).trans rfl⟩ (fun hHeld => ?_)
   clear hK K
   refine norm_ (a' := ?_) ?_ ?_
   rotate_left
   ·
    show Act.put _ (some 24) _ = _
    simp only [Act.put, List.setIfInBounds_toArray, List.set_cons_zero, List.set_cons_succ, i64_w, i32_w]
    rfl
   refine one_ (i := 3) (N := some 26) #[true, true, true, true, false, false, false, false, true, false, false] rfl rfl (one_of HT_.out (by kernel_rfl)) (by decide) (fun K hK => ?_)
   refine goes_ Try.func17 (by kernel_rfl) rfl #[.agg #[.int .i64 a1_0, .int .i64 a1_1, .int .i64 a1_2, .slice A1_3 l1_3.length c1_3]] (by rfl) rfl rfl (by simp only [List.map_toArray, List.map_cons, List.map_nil]; rfl) ?_
   with_reducible refine (laws_toImage.calls k a1_0 a1_1 a1_2 _ _ l1_3 t111 t112 t113 t114 _ ?side1 ?side2 A20.out).mono ?_
   (case side1 => repeat (first | exact (Kd.C_below HR1_3.out HB.out) | (with_reducible refine Kd.C_alloc ?_ _) | (with_reducible refine Kd.C_drewN ?_ _) | (with_reducible refine Kd.C_drew ?_)))
   (case side2 => exact HC1_3.out)
   rintro e w36 ⟨v115, rfl, ho0, hb⟩
   refine ⟨_, rfl, ?_⟩
   have HO116 := am_ (Kd.R_lower (Kd.R_new' ho0 (Kd.R_lt (by exact HO110.out))) (below_size (by repeat (first | (with_reducible first | exact HB.out | apply below_alloc | apply pw_below_drewN | apply below_drew1 | refine below_set ?_ GE101.out | refine below_set ?_ GE102.out | refine below_set ?_ GE122.out) | exact HB.out))))
   replace HO110 := am_ (Kd.R_elder' (by exact HO110.out) (Kd.R_base ho0) hb)
   replace BK101 := am_ (blk_below (by exact BK101.out) hb)
   replace BK102 := am_ (blk_below (by exact BK102.out) hb)
   replace BK122 := am_ (blk_below (by exact BK122.out) hb)
   replace HB := am_ (below_step (by repeat (first | (with_reducible first | exact HB.out | apply below_alloc | apply pw_below_drewN | apply below_drew1 | refine below_set ?_ GE101.out | refine below_set ?_ GE102.out | refine below_set ?_ GE122.out) | exact HB.out)) hb)
   (try clear hb)
   (try clear hb2)
   (try clear hk)
   (try clear hi)
   (try clear ho0)
   obtain ⟨Ao37, co37, eo37⟩ := Kd.R_slice HO110.out
   (first | subst eo37 | (injection eo37 with f1_ f2_ f3_; have f4_ := f1_.symm; have f5_ := f3_.symm; clear f1_ f2_ f3_; subst f4_; subst f5_))
   obtain ⟨Ao38, co38, eo38⟩ := Kd.R_slice HO116.out
   (first | subst eo38 | (injection eo38 with f1_ f2_ f3_; have f4_ := f1_.symm; have f5_ := f3_.symm; clear f1_ f2_ f3_; subst f4_; subst f5_))
   refine hK.out _ _ ⟨(blk_cell BK101.out 0).trans rfl, (blk_cell BK101.out 1).trans rfl, (blk_cell BK101.out 2).trans rfl, (blk_cell BK101.out 3).trans rfl, (blk_cell BK102.out 0).trans rfl, (blk_cell BK102.out 1).trans rfl, (blk_cell BK102.out 2).trans rfl, (blk_cell BK102.out 3).trans rfl⟩ (fun hHeld => ?_)
   clear hK K
   refine norm_ (a' := ?_) ?_ ?_
   rotate_left
   ·
    show Act.put _ (some 26) _ = _
    simp only [Act.put, List.setIfInBounds_toArray, List.set_cons_zero, List.set_cons_succ, i64_w, i32_w]
    rfl
   refine one_ (i := 4) (N := some 27) #[true, true, true, true, true, false, false, false, true, false, false] rfl rfl (one_of HT_.out (by kernel_rfl)) (by decide) (fun K hK => ?_)
   refine goes_ Try.func34 (by kernel_rfl) rfl #[.agg #[.int .i64 t105, .int .i64 t106, .int .i64 t107, .slice Ao37 t108.length co37], .agg #[.int .i64 t111, .int .i64 t112, .int .i64 t113, .slice Ao38 t114.length co38]] (by rfl) rfl rfl (by simp only [List.map_toArray, List.map_cons, List.map_nil]; rfl) ?_
   with_reducible refine (spec_FindImage.calls k t105 t106 t107 _ _ t108 t111 t112 t113 _ _ t114 t117 t118 t119 t120 t121 _ ?side1 ?side2 ?side3 ?side4 A21.out).mono ?_
   (case side1 => repeat (first | exact (Kd.R_reads' HO110.out).2.2 | (with_reducible refine Kd.C_alloc ?_ _) | (with_reducible refine Kd.C_drewN ?_ _) | (with_reducible refine Kd.C_drew ?_)))
   (case side2 => exact (Kd.R_reads' HO110.out).2.1)
   (case side3 => repeat (first | exact (Kd.R_reads' HO116.out).2.2 | (with_reducible refine Kd.C_alloc ?_ _) | (with_reducible refine Kd.C_drewN ?_ _) | (with_reducible refine Kd.C_drew ?_)))
   (case side4 => exact (Kd.R_reads' HO116.out).2.1)
   rintro e w39 ⟨rfl, hb⟩
   refine ⟨_, rfl, ?_⟩
   replace HO110 := am_ (Kd.R_below (by exact HO110.out) hb)
   replace HO116 := am_ (Kd.R_below (by exact HO116.out) hb)
   replace BK101 := am_ (blk_below (by exact BK101.out) hb)
   replace BK102 := am_ (blk_below (by exact BK102.out) hb)
   replace BK122 := am_ (blk_below (by exact BK122.out) hb)
   replace HB := am_ (below_step (by repeat (first | (with_reducible first | exact HB.out | apply below_alloc | apply pw_below_drewN | apply below_drew1 | refine below_set ?_ GE101.out | refine below_set ?_ GE102.out | refine below_set ?_ GE122.out) | exact HB.out)) hb)
   (try clear hb)
   (try clear hb2)
   (try clear hk)
   (try clear hi)
   refine hK.out _ _ ⟨(blk_cell BK101.out 0).trans rfl, (blk_cell BK101.out 1).trans rfl, (blk_cell BK101.out 2).trans rfl, (blk_cell BK101.out 3).trans rfl, (blk_cell BK102.out 0).trans rfl, (blk_cell BK102.out 1).trans rfl, (blk_cell BK102.out 2).trans rfl, (blk_cell BK102.out 3).trans rfl⟩ (fun hHeld => ?_)
   clear hK K
   refine norm_ (a' := ?_) ?_ ?_
   rotate_left
   ·
    show Act.put _ (some 27) _ = _
    simp only [Act.put, List.setIfInBounds_toArray, List.set_cons_zero, List.set_cons_succ, i64_w, i32_w]
    rfl
   refine pure_ (i := 5) (N := some 22) (v := ?_) (a' := ?_) #[true, true, true, true, true, true, false, false, true, false, false] rfl rfl (any_of HT_.out (by kernel_rfl)) (fun _ _ _ h => h) (Or.inl ⟨by rfl, ?_⟩) ?_ ?_
   rotate_left
   ·
    intro w'
    go_simp
    with_reducible rfl
   rotate_left
   ·
    simp only [Act.put, List.setIfInBounds_toArray, List.set_cons_zero, List.set_cons_succ, i64_w, i32_w]
    rfl
   refine pure_ (i := 6) (N := some 28) (v := ?_) (a' := ?_) #[true, true, true, true, true, true, true, false, true, false, false] rfl rfl (any_of HT_.out (by kernel_rfl)) (fun _ _ _ h => h) (Or.inl ⟨by rfl, ?_⟩) ?_ ?_
   rotate_left
   ·
    intro w'
    go_simp
    with_reducible rfl
   rotate_left
   ·
    simp only [Act.put, List.setIfInBounds_toArray, List.set_cons_zero, List.set_cons_succ, i64_w, i32_w]
    rfl
   refine pure_ (i := 7) (N := some 29) (v := ?_) (a' := ?_) #[true, true, true, true, true, true, true, true, true, false, false] rfl rfl (any_of HT_.out (by kernel_rfl)) (fun _ _ _ h => h) (Or.inl ⟨by rfl, ?_⟩) ?_ ?_
   rotate_left
   ·
    intro w'
    go_simp
    with_reducible rfl
   rotate_left
   ·
    simp only [Act.put, List.setIfInBounds_toArray, List.set_cons_zero, List.set_cons_succ, i64_w, i32_w]
    rfl
   exact norm_ (by simp only [putAll, Act.put, List.setIfInBounds_toArray, List.set_cons_zero, List.set_cons_succ]) (hCont (.slice Ao37 t108.length co37, .slice Ao38 t114.length co38, gb122) _ ⟨hHeld, (by exact Kd.R_mono HO110.out (fun _ hk => hk.2)), (by exact Kd.R_mono HO116.out (fun _ hk => hk.2)), (by exact BK101.out), (by exact BK102.out), (by exact BK122.out), GW122.out, GE122.out, NB101_122.out, NB122_101.out, NB102_122.out, NB122_102.out, (by repeat (first | (with_reducible first | exact HB.out | apply below_alloc | apply pw_below_drewN | apply below_drew1 | refine below_set ?_ GE101.out | refine below_set ?_ GE102.out | refine below_set ?_ GE122.out) | exact HB.out))⟩)
  skip
  refine goes_ Try.func17 (by kernel_rfl) rfl #[.agg #[.int .i64 a0_0, .int .i64 a0_1, .int .i64 a0_2, .slice A0_3 l0_3.length c0_3]] (by rfl) rfl rfl (by simp only [List.map_toArray, List.map_cons, List.map_nil]; rfl) ?_
  with_reducible refine (laws_toImage.calls k a0_0 a0_1 a0_2 _ _ l0_3 t105 t106 t107 t108 _ ?side1 ?side2 A19.out).mono ?_
  (case side1 => repeat (first | exact (Kd.C_below HR0_3.out HB.out) | (with_reducible refine Kd.C_alloc ?_ _) | (with_reducible refine Kd.C_drewN ?_ _) | (with_reducible refine Kd.C_drew ?_)))
  (case side2 => exact HC0_3.out)
  rintro e w34 ⟨v109, rfl, ho0, hb⟩
  refine ⟨_, rfl, ?_⟩
  have HO110 := am_ (Kd.R_lower ho0 (below_size (by repeat (first | (with_reducible first | exact HB.out | apply below_alloc | apply pw_below_drewN | apply below_drew1 | refine below_set ?_ GE101.out | refine below_set ?_ GE102.out) | exact HB.out))))
  replace BK101 := am_ (blk_below (by exact BK101.out) hb)
  replace BK102 := am_ (blk_below (by exact BK102.out) hb)
  replace HB := am_ (below_step (by repeat (first | (with_reducible first | exact HB.out | apply below_alloc | apply pw_below_drewN | apply below_drew1 | refine below_set ?_ GE101.out | refine below_set ?_ GE102.out) | exact HB.out)) hb)
  (try clear hb)
  (try clear hb2)
  (try clear hk)
  (try clear hi)
  (try clear ho0)
  refine hK.out _ _ ⟨(blk_cell BK101.out 0).trans rfl, (blk_cell BK101.out 1).trans rfl, (blk_cell BK101.out 2).trans rfl, (blk_cell BK101.out 3).trans rfl, (blk_cell BK102.out 0).trans rfl, (blk_cell BK102.out 1).trans rfl, (blk_cell BK102.out 2).trans rfl, (blk_cell BK102.out 3).trans rfl⟩ (fun hHeld => ?_)
  clear hK K
  refine norm_ (a' := ?_) ?_ ?_
  rotate_left
  ·
   show Act.put _ (some 24) _ = _
   simp only [Act.put, List.setIfInBounds_toArray, List.set_cons_zero, List.set_cons_succ, i64_w, i32_w]
   rfl
  refine two_ (i := 3) (j := 8) (Ni := some 26) (Nj := some 6) #[true, true, true, true, false, false, false, false, false, false, false] #[true, true, true, false, false, false, false, false, true, false, false] rfl rfl rfl rfl (two_of HT_.out (by kernel_rfl)) (by decide) (by decide) (fun K hK => ?_) (fun K hK => ?_)
  ·
   skip
   refine goes_ Try.func17 (by kernel_rfl) rfl #[.agg #[.int .i64 a1_0, .int .i64 a1_1, .int .i64 a1_2, .slice A1_3 l1_3.length c1_3]] (by rfl) rfl rfl (by simp only [List.map_toArray, List.map_cons, List.map_nil]; rfl) ?_
   with_reducible refine (laws_toImage.calls k a1_0 a1_1 a1_2 _ _ l1_3 t111 t112 t113 t114 _ ?side1 ?side2 A20.out).mono ?_
   (case side1 => repeat (first | exact (Kd.C_below HR1_3.out HB.out) | (with_reducible refine Kd.C_alloc ?_ _) | (with_reducible refine Kd.C_drewN ?_ _) | (with_reducible refine Kd.C_drew ?_)))
   (case side2 => exact HC1_3.out)
   rintro e w35 ⟨v115, rfl, ho0, hb⟩
   refine ⟨_, rfl, ?_⟩
   have HO116 := am_ (Kd.R_lower (Kd.R_new' ho0 (Kd.R_lt (by exact HO110.out))) (below_size (by repeat (first | (with_reducible first | exact HB.out | apply below_alloc | apply pw_below_drewN | apply below_drew1 | refine below_set ?_ GE101.out | refine below_set ?_ GE102.out) | exact HB.out))))
   replace HO110 := am_ (Kd.R_elder' (by exact HO110.out) (Kd.R_base ho0) hb)
   replace BK101 := am_ (blk_below (by exact BK101.out) hb)
   replace BK102 := am_ (blk_below (by exact BK102.out) hb)
   replace HB := am_ (below_step (by repeat (first | (with_reducible first | exact HB.out | apply below_alloc | apply pw_below_drewN | apply below_drew1 | refine below_set ?_ GE101.out | refine below_set ?_ GE102.out) | exact HB.out)) hb)
   (try clear hb)
   (try clear hb2)
   (try clear hk)
   (try clear hi)
   (try clear ho0)
   obtain ⟨Ao36, co36, eo36⟩ := Kd.R_slice HO110.out
   (first | subst eo36 | (injection eo36 with f1_ f2_ f3_; have f4_ := f1_.symm; have f5_ := f3_.symm; clear f1_ f2_ f3_; subst f4_; subst f5_))
   obtain ⟨Ao37, co37, eo37⟩ := Kd.R_slice HO116.out
   (first | subst eo37 | (injection eo37 with f1_ f2_ f3_; have f4_ := f1_.symm; have f5_ := f3_.symm; clear f1_ f2_ f3_; subst f4_; subst f5_))
   refine hK.out _ _ ⟨(blk_cell BK101.out 0).trans rfl, (blk_cell BK101.out 1).trans rfl, (blk_cell BK101.out 2).trans rfl, (blk_cell BK101.out 3).trans rfl, (blk_cell BK102.out 0).trans rfl, (blk_cell BK102.out 1).trans rfl, (blk_cell BK102.out 2).trans rfl, (blk_cell BK102.out 3).trans rfl⟩ (fun hHeld => ?_)
   clear hK K
   refine norm_ (a' := ?_) ?_ ?_
   rotate_left
   ·
    show Act.put _ (some 26) _ = _
    simp only [Act.put, List.setIfInBounds_toArray, List.set_cons_zero, List.set_cons_succ, i64_w, i32_w]
    rfl
   refine two_ (i := 4) (j := 8) (Ni := some 27) (Nj := some 6) #[true, true, true, true, true, false, false, false, false, false, false] #[true, true, true, true, false, false, false, false, true, false, false] rfl rfl rfl rfl (two_of HT_.out (by kernel_rfl)) (by decide) (by decide) (fun K hK => ?_) (fun K hK => ?_)
   ·
    skip
    refine goes_ Try.func34 (by kernel_rfl) rfl #[.agg #[.int .i64 t105, .int .i64 t106, .int .i64 t107, .slice Ao36 t108.length co36], .agg #[.int .i64 t111, .int .i64 t112, .int .i64 t113, .slice Ao37 t114.length co37]] (by rfl) rfl rfl (by simp only [List.map_toArray, List.map_cons, List.map_nil]; rfl) ?_
    with_reducible refine (spec_FindImage.calls k t105 t106 t107 _ _ t108 t111 t112 t113 _ _ t114 t117 t118 t119 t120 t121 _ ?side1 ?side2 ?side3 ?side4 A21.out).mono ?_
    (case side1 => repeat (first | exact (Kd.R_reads' HO110.out).2.2 | (with_reducible refine Kd.C_alloc ?_ _) | (with_reducible refine Kd.C_drewN ?_ _) | (with_reducible refine Kd.C_drew ?_)))
    (case side2 => exact (Kd.R_reads' HO110.out).2.1)
    (case side3 => repeat (first | exact (Kd.R_reads' HO116.out).2.2 | (with_reducible refine Kd.C_alloc ?_ _) | (with_reducible refine Kd.C_drewN ?_ _) | (with_reducible refine Kd.C_drew ?_)))
    (case side4 => exact (Kd.R_reads' HO116.out).2.1)
    rintro e w38 ⟨rfl, hb⟩
    refine ⟨_, rfl, ?_⟩
    replace HO110 := am_ (Kd.R_below (by exact HO110.out) hb)
    replace HO116 := am_ (Kd.R_below (by exact HO116.out) hb)
    replace BK101 := am_ (blk_below (by exact BK101.out) hb)
    replace BK102 := am_ (blk_below (by exact BK102.out) hb)
    replace HB := am_ (below_step (by repeat (first | (with_reducible first | exact HB.out | apply below_alloc | apply pw_below_drewN | apply below_drew1 | refine below_set ?_ GE101.out | refine below_set ?_ GE102.out) | exact HB.out)) hb)
    (try clear hb)
    (try clear hb2)
    (try clear hk)
    (try clear hi)
    refine hK.out _ _ ⟨(blk_cell BK101.out 0).trans rfl, (blk_cell BK101.out 1).trans rfl, (blk_cell BK101.out 2).trans rfl, (blk_cell BK101.out 3).trans rfl, (blk_cell BK102.out 0).trans rfl, (blk_cell BK102.out 1).trans rfl, (blk_cell BK102.out 2).trans rfl, (blk_cell BK102.out 3).trans rfl⟩ (fun hHeld => ?_)
    clear hK K
    refine norm_ (a' := ?_) ?_ ?_
    rotate_left
    ·
     show Act.put _ (some 27) _ = _
     simp only [Act.put, List.setIfInBounds_toArray, List.set_cons_zero, List.set_cons_succ, i64_w, i32_w]
     rfl
    refine pure_ (i := 5) (N := some 22) (v := ?_) (a' := ?_) #[true, true, true, true, true, true, false, false, false, false, false] rfl rfl (any_of HT_.out (by kernel_rfl)) (fun _ _ _ h => h) (Or.inl ⟨by rfl, ?_⟩) ?_ ?_
    rotate_left
    ·
     intro w'
     go_simp
     with_reducible rfl
    rotate_left
    ·
     simp only [Act.put, List.setIfInBounds_toArray, List.set_cons_zero, List.set_cons_succ, i64_w, i32_w]
     rfl
    refine pure_ (i := 6) (N := some 28) (v := ?_) (a' := ?_) #[true, true, true, true, true, true, true, false, false, false, false] rfl rfl (any_of HT_.out (by kernel_rfl)) (fun _ _ _ h => h) (Or.inl ⟨by rfl, ?_⟩) ?_ ?_
    rotate_left
    ·
     intro w'
     go_simp
     with_reducible rfl
    rotate_left
    ·
     simp only [Act.put, List.setIfInBounds_toArray, List.set_cons_zero, List.set_cons_succ, i64_w, i32_w]
     rfl
    refine pure_ (i := 7) (N := some 29) (v := ?_) (a' := ?_) #[true, true, true, true, true, true, true, true, false, false, false] rfl rfl (any_of HT_.out (by kernel_rfl)) (fun _ _ _ h => h) (Or.inl ⟨by rfl, ?_⟩) ?_ ?_
    rotate_left
    ·
     intro w'
     go_simp
     with_reducible rfl
    rotate_left
    ·
     simp only [Act.put, List.setIfInBounds_toArray, List.set_cons_zero, List.set_cons_succ, i64_w, i32_w]
     rfl
    refine one_ (i := 8) (N := some 6) #[true, true, true, true, true, true, true, true, true, false, false] rfl rfl (one_of HT_.out (by kernel_rfl)) (by decide) (fun K hK => ?_)
    refine box_step ?hg (N := 6) ?hd (cs := #[.int .i64 0, .int .i64 0, .int .i64 0, .int .i64 0]) (t := 40) ?hr ?_; (case hd => rfl); (case hg => rfl); (case hr => first | (go_simp; done) | (go_simp; rfl))
    intro gb122 hg w39 hbox hb
    replace HO110 := am_ (Kd.R_below (by exact HO110.out) hb)
    replace HO116 := am_ (Kd.R_below (by exact HO116.out) hb)
    have BK122 := am_ (hbox)
    have GW122 := am_ ((by rw [hg]; exact (below_size (by repeat (first | (with_reducible first | exact HB.out | apply below_alloc | apply pw_below_drewN | apply below_drew1 | refine below_set ?_ GE101.out | refine below_set ?_ GE102.out) | exact HB.out))) : w.heap.size ≤ gb122))
    have GE122 := GW122
    replace HB := am_ (below_step (by repeat (first | (with_reducible first | exact HB.out | apply below_alloc | apply pw_below_drewN | apply below_drew1 | refine below_set ?_ GE101.out | refine below_set ?_ GE102.out) | exact HB.out)) hb)
    have NB101_122 := am_ ((by rw [hg]; exact Nat.ne_of_lt (blk_lt (by exact BK101.out)) : gb101 ≠ gb122))
    have NB122_101 := am_ ((by rw [hg]; exact Nat.ne_of_gt (blk_lt (by exact BK101.out)) : gb122 ≠ gb101))
    replace BK101 := am_ (blk_below (by exact BK101.out) hb)
    have NB102_122 := am_ ((by rw [hg]; exact Nat.ne_of_lt (blk_lt (by exact BK102.out)) : gb102 ≠ gb122))
    have NB122_102 := am_ ((by rw [hg]; exact Nat.ne_of_gt (blk_lt (by exact BK102.out)) : gb122 ≠ gb102))
    replace BK102 := am_ (blk_below (by exact BK102.out) hb)
    clear hb hbox hg
    refine hK.out _ _ ⟨(blk_cell BK101.out 0).trans rfl, (blk_cell BK101.out 1).trans rfl, (blk_cell BK101.out 2).trans rfl, (blk_cell BK101.out 3).trans rfl, (blk_cell BK102.out 0).trans rfl, (blk_cell BK102.out 1).trans rfl, (blk_cell BK102.out 2).trans rfl, (blk_cell BK102.out 3).trans rfl⟩ (fun hHeld => ?_)
    clear hK K
    refine norm_ (a' := ?_) ?_ ?_
    rotate_left
    ·
     show Act.put _ (some 6) _ = _
     simp only [Act.put, List.setIfInBounds_toArray, List.set_cons_zero, List.set_cons_succ, i64_w, i32_w]
     rfl
    exact norm_ (by simp only [putAll, Act.put, List.setIfInBounds_toArray, List.set_cons_zero, List.set_cons_succ]) (hCont (.slice Ao36 t108.length co36, .slice Ao37 t114.length co37, gb122) _ ⟨hHeld, (by exact Kd.R_mono HO110.out (fun _ hk => hk.2)), (by exact Kd.R_mono HO116.out (fun _ hk => hk.2)), (by exact BK101.out), (by exact BK102.out), (by exact BK122.out), GW122.out, GE122.out, NB101_122.out, NB122_101.out, NB102_122.out, NB122_102.out, (by repeat (first | (with_reducible first | exact HB.out | apply below_alloc | apply pw_below_drewN | apply below_drew1 | refine below_set ?_ GE101.out | refine below_set ?_ GE102.out | refine below_set ?_ GE122.out) | exact HB.out))⟩)
   skip
   refine box_step ?hg (N := 6) ?hd (cs := #[.int .i64 0, .int .i64 0, .int .i64 0, .int .i64 0]) (t := 40) ?hr ?_; (case hd => rfl); (case hg => rfl); (case hr => first | (go_simp; done) | (go_simp; rfl))
   intro gb122 hg w36 hbox hb
   replace HO110 := am_ (Kd.R_below (by exact HO110.out) hb)
   replace HO116 := am_ (Kd.R_below (by exact HO116.out) hb)
   have BK122 := am_ (hbox)
   have GW122 := am_ ((by rw [hg]; exact (below_size (by repeat (first | (with_reducible first | exact HB.out | apply below_alloc | apply pw_below_drewN | apply below_drew1 | refine below_set ?_ GE101.out | refine below_set ?_ GE102.out) | exact HB.out))) : w.heap.size ≤ gb122))
   have GE122 := GW122
   replace HB := am_ (below_step (by repeat (first | (with_reducible first | exact HB.out | apply below_alloc | apply pw_below_drewN | apply below_drew1 | refine below_set ?_ GE101.out | refine below_set ?_ GE102.out) | exact HB.out)) hb)
   have NB101_122 := am_ ((by rw [hg]; exact Nat.ne_of_lt (blk_lt (by exact BK101.out)) : gb101 ≠ gb122))
   have NB122_101 := am_ ((by rw [hg]; exact Nat.ne_of_gt (blk_lt (by exact BK101.out)) : gb122 ≠ gb101))
   replace BK101 := am_ (blk_below (by exact BK101.out) hb)
   have NB102_122 := am_ ((by rw [hg]; exact Nat.ne_of_lt (blk_lt (by exact BK102.out)) : gb102 ≠ gb122))
   have NB122_102 := am_ ((by rw [hg]; exact Nat.ne_of_gt (blk_lt (by exact BK102.out)) : gb122 ≠ gb102))
   replace BK102 := am_ (blk_below (by exact BK102.out) hb)
   clear hb hbox hg
   obtain ⟨Ao37, co37, eo37⟩ := Kd.R_slice HO110.out
   (first | subst eo37 | (injection eo37 with f1_ f2_ f3_; have f4_ := f1_.symm; have f5_ := f3_.symm; clear f1_ f2_ f3_; subst f4_; subst f5_))
   obtain ⟨Ao38, co38, eo38⟩ := Kd.R_slice HO116.out
   (first | subst eo38 | (injection eo38 with f1_ f2_ f3_; have f4_ := f1_.symm; have f5_ := f3_.symm; clear f1_ f2_ f3_; subst f4_; subst f5_))
   refine hK.out _ _ ⟨(blk_cell BK101.out 0).trans rfl, (blk_cell BK101.out 1).trans rfl, (blk_cell BK101.out 2).trans rfl, (blk_cell BK101.out 3).trans rfl, (blk_cell BK102.out 0).trans rfl, (blk_cell BK102.out 1).trans rfl, (blk_cell BK102.out 2).trans rfl, (blk_cell BK102.out 3).trans rfl⟩ (fun hHeld => ?_)
   clear hK K
   refine norm_ (a' := ?_) ?_ ?_
   rotate_left
   ·
    show Act.put _ (some 6) _ = _
    simp only [Act.put, List.setIfInBounds_toArray, List.set_cons_zero, List.set_cons_succ, i64_w, i32_w]
    rfl
   refine one_ (i := 4) (N := some 27) #[true, true, true, true, true, false, false, false, true, false, false] rfl rfl (one_of HT_.out (by kernel_rfl)) (by decide) (fun K hK => ?_)
   refine goes_ Try.func34 (by kernel_rfl) rfl #[.agg #[.int .i64 t105, .int .i64 t106, .int .i64 t107, .slice Ao37 t108.length co37], .agg #[.int .i64 t111, .int .i64 t112, .int .i64 t113, .slice Ao38 t114.length co38]] (by rfl) rfl rfl (by simp only [List.map_toArray, List.map_cons, List.map_nil]; rfl) ?_
   with_reducible refine (spec_FindImage.calls k t105 t106 t107 _ _ t108 t111 t112 t113 _ _ t114 t117 t118 t119 t120 t121 _ ?side1 ?side2 ?side3 ?side4 A21.out).mono ?_
   (case side1 => repeat (first | exact (Kd.R_reads' HO110.out).2.2 | (with_reducible refine Kd.C_alloc ?_ _) | (with_reducible refine Kd.C_drewN ?_ _) | (with_reducible refine Kd.C_drew ?_)))
   (case side2 => exact (Kd.R_reads' HO110.out).2.1)
   (case side3 => repeat (first | exact (Kd.R_reads' HO116.out).2.2 | (with_reducible refine Kd.C_alloc ?_ _) | (with_reducible refine Kd.C_drewN ?_ _) | (with_reducible refine Kd.C_drew ?_)))
   (case side4 => exact (Kd.R_reads' HO116.out).2.1)
   rintro e w39 ⟨rfl, hb⟩
   refine ⟨_, rfl, ?_⟩
   replace HO110 := am_ (Kd.R_below (by exact HO110.out) hb)
   replace HO116 := am_ (Kd.R_below (by exact HO116.out) hb)
   replace BK101 := am_ (blk_below (by exact BK101.out) hb)
   replace BK102 := am_ (blk_below (by exact BK102.out) hb)
   replace BK122 := am_ (blk_below (by exact BK122.out) hb)
   replace HB := am_ (below_step (by repeat (first | (with_reducible first | exact HB.out | apply below_alloc | apply pw_below_drewN | apply below_drew1 | refine below_set ?_ GE101.out | refine below_set ?_ GE102.out | refine below_set ?_ GE122.out) | exact HB.out)) hb)
   (try clear hb)
   (try clear hb2)
   (try clear hk)
   (try clear hi)
   refine hK.out _ _ ⟨(blk_cell BK101.out 0).trans rfl, (blk_cell BK101.out 1).trans rfl, (blk_cell BK101.out 2).trans rfl, (blk_cell BK101.out 3).trans rfl, (blk_cell BK102.out 0).trans rfl, (blk_cell BK102.out 1).trans rfl, (blk_cell BK102.out 2).trans rfl, (blk_cell BK102.out 3).trans rfl⟩ (fun hHeld => ?_)
   clear hK K
   refine norm_ (a' := ?_) ?_ ?_
   rotate_left
   ·
    show Act.put _ (some 27) _ = _
    simp only [Act.put, List.setIfInBounds_toArray, List.set_cons_zero, List.set_cons_succ, i64_w, i32_w]
    rfl
   refine pure_ (i := 5) (N := some 22) (v := ?_) (a' := ?_) #[true, true, true, true, true, true, false, false, true, false, false] rfl rfl (any_of HT_.out (by kernel_rfl)) (fun _ _ _ h => h) (Or.inl ⟨by rfl, ?_⟩) ?_ ?_
   rotate_left
   ·
    intro w'
    go_simp
    with_reducible rfl
   rotate_left
   ·
    simp only [Act.put, List.setIfInBounds_toArray, List.set_cons_zero, List.set_cons_succ, i64_w, i32_w]
    rfl
   refine pure_ (i := 6) (N := some 28) (v := ?_) (a' := ?_) #[true, true, true, true, true, true, true, false, true, false, false] rfl rfl (any_of HT_.out (by kernel_rfl)) (fun _ _ _ h => h) (Or.inl ⟨by rfl, ?_⟩) ?_ ?_
   rotate_left
   ·
    intro w'
    go_simp
    with_reducible rfl
   rotate_left
   ·
    simp only [Act.put, List.setIfInBounds_toArray, List.set_cons_zero, List.set_cons_succ, i64_w, i32_w]
    rfl
   refine pure_ (i := 7) (N := some 29) (v := ?_) (a' := ?_) #[true, true, true, true, true, true, true, true, true, false, false] rfl rfl (any_of HT_.out (by kernel_rfl)) (fun _ _ _ h => h) (Or.inl ⟨by rfl, ?_⟩) ?_ ?_
   rotate_left
   ·
    intro w'
    go_simp
    with_reducible rfl
   rotate_left
   ·
    simp only [Act.put, List.setIfInBounds_toArray, List.set_cons_zero, List.set_cons_succ, i64_w, i32_w]
    rfl
   exact norm_ (by simp only [putAll, Act.put, List.setIfInBounds_toArray, List.set_cons_zero, List.set_cons_succ]) (hCont (.slice Ao37 t108.length co37, .slice Ao38 t114.length co38, gb122) _ ⟨hHeld, (by exact Kd.R_mono HO110.out (fun _ hk => hk.2)), (by exact Kd.R_mono HO116.out (fun _ hk => hk.2)), (by exact BK101.out), (by exact BK102.out), (by exact BK122.out), GW122.out, GE122.out, NB101_122.out, NB122_101.out, NB102_122.out, NB122_102.out, (by repeat (first | (with_reducible first | exact HB.out | apply below_alloc | apply pw_below_drewN | apply below_drew1 | refine below_set ?_ GE101.out | refine below_set ?_ GE102.out | refine below_set ?_ GE122.out) | exact HB.out))⟩)
  skip
  refine box_step ?hg (N := 6) ?hd (cs := #[.int .i64 0, .int .i64 0, .int .i64 0, .int .i64 0]) (t := 40) ?hr ?_; (case hd => rfl); (case hg => rfl); (case hr => first | (go_simp; done) | (go_simp; rfl))
  intro gb122 hg w35 hbox hb
  replace HO110 := am_ (Kd.R_below (by exact HO110.out) hb)
  have BK122 := am_ (hbox)
  have GW122 := am_ ((by rw [hg]; exact (below_size (by repeat (first | (with_reducible first | exact HB.out | apply below_alloc | apply pw_below_drewN | apply below_drew1 | refine below_set ?_ GE101.out | refine below_set ?_ GE102.out) | exact HB.out))) : w.heap.size ≤ gb122))
  have GE122 := GW122
  replace HB := am_ (below_step (by repeat (first | (with_reducible first | exact HB.out | apply below_alloc | apply pw_below_drewN | apply below_drew1 | refine below_set ?_ GE101.out | refine below_set ?_ GE102.out) | exact HB.out)) hb)
  have NB101_122 := am_ ((by rw [hg]; exact Nat.ne_of_lt (blk_lt (by exact BK101.out)) : gb101 ≠ gb122))
  have NB122_101 := am_ ((by rw [hg]; exact Nat.ne_of_gt (blk_lt (by exact BK101.out)) : gb122 ≠ gb101))
  replace BK101 := am_ (blk_below (by exact BK101.out) hb)
  have NB102_122 := am_ ((by rw [hg]; exact Nat.ne_of_lt (blk_lt (by exact BK102.out)) : gb102 ≠ gb122))
  have NB122_102 := am_ ((by rw [hg]; exact Nat.ne_of_gt (blk_lt (by exact BK102.out)) : gb122 ≠ gb102))
  replace BK102 := am_ (blk_below (by exact BK102.out) hb)
  clear hb hbox hg
  refine hK.out _ _ ⟨(blk_cell BK101.out 0).trans rfl, (blk_cell BK101.out 1).trans rfl, (blk_cell BK101.out 2).trans rfl, (blk_cell BK101.out 3).trans rfl, (blk_cell BK102.out 0).trans rfl, (blk_cell BK102.out 1).trans rfl, (blk_cell BK102.out 2).trans rfl, (blk_cell BK102.out 3).trans rfl⟩ (fun hHeld => ?_)
  clear hK K
  refine norm_ (a' := ?_) ?_ ?_
  rotate_left
  ·
   show Act.put _ (some 6) _ = _
   simp only [Act.put, List.setIfInBounds_toArray, List.set_cons_zero, List.set_cons_succ, i64_w, i32_w]
   rfl
  refine one_ (i := 3) (N := some 26) #[true, true, true, true, false, false, false, false, true, false, false] rfl rfl (one_of HT_.out (by kernel_rfl)) (by decide) (fun K hK => ?_)
  refine goes_ Try.func17 (by kernel_rfl) rfl #[.agg #[.int .i64 a1_0, .int .i64 a1_1, .int .i64 a1_2, .slice A1_3 l1_3.length c1_3]] (by rfl) rfl rfl (by simp only [List.map_toArray, List.map_cons, List.map_nil]; rfl) ?_
  with_reducible refine (laws_toImage.calls k a1_0 a1_1 a1_2 _ _ l1_3 t111 t112 t113 t114 _ ?side1 ?side2 A20.out).mono ?_
  (case side1 => repeat (first | exact (Kd.C_below HR1_3.out HB.out) | (with_reducible refine Kd.C_alloc ?_ _) | (with_reducible refine Kd.C_drewN ?_ _) | (with_reducible refine Kd.C_drew ?_)))
  (case side2 => exact HC1_3.out)
  rintro e w36 ⟨v115, rfl, ho0, hb⟩
  refine ⟨_, rfl, ?_⟩
  have HO116 := am_ (Kd.R_lower (Kd.R_new' ho0 (Kd.R_lt (by exact HO110.out))) (below_size (by repeat (first | (with_reducible first | exact HB.out | apply below_alloc | apply pw_below_drewN | apply below_drew1 | refine below_set ?_ GE101.out | refine below_set ?_ GE102.out | refine below_set ?_ GE122.out) | exact HB.out))))
  replace HO110 := am_ (Kd.R_elder' (by exact HO110.out) (Kd.R_base ho0) hb)
  replace BK101 := am_ (blk_below (by exact BK101.out) hb)
  replace BK102 := am_ (blk_below (by exact BK102.out) hb)
  replace BK122 := am_ (blk_below (by exact BK122.out) hb)
  replace HB := am_ (below_step (by repeat (first | (with_reducible first | exact HB.out | apply below_alloc | apply pw_below_drewN | apply below_drew1 | refine below_set ?_ GE101.out | refine below_set ?_ GE102.out | refine below_set ?_ GE122.out) | exact HB.out)) hb)
  (try clear hb)
  (try clear hb2)
  (try clear hk)
  (try clear hi)
  (try clear ho0)
  obtain ⟨Ao37, co37, eo37⟩ := Kd.R_slice HO110.out
  (first | subst eo37 | (injection eo37 with f1_ f2_ f3_; have f4_ := f1_.symm; have f5_ := f3_.symm; clear f1_ f2_ f3_; subst f4_; subst f5_))
  obtain ⟨Ao38, co38, eo38⟩ := Kd.R_slice HO116.out
  (first | subst eo38 | (injection eo38 with f1_ f2_ f3_; have f4_ := f1_.symm; have f5_ := f3_.symm; clear f1_ f2_ f3_; subst f4_; subst f5_))
  refine hK.out _ _ ⟨(blk_cell BK101.out 0).trans rfl, (blk_cell BK101.out 1).trans rfl, (blk_cell BK101.out 2).trans rfl, (blk_cell BK101.out 3).trans rfl, (blk_cell BK102.out 0).trans rfl, (blk_cell BK102.out 1).trans rfl, (blk_cell BK102.out 2).trans rfl, (blk_cell BK102.out 3).trans rfl⟩ (fun hHeld => ?_)
  clear hK K
  refine norm_ (a' := ?_) ?_ ?_
  rotate_left
  ·
   show Act.put _ (some 26) _ = _
   simp only [Act.put, List.setIfInBounds_toArray, List.set_cons_zero, List.set_cons_succ, i64_w, i32_w]
   rfl
  refine one_ (i := 4) (N := some 27) #[true, true, true, true, true, false, false, false, true, false, false] rfl rfl (one_of HT_.out (by kernel_rfl)) (by decide) (fun K hK => ?_)
  refine goes_ Try.func34 (by kernel_rfl) rfl #[.agg #[.int .i64 t105, .int .i64 t106, .int .i64 t107, .slice Ao37 t108.length co37], .agg #[.int .i64 t111, .int .i64 t112, .int .i64 t113, .slice Ao38 t114.length co38]] (by rfl) rfl rfl (by simp only [List.map_toArray, List.map_cons, List.map_nil]; rfl) ?_
  with_reducible refine (spec_FindImage.calls k t105 t106 t107 _ _ t108 t111 t112 t113 _ _ t114 t117 t118 t119 t120 t121 _ ?side1 ?side2 ?side3 ?side4 A21.out).mono ?_
  (case side1 => repeat (first | exact (Kd.R_reads' HO110.out).2.2 | (with_reducible refine Kd.C_alloc ?_ _) | (with_reducible refine Kd.C_drewN ?_ _) | (with_reducible refine Kd.C_drew ?_)))
  (case side2 => exact (Kd.R_reads' HO110.out).2.1)
  (case side3 => repeat (first | exact (Kd.R_reads' HO116.out).2.2 | (with_reducible refine Kd.C_alloc ?_ _) | (with_reducible refine Kd.C_drewN ?_ _) | (with_reducible refine Kd.C_drew ?_)))
  (case side4 => exact (Kd.R_reads' HO116.out).2.1)
  rintro e w39 ⟨rfl, hb⟩
  refine ⟨_, rfl, ?_⟩
  replace HO110 := am_ (Kd.R_below (by exact HO110.out) hb)
  replace HO116 := am_ (Kd.R_below (by exact HO116.out) hb)
  replace BK101 := am_ (blk_below (by exact BK101.out) hb)
  replace BK102 := am_ (blk_below (by exact BK102.out) hb)
  replace BK122 := am_ (blk_below (by exact BK122.out) hb)
  replace HB := am_ (below_step (by repeat (first | (with_reducible first | exact HB.out | apply below_alloc | apply pw_below_drewN | apply below_drew1 | refine below_set ?_ GE101.out | refine below_set ?_ GE102.out | refine below_set ?_ GE122.out) | exact HB.out)) hb)
  (try clear hb)
  (try clear hb2)
  (try clear hk)
  (try clear hi)
  refine hK.out _ _ ⟨(blk_cell BK101.out 0).trans rfl, (blk_cell BK101.out 1).trans rfl, (blk_cell BK101.out 2).trans rfl, (blk_cell BK101.out 3).trans rfl, (blk_cell BK102.out 0).trans rfl, (blk_cell BK102.out 1).trans rfl, (blk_cell BK102.out 2).trans rfl, (blk_cell BK102.out 3).trans rfl⟩ (fun hHeld => ?_)
  clear hK K
  refine norm_ (a' := ?_) ?_ ?_
  rotate_left
  ·
   show Act.put _ (some 27) _ = _
   simp only [Act.put, List.setIfInBounds_toArray, List.set_cons_zero, List.set_cons_succ, i64_w, i32_w]
   rfl
  refine pure_ (i := 5) (N := some 22) (v := ?_) (a' := ?_) #[true, true, true, true, true, true, false, false, true, false, false] rfl rfl (any_of HT_.out (by kernel_rfl)) (fun _ _ _ h => h) (Or.inl ⟨by rfl, ?_⟩) ?_ ?_
  rotate_left
  ·
   intro w'
   go_simp
   with_reducible rfl
  rotate_left
  ·
   simp only [Act.put, List.setIfInBounds_toArray, List.set_cons_zero, List.set_cons_succ, i64_w, i32_w]
   rfl
  refine pure_ (i := 6) (N := some 28) (v := ?_) (a' := ?_) #[true, true, true, true, true, true, true, false, true, false, false] rfl rfl (any_of HT_.out (by kernel_rfl)) (fun _ _ _ h => h) (Or.inl ⟨by rfl, ?_⟩) ?_ ?_
  rotate_left
  ·
   intro w'
   go_simp
   with_reducible rfl
  rotate_left
  ·
   simp only [Act.put, List.setIfInBounds_toArray, List.set_cons_zero, List.set_cons_succ, i64_w, i32_w]
   rfl
  refine pure_ (i := 7) (N := some 29) (v := ?_) (a' := ?_) #[true, true, true, true, true, true, true, true, true, false, false] rfl rfl (any_of HT_.out (by kernel_rfl)) (fun _ _ _ h => h) (Or.inl ⟨by rfl, ?_⟩) ?_ ?_
  rotate_left
  ·
   intro w'
   go_simp
   with_reducible rfl
  rotate_left
  ·
   simp only [Act.put, List.setIfInBounds_toArray, List.set_cons_zero, List.set_cons_succ, i64_w, i32_w]
   rfl
  exact norm_ (by simp only [putAll, Act.put, List.setIfInBounds_toArray, List.set_cons_zero, List.set_cons_succ]) (hCont (.slice Ao37 t108.length co37, .slice Ao38 t114.length co38, gb122) _ ⟨hHeld, (by exact Kd.R_mono HO110.out (fun _ hk => hk.2)), (by exact Kd.R_mono HO116.out (fun _ hk => hk.2)), (by exact BK101.out), (by exact BK102.out), (by exact BK122.out), GW122.out, GE122.out, NB101_122.out, NB122_101.out, NB102_122.out, NB122_102.out, (by repeat (first | (with_reducible first | exact HB.out | apply below_alloc | apply pw_below_drewN | apply below_drew1 | refine below_set ?_ GE101.out | refine below_set ?_ GE102.out | refine below_set ?_ GE122.out) | exact HB.out))⟩)
 rintro ⟨v109, v115, gb122⟩ w40 ⟨hS_, h0_, h1_, h2_, h3_, h4_, h5_, h6_, h7_, h8_, h9_, h10_, h11_⟩
 have n0_ : Aside0 (Kd.R (Kd.int .i64) 3 w40 w.heap.size (fun k_ => some k_ ≠ (v115 : Value).ownBlock) v109 t108) := ⟨h0_⟩
 have n1_ : Aside0 (Kd.R (Kd.int .i64) 3 w40 w.heap.size (fun k_ => some k_ ≠ (v109 : Value).ownBlock) v115 t114) := ⟨h1_⟩
 have n2_ : Aside0 (w40.heap[gb101]? = some (.cells #[.int .i64 a0_0, .int .i64 a0_1, .int .i64 a0_2, .slice A0_3 l0_3.length c0_3] 24 (0, 0))) := ⟨h2_⟩
 have n3_ : Aside0 (w40.heap[gb102]? = some (.cells #[.int .i64 a1_0, .int .i64 a1_1, .int .i64 a1_2, .slice A1_3 l1_3.length c1_3] 24 (0, 0))) := ⟨h3_⟩
 have n4_ : Aside0 (w40.heap[gb122]? = some (.cells #[.int .i64 0, .int .i64 0, .int .i64 0, .int .i64 0] 40 (0, 0))) := ⟨h4_⟩
 have n5_ : Aside0 (w.heap.size ≤ gb122) := ⟨h5_⟩
 have n6_ : Aside0 (w.heap.size ≤ gb122) := ⟨h6_⟩
 have n7_ : Aside0 (gb101 ≠ gb122) := ⟨h7_⟩
 have n8_ : Aside0 (gb122 ≠ gb101) := ⟨h8_⟩
 have n9_ : Aside0 (gb102 ≠ gb122) := ⟨h9_⟩
 have n10_ : Aside0 (gb122 ≠ gb102) := ⟨h10_⟩
 have n11_ : Aside0 (Below w.heap.size w w40) := ⟨h11_⟩
 clear BK101
 clear BK102
 clear HB
 clear h0_ h1_ h2_ h3_ h4_ h5_ h6_ h7_ h8_ h9_ h10_ h11_
 have HO110 := n0_
 have HO116 := n1_
 have BK101 := n2_
 have BK102 := n3_
 have BK122 := n4_
 have GW122 := n5_
 have GE122 := n6_
 have NB101_122 := n7_
 have NB122_101 := n8_
 have NB102_122 := n9_
 have NB122_102 := n10_
 have HB := n11_
 clear n0_ n1_ n2_ n3_ n4_ n5_ n6_ n7_ n8_ n9_ n10_ n11_
 have hHeld : w40.cell? ⟨gb101, 0, none⟩ = some (.int .i64 a0_0) ∧ w40.cell? ⟨gb101, 1, none⟩ = some (.int .i64 a0_1) ∧ w40.cell? ⟨gb101, 2, none⟩ = some (.int .i64 a0_2) ∧ w40.cell? ⟨gb101, 3, none⟩ = some (.slice A0_3 l0_3.length c0_3) ∧ w40.cell? ⟨gb102, 0, none⟩ = some (.int .i64 a1_0) ∧ w40.cell? ⟨gb102, 1, none⟩ = some (.int .i64 a1_1) ∧ w40.cell? ⟨gb102, 2, none⟩ = some (.int .i64 a1_2) ∧ w40.cell? ⟨gb102, 3, none⟩ = some (.slice A1_3 l1_3.length c1_3) := hS_
 refine norm_ (a' := ?_) ?_ ?_
 rotate_left
 ·
  simp only [putAll, Act.put, List.setIfInBounds_toArray, List.set_cons_zero, List.set_cons_succ]
  rfl
 refine one_ (i := 9) (N := none) #[true, true, true, true, true, true, true, true, true, true, false] rfl rfl (one_of HT_.out (by kernel_rfl)) (by decide) (fun K hK => ?_)
 have hs41 : w40.cell? ⟨gb122, 0, none⟩ = some (.int .i64 0) := (blk_cell BK122.out 0).trans rfl
 have hfs41 := blk_frozen BK122.out 0
 have hns41_0 := NB101_122.out
 have hns41_1 := NB102_122.out
 have hms41_0 := NB122_101.out
 have hms41_1 := NB122_102.out
 have hs42 : w40.cell? ⟨gb122, 1, none⟩ = some (.int .i64 0) := (blk_cell BK122.out 1).trans rfl
 have hfs42 := blk_frozen BK122.out 1
 have hns42_0 := NB101_122.out
 have hns42_1 := NB102_122.out
 have hms42_0 := NB122_101.out
 have hms42_1 := NB122_102.out
 have hs43 : w40.cell? ⟨gb122, 2, none⟩ = some (.int .i64 0) := (blk_cell BK122.out 2).trans rfl
 have hfs43 := blk_frozen BK122.out 2
 have hns43_0 := NB101_122.out
 have hns43_1 := NB102_122.out
 have hms43_0 := NB122_101.out
 have hms43_1 := NB122_102.out
 have hs44 : w40.cell? ⟨gb122, 3, none⟩ = some (.int .i64 0) := (blk_cell BK122.out 3).trans rfl
 have hfs44 := blk_frozen BK122.out 3
 have hns44_0 := NB101_122.out
 have hns44_1 := NB102_122.out
 have hms44_0 := NB122_101.out
 have hms44_1 := NB122_102.out
 refine skip_ (w1 := ?_) (by rfl) rfl ?_ ?_
 rotate_left
 ·
  go_simp
  rfl
 refine hK.out _ _ ⟨((cell_far (p := ⟨gb122, _, none⟩) NB101_122.out _).trans (((cell_far (p := ⟨gb122, _, none⟩) NB101_122.out _).trans (((cell_far (p := ⟨gb122, _, none⟩) NB101_122.out _).trans (((cell_far (p := ⟨gb122, _, none⟩) NB101_122.out _).trans (hHeld.1)))))))), ((cell_far (p := ⟨gb122, _, none⟩) NB101_122.out _).trans (((cell_far (p := ⟨gb122, _, none⟩) NB101_122.out _).trans (((cell_far (p := ⟨gb122, _, none⟩) NB101_122.out _).trans (((cell_far (p := ⟨gb122, _, none⟩) NB101_122.out _).trans (hHeld.2.1)))))))), ((cell_far (p := ⟨gb122, _, none⟩) NB101_122.out _).trans (((cell_far (p := ⟨gb122, _, none⟩) NB101_122.out _).trans (((cell_far (p := ⟨gb122, _, none⟩) NB101_122.out _).trans (((cell_far (p := ⟨gb122, _, none⟩) NB101_122.out _).trans (hHeld.2.2.1)))))))), ((cell_far (p := ⟨gb122, _, none⟩) NB101_122.out _).trans (((cell_far (p := ⟨gb122, _, none⟩) NB101_122.out _).trans (((cell_far (p := ⟨gb122, _, none⟩) NB101_122.out _).trans (((cell_far (p := ⟨gb122, _, none⟩) NB101_122.out _).trans (hHeld.2.2.2.1)))))))), ((cell_far (p := ⟨gb122, _, none⟩) NB102_122.out _).trans (((cell_far (p := ⟨gb122, _, none⟩) NB102_122.out _).trans (((cell_far (p := ⟨gb122, _, none⟩) NB102_122.out _).trans (((cell_far (p := ⟨gb122, _, none⟩) NB102_122.out _).trans (hHeld.2.2.2.2.1)))))))), ((cell_far (p := ⟨gb122, _, none⟩) NB102_122.out _).trans (((cell_far (p := ⟨gb122, _, none⟩) NB102_122.out _).trans (((cell_far (p := ⟨gb122, _, none⟩) NB102_122.out _).trans (((cell_far (p := ⟨gb122, _, none⟩) NB102_122.out _).trans (hHeld.2.2.2.2.2.1)))))))), ((cell_far (p := ⟨gb122, _, none⟩) NB102_122.out _).trans (((cell_far (p := ⟨gb122, _, none⟩) NB102_122.out _).trans (((cell_far (p := ⟨gb122, _, none⟩) NB102_122.out _).trans (((cell_far (p := ⟨gb122, _, none⟩) NB102_122.out _).trans (hHeld.2.2.2.2.2.2.1)))))))), ((cell_far (p := ⟨gb122, _, none⟩) NB102_122.out _).trans (((cell_far (p := ⟨gb122, _, none⟩) NB102_122.out _).trans (((cell_far (p := ⟨gb122, _, none⟩) NB102_122.out _).trans (((cell_far (p := ⟨gb122, _, none⟩) NB102_122.out _).trans (hHeld.2.2.2.2.2.2.2))))))))⟩ (fun hHeld => ?_)
 clear hK K
 refine pure_ (i := 10) (N := some 7) (v := ?_) (a' := ?_) #[true, true, true, true, true, true, true, true, true, true, true] rfl rfl (any_of HT_.out (by kernel_rfl)) (fun _ _ _ h => h) (Or.inl ⟨by rfl, ?_⟩) ?_ ?_
 rotate_left
 ·
  intro w'
  go_simp
  with_reducible rfl
 rotate_left
 ·
  simp only [Act.put, List.setIfInBounds_toArray, List.set_cons_zero, List.set_cons_succ, i64_w, i32_w]
  rfl
 refine done_ (done_of HT_.out (by kernel_rfl)) ?_
 have hnb45 := NB101_122.out
 have hnc45 := NB122_101.out
 obtain ⟨hcz46_0, hcz46_1, hcz46_2, hcz46_3, hfz46_0, hfz46_1, hfz46_2, hfz46_3⟩ := blk4_ BK101.out
 go_upto_region 12 with (first | ((with_reducible refine gate_callee (f := 17) rfl ?_); refine goesL_ (some 31) rfl rfl Try.func17 (by kernel_rfl) rfl #[.agg #[.int .i64 a0_0, .int .i64 a0_1, .int .i64 a0_2, .slice A0_3 l0_3.length c0_3]] rfl (by simp only [List.map_toArray, List.map_cons, List.map_nil]; rfl) ?_; (with_reducible refine (laws_toImage.calls k a0_0 a0_1 a0_2 _ _ l0_3 t123 t124 t125 t126 _ ?side1 ?side2 A22.out).mono ?_); (case side1 => exact Kd.C_below HR0_3.out (by repeat (first | (with_reducible first | exact HB.out | apply below_alloc | apply pw_below_drewN | apply below_drew1 | refine below_set ?_ GE101.out | refine below_set ?_ GE102.out | refine below_set ?_ GE122.out) | exact HB.out))); (case side2 => exact HC0_3.out); rintro e w47 ⟨v127, rfl, ho0, hb⟩; refine ⟨_, rfl, ?_⟩; have HO128 := am_ (Kd.R_lower (Kd.R_new' (Kd.R_new' ho0 (Kd.R_lt (by exact (R4_ HO110.out BK122.out (by decide) _ _ _ _)))) (Kd.R_lt (by exact (R4_ HO116.out BK122.out (by decide) _ _ _ _)))) (below_size (by repeat (first | (with_reducible first | exact HB.out | apply below_alloc | apply pw_below_drewN | apply below_drew1 | refine below_set ?_ GE101.out | refine below_set ?_ GE102.out | refine below_set ?_ GE122.out) | exact HB.out)))); replace HO110 := am_ (Kd.R_elder' (by exact (R4_ HO110.out BK122.out (by decide) _ _ _ _)) (Kd.R_base ho0) hb); replace HO116 := am_ (Kd.R_elder' (by exact (R4_ HO116.out BK122.out (by decide) _ _ _ _)) (Kd.R_base ho0) hb); replace BK101 := am_ (blk_below (by exact far4_ BK101.out NB101_122.out _ _ _ _) hb); replace BK102 := am_ (blk_below (by exact far4_ BK102.out NB102_122.out _ _ _ _) hb); replace BK122 := am_ (blk_below (by exact put4_ BK122.out _ _ _ _) hb); replace HB := am_ (below_step (by repeat (first | (with_reducible first | exact HB.out | apply below_alloc | apply pw_below_drewN | apply below_drew1 | refine below_set ?_ GE101.out | refine below_set ?_ GE102.out | refine below_set ?_ GE122.out) | exact HB.out)) hb); (try clear hb); (try clear hb2); (try clear hk); (try clear hi); (try clear ho0)) | ((with_reducible refine gate_dst (N := 8) rfl ?_); refine box_event ?hg (N := 8) ?hd (cs := #[.int .i64 0, .int .i64 0, .int .i64 0, .slice none 0 0]) (t := 26) ?hr ?_; (case hd => rfl); (case hg => rfl); (case hr => first | (go_simp; done) | (go_simp; rfl)); intro gb129 hg w48 hbox hb; replace HO110 := am_ (Kd.R_below (by exact HO110.out) hb); replace HO116 := am_ (Kd.R_below (by exact HO116.out) hb); replace HO128 := am_ (Kd.R_below (by exact HO128.out) hb); have BK129 := am_ (hbox); have GW129 := am_ ((by rw [hg]; exact (below_size (by repeat (first | (with_reducible first | exact HB.out | apply below_alloc | apply pw_below_drewN | apply below_drew1 | refine below_set ?_ GE101.out | refine below_set ?_ GE102.out | refine below_set ?_ GE122.out) | exact HB.out))) : w.heap.size ≤ gb129)); have GE129 := GW129; replace HB := am_ (below_step (by repeat (first | (with_reducible first | exact HB.out | apply below_alloc | apply pw_below_drewN | apply below_drew1 | refine below_set ?_ GE101.out | refine below_set ?_ GE102.out | refine below_set ?_ GE122.out) | exact HB.out)) hb); have NB101_129 := am_ ((by rw [hg]; exact Nat.ne_of_lt (blk_lt (by exact BK101.out)) : gb101 ≠ gb129)); have NB129_101 := am_ ((by rw [hg]; exact Nat.ne_of_gt (blk_lt (by exact BK101.out)) : gb129 ≠ gb101)); replace BK101 := am_ (blk_below (by exact BK101.out) hb); have NB102_129 := am_ ((by rw [hg]; exact Nat.ne_of_lt (blk_lt (by exact BK102.out)) : gb102 ≠ gb129)); have NB129_102 := am_ ((by rw [hg]; exact Nat.ne_of_gt (blk_lt (by exact BK102.out)) : gb129 ≠ gb102)); replace BK102 := am_ (blk_below (by exact BK102.out) hb); have NB122_129 := am_ ((by rw [hg]; exact Nat.ne_of_lt (blk_lt (by exact BK122.out)) : gb122 ≠ gb129)); have NB129_122 := am_ ((by rw [hg]; exact Nat.ne_of_gt (blk_lt (by exact BK122.out)) : gb129 ≠ gb122)); replace BK122 := am_ (blk_below (by exact BK122.out) hb); clear hb hbox hg; have hnb49 := NB129_101.out; have hnc49 := NB101_129.out; have hnb50 := NB129_102.out; have hnc50 := NB102_129.out; have hnb51 := NB129_122.out; have hnc51 := NB122_129.out; obtain ⟨hcz52_0, hcz52_1, hcz52_2, hcz52_3, hfz52_0, hfz52_1, hfz52_2, hfz52_3⟩ := blk4_ BK129.out; obtain ⟨Ao53, co53, eo53⟩ := Kd.R_slice HO128.out; subst eo53; have hnb54 := NB102_122.out; have hnc54 := NB122_102.out; obtain ⟨hcz55_0, hcz55_1, hcz55_2, hcz55_3, hfz55_0, hfz55_1, hfz55_2, hfz55_3⟩ := blk4_ BK102.out) | ((with_reducible refine gate_callee (f := 17) rfl ?_); refine goesL_ (some 33) rfl rfl Try.func17 (by kernel_rfl) rfl #[.agg #[.int .i64 a1_0, .int .i64 a1_1, .int .i64 a1_2, .slice A1_3 l1_3.length c1_3]] rfl (by simp only [List.map_toArray, List.map_cons, List.map_nil]; rfl) ?_; (with_reducible refine (laws_toImage.calls k a1_0 a1_1 a1_2 _ _ l1_3 t130 t131 t132 t133 _ ?side1 ?side2 A23.out).mono ?_); (case side1 => exact Kd.C_below HR1_3.out (by repeat (first | (with_reducible first | exact HB.out | apply below_alloc | apply pw_below_drewN | apply below_drew1 | refine below_set ?_ GE101.out | refine below_set ?_ GE102.out | refine below_set ?_ GE122.out | refine below_set ?_ GE129.out) | exact HB.out))); (case side2 => exact HC1_3.out); rintro e w56 ⟨v134, rfl, ho0, hb⟩; refine ⟨_, rfl, ?_⟩; have HO135 := am_ (Kd.R_lower (Kd.R_new' (Kd.R_new' (Kd.R_new' ho0 (Kd.R_lt (by exact (R4_ HO110.out BK129.out (by decide) _ _ _ _)))) (Kd.R_lt (by exact (R4_ HO116.out BK129.out (by decide) _ _ _ _)))) (Kd.R_lt (by exact (R4_ HO128.out BK129.out (by decide) _ _ _ _)))) (below_size (by repeat (first | (with_reducible first | exact HB.out | apply below_alloc | apply pw_below_drewN | apply below_drew1 | refine below_set ?_ GE101.out | refine below_set ?_ GE102.out | refine below_set ?_ GE122.out | refine below_set ?_ GE129.out) | exact HB.out)))); replace HO110 := am_ (Kd.R_elder' (by exact (R4_ HO110.out BK129.out (by decide) _ _ _ _)) (Kd.R_base ho0) hb); replace HO116 := am_ (Kd.R_elder' (by exact (R4_ HO116.out BK129.out (by decide) _ _ _ _)) (Kd.R_base ho0) hb); replace HO128 := am_ (Kd.R_elder' (by exact (R4_ HO128.out BK129.out (by decide) _ _ _ _)) (Kd.R_base ho0) hb); replace BK101 := am_ (blk_below (by exact far4_ BK101.out NB101_129.out _ _ _ _) hb); replace BK102 := am_ (blk_below (by exact far4_ BK102.out NB102_129.out _ _ _ _) hb); replace BK122 := am_ (blk_below (by exact far4_ BK122.out NB122_129.out _ _ _ _) hb); replace BK129 := am_ (blk_below (by exact put4_ BK129.out _ _ _ _) hb); replace HB := am_ (below_step (by repeat (first | (with_reducible first | exact HB.out | apply below_alloc | apply pw_below_drewN | apply below_drew1 | refine below_set ?_ GE101.out | refine below_set ?_ GE102.out | refine below_set ?_ GE122.out | refine below_set ?_ GE129.out) | exact HB.out)) hb); (try clear hb); (try clear hb2); (try clear hk); (try clear hi); (try clear ho0)) | ((with_reducible refine gate_dst (N := 9) rfl ?_); refine box_event ?hg (N := 9) ?hd (cs := #[.int .i64 0, .int .i64 0, .int .i64 0, .slice none 0 0]) (t := 26) ?hr ?_; (case hd => rfl); (case hg => rfl); (case hr => first | (go_simp; done) | (go_simp; rfl)); intro gb136 hg w57 hbox hb; replace HO110 := am_ (Kd.R_below (by exact HO110.out) hb); replace HO116 := am_ (Kd.R_below (by exact HO116.out) hb); replace HO128 := am_ (Kd.R_below (by exact HO128.out) hb); replace HO135 := am_ (Kd.R_below (by exact HO135.out) hb); have BK136 := am_ (hbox); have GW136 := am_ ((by rw [hg]; exact (below_size (by repeat (first | (with_reducible first | exact HB.out | apply below_alloc | apply pw_below_drewN | apply below_drew1 | refine below_set ?_ GE101.out | refine below_set ?_ GE102.out | refine below_set ?_ GE122.out | refine below_set ?_ GE129.out) | exact HB.out))) : w.heap.size ≤ gb136)); have GE136 := GW136; replace HB := am_ (below_step (by repeat (first | (with_reducible first | exact HB.out | apply below_alloc | apply pw_below_drewN | apply below_drew1 | refine below_set ?_ GE101.out | refine below_set ?_ GE102.out | refine below_set ?_ GE122.out | refine below_set ?_ GE129.out) | exact HB.out)) hb); have NB101_136 := am_ ((by rw [hg]; exact Nat.ne_of_lt (blk_lt (by exact BK101.out)) : gb101 ≠ gb136)); have NB136_101 := am_ ((by rw [hg]; exact Nat.ne_of_gt (blk_lt (by exact BK101.out)) : gb136 ≠ gb101)); replace BK101 := am_ (blk_below (by exact BK101.out) hb); have NB102_136 := am_ ((by rw [hg]; exact Nat.ne_of_lt (blk_lt (by exact BK102.out)) : gb102 ≠ gb136)); have NB136_102 := am_ ((by rw [hg]; exact Nat.ne_of_gt (blk_lt (by exact BK102.out)) : gb136 ≠ gb102)); replace BK102 := am_ (blk_below (by exact BK102.out) hb); have NB122_136 := am_ ((by rw [hg]; exact Nat.ne_of_lt (blk_lt (by exact BK122.out)) : gb122 ≠ gb136)); have NB136_122 := am_ ((by rw [hg]; exact Nat.ne_of_gt (blk_lt (by exact BK122.out)) : gb136 ≠ gb122)); replace BK122 := am_ (blk_below (by exact BK122.out) hb); have NB129_136 := am_ ((by rw [hg]; exact Nat.ne_of_lt (blk_lt (by exact BK129.out)) : gb129 ≠ gb136)); have NB136_129 := am_ ((by rw [hg]; exact Nat.ne_of_gt (blk_lt (by exact BK129.out)) : gb136 ≠ gb129)); replace BK129 := am_ (blk_below (by exact BK129.out) hb); clear hb hbox hg; have hnb58 := NB136_101.out; have hnc58 := NB101_136.out; have hnb59 := NB136_102.out; have hnc59 := NB102_136.out; have hnb60 := NB136_122.out; have hnc60 := NB122_136.out; have hnb61 := NB136_129.out; have hnc61 := NB129_136.out; obtain ⟨hcz62_0, hcz62_1, hcz62_2, hcz62_3, hfz62_0, hfz62_1, hfz62_2, hfz62_3⟩ := blk4_ BK136.out; obtain ⟨Ao63, co63, eo63⟩ := Kd.R_slice HO135.out; subst eo63; obtain ⟨hcz64_0, hcz64_1, hcz64_2, hcz64_3, hfz64_0, hfz64_1, hfz64_2, hfz64_3⟩ := blk4_ BK129.out) | ((with_reducible refine gate_callee (f := 35) rfl ?_); refine goesL_ (some 37) rfl rfl Try.func35 (by kernel_rfl) rfl #[.agg #[.int .i64 t123, .int .i64 t124, .int .i64 t125, .slice Ao53 t126.length co53], .agg #[.int .i64 t130, .int .i64 t131, .int .i64 t132, .slice Ao63 t133.length co63]] rfl (by simp only [List.map_toArray, List.map_cons, List.map_nil]; rfl) ?_; (with_reducible refine (impl_FindImage.calls t123 t124 t125 _ _ t126 t130 t131 t132 _ _ t133 t137 t138 t139 t140 t141 _ ?side1 ?side2 ?side3 ?side4 A24.out).mono ?_); (case side1 => refine (Kd.R_reads' (e := 3) (base := w.heap.size) (ok := fun k_ => (((True ∧ some k_ ≠ (v109 : Value).ownBlock) ∧ some k_ ≠ (v115 : Value).ownBlock) ∧ some k_ ≠ (.slice Ao63 t133.length co63 : Value).ownBlock)) (n := t126.length) (c := co53) ?_).2.2; exact (by exact (R4_ HO128.out BK136.out (by decide) _ _ _ _))); (case side2 => exact (Kd.R_reads' HO128.out).2.1); (case side3 => refine (Kd.R_reads' (e := 3) (base := w.heap.size) (ok := fun k_ => (((True ∧ some k_ ≠ (v109 : Value).ownBlock) ∧ some k_ ≠ (v115 : Value).ownBlock) ∧ some k_ ≠ (.slice Ao53 t126.length co53 : Value).ownBlock)) (n := t133.length) (c := co63) ?_).2.2; exact (by exact (R4_ HO135.out BK136.out (by decide) _ _ _ _))); (case side4 => exact (Kd.R_reads' HO135.out).2.1); rintro e w65 ⟨rfl, hb⟩; refine ⟨_, rfl, ?_⟩; replace HO110 := am_ (Kd.R_below (by exact (R4_ HO110.out BK136.out (by decide) _ _ _ _)) hb); replace HO116 := am_ (Kd.R_below (by exact (R4_ HO116.out BK136.out (by decide) _ _ _ _)) hb); replace HO128 := am_ (Kd.R_below (by exact (R4_ HO128.out BK136.out (by decide) _ _ _ _)) hb); replace HO135 := am_ (Kd.R_below (by exact (R4_ HO135.out BK136.out (by decide) _ _ _ _)) hb); replace BK101 := am_ (blk_below (by exact far4_ BK101.out NB101_136.out _ _ _ _) hb); replace BK102 := am_ (blk_below (by exact far4_ BK102.out NB102_136.out _ _ _ _) hb); replace BK122 := am_ (blk_below (by exact far4_ BK122.out NB122_136.out _ _ _ _) hb); replace BK129 := am_ (blk_below (by exact far4_ BK129.out NB129_136.out _ _ _ _) hb); replace BK136 := am_ (blk_below (by exact put4_ BK136.out _ _ _ _) hb); replace HB := am_ (below_step (by repeat (first | (with_reducible first | exact HB.out | apply below_alloc | apply pw_below_drewN | apply below_drew1 | refine below_set ?_ GE101.out | refine below_set ?_ GE102.out | refine below_set ?_ GE122.out | refine below_set ?_ GE129.out | refine below_set ?_ GE136.out) | exact HB.out)) hb); (try clear hb); (try clear hb2); (try clear hk); (try clear hi)) | ((with_reducible refine gate_dst (N := 10) rfl ?_); refine box_event ?hg (N := 10) ?hd (cs := #[.int .i64 0, .int .i64 0, .int .i64 0, .int .i64 0]) (t := 40) ?hr ?_; (case hd => rfl); (case hg => rfl); (case hr => first | (go_simp; done) | (go_simp; rfl)); intro gb142 hg w66 hbox hb; replace HO110 := am_ (Kd.R_below (by exact HO110.out) hb); replace HO116 := am_ (Kd.R_below (by exact HO116.out) hb); replace HO128 := am_ (Kd.R_below (by exact HO128.out) hb); replace HO135 := am_ (Kd.R_below (by exact HO135.out) hb); have BK142 := am_ (hbox); have GW142 := am_ ((by rw [hg]; exact (below_size (by repeat (first | (with_reducible first | exact HB.out | apply below_alloc | apply pw_below_drewN | apply below_drew1 | refine below_set ?_ GE101.out | refine below_set ?_ GE102.out | refine below_set ?_ GE122.out | refine below_set ?_ GE129.out | refine below_set ?_ GE136.out) | exact HB.out))) : w.heap.size ≤ gb142)); have GE142 := GW142; replace HB := am_ (below_step (by repeat (first | (with_reducible first | exact HB.out | apply below_alloc | apply pw_below_drewN | apply below_drew1 | refine below_set ?_ GE101.out | refine below_set ?_ GE102.out | refine below_set ?_ GE122.out | refine below_set ?_ GE129.out | refine below_set ?_ GE136.out) | exact HB.out)) hb); have NB101_142 := am_ ((by rw [hg]; exact Nat.ne_of_lt (blk_lt (by exact BK101.out)) : gb101 ≠ gb142)); have NB142_101 := am_ ((by rw [hg]; exact Nat.ne_of_gt (blk_lt (by exact BK101.out)) : gb142 ≠ gb101)); replace BK101 := am_ (blk_below (by exact BK101.out) hb); have NB102_142 := am_ ((by rw [hg]; exact Nat.ne_of_lt (blk_lt (by exact BK102.out)) : gb102 ≠ gb142)); have NB142_102 := am_ ((by rw [hg]; exact Nat.ne_of_gt (blk_lt (by exact BK102.out)) : gb142 ≠ gb102)); replace BK102 := am_ (blk_below (by exact BK102.out) hb); have NB122_142 := am_ ((by rw [hg]; exact Nat.ne_of_lt (blk_lt (by exact BK122.out)) : gb122 ≠ gb142)); have NB142_122 := am_ ((by rw [hg]; exact Nat.ne_of_gt (blk_lt (by exact BK122.out)) : gb142 ≠ gb122)); replace BK122 := am_ (blk_below (by exact BK122.out) hb); have NB129_142 := am_ ((by rw [hg]; exact Nat.ne_of_lt (blk_lt (by exact BK129.out)) : gb129 ≠ gb142)); have NB142_129 := am_ ((by rw [hg]; exact Nat.ne_of_gt (blk_lt (by exact BK129.out)) : gb142 ≠ gb129)); replace BK129 := am_ (blk_below (by exact BK129.out) hb); have NB136_142 := am_ ((by rw [hg]; exact Nat.ne_of_lt (blk_lt (by exact BK136.out)) : gb136 ≠ gb142)); have NB142_136 := am_ ((by rw [hg]; exact Nat.ne_of_gt (blk_lt (by exact BK136.out)) : gb142 ≠ gb136)); replace BK136 := am_ (blk_below (by exact BK136.out) hb); clear hb hbox hg; have hnb67 := NB142_101.out; have hnc67 := NB101_142.out; have hnb68 := NB142_102.out; have hnc68 := NB102_142.out; have hnb69 := NB142_122.out; have hnc69 := NB122_142.out; have hnb70 := NB142_129.out; have hnc70 := NB129_142.out; have hnb71 := NB142_136.out; have hnc71 := NB136_142.out; obtain ⟨hcz72_0, hcz72_1, hcz72_2, hcz72_3, hfz72_0, hfz72_1, hfz72_2, hfz72_3⟩ := blk4_ BK142.out))
 (try simp only [Act.put, List.setIfInBounds_toArray, List.set_cons_zero, List.set_cons_succ])
 go_cut [48] (fun v48 wc => ∃ (kq : Nat) (x48_24 : Bool), v48 = .bool x48_24 ∧ Aside0 (laws_FnExactFindImage.j0 kq x48_24 a0_0 a0_1 a0_2 l0_3 a1_0 a1_1 a1_2 l1_3 t123 t124 t125 t126 t130 t131 t132 t133 = some r) ∧ Aside0 (kq ≤ k) ∧ Aside0 (Kd.R (Kd.int .i64) 3 wc w.heap.size (fun k_ => some k_ ≠ ((.slice Ao63 t133.length co63) : Value).ownBlock) (.slice Ao53 t126.length co53) t126) ∧ Aside0 (Kd.R (Kd.int .i64) 3 wc w.heap.size (fun k_ => some k_ ≠ ((.slice Ao53 t126.length co53) : Value).ownBlock) (.slice Ao63 t133.length co63) t133) ∧ Aside0 (wc.heap[gb101]? = some (.cells #[.int .i64 a0_0, .int .i64 a0_1, .int .i64 a0_2, (.slice A0_3 l0_3.length c0_3)] 24 (0, 0))) ∧ Aside0 (wc.heap[gb102]? = some (.cells #[.int .i64 a1_0, .int .i64 a1_1, .int .i64 a1_2, (.slice A1_3 l1_3.length c1_3)] 24 (0, 0))) ∧ Aside0 (wc.heap[gb122]? = some (.cells #[.int .i64 t117, .int .i64 t118, .int .i64 t119, .int .i64 t120] 40 (0, 0))) ∧ Aside0 (wc.heap[gb129]? = some (.cells #[.int .i64 t123, .int .i64 t124, .int .i64 t125, (.slice Ao53 t126.length co53)] 26 (0, 0))) ∧ Aside0 (wc.heap[gb136]? = some (.cells #[.int .i64 t130, .int .i64 t131, .int .i64 t132, (.slice Ao63 t133.length co63)] 26 (0, 0))) ∧ Aside0 (wc.heap[gb142]? = some (.cells #[.int .i64 t137, .int .i64 t138, .int .i64 t139, .int .i64 t140] 40 (0, 0))) ∧ Aside0 (Below w.heap.size w wc))
 case first =>
  have H := HC25.out
  clear HC25
  replace H := Option.bind_eq_some_iff.mp H
  obtain ⟨t143, A730, H⟩ := H
  replace H : (if t143 = true then (laws_FnExactFindImage.j0 k (t141 != t121) a0_0 a0_1 a0_2 l0_3 a1_0 a1_1 a1_2 l1_3 t123 t124 t125 t126 t130 t131 t132 t133) else (laws_FnExactFindImage.j0 k true a0_0 a0_1 a0_2 l0_3 a1_0 a1_1 a1_2 l1_3 t123 t124 t125 t126 t130 t131 t132 t133)) = some r := H
  have A73 := Aside0.mk A730
  clear A730
  by_cases c74 : t143 = true
  ·
   subst c74
   have H1 : (laws_FnExactFindImage.j0 k (t141 != t121) a0_0 a0_1 a0_2 l0_3 a1_0 a1_1 a1_2 l1_3 t123 t124 t125 t126 t130 t131 t132 t133) = some r := by rw [if_pos rfl] at H; exact H
   clear H
   have H := H1
   clear H1
   have H' := Aside0.mk H
   clear H
   have hnb75 := NB142_101.out
   have hnc75 := NB101_142.out
   have hnb76 := NB142_102.out
   have hnc76 := NB102_142.out
   have hnb77 := NB142_122.out
   have hnc77 := NB122_142.out
   have hnb78 := NB142_129.out
   have hnc78 := NB129_142.out
   have hnb79 := NB142_136.out
   have hnc79 := NB136_142.out
   obtain ⟨hcz80_0, hcz80_1, hcz80_2, hcz80_3, hfz80_0, hfz80_1, hfz80_2, hfz80_3⟩ := blk4_ BK142.out
   have hnb81 := NB122_101.out
   have hnc81 := NB101_122.out
   have hnb82 := NB122_102.out
   have hnc82 := NB102_122.out
   have hnb83 := NB122_129.out
   have hnc83 := NB129_122.out
   have hnb84 := NB122_136.out
   have hnc84 := NB136_122.out
   obtain ⟨hcz85_0, hcz85_1, hcz85_2, hcz85_3, hfz85_0, hfz85_1, hfz85_2, hfz85_3⟩ := blk4_ BK122.out
   go_wp2_with (first | ((with_reducible refine gate_callee (f := 36) rfl ?_); refine goesL_ (some 42) rfl rfl Try.func36 (by kernel_rfl) rfl #[.agg #[.int .i64 t137, .int .i64 t138, .int .i64 t139, .int .i64 t140], .agg #[.int .i64 t117, .int .i64 t118, .int .i64 t119, .int .i64 t120]] rfl (by simp only [List.map_toArray, List.map_cons, List.map_nil]; rfl) ?_; (with_reducible refine (laws_eqBox.calls t137 t138 t139 t140 t117 t118 t119 t120 true _ A73.out).mono ?_); rintro e w86 ⟨rfl, hb⟩; refine ⟨_, rfl, ?_⟩; replace HO110 := am_ (Kd.R_below (by exact (R4_ HO110.out BK142.out (by decide) _ _ _ _)) hb); replace HO116 := am_ (Kd.R_below (by exact (R4_ HO116.out BK142.out (by decide) _ _ _ _)) hb); replace HO128 := am_ (Kd.R_below (by exact (R4_ HO128.out BK142.out (by decide) _ _ _ _)) hb); replace HO135 := am_ (Kd.R_below (by exact (R4_ HO135.out BK142.out (by decide) _ _ _ _)) hb); replace BK101 := am_ (blk_below (by exact far4_ BK101.out NB101_142.out _ _ _ _) hb); replace BK102 := am_ (blk_below (by exact far4_ BK102.out NB102_142.out _ _ _ _) hb); replace BK122 := am_ (blk_below (by exact far4_ BK122.out NB122_142.out _ _ _ _) hb); replace BK129 := am_ (blk_below (by exact far4_ BK129.out NB129_142.out _ _ _ _) hb); replace BK136 := am_ (blk_below (by exact far4_ BK136.out NB136_142.out _ _ _ _) hb); replace BK142 := am_ (blk_below (by exact put4_ BK142.out _ _ _ _) hb); replace HB := am_ (below_step (by repeat (first | (with_reducible first | exact HB.out | apply below_alloc | apply pw_below_drewN | apply below_drew1 | refine below_set ?_ GE101.out | refine below_set ?_ GE102.out | refine below_set ?_ GE122.out | refine below_set ?_ GE129.out | refine below_set ?_ GE136.out | refine below_set ?_ GE142.out) | exact HB.out)) hb); (try clear hb); (try clear hb2); (try clear hk); (try clear hi)))
   go_meet
   case rel => exact ⟨_, ((t141 != t121)), (by first | rfl | (simp; done) | (simp [*]; done)), H', ⟨by first | omega | exact Nat.le_refl _⟩, ⟨by exact Kd.R_mono HO128.out (fun _ hk => hk.2)⟩, ⟨by exact Kd.R_mono HO135.out (fun _ hk => hk.2)⟩, ⟨by exact BK101.out⟩, ⟨by exact BK102.out⟩, ⟨by exact BK122.out⟩, ⟨by exact BK129.out⟩, ⟨by exact BK136.out⟩, ⟨by exact BK142.out⟩, ⟨by repeat (first | (with_reducible first | exact HB.out | apply below_alloc | apply pw_below_drewN | apply below_drew1 | refine below_set ?_ GE101.out | refine below_set ?_ GE102.out | refine below_set ?_ GE122.out | refine below_set ?_ GE129.out | refine below_set ?_ GE136.out | refine below_set ?_ GE142.out) | exact HB.out)⟩⟩
  replace c74 := Bool.eq_false_iff.mpr c74
  subst c74
  have H1 : (laws_FnExactFindImage.j0 k true a0_0 a0_1 a0_2 l0_3 a1_0 a1_1 a1_2 l1_3 t123 t124 t125 t126 t130 t131 t132 t133) = some r := by rw [if_neg (show ¬ (false = true) by decide)] at H; exact H
  clear H
  have H := H1
  clear H1
  have H' := Aside0.mk H
  clear H
  have hnb87 := NB142_101.out
  have hnc87 := NB101_142.out
  have hnb88 := NB142_102.out
  have hnc88 := NB102_142.out
  have hnb89 := NB142_122.out
  have hnc89 := NB122_142.out
  have hnb90 := NB142_129.out
  have hnc90 := NB129_142.out
  have hnb91 := NB142_136.out
  have hnc91 := NB136_142.out
  obtain ⟨hcz92_0, hcz92_1, hcz92_2, hcz92_3, hfz92_0, hfz92_1, hfz92_2, hfz92_3⟩ := blk4_ BK142.out
  have hnb93 := NB122_101.out
  have hnc93 := NB101_122.out
  have hnb94 := NB122_102.out
  have hnc94 := NB102_122.out
  have hnb95 := NB122_129.out
  have hnc95 := NB129_122.out
  have hnb96 := NB122_136.out
  have hnc96 := NB136_122.out
  obtain ⟨hcz97_0, hcz97_1, hcz97_2, hcz97_3, hfz97_0, hfz97_1, hfz97_2, hfz97_3⟩ := blk4_ BK122.out
  go_wp2_with (first | ((with_reducible refine gate_callee (f := 36) rfl ?_); refine goesL_ (some 42) rfl rfl Try.func36 (by kernel_rfl) rfl #[.agg #[.int .i64 t137, .int .i64 t138, .int .i64 t139, .int .i64 t140], .agg #[.int .i64 t117, .int .i64 t118, .int .i64 t119, .int .i64 t120]] rfl (by simp only [List.map_toArray, List.map_cons, List.map_nil]; rfl) ?_; (with_reducible refine (laws_eqBox.calls t137 t138 t139 t140 t117 t118 t119 t120 false _ A73.out).mono ?_); rintro e w98 ⟨rfl, hb⟩; refine ⟨_, rfl, ?_⟩; replace HO110 := am_ (Kd.R_below (by exact (R4_ HO110.out BK142.out (by decide) _ _ _ _)) hb); replace HO116 := am_ (Kd.R_below (by exact (R4_ HO116.out BK142.out (by decide) _ _ _ _)) hb); replace HO128 := am_ (Kd.R_below (by exact (R4_ HO128.out BK142.out (by decide) _ _ _ _)) hb); replace HO135 := am_ (Kd.R_below (by exact (R4_ HO135.out BK142.out (by decide) _ _ _ _)) hb); replace BK101 := am_ (blk_below (by exact far4_ BK101.out NB101_142.out _ _ _ _) hb); replace BK102 := am_ (blk_below (by exact far4_ BK102.out NB102_142.out _ _ _ _) hb); replace BK122 := am_ (blk_below (by exact far4_ BK122.out NB122_142.out _ _ _ _) hb); replace BK129 := am_ (blk_below (by exact far4_ BK129.out NB129_142.out _ _ _ _) hb); replace BK136 := am_ (blk_below (by exact far4_ BK136.out NB136_142.out _ _ _ _) hb); replace BK142 := am_ (blk_below (by exact put4_ BK142.out _ _ _ _) hb); replace HB := am_ (below_step (by repeat (first | (with_reducible first | exact HB.out | apply below_alloc | apply pw_below_drewN | apply below_drew1 | refine below_set ?_ GE101.out | refine below_set ?_ GE102.out | refine below_set ?_ GE122.out | refine below_set ?_ GE129.out | refine below_set ?_ GE136.out | refine below_set ?_ GE142.out) | exact HB.out)) hb); (try clear hb); (try clear hb2); (try clear hk); (try clear hi)))
  go_meet
  case rel => exact ⟨_, (true), (by first | rfl | (simp; done) | (simp [*]; done)), H', ⟨by first | omega | exact Nat.le_refl _⟩, ⟨by exact Kd.R_mono HO128.out (fun _ hk => hk.2)⟩, ⟨by exact Kd.R_mono HO135.out (fun _ hk => hk.2)⟩, ⟨by exact BK101.out⟩, ⟨by exact BK102.out⟩, ⟨by exact BK122.out⟩, ⟨by exact BK129.out⟩, ⟨by exact BK136.out⟩, ⟨by exact BK142.out⟩, ⟨by repeat (first | (with_reducible first | exact HB.out | apply below_alloc | apply pw_below_drewN | apply below_drew1 | refine below_set ?_ GE101.out | refine below_set ?_ GE102.out | refine below_set ?_ GE122.out | refine below_set ?_ GE129.out | refine below_set ?_ GE136.out | refine below_set ?_ GE142.out) | exact HB.out)⟩⟩
 case rest =>
  clear HC25
  try clear c1
  try clear p2
  try clear c3
  try clear c4
  try clear c5
  try clear c6
  try clear c7
  try clear c8
  try clear c9
  try clear c17
  try clear c34
  try clear c35
  try clear c36
  try clear c45
  try clear c49
  try clear c50
  try clear c51
  try clear c54
  try clear c58
  try clear c59
  try clear c60
  try clear c61
  try clear c67
  try clear c68
  try clear c69
  try clear c70
  try clear c71
  try clear c74
  try clear c75
  try clear c76
  try clear c77
  try clear c78
  try clear c79
  try clear c81
  try clear c82
  try clear c83
  try clear c84
  try clear c87
  try clear c88
  try clear c89
  try clear c90
  try clear c91
  try clear c93
  try clear c94
  try clear c95
  try clear c96
  try clear hcz46_0
  try clear hcz46_1
  try clear hcz46_2
  try clear hcz46_3
  try clear hcz52_0
  try clear hcz52_1
  try clear hcz52_2
  try clear hcz52_3
  try clear hcz55_0
  try clear hcz55_1
  try clear hcz55_2
  try clear hcz55_3
  try clear hcz62_0
  try clear hcz62_1
  try clear hcz62_2
  try clear hcz62_3
  try clear hcz64_0
  try clear hcz64_1
  try clear hcz64_2
  try clear hcz64_3
  try clear hcz72_0
  try clear hcz72_1
  try clear hcz72_2
  try clear hcz72_3
  try clear hcz80_0
  try clear hcz80_1
  try clear hcz80_2
  try clear hcz80_3
  try clear hcz85_0
  try clear hcz85_1
  try clear hcz85_2
  try clear hcz85_3
  try clear hcz92_0
  try clear hcz92_1
  try clear hcz92_2
  try clear hcz92_3
  try clear hcz97_0
  try clear hcz97_1
  try clear hcz97_2
  try clear hcz97_3
  try clear hfz46_0
  try clear hfz46_1
  try clear hfz46_2
  try clear hfz46_3
  try clear hfz52_0
  try clear hfz52_1
  try clear hfz52_2
  try clear hfz52_3
  try clear hfz55_0
  try clear hfz55_1
  try clear hfz55_2
  try clear hfz55_3
  try clear hfz62_0
  try clear hfz62_1
  try clear hfz62_2
  try clear hfz62_3
  try clear hfz64_0
  try clear hfz64_1
  try clear hfz64_2
  try clear hfz64_3
  try clear hfz72_0
  try clear hfz72_1
  try clear hfz72_2
  try clear hfz72_3
  try clear hfz80_0
  try clear hfz80_1
  try clear hfz80_2
  try clear hfz80_3
  try clear hfz85_0
  try clear hfz85_1
  try clear hfz85_2
  try clear hfz85_3
  try clear hfz92_0
  try clear hfz92_1
  try clear hfz92_2
  try clear hfz92_3
  try clear hfz97_0
  try clear hfz97_1
  try clear hfz97_2
  try clear hfz97_3
  obtain ⟨kq, x48_24, rfl, HA, HJ24, HO_130003, HO_137003, BK101, BK102, BK122, BK129, BK136, BK142, HB⟩ := hcut
  cases kq with
  | zero => exact absurd HA.out (by simp [laws_FnExactFindImage.j0])
  | succ kj24 =>
   have H := HA.out
   clear HA
   simp only [laws_FnExactFindImage.j0] at H
   by_cases c99 : x48_24 = true
   ·
    subst c99
    have H1 : (some false) = some r := by rw [if_pos rfl] at H; exact H
    clear H
    have H := H1
    clear H1
    obtain rfl := Option.some.inj H
    go_wp2
    go_ret
    exact ⟨by first | rfl | (simp [errW_none, errW_some] <;> rfl) | (simp [*, errW_none, errW_some] <;> rfl), by repeat (first | (with_reducible first | exact HB.out | apply below_alloc | apply pw_below_drewN | apply below_drew1 | refine below_set ?_ GE101.out | refine below_set ?_ GE102.out | refine below_set ?_ GE122.out | refine below_set ?_ GE129.out | refine below_set ?_ GE136.out | refine below_set ?_ GE142.out) | exact HB.out)⟩
   replace c99 := Bool.eq_false_iff.mpr c99
   subst c99
   have H1 : ((laws_toImage.f kj24 a0_0 a0_1 a0_2 l0_3).bind fun bt144 => ((laws_eqImage.f kj24 t123 t124 t125 t126 bt144.1 bt144.2.1 bt144.2.2.1 bt144.2.2.2).bind fun t150 => (if t150 = true then ((laws_toImage.f kj24 a1_0 a1_1 a1_2 l1_3).bind fun bt151 => ((laws_eqImage.f kj24 t130 t131 t132 t133 bt151.1 bt151.2.1 bt151.2.2.1 bt151.2.2.2).bind fun t157 => (if t157 = true then (some true) else (some false)))) else (some false)))) = some r := by rw [if_neg (show ¬ (false = true) by decide)] at H; exact H
   clear H
   have H := H1
   clear H1
   replace H := Option.bind_eq_some_iff.mp H
   obtain ⟨⟨t144, t145, t146, t147⟩, A1000, H⟩ := H
   replace H : ((laws_eqImage.f kj24 t123 t124 t125 t126 t144 t145 t146 t147).bind fun t150 => (if t150 = true then ((laws_toImage.f kj24 a1_0 a1_1 a1_2 l1_3).bind fun bt151 => ((laws_eqImage.f kj24 t130 t131 t132 t133 bt151.1 bt151.2.1 bt151.2.2.1 bt151.2.2.2).bind fun t157 => (if t157 = true then (some true) else (some false)))) else (some false))) = some r := H
   have A100 := Aside0.mk A1000
   clear A1000
   replace H := Option.bind_eq_some_iff.mp H
   obtain ⟨t150, A1010, H⟩ := H
   replace H : (if t150 = true then ((laws_toImage.f kj24 a1_0 a1_1 a1_2 l1_3).bind fun bt151 => ((laws_eqImage.f kj24 t130 t131 t132 t133 bt151.1 bt151.2.1 bt151.2.2.1 bt151.2.2.2).bind fun t157 => (if t157 = true then (some true) else (some false)))) else (some false)) = some r := H
   have A101 := Aside0.mk A1010
   clear A1010
   by_cases c102 : t150 = true
   rotate_left
   ·
    replace c102 := Bool.eq_false_iff.mpr c102
    subst c102
    have H1 : (some false) = some r := by rw [if_neg (show ¬ (false = true) by decide)] at H; exact H
    clear H
    have H := H1
    clear H1
    obtain rfl := Option.some.inj H
    try go_wp2
    replace HO_130003 := am_ (Kd.R_drew HO_130003.out)
    replace HO_137003 := am_ (Kd.R_drew HO_137003.out)
    replace BK101 := am_ (blk_drew BK101.out)
    replace BK102 := am_ (blk_drew BK102.out)
    replace BK122 := am_ (blk_drew BK122.out)
    replace BK129 := am_ (blk_drew BK129.out)
    replace BK136 := am_ (blk_drew BK136.out)
    replace BK142 := am_ (blk_drew BK142.out)
    replace HB := am_ (below_drew1 HB.out)
    refine start_ (n := 5) (S := fun w' => w'.cell? ⟨gb129, 0, none⟩ = some (.int .i64 t123) ∧ w'.cell? ⟨gb129, 1, none⟩ = some (.int .i64 t124) ∧ w'.cell? ⟨gb129, 2, none⟩ = some (.int .i64 t125) ∧ w'.cell? ⟨gb129, 3, none⟩ = some (.slice Ao53 t126.length co53) ∧ w'.cell? ⟨gb101, 0, none⟩ = some (.int .i64 a0_0) ∧ w'.cell? ⟨gb101, 1, none⟩ = some (.int .i64 a0_1) ∧ w'.cell? ⟨gb101, 2, none⟩ = some (.int .i64 a0_2) ∧ w'.cell? ⟨gb101, 3, none⟩ = some (.slice A0_3 l0_3.length c0_3)) (ds := []) #[false, false, false, false, false] (by kernel_rfl) rfl rfl ⟨(blk_cell BK129.out 0).trans rfl, (blk_cell BK129.out 1).trans rfl, (blk_cell BK129.out 2).trans rfl, (blk_cell BK129.out 3).trans rfl, (blk_cell BK101.out 0).trans rfl, (blk_cell BK101.out 1).trans rfl, (blk_cell BK101.out 2).trans rfl, (blk_cell BK101.out 3).trans rfl⟩ (fun hHeld => ?_)
    generalize wc.drew = w122 at HO_130003 HO_137003 BK101 BK102 BK122 BK129 BK136 BK142 HB hHeld ⊢
    refine take_ (i := 0) (N := some 49) (v := ?_) (a' := ?_) #[true, false, false, false, false] rfl rfl (by kernel_rfl) (fun _ _ _ h => h) (Or.inl ⟨by rfl, ?_⟩) hHeld ?_ ?_
    rotate_left
    ·
     rintro w' ⟨s0, s1, s2, s3, s4, s5, s6, s7⟩
     go_simp
     with_reducible rfl
    rotate_left
    ·
     simp only [Act.put, List.setIfInBounds_toArray, List.set_cons_zero, List.set_cons_succ, i64_w, i32_w]
     rfl
    refine take_ (i := 1) (N := some 50) (v := ?_) (a' := ?_) #[true, true, false, false, false] rfl rfl (by kernel_rfl) (fun _ _ _ h => h) (Or.inl ⟨by rfl, ?_⟩) hHeld ?_ ?_
    rotate_left
    ·
     rintro w' ⟨s0, s1, s2, s3, s4, s5, s6, s7⟩
     go_simp
     with_reducible rfl
    rotate_left
    ·
     simp only [Act.put, List.setIfInBounds_toArray, List.set_cons_zero, List.set_cons_succ, i64_w, i32_w]
     rfl
    refine one_ (i := 2) (N := some 51) #[true, true, true, false, false] rfl rfl (by kernel_rfl) (by decide) (fun K hK => ?_)
    refine goes_ Try.func17 (by kernel_rfl) rfl #[.agg #[.int .i64 a0_0, .int .i64 a0_1, .int .i64 a0_2, .slice A0_3 l0_3.length c0_3]] (by rfl) rfl rfl (by simp only [List.map_toArray, List.map_cons, List.map_nil]; rfl) ?_
    with_reducible refine (laws_toImage.calls kj24 a0_0 a0_1 a0_2 _ _ l0_3 t144 t145 t146 t147 _ ?side1 ?side2 A100.out).mono ?_
    (case side1 => repeat (first | exact (Kd.C_below HR0_3.out HB.out) | (with_reducible refine Kd.C_alloc ?_ _) | (with_reducible refine Kd.C_drewN ?_ _) | (with_reducible refine Kd.C_drew ?_)))
    (case side2 => exact HC0_3.out)
    rintro e w123 ⟨v148, rfl, ho0, hb⟩
    refine ⟨_, rfl, ?_⟩
    have HO149 := am_ (Kd.R_lower (Kd.R_new' (Kd.R_new' ho0 (Kd.R_lt (by exact HO_130003.out))) (Kd.R_lt (by exact HO_137003.out))) (below_size (by repeat (first | (with_reducible first | exact HB.out | apply below_alloc | apply pw_below_drewN | apply below_drew1 | refine below_set ?_ GE101.out | refine below_set ?_ GE102.out | refine below_set ?_ GE122.out | refine below_set ?_ GE129.out | refine below_set ?_ GE136.out | refine below_set ?_ GE142.out) | exact HB.out))))
    replace HO_130003 := am_ (Kd.R_elder' (by exact HO_130003.out) (Kd.R_base ho0) hb)
    replace HO_137003 := am_ (Kd.R_elder' (by exact HO_137003.out) (Kd.R_base ho0) hb)
    replace BK101 := am_ (blk_below (by exact BK101.out) hb)
    replace BK102 := am_ (blk_below (by exact BK102.out) hb)
    replace BK122 := am_ (blk_below (by exact BK122.out) hb)
    replace BK129 := am_ (blk_below (by exact BK129.out) hb)
    replace BK136 := am_ (blk_below (by exact BK136.out) hb)
    replace BK142 := am_ (blk_below (by exact BK142.out) hb)
    replace HB := am_ (below_step (by repeat (first | (with_reducible first | exact HB.out | apply below_alloc | apply pw_below_drewN | apply below_drew1 | refine below_set ?_ GE101.out | refine below_set ?_ GE102.out | refine below_set ?_ GE122.out | refine below_set ?_ GE129.out | refine below_set ?_ GE136.out | refine below_set ?_ GE142.out) | exact HB.out)) hb)
    (try clear hb)
    (try clear hb2)
    (try clear hk)
    (try clear hi)
    (try clear ho0)
    obtain ⟨Ao124, co124, eo124⟩ := Kd.R_slice HO149.out
    (first | subst eo124 | (injection eo124 with f1_ f2_ f3_; have f4_ := f1_.symm; have f5_ := f3_.symm; clear f1_ f2_ f3_; subst f4_; subst f5_))
    refine hK.out _ _ ⟨(blk_cell BK129.out 0).trans rfl, (blk_cell BK129.out 1).trans rfl, (blk_cell BK129.out 2).trans rfl, (blk_cell BK129.out 3).trans rfl, (blk_cell BK101.out 0).trans rfl, (blk_cell BK101.out 1).trans rfl, (blk_cell BK101.out 2).trans rfl, (blk_cell BK101.out 3).trans rfl⟩ (fun hHeld => ?_)
    clear hK K
    refine norm_ (a' := ?_) ?_ ?_
    rotate_left
    ·
     show Act.put _ (some 51) _ = _
     simp only [Act.put, List.setIfInBounds_toArray, List.set_cons_zero, List.set_cons_succ, i64_w, i32_w]
     rfl
    refine one_ (i := 3) (N := some 52) #[true, true, true, true, false] rfl rfl (by kernel_rfl) (by decide) (fun K hK => ?_)
    refine goes_ Try.func19 (by kernel_rfl) rfl #[.agg #[.int .i64 t123, .int .i64 t124, .int .i64 t125, .slice Ao53 t126.length co53], .agg #[.int .i64 t144, .int .i64 t145, .int .i64 t146, .slice Ao124 t147.length co124]] (by rfl) rfl rfl (by simp only [List.map_toArray, List.map_cons, List.map_nil]; rfl) ?_
    with_reducible refine (laws_eqImage.calls kj24 t123 t124 t125 _ _ t126 t144 t145 t146 _ _ t147 false _ ?side1 ?side2 ?side3 ?side4 A101.out).mono ?_
    (case side1 => repeat (first | exact (Kd.R_reads' HO_130003.out).2.2 | (with_reducible refine Kd.C_alloc ?_ _) | (with_reducible refine Kd.C_drewN ?_ _) | (with_reducible refine Kd.C_drew ?_)))
    (case side2 => exact (Kd.R_reads' HO_130003.out).2.1)
    (case side3 => repeat (first | exact (Kd.R_reads' HO149.out).2.2 | (with_reducible refine Kd.C_alloc ?_ _) | (with_reducible refine Kd.C_drewN ?_ _) | (with_reducible refine Kd.C_drew ?_)))
    (case side4 => exact (Kd.R_reads' HO149.out).2.1)
    rintro e w125 ⟨rfl, hb⟩
    refine ⟨_, rfl, ?_⟩
    replace HO_130003 := am_ (Kd.R_below (by exact HO_130003.out) hb)
    replace HO_137003 := am_ (Kd.R_below (by exact HO_137003.out) hb)
    replace HO149 := am_ (Kd.R_below (by exact HO149.out) hb)
    replace BK101 := am_ (blk_below (by exact BK101.out) hb)
    replace BK102 := am_ (blk_below (by exact BK102.out) hb)
    replace BK122 := am_ (blk_below (by exact BK122.out) hb)
    replace BK129 := am_ (blk_below (by exact BK129.out) hb)
    replace BK136 := am_ (blk_below (by exact BK136.out) hb)
    replace BK142 := am_ (blk_below (by exact BK142.out) hb)
    replace HB := am_ (below_step (by repeat (first | (with_reducible first | exact HB.out | apply below_alloc | apply pw_below_drewN | apply below_drew1 | refine below_set ?_ GE101.out | refine below_set ?_ GE102.out | refine below_set ?_ GE122.out | refine below_set ?_ GE129.out | refine below_set ?_ GE136.out | refine below_set ?_ GE142.out) | exact HB.out)) hb)
    (try clear hb)
    (try clear hb2)
    (try clear hk)
    (try clear hi)
    refine hK.out _ _ ⟨(blk_cell BK129.out 0).trans rfl, (blk_cell BK129.out 1).trans rfl, (blk_cell BK129.out 2).trans rfl, (blk_cell BK129.out 3).trans rfl, (blk_cell BK101.out 0).trans rfl, (blk_cell BK101.out 1).trans rfl, (blk_cell BK101.out 2).trans rfl, (blk_cell BK101.out 3).trans rfl⟩ (fun hHeld => ?_)
    clear hK K
    refine norm_ (a' := ?_) ?_ ?_
    rotate_left
    ·
     show Act.put _ (some 52) _ = _
     simp only [Act.put, List.setIfInBounds_toArray, List.set_cons_zero, List.set_cons_succ, i64_w, i32_w]
     rfl
    refine pure_ (i := 4) (N := some 53) (v := ?_) (a' := ?_) #[true, true, true, true, true] rfl rfl (by kernel_rfl) (fun _ _ _ h => h) (Or.inl ⟨by rfl, ?_⟩) ?_ ?_
    rotate_left
    ·
     intro w'
     go_simp
     with_reducible rfl
    rotate_left
    ·
     simp only [Act.put, List.setIfInBounds_toArray, List.set_cons_zero, List.set_cons_succ, i64_w, i32_w]
     rfl
    refine done_ (by kernel_rfl) ?_
    try go_wp2
    go_ret
    exact ⟨by first | rfl | (simp [errW_none, errW_some] <;> rfl) | (simp [*, errW_none, errW_some] <;> rfl), by repeat (first | (with_reducible first | exact HB.out | apply below_alloc | apply pw_below_drewN | apply below_drew1 | refine below_set ?_ GE101.out | refine below_set ?_ GE102.out | refine below_set ?_ GE122.out | refine below_set ?_ GE129.out | refine below_set ?_ GE136.out | refine below_set ?_ GE142.out) | exact HB.out)⟩
   subst c102
   have H1 : ((laws_toImage.f kj24 a1_0 a1_1 a1_2 l1_3).bind fun bt151 => ((laws_eqImage.f kj24 t130 t131 t132 t133 bt151.1 bt151.2.1 bt151.2.2.1 bt151.2.2.2).bind fun t157 => (if t157 = true then (some true) else (some false)))) = some r := by rw [if_pos rfl] at H; exact H
   clear H
   have H := H1
   clear H1
   replace H := Option.bind_eq_some_iff.mp H
   obtain ⟨⟨t151, t152, t153, t154⟩, A1030, H⟩ := H
   replace H : ((laws_eqImage.f kj24 t130 t131 t132 t133 t151 t152 t153 t154).bind fun t157 => (if t157 = true then (some true) else (some false))) = some r := H
   have A103 := Aside0.mk A1030
   clear A1030
   replace H := Option.bind_eq_some_iff.mp H
   obtain ⟨t157, A1040, H⟩ := H
   replace H : (if t157 = true then (some true) else (some false)) = some r := H
   have A104 := Aside0.mk A1040
   clear A1040
   by_cases c105 : t157 = true
   ·
    subst c105
    have H1 : (some true) = some r := by rw [if_pos rfl] at H; exact H
    clear H
    have H := H1
    clear H1
    obtain rfl := Option.some.inj H
    try go_wp2
    replace HO_130003 := am_ (Kd.R_drew HO_130003.out)
    replace HO_137003 := am_ (Kd.R_drew HO_137003.out)
    replace BK101 := am_ (blk_drew BK101.out)
    replace BK102 := am_ (blk_drew BK102.out)
    replace BK122 := am_ (blk_drew BK122.out)
    replace BK129 := am_ (blk_drew BK129.out)
    replace BK136 := am_ (blk_drew BK136.out)
    replace BK142 := am_ (blk_drew BK142.out)
    replace HB := am_ (below_drew1 HB.out)
    refine start_ (n := 5) (S := fun w' => w'.cell? ⟨gb129, 0, none⟩ = some (.int .i64 t123) ∧ w'.cell? ⟨gb129, 1, none⟩ = some (.int .i64 t124) ∧ w'.cell? ⟨gb129, 2, none⟩ = some (.int .i64 t125) ∧ w'.cell? ⟨gb129, 3, none⟩ = some (.slice Ao53 t126.length co53) ∧ w'.cell? ⟨gb101, 0, none⟩ = some (.int .i64 a0_0) ∧ w'.cell? ⟨gb101, 1, none⟩ = some (.int .i64 a0_1) ∧ w'.cell? ⟨gb101, 2, none⟩ = some (.int .i64 a0_2) ∧ w'.cell? ⟨gb101, 3, none⟩ = some (.slice A0_3 l0_3.length c0_3)) (ds := []) #[false, false, false, false, false] (by kernel_rfl) rfl rfl ⟨(blk_cell BK129.out 0).trans rfl, (blk_cell BK129.out 1).trans rfl, (blk_cell BK129.out 2).trans rfl, (blk_cell BK129.out 3).trans rfl, (blk_cell BK101.out 0).trans rfl, (blk_cell BK101.out 1).trans rfl, (blk_cell BK101.out 2).trans rfl, (blk_cell BK101.out 3).trans rfl⟩ (fun hHeld => ?_)
    generalize wc.drew = w106 at HO_130003 HO_137003 BK101 BK102 BK122 BK129 BK136 BK142 HB hHeld ⊢
    refine take_ (i := 0) (N := some 49) (v := ?_) (a' := ?_) #[true, false, false, false, false] rfl rfl (by kernel_rfl) (fun _ _ _ h => h) (Or.inl ⟨by rfl, ?_⟩) hHeld ?_ ?_
    rotate_left
    ·
     rintro w' ⟨s0, s1, s2, s3, s4, s5, s6, s7⟩
     go_simp
     with_reducible rfl
    rotate_left
    ·
     simp only [Act.put, List.setIfInBounds_toArray, List.set_cons_zero, List.set_cons_succ, i64_w, i32_w]
     rfl
    refine take_ (i := 1) (N := some 50) (v := ?_) (a' := ?_) #[true, true, false, false, false] rfl rfl (by kernel_rfl) (fun _ _ _ h => h) (Or.inl ⟨by rfl, ?_⟩) hHeld ?_ ?_
    rotate_left
    ·
     rintro w' ⟨s0, s1, s2, s3, s4, s5, s6, s7⟩
     go_simp
     with_reducible rfl
    rotate_left
    ·
     simp only [Act.put, List.setIfInBounds_toArray, List.set_cons_zero, List.set_cons_succ, i64_w, i32_w]
     rfl
    refine one_ (i := 2) (N := some 51) #[true, true, true, false, false] rfl rfl (by kernel_rfl) (by decide) (fun K hK => ?_)
    refine goes_ Try.func17 (by kernel_rfl) rfl #[.agg #[.int .i64 a0_0, .int .i64 a0_1, .int .i64 a0_2, .slice A0_3 l0_3.length c0_3]] (by rfl) rfl rfl (by simp only [List.map_toArray, List.map_cons, List.map_nil]; rfl) ?_
    with_reducible refine (laws_toImage.calls kj24 a0_0 a0_1 a0_2 _ _ l0_3 t144 t145 t146 t147 _ ?side1 ?side2 A100.out).mono ?_
    (case side1 => repeat (first | exact (Kd.C_below HR0_3.out HB.out) | (with_reducible refine Kd.C_alloc ?_ _) | (with_reducible refine Kd.C_drewN ?_ _) | (with_reducible refine Kd.C_drew ?_)))
    (case side2 => exact HC0_3.out)
    rintro e w107 ⟨v148, rfl, ho0, hb⟩
    refine ⟨_, rfl, ?_⟩
    have HO149 := am_ (Kd.R_lower (Kd.R_new' (Kd.R_new' ho0 (Kd.R_lt (by exact HO_130003.out))) (Kd.R_lt (by exact HO_137003.out))) (below_size (by repeat (first | (with_reducible first | exact HB.out | apply below_alloc | apply pw_below_drewN | apply below_drew1 | refine below_set ?_ GE101.out | refine below_set ?_ GE102.out | refine below_set ?_ GE122.out | refine below_set ?_ GE129.out | refine below_set ?_ GE136.out | refine below_set ?_ GE142.out) | exact HB.out))))
    replace HO_130003 := am_ (Kd.R_elder' (by exact HO_130003.out) (Kd.R_base ho0) hb)
    replace HO_137003 := am_ (Kd.R_elder' (by exact HO_137003.out) (Kd.R_base ho0) hb)
    replace BK101 := am_ (blk_below (by exact BK101.out) hb)
    replace BK102 := am_ (blk_below (by exact BK102.out) hb)
    replace BK122 := am_ (blk_below (by exact BK122.out) hb)
    replace BK129 := am_ (blk_below (by exact BK129.out) hb)
    replace BK136 := am_ (blk_below (by exact BK136.out) hb)
    replace BK142 := am_ (blk_below (by exact BK142.out) hb)
    replace HB := am_ (below_step (by repeat (first | (with_reducible first | exact HB.out | apply below_alloc | apply pw_below_drewN | apply below_drew1 | refine below_set ?_ GE101.out | refine below_set ?_ GE102.out | refine below_set ?_ GE122.out | refine below_set ?_ GE129.out | refine below_set ?_ GE136.out | refine below_set ?_ GE142.out) | exact HB.out)) hb)
    (try clear hb)
    (try clear hb2)
    (try clear hk)
    (try clear hi)
    (try clear ho0)
    obtain ⟨Ao108, co108, eo108⟩ := Kd.R_slice HO149.out
    (first | subst eo108 | (injection eo108 with f1_ f2_ f3_; have f4_ := f1_.symm; have f5_ := f3_.symm; clear f1_ f2_ f3_; subst f4_; subst f5_))
    refine hK.out _ _ ⟨(blk_cell BK129.out 0).trans rfl, (blk_cell BK129.out 1).trans rfl, (blk_cell BK129.out 2).trans rfl, (blk_cell BK129.out 3).trans rfl, (blk_cell BK101.out 0).trans rfl, (blk_cell BK101.out 1).trans rfl, (blk_cell BK101.out 2).trans rfl, (blk_cell BK101.out 3).trans rfl⟩ (fun hHeld => ?_)
    clear hK K
    refine norm_ (a' := ?_) ?_ ?_
    rotate_left
    ·
     show Act.put _ (some 51) _ = _
     simp only [Act.put, List.setIfInBounds_toArray, List.set_cons_zero, List.set_cons_succ, i64_w, i32_w]
     rfl
    refine one_ (i := 3) (N := some 52) #[true, true, true, true, false] rfl rfl (by kernel_rfl) (by decide) (fun K hK => ?_)
    refine goes_ Try.func19 (by kernel_rfl) rfl #[.agg #[.int .i64 t123, .int .i64 t124, .int .i64 t125, .slice Ao53 t126.length co53], .agg #[.int .i64 t144, .int .i64 t145, .int .i64 t146, .slice Ao108 t147.length co108]] (by rfl) rfl rfl (by simp only [List.map_toArray, List.map_cons, List.map_nil]; rfl) ?_
    with_reducible refine (laws_eqImage.calls kj24 t123 t124 t125 _ _ t126 t144 t145 t146 _ _ t147 true _ ?side1 ?side2 ?side3 ?side4 A101.out).mono ?_
    (case side1 => repeat (first | exact (Kd.R_reads' HO_130003.out).2.2 | (with_reducible refine Kd.C_alloc ?_ _) | (with_reducible refine Kd.C_drewN ?_ _) | (with_reducible refine Kd.C_drew ?_)))
    (case side2 => exact (Kd.R_reads' HO_130003.out).2.1)
    (case side3 => repeat (first | exact (Kd.R_reads' HO149.out).2.2 | (with_reducible refine Kd.C_alloc ?_ _) | (with_reducible refine Kd.C_drewN ?_ _) | (with_reducible refine Kd.C_drew ?_)))
    (case side4 => exact (Kd.R_reads' HO149.out).2.1)
    rintro e w109 ⟨rfl, hb⟩
    refine ⟨_, rfl, ?_⟩
    replace HO_130003 := am_ (Kd.R_below (by exact HO_130003.out) hb)
    replace HO_137003 := am_ (Kd.R_below (by exact HO_137003.out) hb)
    replace HO149 := am_ (Kd.R_below (by exact HO149.out) hb)
    replace BK101 := am_ (blk_below (by exact BK101.out) hb)
    replace BK102 := am_ (blk_below (by exact BK102.out) hb)
    replace BK122 := am_ (blk_below (by exact BK122.out) hb)
    replace BK129 := am_ (blk_below (by exact BK129.out) hb)
    replace BK136 := am_ (blk_below (by exact BK136.out) hb)
    replace BK142 := am_ (blk_below (by exact BK142.out) hb)
    replace HB := am_ (below_step (by repeat (first | (with_reducible first | exact HB.out | apply below_alloc | apply pw_below_drewN | apply below_drew1 | refine below_set ?_ GE101.out | refine below_set ?_ GE102.out | refine below_set ?_ GE122.out | refine below_set ?_ GE129.out | refine below_set ?_ GE136.out | refine below_set ?_ GE142.out) | exact HB.out)) hb)
    (try clear hb)
    (try clear hb2)
    (try clear hk)
    (try clear hi)
    refine hK.out _ _ ⟨(blk_cell BK129.out 0).trans rfl, (blk_cell BK129.out 1).trans rfl, (blk_cell BK129.out 2).trans rfl, (blk_cell BK129.out 3).trans rfl, (blk_cell BK101.out 0).trans rfl, (blk_cell BK101.out 1).trans rfl, (blk_cell BK101.out 2).trans rfl, (blk_cell BK101.out 3).trans rfl⟩ (fun hHeld => ?_)
    clear hK K
    refine norm_ (a' := ?_) ?_ ?_
    rotate_left
    ·
     show Act.put _ (some 52) _ = _
     simp only [Act.put, List.setIfInBounds_toArray, List.set_cons_zero, List.set_cons_succ, i64_w, i32_w]
     rfl
    refine pure_ (i := 4) (N := some 53) (v := ?_) (a' := ?_) #[true, true, true, true, true] rfl rfl (by kernel_rfl) (fun _ _ _ h => h) (Or.inl ⟨by rfl, ?_⟩) ?_ ?_
    rotate_left
    ·
     intro w'
     go_simp
     with_reducible rfl
    rotate_left
    ·
     simp only [Act.put, List.setIfInBounds_toArray, List.set_cons_zero, List.set_cons_succ, i64_w, i32_w]
     rfl
    refine done_ (by kernel_rfl) ?_
    try go_wp2
    replace HO_130003 := am_ (Kd.R_drew HO_130003.out)
    replace HO_137003 := am_ (Kd.R_drew HO_137003.out)
    replace HO149 := am_ (Kd.R_drew HO149.out)
    replace BK101 := am_ (blk_drew BK101.out)
    replace BK102 := am_ (blk_drew BK102.out)
    replace BK122 := am_ (blk_drew BK122.out)
    replace BK129 := am_ (blk_drew BK129.out)
    replace BK136 := am_ (blk_drew BK136.out)
    replace BK142 := am_ (blk_drew BK142.out)
    replace HB := am_ (below_drew1 HB.out)
    refine start_ (n := 5) (S := fun w' => w'.cell? ⟨gb136, 0, none⟩ = some (.int .i64 t130) ∧ w'.cell? ⟨gb136, 1, none⟩ = some (.int .i64 t131) ∧ w'.cell? ⟨gb136, 2, none⟩ = some (.int .i64 t132) ∧ w'.cell? ⟨gb136, 3, none⟩ = some (.slice Ao63 t133.length co63) ∧ w'.cell? ⟨gb102, 0, none⟩ = some (.int .i64 a1_0) ∧ w'.cell? ⟨gb102, 1, none⟩ = some (.int .i64 a1_1) ∧ w'.cell? ⟨gb102, 2, none⟩ = some (.int .i64 a1_2) ∧ w'.cell? ⟨gb102, 3, none⟩ = some (.slice A1_3 l1_3.length c1_3)) (ds := []) #[false, false, false, false, false] (by kernel_rfl) rfl rfl ⟨(blk_cell BK136.out 0).trans rfl, (blk_cell BK136.out 1).trans rfl, (blk_cell BK136.out 2).trans rfl, (blk_cell BK136.out 3).trans rfl, (blk_cell BK102.out 0).trans rfl, (blk_cell BK102.out 1).trans rfl, (blk_cell BK102.out 2).trans rfl, (blk_cell BK102.out 3).trans rfl⟩ (fun hHeld => ?_)
    generalize w109.drew = w110 at HO_130003 HO_137003 HO149 BK101 BK102 BK122 BK129 BK136 BK142 HB hHeld ⊢
    refine take_ (i := 0) (N := some 54) (v := ?_) (a' := ?_) #[true, false, false, false, false] rfl rfl (by kernel_rfl) (fun _ _ _ h => h) (Or.inl ⟨by rfl, ?_⟩) hHeld ?_ ?_
    rotate_left
    ·
     rintro w' ⟨s0, s1, s2, s3, s4, s5, s6, s7⟩
     go_simp
     with_reducible rfl
    rotate_left
    ·
     simp only [Act.put, List.setIfInBounds_toArray, List.set_cons_zero, List.set_cons_succ, i64_w, i32_w]
     rfl
    refine take_ (i := 1) (N := some 55) (v := ?_) (a' := ?_) #[true, true, false, false, false] rfl rfl (by kernel_rfl) (fun _ _ _ h => h) (Or.inl ⟨by rfl, ?_⟩) hHeld ?_ ?_
    rotate_left
    ·
     rintro w' ⟨s0, s1, s2, s3, s4, s5, s6, s7⟩
     go_simp
     with_reducible rfl
    rotate_left
    ·
     simp only [Act.put, List.setIfInBounds_toArray, List.set_cons_zero, List.set_cons_succ, i64_w, i32_w]
     rfl
    refine one_ (i := 2) (N := some 56) #[true, true, true, false, false] rfl rfl (by kernel_rfl) (by decide) (fun K hK => ?_)
    refine goes_ Try.func17 (by kernel_rfl) rfl #[.agg #[.int .i64 a1_0, .int .i64 a1_1, .int .i64 a1_2, .slice A1_3 l1_3.length c1_3]] (by rfl) rfl rfl (by simp only [List.map_toArray, List.map_cons, List.map_nil]; rfl) ?_
    with_reducible refine (laws_toImage.calls kj24 a1_0 a1_1 a1_2 _ _ l1_3 t151 t152 t153 t154 _ ?side1 ?side2 A103.out).mono ?_
    (case side1 => repeat (first | exact (Kd.C_below HR1_3.out HB.out) | (with_reducible refine Kd.C_alloc ?_ _) | (with_reducible refine Kd.C_drewN ?_ _) | (with_reducible refine Kd.C_drew ?_)))
    (case side2 => exact HC1_3.out)
    rintro e w111 ⟨v155, rfl, ho0, hb⟩
    refine ⟨_, rfl, ?_⟩
    have HO156 := am_ (Kd.R_lower (Kd.R_new' (Kd.R_new' (Kd.R_new' ho0 (Kd.R_lt (by exact HO_130003.out))) (Kd.R_lt (by exact HO_137003.out))) (Kd.R_lt (by exact HO149.out))) (below_size (by repeat (first | (with_reducible first | exact HB.out | apply below_alloc | apply pw_below_drewN | apply below_drew1 | refine below_set ?_ GE101.out | refine below_set ?_ GE102.out | refine below_set ?_ GE122.out | refine below_set ?_ GE129.out | refine below_set ?_ GE136.out | refine below_set ?_ GE142.out) | exact HB.out))))
    replace HO_130003 := am_ (Kd.R_elder' (by exact HO_130003.out) (Kd.R_base ho0) hb)
    replace HO_137003 := am_ (Kd.R_elder' (by exact HO_137003.out) (Kd.R_base ho0) hb)
    replace HO149 := am_ (Kd.R_elder' (by exact HO149.out) (Kd.R_base ho0) hb)
    replace BK101 := am_ (blk_below (by exact BK101.out) hb)
    replace BK102 := am_ (blk_below (by exact BK102.out) hb)
    replace BK122 := am_ (blk_below (by exact BK122.out) hb)
    replace BK129 := am_ (blk_below (by exact BK129.out) hb)
    replace BK136 := am_ (blk_below (by exact BK136.out) hb)
    replace BK142 := am_ (blk_below (by exact BK142.out) hb)
    replace HB := am_ (below_step (by repeat (first | (with_reducible first | exact HB.out | apply below_alloc | apply pw_below_drewN | apply below_drew1 | refine below_set ?_ GE101.out | refine below_set ?_ GE102.out | refine below_set ?_ GE122.out | refine below_set ?_ GE129.out | refine below_set ?_ GE136.out | refine below_set ?_ GE142.out) | exact HB.out)) hb)
    (try clear hb)
    (try clear hb2)
    (try clear hk)
    (try clear hi)
    (try clear ho0)
    obtain ⟨Ao112, co112, eo112⟩ := Kd.R_slice HO156.out
    (first | subst eo112 | (injection eo112 with f1_ f2_ f3_; have f4_ := f1_.symm; have f5_ := f3_.symm; clear f1_ f2_ f3_; subst f4_; subst f5_))
    refine hK.out _ _ ⟨(blk_cell BK136.out 0).trans rfl, (blk_cell BK136.out 1).trans rfl, (blk_cell BK136.out 2).trans rfl, (blk_cell BK136.out 3).trans rfl, (blk_cell BK102.out 0).trans rfl, (blk_cell BK102.out 1).trans rfl, (blk_cell BK102.out 2).trans rfl, (blk_cell BK102.out 3).trans rfl⟩ (fun hHeld => ?_)
    clear hK K
    refine norm_ (a' := ?_) ?_ ?_
    rotate_left
    ·
     show Act.put _ (some 56) _ = _
     simp only [Act.put, List.setIfInBounds_toArray, List.set_cons_zero, List.set_cons_succ, i64_w, i32_w]
     rfl
    refine one_ (i := 3) (N := some 57) #[true, true, true, true, false] rfl rfl (by kernel_rfl) (by decide) (fun K hK => ?_)
    refine goes_ Try.func19 (by kernel_rfl) rfl #[.agg #[.int .i64 t130, .int .i64 t131, .int .i64 t132, .slice Ao63 t133.length co63], .agg #[.int .i64 t151, .int .i64 t152, .int .i64 t153, .slice Ao112 t154.length co112]] (by rfl) rfl rfl (by simp only [List.map_toArray, List.map_cons, List.map_nil]; rfl) ?_
    with_reducible refine (laws_eqImage.calls kj24 t130 t131 t132 _ _ t133 t151 t152 t153 _ _ t154 true _ ?side1 ?side2 ?side3 ?side4 A104.out).mono ?_
    (case side1 => repeat (first | exact (Kd.R_reads' HO_137003.out).2.2 | (with_reducible refine Kd.C_alloc ?_ _) | (with_reducible refine Kd.C_drewN ?_ _) | (with_reducible refine Kd.C_drew ?_)))
    (case side2 => exact (Kd.R_reads' HO_137003.out).2.1)
    (case side3 => repeat (first | exact (Kd.R_reads' HO156.out).2.2 | (with_reducible refine Kd.C_alloc ?_ _) | (with_reducible refine Kd.C_drewN ?_ _) | (with_reducible refine Kd.C_drew ?_)))
    (case side4 => exact (Kd.R_reads' HO156.out).2.1)
    rintro e w113 ⟨rfl, hb⟩
    refine ⟨_, rfl, ?_⟩
    replace HO_130003 := am_ (Kd.R_below (by exact HO_130003.out) hb)
    replace HO_137003 := am_ (Kd.R_below (by exact HO_137003.out) hb)
    replace HO149 := am_ (Kd.R_below (by exact HO149.out) hb)
    replace HO156 := am_ (Kd.R_below (by exact HO156.out) hb)
    replace BK101 := am_ (blk_below (by exact BK101.out) hb)
    replace BK102 := am_ (blk_below (by exact BK102.out) hb)
    replace BK122 := am_ (blk_below (by exact BK122.out) hb)
    replace BK129 := am_ (blk_below (by exact BK129.out) hb)
    replace BK136 := am_ (blk_below (by exact BK136.out) hb)
    replace BK142 := am_ (blk_below (by exact BK142.out) hb)
    replace HB := am_ (below_step (by repeat (first | (with_reducible first | exact HB.out | apply below_alloc | apply pw_below_drewN | apply below_drew1 | refine below_set ?_ GE101.out | refine below_set ?_ GE102.out | refine below_set ?_ GE122.out | refine below_set ?_ GE129.out | refine below_set ?_ GE136.out | refine below_set ?_ GE142.out) | exact HB.out)) hb)
    (try clear hb)
    (try clear hb2)
    (try clear hk)
    (try clear hi)
    refine hK.out _ _ ⟨(blk_cell BK136.out 0).trans rfl, (blk_cell BK136.out 1).trans rfl, (blk_cell BK136.out 2).trans rfl, (blk_cell BK136.out 3).trans rfl, (blk_cell BK102.out 0).trans rfl, (blk_cell BK102.out 1).trans rfl, (blk_cell BK102.out 2).trans rfl, (blk_cell BK102.out 3).trans rfl⟩ (fun hHeld => ?_)
    clear hK K
    refine norm_ (a' := ?_) ?_ ?_
    rotate_left
    ·
     show Act.put _ (some 57) _ = _
     simp only [Act.put, List.setIfInBounds_toArray, List.set_cons_zero, List.set_cons_succ, i64_w, i32_w]
     rfl
    refine pure_ (i := 4) (N := some 58) (v := ?_) (a' := ?_) #[true, true, true, true, true] rfl rfl (by kernel_rfl) (fun _ _ _ h => h) (Or.inl ⟨by rfl, ?_⟩) ?_ ?_
    rotate_left
    ·
     intro w'
     go_simp
     with_reducible rfl
    rotate_left
    ·
     simp only [Act.put, List.setIfInBounds_toArray, List.set_cons_zero, List.set_cons_succ, i64_w, i32_w]
     rfl
    refine done_ (by kernel_rfl) ?_
    try go_wp2
    go_ret
    exact ⟨by first | rfl | (simp [errW_none, errW_some] <;> rfl) | (simp [*, errW_none, errW_some] <;> rfl), by repeat (first | (with_reducible first | exact HB.out | apply below_alloc | apply pw_below_drewN | apply below_drew1 | refine below_set ?_ GE101.out | refine below_set ?_ GE102.out | refine below_set ?_ GE122.out | refine below_set ?_ GE129.out | refine below_set ?_ GE136.out | refine below_set ?_ GE142.out) | exact HB.out)⟩
   replace c105 := Bool.eq_false_iff.mpr c105
   subst c105
   have H1 : (some false) = some r := by rw [if_neg (show ¬ (false = true) by decide)] at H; exact H
   clear H
   have H := H1
   clear H1
   obtain rfl := Option.some.inj H
   try go_wp2
   replace HO_130003 := am_ (Kd.R_drew HO_130003.out)
   replace HO_137003 := am_ (Kd.R_drew HO_137003.out)
   replace BK101 := am_ (blk_drew BK101.out)
   replace BK102 := am_ (blk_drew BK102.out)
   replace BK122 := am_ (blk_drew BK122.out)
   replace BK129 := am_ (blk_drew BK129.out)
   replace BK136 := am_ (blk_drew BK136.out)
   replace BK142 := am_ (blk_drew BK142.out)
   replace HB := am_ (below_drew1 HB.out)
   refine start_ (n := 5) (S := fun w' => w'.cell? ⟨gb129, 0, none⟩ = some (.int .i64 t123) ∧ w'.cell? ⟨gb129, 1, none⟩ = some (.int .i64 t124) ∧ w'.cell? ⟨gb129, 2, none⟩ = some (.int .i64 t125) ∧ w'.cell? ⟨gb129, 3, none⟩ = some (.slice Ao53 t126.length co53) ∧ w'.cell? ⟨gb101, 0, none⟩ = some (.int .i64 a0_0) ∧ w'.cell? ⟨gb101, 1, none⟩ = some (.int .i64 a0_1) ∧ w'.cell? ⟨gb101, 2, none⟩ = some (.int .i64 a0_2) ∧ w'.cell? ⟨gb101, 3, none⟩ = some (.slice A0_3 l0_3.length c0_3)) (ds := []) #[false, false, false, false, false] (by kernel_rfl) rfl rfl ⟨(blk_cell BK129.out 0).trans rfl, (blk_cell BK129.out 1).trans rfl, (blk_cell BK129.out 2).trans rfl, (blk_cell BK129.out 3).trans rfl, (blk_cell BK101.out 0).trans rfl, (blk_cell BK101.out 1).trans rfl, (blk_cell BK101.out 2).trans rfl, (blk_cell BK101.out 3).trans rfl⟩ (fun hHeld => ?_)
   generalize wc.drew = w114 at HO_130003 HO_137003 BK101 BK102 BK122 BK129 BK136 BK142 HB hHeld ⊢
   refine take_ (i := 0) (N := some 49) (v := ?_) (a' := ?_) #[true, false, false, false, false] rfl rfl (by kernel_rfl) (fun _ _ _ h => h) (Or.inl ⟨by rfl, ?_⟩) hHeld ?_ ?_
   rotate_left
   ·
    rintro w' ⟨s0, s1, s2, s3, s4, s5, s6, s7⟩
    go_simp
    with_reducible rfl
   rotate_left
   ·
    simp only [Act.put, List.setIfInBounds_toArray, List.set_cons_zero, List.set_cons_succ, i64_w, i32_w]
    rfl
   refine take_ (i := 1) (N := some 50) (v := ?_) (a' := ?_) #[true, true, false, false, false] rfl rfl (by kernel_rfl) (fun _ _ _ h => h) (Or.inl ⟨by rfl, ?_⟩) hHeld ?_ ?_
   rotate_left
   ·
    rintro w' ⟨s0, s1, s2, s3, s4, s5, s6, s7⟩
    go_simp
    with_reducible rfl
   rotate_left
   ·
    simp only [Act.put, List.setIfInBounds_toArray, List.set_cons_zero, List.set_cons_succ, i64_w, i32_w]
    rfl
   refine one_ (i := 2) (N := some 51) #[true, true, true, false, false] rfl rfl (by kernel_rfl) (by decide) (fun K hK => ?_)
   refine goes_ Try.func17 (by kernel_rfl) rfl #[.agg #[.int .i64 a0_0, .int .i64 a0_1, .int .i64 a0_2, .slice A0_3 l0_3.length c0_3]] (by rfl) rfl rfl (by simp only [List.map_toArray, List.map_cons, List.map_nil]; rfl) ?_
   with_reducible refine (laws_toImage.calls kj24 a0_0 a0_1 a0_2 _ _ l0_3 t144 t145 t146 t147 _ ?side1 ?side2 A100.out).mono ?_
   (case side1 => repeat (first | exact (Kd.C_below HR0_3.out HB.out) | (with_reducible refine Kd.C_alloc ?_ _) | (with_reducible refine Kd.C_drewN ?_ _) | (with_reducible refine Kd.C_drew ?_)))
   (case side2 => exact HC0_3.out)
   rintro e w115 ⟨v148, rfl, ho0, hb⟩
   refine ⟨_, rfl, ?_⟩
   have HO149 := am_ (Kd.R_lower (Kd.R_new' (Kd.R_new' ho0 (Kd.R_lt (by exact HO_130003.out))) (Kd.R_lt (by exact HO_137003.out))) (below_size (by repeat (first | (with_reducible first | exact HB.out | apply below_alloc | apply pw_below_drewN | apply below_drew1 | refine below_set ?_ GE101.out | refine below_set ?_ GE102.out | refine below_set ?_ GE122.out | refine below_set ?_ GE129.out | refine below_set ?_ GE136.out | refine below_set ?_ GE142.out) | exact HB.out))))
   replace HO_130003 := am_ (Kd.R_elder' (by exact HO_130003.out) (Kd.R_base ho0) hb)
   replace HO_137003 := am_ (Kd.R_elder' (by exact HO_137003.out) (Kd.R_base ho0) hb)
   replace BK101 := am_ (blk_below (by exact BK101.out) hb)
   replace BK102 := am_ (blk_below (by exact BK102.out) hb)
   replace BK122 := am_ (blk_below (by exact BK122.out) hb)
   replace BK129 := am_ (blk_below (by exact BK129.out) hb)
   replace BK136 := am_ (blk_below (by exact BK136.out) hb)
   replace BK142 := am_ (blk_below (by exact BK142.out) hb)
   replace HB := am_ (below_step (by repeat (first | (with_reducible first | exact HB.out | apply below_alloc | apply pw_below_drewN | apply below_drew1 | refine below_set ?_ GE101.out | refine below_set ?_ GE102.out | refine below_set ?_ GE122.out | refine below_set ?_ GE129.out | refine below_set ?_ GE136.out | refine below_set ?_ GE142.out) | exact HB.out)) hb)
   (try clear hb)
   (try clear hb2)
   (try clear hk)
   (try clear hi)
   (try clear ho0)
   obtain ⟨Ao116, co116, eo116⟩ := Kd.R_slice HO149.out
   (first | subst eo116 | (injection eo116 with f1_ f2_ f3_; have f4_ := f1_.symm; have f5_ := f3_.symm; clear f1_ f2_ f3_; subst f4_; subst f5_))
   refine hK.out _ _ ⟨(blk_cell BK129.out 0).trans rfl, (blk_cell BK129.out 1).trans rfl, (blk_cell BK129.out 2).trans rfl, (blk_cell BK129.out 3).trans rfl, (blk_cell BK101.out 0).trans rfl, (blk_cell BK101.out 1).trans rfl, (blk_cell BK101.out 2).trans rfl, (blk_cell BK101.out 3).trans rfl⟩ (fun hHeld => ?_)
   clear hK K
   refine norm_ (a' := ?_) ?_ ?_
   rotate_left
   ·
    show Act.put _ (some 51) _ = _
    simp only [Act.put, List.setIfInBounds_toArray, List.set_cons_zero, List.set_cons_succ, i64_w, i32_w]
    rfl
   refine one_ (i := 3) (N := some 52) #[true, true, true, true, false] rfl rfl (by kernel_rfl) (by decide) (fun K hK => ?_)
   refine goes_ Try.func19 (by kernel_rfl) rfl #[.agg #[.int .i64 t123, .int .i64 t124, .int .i64 t125, .slice Ao53 t126.length co53], .agg #[.int .i64 t144, .int .i64 t145, .int .i64 t146, .slice Ao116 t147.length co116]] (by rfl) rfl rfl (by simp only [List.map_toArray, List.map_cons, List.map_nil]; rfl) ?_
   with_reducible refine (laws_eqImage.calls kj24 t123 t124 t125 _ _ t126 t144 t145 t146 _ _ t147 true _ ?side1 ?side2 ?side3 ?side4 A101.out).mono ?_
   (case side1 => repeat (first | exact (Kd.R_reads' HO_130003.out).2.2 | (with_reducible refine Kd.C_alloc ?_ _) | (with_reducible refine Kd.C_drewN ?_ _) | (with_reducible refine Kd.C_drew ?_)))
   (case side2 => exact (Kd.R_reads' HO_130003.out).2.1)
   (case side3 => repeat (first | exact (Kd.R_reads' HO149.out).2.2 | (with_reducible refine Kd.C_alloc ?_ _) | (with_reducible refine Kd.C_drewN ?_ _) | (with_reducible refine Kd.C_drew ?_)))
   (case side4 => exact (Kd.R_reads' HO149.out).2.1)
   rintro e w117 ⟨rfl, hb⟩
   refine ⟨_, rfl, ?_⟩
   replace HO_130003 := am_ (Kd.R_below (by exact HO_130003.out) hb)
   replace HO_137003 := am_ (Kd.R_below (by exact HO_137003.out) hb)
   replace HO149 := am_ (Kd.R_below (by exact HO149.out) hb)
   replace BK101 := am_ (blk_below (by exact BK101.out) hb)
   replace BK102 := am_ (blk_below (by exact BK102.out) hb)
   replace BK122 := am_ (blk_below (by exact BK122.out) hb)
   replace BK129 := am_ (blk_below (by exact BK129.out) hb)
   replace BK136 := am_ (blk_below (by exact BK136.out) hb)
   replace BK142 := am_ (blk_below (by exact BK142.out) hb)
   replace HB := am_ (below_step (by repeat (first | (with_reducible first | exact HB.out | apply below_alloc | apply pw_below_drewN | apply below_drew1 | refine below_set ?_ GE101.out | refine below_set ?_ GE102.out | refine below_set ?_ GE122.out | refine below_set ?_ GE129.out | refine below_set ?_ GE136.out | refine below_set ?_ GE142.out) | exact HB.out)) hb)
   (try clear hb)
   (try clear hb2)
   (try clear hk)
   (try clear hi)
   refine hK.out _ _ ⟨(blk_cell BK129.out 0).trans rfl, (blk_cell BK129.out 1).trans rfl, (blk_cell BK129.out 2).trans rfl, (blk_cell BK129.out 3).trans rfl, (blk_cell BK101.out 0).trans rfl, (blk_cell BK101.out 1).trans rfl, (blk_cell BK101.out 2).trans rfl, (blk_cell BK101.out 3).trans rfl⟩ (fun hHeld => ?_)
   clear hK K
   refine norm_ (a' := ?_) ?_ ?_
   rotate_left
   ·
    show Act.put _ (some 52) _ = _
    simp only [Act.put, List.setIfInBounds_toArray, List.set_cons_zero, List.set_cons_succ, i64_w, i32_w]
    rfl
   refine pure_ (i := 4) (N := some 53) (v := ?_) (a' := ?_) #[true, true, true, true, true] rfl rfl (by kernel_rfl) (fun _ _ _ h => h) (Or.inl ⟨by rfl, ?_⟩) ?_ ?_
   rotate_left
   ·
    intro w'
    go_simp
    with_reducible rfl
   rotate_left
   ·
    simp only [Act.put, List.setIfInBounds_toArray, List.set_cons_zero, List.set_cons_succ, i64_w, i32_w]
    rfl
   refine done_ (by kernel_rfl) ?_
   try go_wp2
   replace HO_130003 := am_ (Kd.R_drew HO_130003.out)
   replace HO_137003 := am_ (Kd.R_drew HO_137003.out)
   replace HO149 := am_ (Kd.R_drew HO149.out)
   replace BK101 := am_ (blk_drew BK101.out)
   replace BK102 := am_ (blk_drew BK102.out)
   replace BK122 := am_ (blk_drew BK122.out)
   replace BK129 := am_ (blk_drew BK129.out)
   replace BK136 := am_ (blk_drew BK136.out)
   replace BK142 := am_ (blk_drew BK142.out)
   replace HB := am_ (below_drew1 HB.out)
   refine start_ (n := 5) (S := fun w' => w'.cell? ⟨gb136, 0, none⟩ = some (.int .i64 t130) ∧ w'.cell? ⟨gb136, 1, none⟩ = some (.int .i64 t131) ∧ w'.cell? ⟨gb136, 2, none⟩ = some (.int .i64 t132) ∧ w'.cell? ⟨gb136, 3, none⟩ = some (.slice Ao63 t133.length co63) ∧ w'.cell? ⟨gb102, 0, none⟩ = some (.int .i64 a1_0) ∧ w'.cell? ⟨gb102, 1, none⟩ = some (.int .i64 a1_1) ∧ w'.cell? ⟨gb102, 2, none⟩ = some (.int .i64 a1_2) ∧ w'.cell? ⟨gb102, 3, none⟩ = some (.slice A1_3 l1_3.length c1_3)) (ds := []) #[false, false, false, false, false] (by kernel_rfl) rfl rfl ⟨(blk_cell BK136.out 0).trans rfl, (blk_cell BK136.out 1).trans rfl, (blk_cell BK136.out 2).trans rfl, (blk_cell BK136.out 3).trans rfl, (blk_cell BK102.out 0).trans rfl, (blk_cell BK102.out 1).trans rfl, (blk_cell BK102.out 2).trans rfl, (blk_cell BK102.out 3).trans rfl⟩ (fun hHeld => ?_)
   generalize w117.drew = w118 at HO_130003 HO_137003 HO149 BK101 BK102 BK122 BK129 BK136 BK142 HB hHeld ⊢
   refine take_ (i := 0) (N := some 54) (v := ?_) (a' := ?_) #[true, false, false, false, false] rfl rfl (by kernel_rfl) (fun _ _ _ h => h) (Or.inl ⟨by rfl, ?_⟩) hHeld ?_ ?_
   rotate_left
   ·
    rintro w' ⟨s0, s1, s2, s3, s4, s5, s6, s7⟩
    go_simp
    with_reducible rfl
   rotate_left
   ·
    simp only [Act.put, List.setIfInBounds_toArray, List.set_cons_zero, List.set_cons_succ, i64_w, i32_w]
    rfl
   refine take_ (i := 1) (N := some 55) (v := ?_) (a' := ?_) #[true, true, false, false, false] rfl rfl (by kernel_rfl) (fun _ _ _ h => h) (Or.inl ⟨by rfl, ?_⟩) hHeld ?_ ?_
   rotate_left
   ·
    rintro w' ⟨s0, s1, s2, s3, s4, s5, s6, s7⟩
    go_simp
    with_reducible rfl
   rotate_left
   ·
    simp only [Act.put, List.setIfInBounds_toArray, List.set_cons_zero, List.set_cons_succ, i64_w, i32_w]
    rfl
   refine one_ (i := 2) (N := some 56) #[true, true, true, false, false] rfl rfl (by kernel_rfl) (by decide) (fun K hK => ?_)
   refine goes_ Try.func17 (by kernel_rfl) rfl #[.agg #[.int .i64 a1_0, .int .i64 a1_1, .int .i64 a1_2, .slice A1_3 l1_3.length c1_3]] (by rfl) rfl rfl (by simp only [List.map_toArray, List.map_cons, List.map_nil]; rfl) ?_
   with_reducible refine (laws_toImage.calls kj24 a1_0 a1_1 a1_2 _ _ l1_3 t151 t152 t153 t154 _ ?side1 ?side2 A103.out).mono ?_
   (case side1 => repeat (first | exact (Kd.C_below HR1_3.out HB.out) | (with_reducible refine Kd.C_alloc ?_ _) | (with_reducible refine Kd.C_drewN ?_ _) | (with_reducible refine Kd.C_drew ?_)))
   (case side2 => exact HC1_3.out)
   rintro e w119 ⟨v155, rfl, ho0, hb⟩
   refine ⟨_, rfl, ?_⟩
   have HO156 := am_ (Kd.R_lower (Kd.R_new' (Kd.R_new' (Kd.R_new' ho0 (Kd.R_lt (by exact HO_130003.out))) (Kd.R_lt (by exact HO_137003.out))) (Kd.R_lt (by exact HO149.out))) (below_size (by repeat (first | (with_reducible first | exact HB.out | apply below_alloc | apply pw_below_drewN | apply below_drew1 | refine below_set ?_ GE101.out | refine below_set ?_ GE102.out | refine below_set ?_ GE122.out | refine below_set ?_ GE129.out | refine below_set ?_ GE136.out | refine below_set ?_ GE142.out) | exact HB.out))))
   replace HO_130003 := am_ (Kd.R_elder' (by exact HO_130003.out) (Kd.R_base ho0) hb)
   replace HO_137003 := am_ (Kd.R_elder' (by exact HO_137003.out) (Kd.R_base ho0) hb)
   replace HO149 := am_ (Kd.R_elder' (by exact HO149.out) (Kd.R_base ho0) hb)
   replace BK101 := am_ (blk_below (by exact BK101.out) hb)
   replace BK102 := am_ (blk_below (by exact BK102.out) hb)
   replace BK122 := am_ (blk_below (by exact BK122.out) hb)
   replace BK129 := am_ (blk_below (by exact BK129.out) hb)
   replace BK136 := am_ (blk_below (by exact BK136.out) hb)
   replace BK142 := am_ (blk_below (by exact BK142.out) hb)
   replace HB := am_ (below_step (by repeat (first | (with_reducible first | exact HB.out | apply below_alloc | apply pw_below_drewN | apply below_drew1 | refine below_set ?_ GE101.out | refine below_set ?_ GE102.out | refine below_set ?_ GE122.out | refine below_set ?_ GE129.out | refine below_set ?_ GE136.out | refine below_set ?_ GE142.out) | exact HB.out)) hb)
   (try clear hb)
   (try clear hb2)
   (try clear hk)
   (try clear hi)
   (try clear ho0)
   obtain ⟨Ao120, co120, eo120⟩ := Kd.R_slice HO156.out
   (first | subst eo120 | (injection eo120 with f1_ f2_ f3_; have f4_ := f1_.symm; have f5_ := f3_.symm; clear f1_ f2_ f3_; subst f4_; subst f5_))
   refine hK.out _ _ ⟨(blk_cell BK136.out 0).trans rfl, (blk_cell BK136.out 1).trans rfl, (blk_cell BK136.out 2).trans rfl, (blk_cell BK136.out 3).trans rfl, (blk_cell BK102.out 0).trans rfl, (blk_cell BK102.out 1).trans rfl, (blk_cell BK102.out 2).trans rfl, (blk_cell BK102.out 3).trans rfl⟩ (fun hHeld => ?_)
   clear hK K
   refine norm_ (a' := ?_) ?_ ?_
   rotate_left
   ·
    show Act.put _ (some 56) _ = _
    simp only [Act.put, List.setIfInBounds_toArray, List.set_cons_zero, List.set_cons_succ, i64_w, i32_w]
    rfl
   refine one_ (i := 3) (N := some 57) #[true, true, true, true, false] rfl rfl (by kernel_rfl) (by decide) (fun K hK => ?_)
   refine goes_ Try.func19 (by kernel_rfl) rfl #[.agg #[.int .i64 t130, .int .i64 t131, .int .i64 t132, .slice Ao63 t133.length co63], .agg #[.int .i64 t151, .int .i64 t152, .int .i64 t153, .slice Ao120 t154.length co120]] (by rfl) rfl rfl (by simp only [List.map_toArray, List.map_cons, List.map_nil]; rfl) ?_
   with_reducible refine (laws_eqImage.calls kj24 t130 t131 t132 _ _ t133 t151 t152 t153 _ _ t154 false _ ?side1 ?side2 ?side3 ?side4 A104.out).mono ?_
   (case side1 => repeat (first | exact (Kd.R_reads' HO_137003.out).2.2 | (with_reducible refine Kd.C_alloc ?_ _) | (with_reducible refine Kd.C_drewN ?_ _) | (with_reducible refine Kd.C_drew ?_)))
   (case side2 => exact (Kd.R_reads' HO_137003.out).2.1)
   (case side3 => repeat (first | exact (Kd.R_reads' HO156.out).2.2 | (with_reducible refine Kd.C_alloc ?_ _) | (with_reducible refine Kd.C_drewN ?_ _) | (with_reducible refine Kd.C_drew ?_)))
   (case side4 => exact (Kd.R_reads' HO156.out).2.1)
   rintro e w121 ⟨rfl, hb⟩
   refine ⟨_, rfl, ?_⟩
   replace HO_130003 := am_ (Kd.R_below (by exact HO_130003.out) hb)
   replace HO_137003 := am_ (Kd.R_below (by exact HO_137003.out) hb)
   replace HO149 := am_ (Kd.R_below (by exact HO149.out) hb)
   replace HO156 := am_ (Kd.R_below (by exact HO156.out) hb)
   replace BK101 := am_ (blk_below (by exact BK101.out) hb)
   replace BK102 := am_ (blk_below (by exact BK102.out) hb)
   replace BK122 := am_ (blk_below (by exact BK122.out) hb)
   replace BK129 := am_ (blk_below (by exact BK129.out) hb)
   replace BK136 := am_ (blk_below (by exact BK136.out) hb)
   replace BK142 := am_ (blk_below (by exact BK142.out) hb)
   replace HB := am_ (below_step (by repeat (first | (with_reducible first | exact HB.out | apply below_alloc | apply pw_below_drewN | apply below_drew1 | refine below_set ?_ GE101.out | refine below_set ?_ GE102.out | refine below_set ?_ GE122.out | refine below_set ?_ GE129.out | refine below_set ?_ GE136.out | refine below_set ?_ GE142.out) | exact HB.out)) hb)
   (try clear hb)
   (try clear hb2)
   (try clear hk)
   (try clear hi)
   refine hK.out _ _ ⟨(blk_cell BK136.out 0).trans rfl, (blk_cell BK136.out 1).trans rfl, (blk_cell BK136.out 2).trans rfl, (blk_cell BK136.out 3).trans rfl, (blk_cell BK102.out 0).trans rfl, (blk_cell BK102.out 1).trans rfl, (blk_cell BK102.out 2).trans rfl, (blk_cell BK102.out 3).trans rfl⟩ (fun hHeld => ?_)
   clear hK K
   refine norm_ (a' := ?_) ?_ ?_
   rotate_left
   ·
    show Act.put _ (some 57) _ = _
    simp only [Act.put, List.setIfInBounds_toArray, List.set_cons_zero, List.set_cons_succ, i64_w, i32_w]
    rfl
   refine pure_ (i := 4) (N := some 58) (v := ?_) (a' := ?_) #[true, true, true, true, true] rfl rfl (by kernel_rfl) (fun _ _ _ h => h) (Or.inl ⟨by rfl, ?_⟩) ?_ ?_
   rotate_left
   ·
    intro w'
    go_simp
    with_reducible rfl
   rotate_left
   ·
    simp only [Act.put, List.setIfInBounds_toArray, List.set_cons_zero, List.set_cons_succ, i64_w, i32_w]
    rfl
   refine done_ (by kernel_rfl) ?_
   try go_wp2
   go_ret
   exact ⟨by first | rfl | (simp [errW_none, errW_some] <;> rfl) | (simp [*, errW_none, errW_some] <;> rfl), by repeat (first | (with_reducible first | exact HB.out | apply below_alloc | apply pw_below_drewN | apply below_drew1 | refine below_set ?_ GE101.out | refine below_set ?_ GE102.out | refine below_set ?_ GE122.out | refine below_set ?_ GE129.out | refine below_set ?_ GE136.out | refine below_set ?_ GE142.out) | exact HB.out)⟩

/-- THE ONE PURE STATEMENT of laws_FnExactFindImage. -/
def laws_FnExactFindImage.Pure : Prop := ∀ (a0_0 : Int) (a0_1 : Int) (a0_2 : Int) (l0_3 : List Int) (a1_0 : Int) (a1_1 : Int) (a1_2 : Int) (l1_3 : List Int), (Lit.int .i64 a0_0).wf = true → (Lit.int .i64 a0_1).wf = true → (Lit.int .i64 a0_2).wf = true → l0_3.length ≤ maxLen → (∀ x ∈ l0_3, (Lit.int .i64 x).wf = true) → (Lit.int .i64 a1_0).wf = true → (Lit.int .i64 a1_1).wf = true → (Lit.int .i64 a1_2).wf = true → l1_3.length ≤ maxLen → (∀ x ∈ l1_3, (Lit.int .i64 x).wf = true) → ∃ k, laws_FnExactFindImage.f k a0_0 a0_1 a0_2 l0_3 a1_0 a1_1 a1_2 l1_3 = some true
theorem laws_FnExactFindImage.walk (P : laws_FnExactFindImage.Pure) (a0_0 : Int) (a0_1 : Int) (a0_2 : Int) (A0_3 : Option Addr) (c0_3 : Nat) (l0_3 : List Int) (a1_0 : Int) (a1_1 : Int) (a1_2 : Int) (A1_3 : Option Addr) (c1_3 : Nat) (l1_3 : List Int) (w : World) (w0_0 : (Lit.int .i64 a0_0).wf = true) (w0_1 : (Lit.int .i64 a0_1).wf = true) (w0_2 : (Lit.int .i64 a0_2).wf = true) (hr0_3 : Kd.C (Kd.int .i64) w A0_3 l0_3.length l0_3) (hc0_3 : l0_3.length ≤ c0_3) (hm0_3 : l0_3.length ≤ maxLen) (hw0_3 : ∀ x ∈ l0_3, (Lit.int .i64 x).wf = true) (w1_0 : (Lit.int .i64 a1_0).wf = true) (w1_1 : (Lit.int .i64 a1_1).wf = true) (w1_2 : (Lit.int .i64 a1_2).wf = true) (hr1_3 : Kd.C (Kd.int .i64) w A1_3 l1_3.length l1_3) (hc1_3 : l1_3.length ≤ c1_3) (hm1_3 : l1_3.length ≤ maxLen) (hw1_3 : ∀ x ∈ l1_3, (Lit.int .i64 x).wf = true) :
  Calls Try.prog 9 #[.agg #[.int .i64 a0_0, .int .i64 a0_1, .int .i64 a0_2, .slice A0_3 l0_3.length c0_3], .agg #[.int .i64 a1_0, .int .i64 a1_1, .int .i64 a1_2, .slice A1_3 l1_3.length c1_3]] w fun e w' => e = .returned (.bool true) ∧ Below w.heap.size w w' := by
 obtain ⟨k, h⟩ := P a0_0 a0_1 a0_2 l0_3 a1_0 a1_1 a1_2 l1_3 w0_0 w0_1 w0_2 hm0_3 hw0_3 w1_0 w1_1 w1_2 hm1_3 hw1_3
 refine (laws_FnExactFindImage.calls k a0_0 a0_1 a0_2 A0_3 c0_3 l0_3 a1_0 a1_1 a1_2 A1_3 c1_3 l1_3 true w hr0_3 hc0_3 hr1_3 hc1_3 h).mono ?_
 rintro e w' ⟨rfl, hd⟩
 exact ⟨rfl, hd⟩

end Go.Proofs.Ytmaiifghplcjeaa.Print
