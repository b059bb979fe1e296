-- laid by hp.py (a program of this work over the kit's print), with contracts by hand for what the print does not take
import Derived.Test.YtbciflelcmmldaaPrint0
import Derived.Test.YtbciflelcmmldaaPrintHimplMaskImage
import Derived.Test.YtbciflelcmmldaaPrintHx0
import Derived.Test.YtbciflelcmmldaaPrintR1x10
import Derived.Test.YtbciflelcmmldaaPrintR1x11
import Derived.Test.YtbciflelcmmldaaPrintR1x6
namespace Go.Proofs.Ytbciflelcmmldaa.Print
open Go.RowKit Go.Proofs.YtbciflelcmmldaaW.PrintWords Go.Proofs.YtbciflelcmmldaaW.PrintLast Go.Proofs.YtbciflelcmmldaaW.PrintMore
attribute [local go_sem] max2_int min2_int max_two min_two max_three min_three max_four min_four   -- for this text's walks alone
set_option linter.unusedVariables false
set_option linter.unusedSimpArgs false

/-! ### laws_FnMaskImage: function 3 -/
def laws_FnMaskImage.j0 : Nat → List (S96) → Bool → Bool → Bool → Int → Int → Int → List Int → Int → Int → Int → List Int → Int → Int → Int → List Int → Int → Int → Int → List Int → Option (Bool)
 | 0, _, _, _, _, _, _, _, _, _, _, _, _, _, _, _, _, _, _, _, _ => none
 | k + 1, x5, x7, x9, x51, x117000, x117001, x117002, x117003, x118000, x118001, x118002, x118003, x126000, x126001, x126002, x126003, x134000, x134001, x134002, x134003 => if x51 = true then ((laws_equalImage.f k x126000 x126001 x126002 x126003 x134000 x134001 x134002 x134003).bind fun t135 => (if t135 = true then (some (x7 == x9)) else (some false))) else ((impl_BoxRegion.f 0 0 16 16).bind fun bt136 => ((impl_MaskImage.f x117000 x117001 x117002 x117003 x118000 x118001 x118002 x118003 bt136.1).bind fun bt140 => ((impl_MaskImage.f x118000 x118001 x118002 x118003 x126000 x126001 x126002 x126003 x5).bind fun bt148 => (if bt136.2 = true then (if bt140.2.2.2.2 = true then ((laws_equalImage.f k bt140.1 bt140.2.1 bt140.2.2.1 bt140.2.2.2.1 x118000 x118001 x118002 x118003).bind fun t156 => (if t156 = true then (if bt148.2.2.2.2 = true then ((laws_equalImage.f k bt148.1 bt148.2.1 bt148.2.2.1 bt148.2.2.2.1 x118000 x118001 x118002 x118003).bind fun t157 => (some t157)) else (some false)) else (some false))) else (some false)) else (some false)))))
def laws_FnMaskImage.f (k : Nat) (l0 : List Int) : Option (Bool) := if (l0.length : Int) > 1048576 then (some true) else ((spec_DrawMaskImage.f k l0).bind fun bt101 => ((impl_MaskImage.f bt101.1 bt101.2.1 bt101.2.2.1 bt101.2.2.2.1 bt101.2.2.2.2.1 bt101.2.2.2.2.2.1 bt101.2.2.2.2.2.2.1 bt101.2.2.2.2.2.2.2.1 bt101.2.2.2.2.2.2.2.2).bind fun bt118 => ((spec_MaskImage.f k bt101.1 bt101.2.1 bt101.2.2.1 bt101.2.2.2.1 bt101.2.2.2.2.1 bt101.2.2.2.2.2.1 bt101.2.2.2.2.2.2.1 bt101.2.2.2.2.2.2.2.1 bt101.2.2.2.2.2.2.2.2).bind fun bt126 => ((laws_equalImage.f k bt118.1 bt118.2.1 bt118.2.2.1 bt118.2.2.2.1 bt126.1 bt126.2.1 bt126.2.2.1 bt126.2.2.2.1).bind fun t134 => (if t134 = true then (if (bt118.2.2.2.2 != bt126.2.2.2.2) = true then (laws_FnMaskImage.j0 k bt101.2.2.2.2.2.2.2.2 bt118.2.2.2.2 bt126.2.2.2.2 true bt101.1 bt101.2.1 bt101.2.2.1 bt101.2.2.2.1 bt101.2.2.2.2.1 bt101.2.2.2.2.2.1 bt101.2.2.2.2.2.2.1 bt101.2.2.2.2.2.2.2.1 bt118.1 bt118.2.1 bt118.2.2.1 bt118.2.2.2.1 bt126.1 bt126.2.1 bt126.2.2.1 bt126.2.2.2.1) else (laws_FnMaskImage.j0 k bt101.2.2.2.2.2.2.2.2 bt118.2.2.2.2 bt126.2.2.2.2 (!bt118.2.2.2.2) bt101.1 bt101.2.1 bt101.2.2.1 bt101.2.2.2.1 bt101.2.2.2.2.1 bt101.2.2.2.2.2.1 bt101.2.2.2.2.2.2.1 bt101.2.2.2.2.2.2.2.1 bt118.1 bt118.2.1 bt118.2.2.1 bt118.2.2.2.1 bt126.1 bt126.2.1 bt126.2.2.1 bt126.2.2.2.1)) else (laws_FnMaskImage.j0 k bt101.2.2.2.2.2.2.2.2 bt118.2.2.2.2 bt126.2.2.2.2 true bt101.1 bt101.2.1 bt101.2.2.1 bt101.2.2.2.1 bt101.2.2.2.2.1 bt101.2.2.2.2.2.1 bt101.2.2.2.2.2.2.1 bt101.2.2.2.2.2.2.2.1 bt118.1 bt118.2.1 bt118.2.2.1 bt118.2.2.2.1 bt126.1 bt126.2.1 bt126.2.2.1 bt126.2.2.2.1))))))
theorem laws_FnMaskImage.mono_l : ∀ k, (∀ y0 y1 y2 y3 y4 y5 y6 y7 y8 y9 y10 y11 y12 y13 y14 y15 y16 y17 y18 y19, LeO (laws_FnMaskImage.j0 k y0 y1 y2 y3 y4 y5 y6 y7 y8 y9 y10 y11 y12 y13 y14 y15 y16 y17 y18 y19) (laws_FnMaskImage.j0 (k + 1) y0 y1 y2 y3 y4 y5 y6 y7 y8 y9 y10 y11 y12 y13 y14 y15 y16 y17 y18 y19))
 | 0 => fun _ _ _ _ _ _ _ _ _ _ _ _ _ _ _ _ _ _ _ _ r h => by simp [laws_FnMaskImage.j0] at h
 | k + 1 => by
  have ih0 := laws_FnMaskImage.mono_l k
  intro y0 y1 y2 y3 y4 y5 y6 y7 y8 y9 y10 y11 y12 y13 y14 y15 y16 y17 y18 y19
  unfold laws_FnMaskImage.j0
  repeat' first
  | (with_reducible exact ih0 _ _ _ _ _ _ _ _ _ _ _ _ _ _ _ _ _ _ _ _)
  | (with_reducible exact laws_equalImage.mono _ _ _ _ _ _ _ _ _)
  | (with_reducible exact spec_DrawMaskImage.mono _ _)
  | (with_reducible exact spec_MaskImage.mono _ _ _ _ _ _ _ _ _ _)
  | (with_reducible exact LeO.refl _)
  | (with_reducible exact LeO.none _)
  | (with_reducible refine LeO.ite ?_ ?_)
  | (with_reducible refine LeO.bind ?_ (fun _ => ?_))
  | exact ih0 _ _ _ _ _ _ _ _ _ _ _ _ _ _ _ _ _ _ _ _
  | exact laws_equalImage.mono _ _ _ _ _ _ _ _ _
  | exact spec_DrawMaskImage.mono _ _
  | exact spec_MaskImage.mono _ _ _ _ _ _ _ _ _ _
  | exact LeO.none _
  | refine LeO.ite ?_ ?_
  | refine LeO.bind ?_ (fun _ => ?_)
theorem laws_FnMaskImage.mono : ∀ a0 k, LeO (laws_FnMaskImage.f k a0) (laws_FnMaskImage.f (k + 1) a0) := by
 intro a0 k
 have ih0 := laws_FnMaskImage.mono_l k
 unfold laws_FnMaskImage.f
 repeat' first
   | (with_reducible exact ih0 _ _ _ _ _ _ _ _ _ _ _ _ _ _ _ _ _ _ _ _)
   | (with_reducible exact laws_equalImage.mono _ _ _ _ _ _ _ _ _)
   | (with_reducible exact spec_DrawMaskImage.mono _ _)
   | (with_reducible exact spec_MaskImage.mono _ _ _ _ _ _ _ _ _ _)
   | (with_reducible exact LeO.refl _)
   | (with_reducible exact LeO.none _)
   | (with_reducible refine LeO.ite ?_ ?_)
   | (with_reducible refine LeO.bind ?_ (fun _ => ?_))
   | exact ih0 _ _ _ _ _ _ _ _ _ _ _ _ _ _ _ _ _ _ _ _
   | exact laws_equalImage.mono _ _ _ _ _ _ _ _ _
   | exact spec_DrawMaskImage.mono _ _
   | exact spec_MaskImage.mono _ _ _ _ _ _ _ _ _ _
   | exact LeO.none _
   | refine LeO.ite ?_ ?_
   | refine LeO.bind ?_ (fun _ => ?_)
set_option maxHeartbeats 8000000 in
set_option maxRecDepth 100000 in
theorem laws_FnMaskImage.calls (k : Nat) (A0 : Option Addr) (c0 : Nat) (l0 : List Int) (r : Bool) (w : World) (hr0 : Kd.C (Kd.int .u8) w A0 l0.length l0) (hc0 : l0.length ≤ c0) (h : laws_FnMaskImage.f k l0 = some r) :
  Calls Try.prog 3 #[.slice A0 l0.length c0] w fun e w' => e = .returned (.bool r) ∧ Below w.heap.size w w' := by
 have hu25 := Try.underlying25
 have hu35 := Try.underlying35
 have HR0 := Aside0.mk hr0
 have HC0 := Aside0.mk hc0
 clear hr0 hc0
 have HB := Aside0.mk (Below.refl w.heap.size w)
 have H : (if (l0.length : Int) > 1048576 then (some true) else ((spec_DrawMaskImage.f k l0).bind fun bt101 => ((impl_MaskImage.f bt101.1 bt101.2.1 bt101.2.2.1 bt101.2.2.2.1 bt101.2.2.2.2.1 bt101.2.2.2.2.2.1 bt101.2.2.2.2.2.2.1 bt101.2.2.2.2.2.2.2.1 bt101.2.2.2.2.2.2.2.2).bind fun bt118 => ((spec_MaskImage.f k bt101.1 bt101.2.1 bt101.2.2.1 bt101.2.2.2.1 bt101.2.2.2.2.1 bt101.2.2.2.2.2.1 bt101.2.2.2.2.2.2.1 bt101.2.2.2.2.2.2.2.1 bt101.2.2.2.2.2.2.2.2).bind fun bt126 => ((laws_equalImage.f k bt118.1 bt118.2.1 bt118.2.2.1 bt118.2.2.2.1 bt126.1 bt126.2.1 bt126.2.2.1 bt126.2.2.2.1).bind fun t134 => (if t134 = true then (if (bt118.2.2.2.2 != bt126.2.2.2.2) = true then (laws_FnMaskImage.j0 k bt101.2.2.2.2.2.2.2.2 bt118.2.2.2.2 bt126.2.2.2.2 true bt101.1 bt101.2.1 bt101.2.2.1 bt101.2.2.2.1 bt101.2.2.2.2.1 bt101.2.2.2.2.2.1 bt101.2.2.2.2.2.2.1 bt101.2.2.2.2.2.2.2.1 bt118.1 bt118.2.1 bt118.2.2.1 bt118.2.2.2.1 bt126.1 bt126.2.1 bt126.2.2.1 bt126.2.2.2.1) else (laws_FnMaskImage.j0 k bt101.2.2.2.2.2.2.2.2 bt118.2.2.2.2 bt126.2.2.2.2 (!bt118.2.2.2.2) bt101.1 bt101.2.1 bt101.2.2.1 bt101.2.2.2.1 bt101.2.2.2.2.1 bt101.2.2.2.2.2.1 bt101.2.2.2.2.2.2.1 bt101.2.2.2.2.2.2.2.1 bt118.1 bt118.2.1 bt118.2.2.1 bt118.2.2.2.1 bt126.1 bt126.2.1 bt126.2.2.1 bt126.2.2.2.1)) else (laws_FnMaskImage.j0 k bt101.2.2.2.2.2.2.2.2 bt118.2.2.2.2 bt126.2.2.2.2 true bt101.1 bt101.2.1 bt101.2.2.1 bt101.2.2.2.1 bt101.2.2.2.2.1 bt101.2.2.2.2.2.1 bt101.2.2.2.2.2.2.1 bt101.2.2.2.2.2.2.2.1 bt118.1 bt118.2.1 bt118.2.2.1 bt118.2.2.2.1 bt126.1 bt126.2.1 bt126.2.2.1 bt126.2.2.2.1))))))) = some r := h
 clear h
 by_cases c2 : (l0.length : Int) > 1048576
 ·
  rw [if_pos c2] at H
  have c2b0 : decide (1048576 < (l0.length : Int)) = true := decide_eq_true c2
  have c2b1 : decide (1048576 < l0.length) = true := decide_eq_true (by omega)
  clear c2
  obtain rfl := Option.some.inj H
  go_enter Try.func3, Try.ntmps3
  go_wp2
  go_ret
  exact ⟨by first | rfl | (simp [errW_none, errW_some] <;> rfl) | (simp [*, errW_none, errW_some] <;> rfl), by repeat (first | (with_reducible first | exact HB.out | apply below_alloc | apply pw_below_drewN | apply below_drew1) | exact HB.out)⟩
 rw [if_neg c2] at H
 have c2b0 : decide (1048576 < (l0.length : Int)) = false := decide_eq_false c2
 have c2b1 : decide (1048576 < l0.length) = false := decide_eq_false (by omega)
 clear c2
 replace H := Option.bind_eq_some_iff.mp H
 obtain ⟨⟨t101, t102, t103, t104, t107, t108, t109, t110, t113⟩, A30, H⟩ := H
 replace H : ((impl_MaskImage.f t101 t102 t103 t104 t107 t108 t109 t110 t113).bind fun bt118 => ((spec_MaskImage.f k t101 t102 t103 t104 t107 t108 t109 t110 t113).bind fun bt126 => ((laws_equalImage.f k bt118.1 bt118.2.1 bt118.2.2.1 bt118.2.2.2.1 bt126.1 bt126.2.1 bt126.2.2.1 bt126.2.2.2.1).bind fun t134 => (if t134 = true then (if (bt118.2.2.2.2 != bt126.2.2.2.2) = true then (laws_FnMaskImage.j0 k t113 bt118.2.2.2.2 bt126.2.2.2.2 true t101 t102 t103 t104 t107 t108 t109 t110 bt118.1 bt118.2.1 bt118.2.2.1 bt118.2.2.2.1 bt126.1 bt126.2.1 bt126.2.2.1 bt126.2.2.2.1) else (laws_FnMaskImage.j0 k t113 bt118.2.2.2.2 bt126.2.2.2.2 (!bt118.2.2.2.2) t101 t102 t103 t104 t107 t108 t109 t110 bt118.1 bt118.2.1 bt118.2.2.1 bt118.2.2.2.1 bt126.1 bt126.2.1 bt126.2.2.1 bt126.2.2.2.1)) else (laws_FnMaskImage.j0 k t113 bt118.2.2.2.2 bt126.2.2.2.2 true t101 t102 t103 t104 t107 t108 t109 t110 bt118.1 bt118.2.1 bt118.2.2.1 bt118.2.2.2.1 bt126.1 bt126.2.1 bt126.2.2.1 bt126.2.2.2.1))))) = some r := H
 have A3 := Aside0.mk A30
 clear A30
 replace H := Option.bind_eq_some_iff.mp H
 obtain ⟨⟨t118, t119, t120, t121, t124⟩, A40, H⟩ := H
 replace H : ((spec_MaskImage.f k t101 t102 t103 t104 t107 t108 t109 t110 t113).bind fun bt126 => ((laws_equalImage.f k t118 t119 t120 t121 bt126.1 bt126.2.1 bt126.2.2.1 bt126.2.2.2.1).bind fun t134 => (if t134 = true then (if (t124 != bt126.2.2.2.2) = true then (laws_FnMaskImage.j0 k t113 t124 bt126.2.2.2.2 true t101 t102 t103 t104 t107 t108 t109 t110 t118 t119 t120 t121 bt126.1 bt126.2.1 bt126.2.2.1 bt126.2.2.2.1) else (laws_FnMaskImage.j0 k t113 t124 bt126.2.2.2.2 (!t124) t101 t102 t103 t104 t107 t108 t109 t110 t118 t119 t120 t121 bt126.1 bt126.2.1 bt126.2.2.1 bt126.2.2.2.1)) else (laws_FnMaskImage.j0 k t113 t124 bt126.2.2.2.2 true t101 t102 t103 t104 t107 t108 t109 t110 t118 t119 t120 t121 bt126.1 bt126.2.1 bt126.2.2.1 bt126.2.2.2.1)))) = some r := H
 have A4 := Aside0.mk A40
 clear A40
 replace H := Option.bind_eq_some_iff.mp H
 obtain ⟨⟨t126, t127, t128, t129, t132⟩, A50, H⟩ := H
 replace H : ((laws_equalImage.f k t118 t119 t120 t121 t126 t127 t128 t129).bind fun t134 => (if t134 = true then (if (t124 != t132) = true then (laws_FnMaskImage.j0 k t113 t124 t132 true t101 t102 t103 t104 t107 t108 t109 t110 t118 t119 t120 t121 t126 t127 t128 t129) else (laws_FnMaskImage.j0 k t113 t124 t132 (!t124) t101 t102 t103 t104 t107 t108 t109 t110 t118 t119 t120 t121 t126 t127 t128 t129)) else (laws_FnMaskImage.j0 k t113 t124 t132 true t101 t102 t103 t104 t107 t108 t109 t110 t118 t119 t120 t121 t126 t127 t128 t129))) = some r := H
 have A5 := Aside0.mk A50
 clear A50
 have HC6 := Aside0.mk H
 clear H
 go_enter Try.func3, Try.ntmps3
 go_upto_region 6 with (first | ((with_reducible refine gate_callee (f := 12) rfl ?_); refine goesL_ (some 21) rfl rfl Try.func12 (by kernel_rfl) rfl #[.slice A0 l0.length c0] rfl (by simp only [List.map_toArray, List.map_cons, List.map_nil]; rfl) ?_; (with_reducible refine (spec_DrawMaskImage.calls k _ _ l0 t101 t102 t103 t104 t107 t108 t109 t110 t113 _ ?side1 ?side2 A3.out).mono ?_); (case side1 => repeat (first | exact HR0.out | (with_reducible refine Kd.C_alloc ?_ _) | (with_reducible refine Kd.C_drewN ?_ _) | (with_reducible refine Kd.C_drew ?_))); (case side2 => exact HC0.out); rintro e w7 ⟨v105, v111, v114, rfl, ho0, ho1, ho2, hb⟩; refine ⟨_, rfl, ?_⟩; have HO106 := am_ (Kd.Q_lower ho0 (below_size (by repeat (first | (with_reducible first | exact HB.out | apply below_alloc | apply pw_below_drewN | apply below_drew1) | exact HB.out)))); have HO112 := am_ (Kd.Q_lower ho1 (below_size (by repeat (first | (with_reducible first | exact HB.out | apply below_alloc | apply pw_below_drewN | apply below_drew1) | exact HB.out)))); have HO115 := am_ (Kd.R_lower ho2 (below_size (by repeat (first | (with_reducible first | exact HB.out | apply below_alloc | apply pw_below_drewN | apply below_drew1) | exact HB.out)))); replace HB := am_ (below_step (by repeat (first | (with_reducible first | exact HB.out | apply below_alloc | apply pw_below_drewN | apply below_drew1) | exact HB.out)) hb); (try clear hb); (try clear hb2); (try clear hk); (try clear hi); (try clear ho0); (try clear ho1); (try clear ho2)) | ((with_reducible refine gate_dst (N := 3) rfl ?_); refine box_event ?hg (N := 3) ?hd (cs := #[.int .i64 0, .int .i64 0, .int .i64 0, .slice none 0 0]) (t := 25) ?hr ?_; (case hd => rfl); (case hg => rfl); (case hr => first | (go_simp; done) | (go_simp; rfl)); intro gb116 hg w8 hbox hb; replace HO106 := am_ (Kd.Q_below (by exact HO106.out) hb); replace HO112 := am_ (Kd.Q_below (by exact HO112.out) hb); replace HO115 := am_ (Kd.R_below (by exact HO115.out) hb); have BK116 := am_ (hbox); have GW116 := am_ ((by rw [hg]; exact (below_size (by repeat (first | (with_reducible first | exact HB.out | apply below_alloc | apply pw_below_drewN | apply below_drew1) | exact HB.out))) : w.heap.size ≤ gb116)); have GE116 := GW116; replace HB := am_ (below_step (by repeat (first | (with_reducible first | exact HB.out | apply below_alloc | apply pw_below_drewN | apply below_drew1) | exact HB.out)) hb); clear hb hbox hg) | ((with_reducible refine gate_dst (N := 4) rfl ?_); refine box_event ?hg (N := 4) ?hd (cs := #[.int .i64 0, .int .i64 0, .int .i64 0, .slice none 0 0]) (t := 25) ?hr ?_; (case hd => rfl); (case hg => rfl); (case hr => first | (go_simp; done) | (go_simp; rfl)); intro gb117 hg w9 hbox hb; replace HO106 := am_ (Kd.Q_below (by exact HO106.out) hb); replace HO112 := am_ (Kd.Q_below (by exact HO112.out) hb); replace HO115 := am_ (Kd.R_below (by exact HO115.out) hb); have BK117 := am_ (hbox); have GW117 := am_ ((by rw [hg]; exact (below_size (by repeat (first | (with_reducible first | exact HB.out | apply below_alloc | apply pw_below_drewN | apply below_drew1 | refine below_set ?_ GE116.out) | exact HB.out))) : w.heap.size ≤ gb117)); have GE117 := GW117; replace HB := am_ (below_step (by repeat (first | (with_reducible first | exact HB.out | apply below_alloc | apply pw_below_drewN | apply below_drew1 | refine below_set ?_ GE116.out) | exact HB.out)) hb); have NB116_117 := am_ ((by rw [hg]; exact Nat.ne_of_lt (blk_lt (by exact BK116.out)) : gb116 ≠ gb117)); have NB117_116 := am_ ((by rw [hg]; exact Nat.ne_of_gt (blk_lt (by exact BK116.out)) : gb117 ≠ gb116)); replace BK116 := am_ (blk_below (by exact BK116.out) hb); clear hb hbox hg; have hnb10 := NB116_117.out; have hnc10 := NB117_116.out; obtain ⟨hcz11_0, hcz11_1, hcz11_2, hcz11_3, hfz11_0, hfz11_1, hfz11_2, hfz11_3⟩ := blk4_ BK116.out; obtain ⟨Ao12, co12, eo12, _⟩ := Kd.Q_slice HO106.out; subst eo12; obtain ⟨hcz13_0, hcz13_1, hcz13_2, hcz13_3, hfz13_0, hfz13_1, hfz13_2, hfz13_3⟩ := blk4_ BK117.out; obtain ⟨Ao14, co14, eo14, _⟩ := Kd.Q_slice HO112.out; subst eo14; obtain ⟨Ao15, co15, eo15⟩ := Kd.R_slice HO115.out; subst eo15) | ((with_reducible refine gate_callee (f := 13) rfl ?_); refine goesL_ (some 29) rfl rfl Try.func13 (by kernel_rfl) rfl #[.agg #[.int .i64 t101, .int .i64 t102, .int .i64 t103, .slice Ao12 t104.length co12], .agg #[.int .i64 t107, .int .i64 t108, .int .i64 t109, .slice Ao14 t110.length co14], .slice Ao15 t113.length co15] rfl (by simp only [List.map_toArray, List.map_cons, List.map_nil]; rfl) ?_; (with_reducible refine (impl_MaskImage.calls t101 t102 t103 _ _ t104 t107 t108 t109 _ _ t110 _ _ t113 t118 t119 t120 t121 t124 _ ?side1 ?side2 ?side3 ?side4 ?side5 ?side6 A4.out).mono ?_); (case side1 => refine (Kd.Q_reads' (e := 3) (base := w.heap.size) (ok := fun k_ => some k_ ≠ (.slice Ao14 t110.length co14 : Value).ownBlock) (n := t104.length) (c := co12) ?_).2.2; exact (by exact (Kd.Q_mono (Kd.Q_mono (Kd.Q_far (p := ⟨gb117, 3, none⟩) (Kd.Q_far (p := ⟨gb117, 2, none⟩) (Kd.Q_far (p := ⟨gb117, 1, none⟩) (Kd.Q_far (p := ⟨gb117, 0, none⟩) (Kd.Q_far (p := ⟨gb116, 3, none⟩) (Kd.Q_far (p := ⟨gb116, 2, none⟩) (Kd.Q_far (p := ⟨gb116, 1, none⟩) (Kd.Q_far (p := ⟨gb116, 0, none⟩) (Kd.Q_types (Kd.Q_types HO106.out BK116.out (by decide)) BK117.out (by decide)) (fun _ hk => hk.1.2) (.int .i64 t101)) (fun _ hk => hk.1.2) (.int .i64 t102)) (fun _ hk => hk.1.2) (.int .i64 t103)) (fun _ hk => hk.1.2) (.slice Ao12 t104.length co12)) (fun _ hk => hk.2) (.int .i64 t107)) (fun _ hk => hk.2) (.int .i64 t108)) (fun _ hk => hk.2) (.int .i64 t109)) (fun _ hk => hk.2) (.slice Ao14 t110.length co14)) (fun _ h_ => h_.1)) (fun _ h_ => h_.1)))); (case side2 => exact (Kd.Q_reads' HO106.out).2.1); (case side3 => refine (Kd.Q_reads' (e := 3) (base := w.heap.size) (ok := fun k_ => some k_ ≠ (.slice Ao12 t104.length co12 : Value).ownBlock) (n := t110.length) (c := co14) ?_).2.2; exact (by exact (Kd.Q_mono (Kd.Q_mono (Kd.Q_far (p := ⟨gb117, 3, none⟩) (Kd.Q_far (p := ⟨gb117, 2, none⟩) (Kd.Q_far (p := ⟨gb117, 1, none⟩) (Kd.Q_far (p := ⟨gb117, 0, none⟩) (Kd.Q_far (p := ⟨gb116, 3, none⟩) (Kd.Q_far (p := ⟨gb116, 2, none⟩) (Kd.Q_far (p := ⟨gb116, 1, none⟩) (Kd.Q_far (p := ⟨gb116, 0, none⟩) (Kd.Q_types (Kd.Q_types HO112.out BK116.out (by decide)) BK117.out (by decide)) (fun _ hk => hk.1.2) (.int .i64 t101)) (fun _ hk => hk.1.2) (.int .i64 t102)) (fun _ hk => hk.1.2) (.int .i64 t103)) (fun _ hk => hk.1.2) (.slice Ao12 t104.length co12)) (fun _ hk => hk.2) (.int .i64 t107)) (fun _ hk => hk.2) (.int .i64 t108)) (fun _ hk => hk.2) (.int .i64 t109)) (fun _ hk => hk.2) (.slice Ao14 t110.length co14)) (fun _ h_ => h_.1)) (fun _ h_ => h_.1)))); (case side4 => exact (Kd.Q_reads' HO112.out).2.1); (case side5 => refine (Kd.R_reads' (e := 96) (base := w.heap.size) (ok := fun k_ => True) (n := t113.length) (c := co15) ?_).2.2; exact (by exact (Kd.R_mono (Kd.R_mono (Kd.R_far (p := ⟨gb117, 3, none⟩) (Kd.R_far (p := ⟨gb117, 2, none⟩) (Kd.R_far (p := ⟨gb117, 1, none⟩) (Kd.R_far (p := ⟨gb117, 0, none⟩) (Kd.R_far (p := ⟨gb116, 3, none⟩) (Kd.R_far (p := ⟨gb116, 2, none⟩) (Kd.R_far (p := ⟨gb116, 1, none⟩) (Kd.R_far (p := ⟨gb116, 0, none⟩) (Kd.R_types (Kd.R_types HO115.out BK116.out (by decide)) BK117.out (by decide)) (fun _ hk => hk.1.2) (.int .i64 t101)) (fun _ hk => hk.1.2) (.int .i64 t102)) (fun _ hk => hk.1.2) (.int .i64 t103)) (fun _ hk => hk.1.2) (.slice Ao12 t104.length co12)) (fun _ hk => hk.2) (.int .i64 t107)) (fun _ hk => hk.2) (.int .i64 t108)) (fun _ hk => hk.2) (.int .i64 t109)) (fun _ hk => hk.2) (.slice Ao14 t110.length co14)) (fun _ h_ => h_.1)) (fun _ h_ => h_.1)))); (case side6 => exact (Kd.R_reads' HO115.out).2.1); rintro e w16 ⟨v122, rfl, ho0, hb⟩; refine ⟨_, rfl, ?_⟩; replace HO115 := am_ (Kd.R_below (by exact (Kd.R_mono (Kd.R_mono (Kd.R_far (p := ⟨gb117, 3, none⟩) (Kd.R_far (p := ⟨gb117, 2, none⟩) (Kd.R_far (p := ⟨gb117, 1, none⟩) (Kd.R_far (p := ⟨gb117, 0, none⟩) (Kd.R_far (p := ⟨gb116, 3, none⟩) (Kd.R_far (p := ⟨gb116, 2, none⟩) (Kd.R_far (p := ⟨gb116, 1, none⟩) (Kd.R_far (p := ⟨gb116, 0, none⟩) (Kd.R_types (Kd.R_types HO115.out BK116.out (by decide)) BK117.out (by decide)) (fun _ hk => hk.1.2) (.int .i64 t101)) (fun _ hk => hk.1.2) (.int .i64 t102)) (fun _ hk => hk.1.2) (.int .i64 t103)) (fun _ hk => hk.1.2) (.slice Ao12 t104.length co12)) (fun _ hk => hk.2) (.int .i64 t107)) (fun _ hk => hk.2) (.int .i64 t108)) (fun _ hk => hk.2) (.int .i64 t109)) (fun _ hk => hk.2) (.slice Ao14 t110.length co14)) (fun _ h_ => h_.1)) (fun _ h_ => h_.1))) hb); have HO123 := am_ (Kd.R_lower (Kd.R_new' (Kd.R_new' ho0 (Kd.Q_lt (by exact (Kd.Q_mono (Kd.Q_mono (Kd.Q_far (p := ⟨gb117, 3, none⟩) (Kd.Q_far (p := ⟨gb117, 2, none⟩) (Kd.Q_far (p := ⟨gb117, 1, none⟩) (Kd.Q_far (p := ⟨gb117, 0, none⟩) (Kd.Q_far (p := ⟨gb116, 3, none⟩) (Kd.Q_far (p := ⟨gb116, 2, none⟩) (Kd.Q_far (p := ⟨gb116, 1, none⟩) (Kd.Q_far (p := ⟨gb116, 0, none⟩) (Kd.Q_types (Kd.Q_types HO106.out BK116.out (by decide)) BK117.out (by decide)) (fun _ hk => hk.1.2) (.int .i64 t101)) (fun _ hk => hk.1.2) (.int .i64 t102)) (fun _ hk => hk.1.2) (.int .i64 t103)) (fun _ hk => hk.1.2) (.slice Ao12 t104.length co12)) (fun _ hk => hk.2) (.int .i64 t107)) (fun _ hk => hk.2) (.int .i64 t108)) (fun _ hk => hk.2) (.int .i64 t109)) (fun _ hk => hk.2) (.slice Ao14 t110.length co14)) (fun _ h_ => h_.1)) (fun _ h_ => h_.1))))) (Kd.Q_lt (by exact (Kd.Q_mono (Kd.Q_mono (Kd.Q_far (p := ⟨gb117, 3, none⟩) (Kd.Q_far (p := ⟨gb117, 2, none⟩) (Kd.Q_far (p := ⟨gb117, 1, none⟩) (Kd.Q_far (p := ⟨gb117, 0, none⟩) (Kd.Q_far (p := ⟨gb116, 3, none⟩) (Kd.Q_far (p := ⟨gb116, 2, none⟩) (Kd.Q_far (p := ⟨gb116, 1, none⟩) (Kd.Q_far (p := ⟨gb116, 0, none⟩) (Kd.Q_types (Kd.Q_types HO112.out BK116.out (by decide)) BK117.out (by decide)) (fun _ hk => hk.1.2) (.int .i64 t101)) (fun _ hk => hk.1.2) (.int .i64 t102)) (fun _ hk => hk.1.2) (.int .i64 t103)) (fun _ hk => hk.1.2) (.slice Ao12 t104.length co12)) (fun _ hk => hk.2) (.int .i64 t107)) (fun _ hk => hk.2) (.int .i64 t108)) (fun _ hk => hk.2) (.int .i64 t109)) (fun _ hk => hk.2) (.slice Ao14 t110.length co14)) (fun _ h_ => h_.1)) (fun _ h_ => h_.1))))) (below_size (by repeat (first | (with_reducible first | exact HB.out | apply below_alloc | apply pw_below_drewN | apply below_drew1 | refine below_set ?_ GE116.out | refine below_set ?_ GE117.out) | exact HB.out)))); replace HO106 := am_ (Kd.Q_elder' (by exact (Kd.Q_mono (Kd.Q_mono (Kd.Q_far (p := ⟨gb117, 3, none⟩) (Kd.Q_far (p := ⟨gb117, 2, none⟩) (Kd.Q_far (p := ⟨gb117, 1, none⟩) (Kd.Q_far (p := ⟨gb117, 0, none⟩) (Kd.Q_far (p := ⟨gb116, 3, none⟩) (Kd.Q_far (p := ⟨gb116, 2, none⟩) (Kd.Q_far (p := ⟨gb116, 1, none⟩) (Kd.Q_far (p := ⟨gb116, 0, none⟩) (Kd.Q_types (Kd.Q_types HO106.out BK116.out (by decide)) BK117.out (by decide)) (fun _ hk => hk.1.2) (.int .i64 t101)) (fun _ hk => hk.1.2) (.int .i64 t102)) (fun _ hk => hk.1.2) (.int .i64 t103)) (fun _ hk => hk.1.2) (.slice Ao12 t104.length co12)) (fun _ hk => hk.2) (.int .i64 t107)) (fun _ hk => hk.2) (.int .i64 t108)) (fun _ hk => hk.2) (.int .i64 t109)) (fun _ hk => hk.2) (.slice Ao14 t110.length co14)) (fun _ h_ => h_.1)) (fun _ h_ => h_.1))) (Kd.R_base ho0) hb); replace HO112 := am_ (Kd.Q_elder' (by exact (Kd.Q_mono (Kd.Q_mono (Kd.Q_far (p := ⟨gb117, 3, none⟩) (Kd.Q_far (p := ⟨gb117, 2, none⟩) (Kd.Q_far (p := ⟨gb117, 1, none⟩) (Kd.Q_far (p := ⟨gb117, 0, none⟩) (Kd.Q_far (p := ⟨gb116, 3, none⟩) (Kd.Q_far (p := ⟨gb116, 2, none⟩) (Kd.Q_far (p := ⟨gb116, 1, none⟩) (Kd.Q_far (p := ⟨gb116, 0, none⟩) (Kd.Q_types (Kd.Q_types HO112.out BK116.out (by decide)) BK117.out (by decide)) (fun _ hk => hk.1.2) (.int .i64 t101)) (fun _ hk => hk.1.2) (.int .i64 t102)) (fun _ hk => hk.1.2) (.int .i64 t103)) (fun _ hk => hk.1.2) (.slice Ao12 t104.length co12)) (fun _ hk => hk.2) (.int .i64 t107)) (fun _ hk => hk.2) (.int .i64 t108)) (fun _ hk => hk.2) (.int .i64 t109)) (fun _ hk => hk.2) (.slice Ao14 t110.length co14)) (fun _ h_ => h_.1)) (fun _ h_ => h_.1))) (Kd.R_base ho0) hb); replace BK116 := am_ (blk_below (g := gb116) (o := .cells #[.int .i64 t101, .int .i64 t102, .int .i64 t103, .slice Ao12 t104.length co12] 25 (0, 0)) (by (with_reducible repeat (first | refine blk_drewN ?_ _ | refine blk_drew ?_ | refine blk_alloc ?_ _)); refine blk_far ?_ NB116_117.out _; (with_reducible repeat (first | refine blk_drewN ?_ _ | refine blk_drew ?_ | refine blk_alloc ?_ _)); refine blk_far ?_ NB116_117.out _; (with_reducible repeat (first | refine blk_drewN ?_ _ | refine blk_drew ?_ | refine blk_alloc ?_ _)); refine blk_far ?_ NB116_117.out _; (with_reducible repeat (first | refine blk_drewN ?_ _ | refine blk_drew ?_ | refine blk_alloc ?_ _)); refine blk_far ?_ NB116_117.out _; (with_reducible repeat (first | refine blk_drewN ?_ _ | refine blk_drew ?_ | refine blk_alloc ?_ _)); refine blk_put (cs := #[.int .i64 t101, .int .i64 t102, .int .i64 t103, .slice none 0 0]) ?_ 3 _ rfl; (with_reducible repeat (first | refine blk_drewN ?_ _ | refine blk_drew ?_ | refine blk_alloc ?_ _)); refine blk_put (cs := #[.int .i64 t101, .int .i64 t102, .int .i64 0, .slice none 0 0]) ?_ 2 _ rfl; (with_reducible repeat (first | refine blk_drewN ?_ _ | refine blk_drew ?_ | refine blk_alloc ?_ _)); refine blk_put (cs := #[.int .i64 t101, .int .i64 0, .int .i64 0, .slice none 0 0]) ?_ 1 _ rfl; (with_reducible repeat (first | refine blk_drewN ?_ _ | refine blk_drew ?_ | refine blk_alloc ?_ _)); refine blk_put (cs := #[.int .i64 0, .int .i64 0, .int .i64 0, .slice none 0 0]) ?_ 0 _ rfl; (with_reducible repeat (first | refine blk_drewN ?_ _ | refine blk_drew ?_ | refine blk_alloc ?_ _)); exact BK116.out) hb); replace BK117 := am_ (blk_below (g := gb117) (o := .cells #[.int .i64 t107, .int .i64 t108, .int .i64 t109, .slice Ao14 t110.length co14] 25 (0, 0)) (by (with_reducible repeat (first | refine blk_drewN ?_ _ | refine blk_drew ?_ | refine blk_alloc ?_ _)); refine blk_put (cs := #[.int .i64 t107, .int .i64 t108, .int .i64 t109, .slice none 0 0]) ?_ 3 _ rfl; (with_reducible repeat (first | refine blk_drewN ?_ _ | refine blk_drew ?_ | refine blk_alloc ?_ _)); refine blk_put (cs := #[.int .i64 t107, .int .i64 t108, .int .i64 0, .slice none 0 0]) ?_ 2 _ rfl; (with_reducible repeat (first | refine blk_drewN ?_ _ | refine blk_drew ?_ | refine blk_alloc ?_ _)); refine blk_put (cs := #[.int .i64 t107, .int .i64 0, .int .i64 0, .slice none 0 0]) ?_ 1 _ rfl; (with_reducible repeat (first | refine blk_drewN ?_ _ | refine blk_drew ?_ | refine blk_alloc ?_ _)); refine blk_put (cs := #[.int .i64 0, .int .i64 0, .int .i64 0, .slice none 0 0]) ?_ 0 _ rfl; (with_reducible repeat (first | refine blk_drewN ?_ _ | refine blk_drew ?_ | refine blk_alloc ?_ _)); refine blk_far ?_ NB117_116.out _; (with_reducible repeat (first | refine blk_drewN ?_ _ | refine blk_drew ?_ | refine blk_alloc ?_ _)); refine blk_far ?_ NB117_116.out _; (with_reducible repeat (first | refine blk_drewN ?_ _ | refine blk_drew ?_ | refine blk_alloc ?_ _)); refine blk_far ?_ NB117_116.out _; (with_reducible repeat (first | refine blk_drewN ?_ _ | refine blk_drew ?_ | refine blk_alloc ?_ _)); refine blk_far ?_ NB117_116.out _; (with_reducible repeat (first | refine blk_drewN ?_ _ | refine blk_drew ?_ | refine blk_alloc ?_ _)); exact BK117.out) hb); replace HB := am_ (below_step (by repeat (first | (with_reducible first | exact HB.out | apply below_alloc | apply pw_below_drewN | apply below_drew1 | refine below_set ?_ GE116.out | refine below_set ?_ GE117.out) | exact HB.out)) hb); (try clear hb); (try clear hb2); (try clear hk); (try clear hi); (try clear ho0)) | ((with_reducible refine gate_dst (N := 6) rfl ?_); refine box_event ?hg (N := 6) ?hd (cs := #[.int .i64 0, .int .i64 0, .int .i64 0, .slice none 0 0]) (t := 25) ?hr ?_; (case hd => rfl); (case hg => rfl); (case hr => first | (go_simp; done) | (go_simp; rfl)); intro gb125 hg w17 hbox hb; replace HO106 := am_ (Kd.Q_below (by exact HO106.out) hb); replace HO112 := am_ (Kd.Q_below (by exact HO112.out) hb); replace HO115 := am_ (Kd.R_below (by exact HO115.out) hb); replace HO123 := am_ (Kd.R_below (by exact HO123.out) hb); have BK125 := am_ (hbox); have GW125 := am_ ((by rw [hg]; exact (below_size (by repeat (first | (with_reducible first | exact HB.out | apply below_alloc | apply pw_below_drewN | apply below_drew1 | refine below_set ?_ GE116.out | refine below_set ?_ GE117.out) | exact HB.out))) : w.heap.size ≤ gb125)); have GE125 := GW125; replace HB := am_ (below_step (by repeat (first | (with_reducible first | exact HB.out | apply below_alloc | apply pw_below_drewN | apply below_drew1 | refine below_set ?_ GE116.out | refine below_set ?_ GE117.out) | exact HB.out)) hb); have NB116_125 := am_ ((by rw [hg]; exact Nat.ne_of_lt (blk_lt (by exact BK116.out)) : gb116 ≠ gb125)); have NB125_116 := am_ ((by rw [hg]; exact Nat.ne_of_gt (blk_lt (by exact BK116.out)) : gb125 ≠ gb116)); replace BK116 := am_ (blk_below (by exact BK116.out) hb); have NB117_125 := am_ ((by rw [hg]; exact Nat.ne_of_lt (blk_lt (by exact BK117.out)) : gb117 ≠ gb125)); have NB125_117 := am_ ((by rw [hg]; exact Nat.ne_of_gt (blk_lt (by exact BK117.out)) : gb125 ≠ gb117)); replace BK117 := am_ (blk_below (by exact BK117.out) hb); clear hb hbox hg; have hnb18 := NB125_116.out; have hnc18 := NB116_125.out; have hnb19 := NB125_117.out; have hnc19 := NB117_125.out; obtain ⟨hcz20_0, hcz20_1, hcz20_2, hcz20_3, hfz20_0, hfz20_1, hfz20_2, hfz20_3⟩ := blk4_ BK125.out; obtain ⟨Ao21, co21, eo21⟩ := Kd.R_slice HO123.out; subst eo21; obtain ⟨hcz22_0, hcz22_1, hcz22_2, hcz22_3, hfz22_0, hfz22_1, hfz22_2, hfz22_3⟩ := blk4_ BK116.out; obtain ⟨hcz23_0, hcz23_1, hcz23_2, hcz23_3, hfz23_0, hfz23_1, hfz23_2, hfz23_3⟩ := blk4_ BK117.out) | ((with_reducible refine gate_callee (f := 14) rfl ?_); refine goesL_ (some 36) rfl rfl Try.func14 (by kernel_rfl) rfl #[.agg #[.int .i64 t101, .int .i64 t102, .int .i64 t103, .slice Ao12 t104.length co12], .agg #[.int .i64 t107, .int .i64 t108, .int .i64 t109, .slice Ao14 t110.length co14], .slice Ao15 t113.length co15] rfl (by simp only [List.map_toArray, List.map_cons, List.map_nil]; rfl) ?_; (with_reducible refine (spec_MaskImage.calls k t101 t102 t103 _ _ t104 t107 t108 t109 _ _ t110 _ _ t113 t126 t127 t128 t129 t132 _ ?side1 ?side2 ?side3 ?side4 ?side5 ?side6 A5.out).mono ?_); (case side1 => refine (Kd.Q_reads' (e := 3) (base := w.heap.size) (ok := fun k_ => (some k_ ≠ (.slice Ao14 t110.length co14 : Value).ownBlock ∧ some k_ ≠ (.slice Ao21 t121.length co21 : Value).ownBlock)) (n := t104.length) (c := co12) ?_).2.2; exact (by exact (Q4_ HO106.out BK125.out (by decide) _ _ _ _))); (case side2 => exact (Kd.Q_reads' HO106.out).2.1); (case side3 => refine (Kd.Q_reads' (e := 3) (base := w.heap.size) (ok := fun k_ => (some k_ ≠ (.slice Ao12 t104.length co12 : Value).ownBlock ∧ some k_ ≠ (.slice Ao21 t121.length co21 : Value).ownBlock)) (n := t110.length) (c := co14) ?_).2.2; exact (by exact (Q4_ HO112.out BK125.out (by decide) _ _ _ _))); (case side4 => exact (Kd.Q_reads' HO112.out).2.1); (case side5 => refine (Kd.R_reads' (e := 96) (base := w.heap.size) (ok := fun k_ => True) (n := t113.length) (c := co15) ?_).2.2; exact (by exact (R4_ HO115.out BK125.out (by decide) _ _ _ _))); (case side6 => exact (Kd.R_reads' HO115.out).2.1); rintro e w24 ⟨v130, rfl, ho0, hb⟩; refine ⟨_, rfl, ?_⟩; replace HO115 := am_ (Kd.R_below (by exact (R4_ HO115.out BK125.out (by decide) _ _ _ _)) hb); have HO131 := am_ (Kd.R_lower (Kd.R_new' (Kd.R_new' (Kd.R_new' ho0 (Kd.Q_lt (by exact (Q4_ HO106.out BK125.out (by decide) _ _ _ _)))) (Kd.Q_lt (by exact (Q4_ HO112.out BK125.out (by decide) _ _ _ _)))) (Kd.R_lt (by exact (R4_ HO123.out BK125.out (by decide) _ _ _ _)))) (below_size (by repeat (first | (with_reducible first | exact HB.out | apply below_alloc | apply pw_below_drewN | apply below_drew1 | refine below_set ?_ GE116.out | refine below_set ?_ GE117.out | refine below_set ?_ GE125.out) | exact HB.out)))); replace HO106 := am_ (Kd.Q_elder' (by exact (Q4_ HO106.out BK125.out (by decide) _ _ _ _)) (Kd.R_base ho0) hb); replace HO112 := am_ (Kd.Q_elder' (by exact (Q4_ HO112.out BK125.out (by decide) _ _ _ _)) (Kd.R_base ho0) hb); replace HO123 := am_ (Kd.R_elder' (by exact (R4_ HO123.out BK125.out (by decide) _ _ _ _)) (Kd.R_base ho0) hb); replace BK116 := am_ (blk_below (by exact far4_ BK116.out NB116_125.out _ _ _ _) hb); replace BK117 := am_ (blk_below (by exact far4_ BK117.out NB117_125.out _ _ _ _) hb); replace BK125 := am_ (blk_below (by exact put4_ BK125.out _ _ _ _) hb); replace HB := am_ (below_step (by repeat (first | (with_reducible first | exact HB.out | apply below_alloc | apply pw_below_drewN | apply below_drew1 | refine below_set ?_ GE116.out | refine below_set ?_ GE117.out | refine below_set ?_ GE125.out) | exact HB.out)) hb); (try clear hb); (try clear hb2); (try clear hk); (try clear hi); (try clear ho0)) | ((with_reducible refine gate_dst (N := 8) rfl ?_); refine box_event ?hg (N := 8) ?hd (cs := #[.int .i64 0, .int .i64 0, .int .i64 0, .slice none 0 0]) (t := 25) ?hr ?_; (case hd => rfl); (case hg => rfl); (case hr => first | (go_simp; done) | (go_simp; rfl)); intro gb133 hg w25 hbox hb; replace HO106 := am_ (Kd.Q_below (by exact HO106.out) hb); replace HO112 := am_ (Kd.Q_below (by exact HO112.out) hb); replace HO115 := am_ (Kd.R_below (by exact HO115.out) hb); replace HO123 := am_ (Kd.R_below (by exact HO123.out) hb); replace HO131 := am_ (Kd.R_below (by exact HO131.out) hb); have BK133 := am_ (hbox); have GW133 := am_ ((by rw [hg]; exact (below_size (by repeat (first | (with_reducible first | exact HB.out | apply below_alloc | apply pw_below_drewN | apply below_drew1 | refine below_set ?_ GE116.out | refine below_set ?_ GE117.out | refine below_set ?_ GE125.out) | exact HB.out))) : w.heap.size ≤ gb133)); have GE133 := GW133; replace HB := am_ (below_step (by repeat (first | (with_reducible first | exact HB.out | apply below_alloc | apply pw_below_drewN | apply below_drew1 | refine below_set ?_ GE116.out | refine below_set ?_ GE117.out | refine below_set ?_ GE125.out) | exact HB.out)) hb); have NB116_133 := am_ ((by rw [hg]; exact Nat.ne_of_lt (blk_lt (by exact BK116.out)) : gb116 ≠ gb133)); have NB133_116 := am_ ((by rw [hg]; exact Nat.ne_of_gt (blk_lt (by exact BK116.out)) : gb133 ≠ gb116)); replace BK116 := am_ (blk_below (by exact BK116.out) hb); have NB117_133 := am_ ((by rw [hg]; exact Nat.ne_of_lt (blk_lt (by exact BK117.out)) : gb117 ≠ gb133)); have NB133_117 := am_ ((by rw [hg]; exact Nat.ne_of_gt (blk_lt (by exact BK117.out)) : gb133 ≠ gb117)); replace BK117 := am_ (blk_below (by exact BK117.out) hb); have NB125_133 := am_ ((by rw [hg]; exact Nat.ne_of_lt (blk_lt (by exact BK125.out)) : gb125 ≠ gb133)); have NB133_125 := am_ ((by rw [hg]; exact Nat.ne_of_gt (blk_lt (by exact BK125.out)) : gb133 ≠ gb125)); replace BK125 := am_ (blk_below (by exact BK125.out) hb); clear hb hbox hg; have hnb26 := NB133_116.out; have hnc26 := NB116_133.out; have hnb27 := NB133_117.out; have hnc27 := NB117_133.out; have hnb28 := NB133_125.out; have hnc28 := NB125_133.out; obtain ⟨hcz29_0, hcz29_1, hcz29_2, hcz29_3, hfz29_0, hfz29_1, hfz29_2, hfz29_3⟩ := blk4_ BK133.out; obtain ⟨Ao30, co30, eo30⟩ := Kd.R_slice HO131.out; subst eo30))
 (try simp only [Act.put, List.setIfInBounds_toArray, List.set_cons_zero, List.set_cons_succ])
 go_cut [51] (fun v51 wc => ∃ (kq : Nat) (x51_5 : Bool), v51 = .bool x51_5 ∧ Aside0 (laws_FnMaskImage.j0 kq t113 t124 t132 x51_5 t101 t102 t103 t104 t107 t108 t109 t110 t118 t119 t120 t121 t126 t127 t128 t129 = some r) ∧ Aside0 (kq ≤ k) ∧ Aside0 (Kd.R k96 96 wc w.heap.size (fun _ => True) (.slice Ao15 t113.length co15) t113) ∧ Aside0 (Kd.Q (Kd.int .i64) 3 wc w.heap.size (fun k_ => some k_ ≠ ((.slice Ao14 t110.length co14) : Value).ownBlock ∧ some k_ ≠ ((.slice Ao21 t121.length co21) : Value).ownBlock ∧ some k_ ≠ ((.slice Ao30 t129.length co30) : Value).ownBlock) (.slice Ao12 t104.length co12) t104) ∧ Aside0 (Kd.Q (Kd.int .i64) 3 wc w.heap.size (fun k_ => some k_ ≠ ((.slice Ao12 t104.length co12) : Value).ownBlock ∧ some k_ ≠ ((.slice Ao21 t121.length co21) : Value).ownBlock ∧ some k_ ≠ ((.slice Ao30 t129.length co30) : Value).ownBlock) (.slice Ao14 t110.length co14) t110) ∧ Aside0 (Kd.Q (Kd.int .i64) 3 wc w.heap.size (fun k_ => some k_ ≠ ((.slice Ao12 t104.length co12) : Value).ownBlock ∧ some k_ ≠ ((.slice Ao14 t110.length co14) : Value).ownBlock ∧ some k_ ≠ ((.slice Ao30 t129.length co30) : Value).ownBlock) (.slice Ao21 t121.length co21) t121) ∧ Aside0 (Kd.Q (Kd.int .i64) 3 wc w.heap.size (fun k_ => some k_ ≠ ((.slice Ao12 t104.length co12) : Value).ownBlock ∧ some k_ ≠ ((.slice Ao14 t110.length co14) : Value).ownBlock ∧ some k_ ≠ ((.slice Ao21 t121.length co21) : Value).ownBlock) (.slice Ao30 t129.length co30) t129) ∧ Aside0 (wc.heap[gb116]? = some (.cells #[.int .i64 t101, .int .i64 t102, .int .i64 t103, (.slice Ao12 t104.length co12)] 25 (0, 0))) ∧ Aside0 (wc.heap[gb117]? = some (.cells #[.int .i64 t107, .int .i64 t108, .int .i64 t109, (.slice Ao14 t110.length co14)] 25 (0, 0))) ∧ Aside0 (wc.heap[gb125]? = some (.cells #[.int .i64 t118, .int .i64 t119, .int .i64 t120, (.slice Ao21 t121.length co21)] 25 (0, 0))) ∧ Aside0 (wc.heap[gb133]? = some (.cells #[.int .i64 t126, .int .i64 t127, .int .i64 t128, (.slice Ao30 t129.length co30)] 25 (0, 0))) ∧ Aside0 (Below w.heap.size w wc))
 case first =>
  have H := HC6.out
  clear HC6
  replace H := Option.bind_eq_some_iff.mp H
  obtain ⟨t134, A310, H⟩ := H
  replace H : (if t134 = true then (if (t124 != t132) = true then (laws_FnMaskImage.j0 k t113 t124 t132 true t101 t102 t103 t104 t107 t108 t109 t110 t118 t119 t120 t121 t126 t127 t128 t129) else (laws_FnMaskImage.j0 k t113 t124 t132 (!t124) t101 t102 t103 t104 t107 t108 t109 t110 t118 t119 t120 t121 t126 t127 t128 t129)) else (laws_FnMaskImage.j0 k t113 t124 t132 true t101 t102 t103 t104 t107 t108 t109 t110 t118 t119 t120 t121 t126 t127 t128 t129)) = some r := H
  have A31 := Aside0.mk A310
  clear A310
  by_cases c32 : t134 = true
  rotate_left
  ·
   replace c32 := Bool.eq_false_iff.mpr c32
   subst c32
   have H1 : (laws_FnMaskImage.j0 k t113 t124 t132 true t101 t102 t103 t104 t107 t108 t109 t110 t118 t119 t120 t121 t126 t127 t128 t129) = some r := by rw [if_neg (show ¬ (false = true) by decide)] at H; exact H
   clear H
   have H := H1
   clear H1
   have H' := Aside0.mk H
   clear H
   have hnb50 := NB125_116.out
   have hnc50 := NB116_125.out
   have hnb51 := NB125_117.out
   have hnc51 := NB117_125.out
   have hnb52 := NB125_133.out
   have hnc52 := NB133_125.out
   obtain ⟨hcz53_0, hcz53_1, hcz53_2, hcz53_3, hfz53_0, hfz53_1, hfz53_2, hfz53_3⟩ := blk4_ BK125.out
   have hnb54 := NB133_116.out
   have hnc54 := NB116_133.out
   have hnb55 := NB133_117.out
   have hnc55 := NB117_133.out
   obtain ⟨hcz56_0, hcz56_1, hcz56_2, hcz56_3, hfz56_0, hfz56_1, hfz56_2, hfz56_3⟩ := blk4_ BK133.out
   go_wp2_with (first | ((with_reducible refine gate_callee (f := 15) rfl ?_); refine goesL_ (some 41) rfl rfl Try.func15 (by kernel_rfl) rfl #[.agg #[.int .i64 t118, .int .i64 t119, .int .i64 t120, .slice Ao21 t121.length co21], .agg #[.int .i64 t126, .int .i64 t127, .int .i64 t128, .slice Ao30 t129.length co30]] rfl (by simp only [List.map_toArray, List.map_cons, List.map_nil]; rfl) ?_; (with_reducible refine (laws_equalImage.calls k t118 t119 t120 _ _ t121 t126 t127 t128 _ _ t129 false _ ?side1 ?side2 ?side3 ?side4 A31.out).mono ?_); (case side1 => refine (Kd.R_reads' (e := 3) (base := w.heap.size) (ok := fun k_ => (((True ∧ some k_ ≠ (.slice Ao12 t104.length co12 : Value).ownBlock) ∧ some k_ ≠ (.slice Ao14 t110.length co14 : Value).ownBlock) ∧ some k_ ≠ (.slice Ao30 t129.length co30 : Value).ownBlock)) (n := t121.length) (c := co21) ?_).2.2; exact (by exact (R4_ HO123.out BK133.out (by decide) _ _ _ _))); (case side2 => exact (Kd.R_reads' HO123.out).2.1); (case side3 => refine (Kd.R_reads' (e := 3) (base := w.heap.size) (ok := fun k_ => (((True ∧ some k_ ≠ (.slice Ao12 t104.length co12 : Value).ownBlock) ∧ some k_ ≠ (.slice Ao14 t110.length co14 : Value).ownBlock) ∧ some k_ ≠ (.slice Ao21 t121.length co21 : Value).ownBlock)) (n := t129.length) (c := co30) ?_).2.2; exact (by exact (R4_ HO131.out BK133.out (by decide) _ _ _ _))); (case side4 => exact (Kd.R_reads' HO131.out).2.1); rintro e w57 ⟨rfl, hb⟩; refine ⟨_, rfl, ?_⟩; replace HO106 := am_ (Kd.Q_below (by exact (Q4_ HO106.out BK133.out (by decide) _ _ _ _)) hb); replace HO112 := am_ (Kd.Q_below (by exact (Q4_ HO112.out BK133.out (by decide) _ _ _ _)) hb); replace HO115 := am_ (Kd.R_below (by exact (R4_ HO115.out BK133.out (by decide) _ _ _ _)) hb); replace HO123 := am_ (Kd.R_below (by exact (R4_ HO123.out BK133.out (by decide) _ _ _ _)) hb); replace HO131 := am_ (Kd.R_below (by exact (R4_ HO131.out BK133.out (by decide) _ _ _ _)) hb); replace BK116 := am_ (blk_below (by exact far4_ BK116.out NB116_133.out _ _ _ _) hb); replace BK117 := am_ (blk_below (by exact far4_ BK117.out NB117_133.out _ _ _ _) hb); replace BK125 := am_ (blk_below (by exact far4_ BK125.out NB125_133.out _ _ _ _) hb); replace BK133 := am_ (blk_below (by exact put4_ BK133.out _ _ _ _) hb); replace HB := am_ (below_step (by repeat (first | (with_reducible first | exact HB.out | apply below_alloc | apply pw_below_drewN | apply below_drew1 | refine below_set ?_ GE116.out | refine below_set ?_ GE117.out | refine below_set ?_ GE125.out | refine below_set ?_ GE133.out) | exact HB.out)) hb); (try clear hb); (try clear hb2); (try clear hk); (try clear hi)))
   go_meet
   case rel => exact ⟨_, (true), (by first | rfl | (simp; done) | (simp [*]; done)), H', ⟨by first | omega | exact Nat.le_refl _⟩, ⟨by exact HO115.out⟩, ⟨by exact Kd.Q_mono HO106.out (fun _ hk => ⟨hk.1.1, ⟨hk.1.2, hk.2⟩⟩)⟩, ⟨by exact Kd.Q_mono HO112.out (fun _ hk => ⟨hk.1.1, ⟨hk.1.2, hk.2⟩⟩)⟩, ⟨Kd.Q_of_R (by exact Kd.R_mono HO123.out (fun _ hk => ⟨hk.1.1.2, ⟨hk.1.2, hk.2⟩⟩))⟩, ⟨Kd.Q_of_R (by exact Kd.R_mono HO131.out (fun _ hk => ⟨hk.1.1.2, ⟨hk.1.2, hk.2⟩⟩))⟩, ⟨by exact BK116.out⟩, ⟨by exact BK117.out⟩, ⟨by exact BK125.out⟩, ⟨by exact BK133.out⟩, ⟨by repeat (first | (with_reducible first | exact HB.out | apply below_alloc | apply pw_below_drewN | apply below_drew1 | refine below_set ?_ GE116.out | refine below_set ?_ GE117.out | refine below_set ?_ GE125.out | refine below_set ?_ GE133.out) | exact HB.out)⟩⟩
  subst c32
  have H1 : (if (t124 != t132) = true then (laws_FnMaskImage.j0 k t113 t124 t132 true t101 t102 t103 t104 t107 t108 t109 t110 t118 t119 t120 t121 t126 t127 t128 t129) else (laws_FnMaskImage.j0 k t113 t124 t132 (!t124) t101 t102 t103 t104 t107 t108 t109 t110 t118 t119 t120 t121 t126 t127 t128 t129)) = some r := by rw [if_pos rfl] at H; exact H
  clear H
  have H := H1
  clear H1
  by_cases c33 : (t124 != t132) = true
  ·
   rw [if_pos c33] at H
   have c33b0 : (t124 != t132) = true := c33
   (try (have c33b1 : decide (t124 = t132) = false := by simpa using c33))
   (try (have c33b2 : (t124 == t132) = false := by simpa using c33))
   (try (have c33b3 : ¬ (t124 = t132) := by simpa using c33))
   clear c33
   (first | rw [c33b0] | (simp only [i64_w, i32_w]; rw [c33b0]) | skip)
   have H' := Aside0.mk H
   clear H
   have hnb34 := NB125_116.out
   have hnc34 := NB116_125.out
   have hnb35 := NB125_117.out
   have hnc35 := NB117_125.out
   have hnb36 := NB125_133.out
   have hnc36 := NB133_125.out
   obtain ⟨hcz37_0, hcz37_1, hcz37_2, hcz37_3, hfz37_0, hfz37_1, hfz37_2, hfz37_3⟩ := blk4_ BK125.out
   have hnb38 := NB133_116.out
   have hnc38 := NB116_133.out
   have hnb39 := NB133_117.out
   have hnc39 := NB117_133.out
   obtain ⟨hcz40_0, hcz40_1, hcz40_2, hcz40_3, hfz40_0, hfz40_1, hfz40_2, hfz40_3⟩ := blk4_ BK133.out
   go_wp2_with (first | ((with_reducible refine gate_callee (f := 15) rfl ?_); refine goesL_ (some 41) rfl rfl Try.func15 (by kernel_rfl) rfl #[.agg #[.int .i64 t118, .int .i64 t119, .int .i64 t120, .slice Ao21 t121.length co21], .agg #[.int .i64 t126, .int .i64 t127, .int .i64 t128, .slice Ao30 t129.length co30]] rfl (by simp only [List.map_toArray, List.map_cons, List.map_nil]; rfl) ?_; (with_reducible refine (laws_equalImage.calls k t118 t119 t120 _ _ t121 t126 t127 t128 _ _ t129 true _ ?side1 ?side2 ?side3 ?side4 A31.out).mono ?_); (case side1 => refine (Kd.R_reads' (e := 3) (base := w.heap.size) (ok := fun k_ => (((True ∧ some k_ ≠ (.slice Ao12 t104.length co12 : Value).ownBlock) ∧ some k_ ≠ (.slice Ao14 t110.length co14 : Value).ownBlock) ∧ some k_ ≠ (.slice Ao30 t129.length co30 : Value).ownBlock)) (n := t121.length) (c := co21) ?_).2.2; exact (by exact (R4_ HO123.out BK133.out (by decide) _ _ _ _))); (case side2 => exact (Kd.R_reads' HO123.out).2.1); (case side3 => refine (Kd.R_reads' (e := 3) (base := w.heap.size) (ok := fun k_ => (((True ∧ some k_ ≠ (.slice Ao12 t104.length co12 : Value).ownBlock) ∧ some k_ ≠ (.slice Ao14 t110.length co14 : Value).ownBlock) ∧ some k_ ≠ (.slice Ao21 t121.length co21 : Value).ownBlock)) (n := t129.length) (c := co30) ?_).2.2; exact (by exact (R4_ HO131.out BK133.out (by decide) _ _ _ _))); (case side4 => exact (Kd.R_reads' HO131.out).2.1); rintro e w41 ⟨rfl, hb⟩; refine ⟨_, rfl, ?_⟩; replace HO106 := am_ (Kd.Q_below (by exact (Q4_ HO106.out BK133.out (by decide) _ _ _ _)) hb); replace HO112 := am_ (Kd.Q_below (by exact (Q4_ HO112.out BK133.out (by decide) _ _ _ _)) hb); replace HO115 := am_ (Kd.R_below (by exact (R4_ HO115.out BK133.out (by decide) _ _ _ _)) hb); replace HO123 := am_ (Kd.R_below (by exact (R4_ HO123.out BK133.out (by decide) _ _ _ _)) hb); replace HO131 := am_ (Kd.R_below (by exact (R4_ HO131.out BK133.out (by decide) _ _ _ _)) hb); replace BK116 := am_ (blk_below (by exact far4_ BK116.out NB116_133.out _ _ _ _) hb); replace BK117 := am_ (blk_below (by exact far4_ BK117.out NB117_133.out _ _ _ _) hb); replace BK125 := am_ (blk_below (by exact far4_ BK125.out NB125_133.out _ _ _ _) hb); replace BK133 := am_ (blk_below (by exact put4_ BK133.out _ _ _ _) hb); replace HB := am_ (below_step (by repeat (first | (with_reducible first | exact HB.out | apply below_alloc | apply pw_below_drewN | apply below_drew1 | refine below_set ?_ GE116.out | refine below_set ?_ GE117.out | refine below_set ?_ GE125.out | refine below_set ?_ GE133.out) | exact HB.out)) hb); (try clear hb); (try clear hb2); (try clear hk); (try clear hi)))
   go_meet
   case rel => exact ⟨_, (true), (by first | rfl | (simp; done) | (simp [*]; done)), H', ⟨by first | omega | exact Nat.le_refl _⟩, ⟨by exact HO115.out⟩, ⟨by exact Kd.Q_mono HO106.out (fun _ hk => ⟨hk.1.1, ⟨hk.1.2, hk.2⟩⟩)⟩, ⟨by exact Kd.Q_mono HO112.out (fun _ hk => ⟨hk.1.1, ⟨hk.1.2, hk.2⟩⟩)⟩, ⟨Kd.Q_of_R (by exact Kd.R_mono HO123.out (fun _ hk => ⟨hk.1.1.2, ⟨hk.1.2, hk.2⟩⟩))⟩, ⟨Kd.Q_of_R (by exact Kd.R_mono HO131.out (fun _ hk => ⟨hk.1.1.2, ⟨hk.1.2, hk.2⟩⟩))⟩, ⟨by exact BK116.out⟩, ⟨by exact BK117.out⟩, ⟨by exact BK125.out⟩, ⟨by exact BK133.out⟩, ⟨by repeat (first | (with_reducible first | exact HB.out | apply below_alloc | apply pw_below_drewN | apply below_drew1 | refine below_set ?_ GE116.out | refine below_set ?_ GE117.out | refine below_set ?_ GE125.out | refine below_set ?_ GE133.out) | exact HB.out)⟩⟩
  rw [if_neg c33] at H
  have c33b0 : (t124 != t132) = false := by simpa using c33
  (try (have c33b1 : decide (t124 = t132) = true := by simpa using c33))
  (try (have c33b2 : (t124 == t132) = true := by simpa using c33))
  clear c33
  (first | rw [c33b0] | (simp only [i64_w, i32_w]; rw [c33b0]) | skip)
  have H' := Aside0.mk H
  clear H
  have hnb42 := NB125_116.out
  have hnc42 := NB116_125.out
  have hnb43 := NB125_117.out
  have hnc43 := NB117_125.out
  have hnb44 := NB125_133.out
  have hnc44 := NB133_125.out
  obtain ⟨hcz45_0, hcz45_1, hcz45_2, hcz45_3, hfz45_0, hfz45_1, hfz45_2, hfz45_3⟩ := blk4_ BK125.out
  have hnb46 := NB133_116.out
  have hnc46 := NB116_133.out
  have hnb47 := NB133_117.out
  have hnc47 := NB117_133.out
  obtain ⟨hcz48_0, hcz48_1, hcz48_2, hcz48_3, hfz48_0, hfz48_1, hfz48_2, hfz48_3⟩ := blk4_ BK133.out
  go_wp2_with (first | ((with_reducible refine gate_callee (f := 15) rfl ?_); refine goesL_ (some 41) rfl rfl Try.func15 (by kernel_rfl) rfl #[.agg #[.int .i64 t118, .int .i64 t119, .int .i64 t120, .slice Ao21 t121.length co21], .agg #[.int .i64 t126, .int .i64 t127, .int .i64 t128, .slice Ao30 t129.length co30]] rfl (by simp only [List.map_toArray, List.map_cons, List.map_nil]; rfl) ?_; (with_reducible refine (laws_equalImage.calls k t118 t119 t120 _ _ t121 t126 t127 t128 _ _ t129 true _ ?side1 ?side2 ?side3 ?side4 A31.out).mono ?_); (case side1 => refine (Kd.R_reads' (e := 3) (base := w.heap.size) (ok := fun k_ => (((True ∧ some k_ ≠ (.slice Ao12 t104.length co12 : Value).ownBlock) ∧ some k_ ≠ (.slice Ao14 t110.length co14 : Value).ownBlock) ∧ some k_ ≠ (.slice Ao30 t129.length co30 : Value).ownBlock)) (n := t121.length) (c := co21) ?_).2.2; exact (by exact (R4_ HO123.out BK133.out (by decide) _ _ _ _))); (case side2 => exact (Kd.R_reads' HO123.out).2.1); (case side3 => refine (Kd.R_reads' (e := 3) (base := w.heap.size) (ok := fun k_ => (((True ∧ some k_ ≠ (.slice Ao12 t104.length co12 : Value).ownBlock) ∧ some k_ ≠ (.slice Ao14 t110.length co14 : Value).ownBlock) ∧ some k_ ≠ (.slice Ao21 t121.length co21 : Value).ownBlock)) (n := t129.length) (c := co30) ?_).2.2; exact (by exact (R4_ HO131.out BK133.out (by decide) _ _ _ _))); (case side4 => exact (Kd.R_reads' HO131.out).2.1); rintro e w49 ⟨rfl, hb⟩; refine ⟨_, rfl, ?_⟩; replace HO106 := am_ (Kd.Q_below (by exact (Q4_ HO106.out BK133.out (by decide) _ _ _ _)) hb); replace HO112 := am_ (Kd.Q_below (by exact (Q4_ HO112.out BK133.out (by decide) _ _ _ _)) hb); replace HO115 := am_ (Kd.R_below (by exact (R4_ HO115.out BK133.out (by decide) _ _ _ _)) hb); replace HO123 := am_ (Kd.R_below (by exact (R4_ HO123.out BK133.out (by decide) _ _ _ _)) hb); replace HO131 := am_ (Kd.R_below (by exact (R4_ HO131.out BK133.out (by decide) _ _ _ _)) hb); replace BK116 := am_ (blk_below (by exact far4_ BK116.out NB116_133.out _ _ _ _) hb); replace BK117 := am_ (blk_below (by exact far4_ BK117.out NB117_133.out _ _ _ _) hb); replace BK125 := am_ (blk_below (by exact far4_ BK125.out NB125_133.out _ _ _ _) hb); replace BK133 := am_ (blk_below (by exact put4_ BK133.out _ _ _ _) hb); replace HB := am_ (below_step (by repeat (first | (with_reducible first | exact HB.out | apply below_alloc | apply pw_below_drewN | apply below_drew1 | refine below_set ?_ GE116.out | refine below_set ?_ GE117.out | refine below_set ?_ GE125.out | refine below_set ?_ GE133.out) | exact HB.out)) hb); (try clear hb); (try clear hb2); (try clear hk); (try clear hi)))
  go_meet
  case rel => exact ⟨_, (!t124), (by first | rfl | (simp; done) | (simp [*]; done)), H', ⟨by first | omega | exact Nat.le_refl _⟩, ⟨by exact HO115.out⟩, ⟨by exact Kd.Q_mono HO106.out (fun _ hk => ⟨hk.1.1, ⟨hk.1.2, hk.2⟩⟩)⟩, ⟨by exact Kd.Q_mono HO112.out (fun _ hk => ⟨hk.1.1, ⟨hk.1.2, hk.2⟩⟩)⟩, ⟨Kd.Q_of_R (by exact Kd.R_mono HO123.out (fun _ hk => ⟨hk.1.1.2, ⟨hk.1.2, hk.2⟩⟩))⟩, ⟨Kd.Q_of_R (by exact Kd.R_mono HO131.out (fun _ hk => ⟨hk.1.1.2, ⟨hk.1.2, hk.2⟩⟩))⟩, ⟨by exact BK116.out⟩, ⟨by exact BK117.out⟩, ⟨by exact BK125.out⟩, ⟨by exact BK133.out⟩, ⟨by repeat (first | (with_reducible first | exact HB.out | apply below_alloc | apply pw_below_drewN | apply below_drew1 | refine below_set ?_ GE116.out | refine below_set ?_ GE117.out | refine below_set ?_ GE125.out | refine below_set ?_ GE133.out) | exact HB.out)⟩⟩
 case rest =>
  clear HC6
  try clear c1
  try clear c2
  try clear c2b0
  try clear c2b1
  try clear p2
  try clear c3
  try clear c4
  try clear c5
  try clear c10
  try clear c12
  try clear c13
  try clear c14
  try clear c15
  try clear c18
  try clear c19
  try clear c26
  try clear c27
  try clear c28
  try clear c32
  try clear c33
  try clear c33b0
  try clear c33b1
  try clear c33b2
  try clear c34
  try clear c35
  try clear c36
  try clear c38
  try clear c39
  try clear c42
  try clear c43
  try clear c44
  try clear c46
  try clear c47
  try clear c50
  try clear c51
  try clear c52
  try clear c54
  try clear c55
  try clear hcz11_0
  try clear hcz11_1
  try clear hcz11_2
  try clear hcz11_3
  try clear hcz13_0
  try clear hcz13_1
  try clear hcz13_2
  try clear hcz13_3
  try clear hcz20_0
  try clear hcz20_1
  try clear hcz20_2
  try clear hcz20_3
  try clear hcz22_0
  try clear hcz22_1
  try clear hcz22_2
  try clear hcz22_3
  try clear hcz23_0
  try clear hcz23_1
  try clear hcz23_2
  try clear hcz23_3
  try clear hcz29_0
  try clear hcz29_1
  try clear hcz29_2
  try clear hcz29_3
  try clear hcz37_0
  try clear hcz37_1
  try clear hcz37_2
  try clear hcz37_3
  try clear hcz40_0
  try clear hcz40_1
  try clear hcz40_2
  try clear hcz40_3
  try clear hcz45_0
  try clear hcz45_1
  try clear hcz45_2
  try clear hcz45_3
  try clear hcz48_0
  try clear hcz48_1
  try clear hcz48_2
  try clear hcz48_3
  try clear hcz53_0
  try clear hcz53_1
  try clear hcz53_2
  try clear hcz53_3
  try clear hcz56_0
  try clear hcz56_1
  try clear hcz56_2
  try clear hcz56_3
  try clear hfz11_0
  try clear hfz11_1
  try clear hfz11_2
  try clear hfz11_3
  try clear hfz13_0
  try clear hfz13_1
  try clear hfz13_2
  try clear hfz13_3
  try clear hfz20_0
  try clear hfz20_1
  try clear hfz20_2
  try clear hfz20_3
  try clear hfz22_0
  try clear hfz22_1
  try clear hfz22_2
  try clear hfz22_3
  try clear hfz23_0
  try clear hfz23_1
  try clear hfz23_2
  try clear hfz23_3
  try clear hfz29_0
  try clear hfz29_1
  try clear hfz29_2
  try clear hfz29_3
  try clear hfz37_0
  try clear hfz37_1
  try clear hfz37_2
  try clear hfz37_3
  try clear hfz40_0
  try clear hfz40_1
  try clear hfz40_2
  try clear hfz40_3
  try clear hfz45_0
  try clear hfz45_1
  try clear hfz45_2
  try clear hfz45_3
  try clear hfz48_0
  try clear hfz48_1
  try clear hfz48_2
  try clear hfz48_3
  try clear hfz53_0
  try clear hfz53_1
  try clear hfz53_2
  try clear hfz53_3
  try clear hfz56_0
  try clear hfz56_1
  try clear hfz56_2
  try clear hfz56_3
  obtain ⟨kq, x51_5, rfl, HA, HJ5, HO_5, HO_117003, HO_118003, HO_126003, HO_134003, BK116, BK117, BK125, BK133, HB⟩ := hcut
  cases kq with
  | zero => exact absurd HA.out (by simp [laws_FnMaskImage.j0])
  | succ kj5 =>
   have H := HA.out
   clear HA
   simp only [laws_FnMaskImage.j0] at H
   by_cases c58 : x51_5 = true
   ·
    subst c58
    have H1 : ((laws_equalImage.f kj5 t118 t119 t120 t121 t126 t127 t128 t129).bind fun t135 => (if t135 = true then (some (t124 == t132)) else (some false))) = some r := by rw [if_pos rfl] at H; exact H
    clear H
    have H := H1
    clear H1
    replace H := Option.bind_eq_some_iff.mp H
    obtain ⟨t135, A590, H⟩ := H
    replace H : (if t135 = true then (some (t124 == t132)) else (some false)) = some r := H
    have A59 := Aside0.mk A590
    clear A590
    by_cases c60 : t135 = true
    ·
     subst c60
     have H1 : (some (t124 == t132)) = some r := by rw [if_pos rfl] at H; exact H
     clear H
     have H := H1
     clear H1
     obtain rfl := Option.some.inj H
     have hnb61 := NB125_116.out
     have hnc61 := NB116_125.out
     have hnb62 := NB125_117.out
     have hnc62 := NB117_125.out
     have hnb63 := NB125_133.out
     have hnc63 := NB133_125.out
     obtain ⟨hcz64_0, hcz64_1, hcz64_2, hcz64_3, hfz64_0, hfz64_1, hfz64_2, hfz64_3⟩ := blk4_ BK125.out
     have hnb65 := NB133_116.out
     have hnc65 := NB116_133.out
     have hnb66 := NB133_117.out
     have hnc66 := NB117_133.out
     obtain ⟨hcz67_0, hcz67_1, hcz67_2, hcz67_3, hfz67_0, hfz67_1, hfz67_2, hfz67_3⟩ := blk4_ BK133.out
     go_wp2_with (first | ((with_reducible refine gate_callee (f := 15) rfl ?_); refine goesL_ (some 54) rfl rfl Try.func15 (by kernel_rfl) rfl #[.agg #[.int .i64 t118, .int .i64 t119, .int .i64 t120, .slice Ao21 t121.length co21], .agg #[.int .i64 t126, .int .i64 t127, .int .i64 t128, .slice Ao30 t129.length co30]] rfl (by simp only [List.map_toArray, List.map_cons, List.map_nil]; rfl) ?_; (with_reducible refine (laws_equalImage.calls kj5 t118 t119 t120 _ _ t121 t126 t127 t128 _ _ t129 true _ ?side1 ?side2 ?side3 ?side4 A59.out).mono ?_); (case side1 => repeat (first | exact (Kd.Q_reads' HO_126003.out).2.2 | (with_reducible refine Kd.C_alloc ?_ _) | (with_reducible refine Kd.C_drewN ?_ _) | (with_reducible refine Kd.C_drew ?_))); (case side2 => exact (Kd.Q_reads' HO_126003.out).2.1); (case side3 => repeat (first | exact (Kd.Q_reads' HO_134003.out).2.2 | (with_reducible refine Kd.C_alloc ?_ _) | (with_reducible refine Kd.C_drewN ?_ _) | (with_reducible refine Kd.C_drew ?_))); (case side4 => exact (Kd.Q_reads' HO_134003.out).2.1); rintro e w68 ⟨rfl, hb⟩; refine ⟨_, rfl, ?_⟩; replace HO_5 := am_ (Kd.R_below (by exact HO_5.out) hb); replace HO_117003 := am_ (Kd.Q_below (by exact HO_117003.out) hb); replace HO_118003 := am_ (Kd.Q_below (by exact HO_118003.out) hb); replace HO_126003 := am_ (Kd.Q_below (by exact HO_126003.out) hb); replace HO_134003 := am_ (Kd.Q_below (by exact HO_134003.out) hb); replace BK116 := am_ (blk_below (by exact BK116.out) hb); replace BK117 := am_ (blk_below (by exact BK117.out) hb); replace BK125 := am_ (blk_below (by exact BK125.out) hb); replace BK133 := am_ (blk_below (by exact BK133.out) hb); replace HB := am_ (below_step (by repeat (first | (with_reducible first | exact HB.out | apply below_alloc | apply pw_below_drewN | apply below_drew1 | refine below_set ?_ GE116.out | refine below_set ?_ GE117.out | refine below_set ?_ GE125.out | refine below_set ?_ GE133.out) | exact HB.out)) hb); (try clear hb); (try clear hb2); (try clear hk); (try clear hi)))
     go_ret
     exact ⟨by first | rfl | (simp [errW_none, errW_some] <;> rfl) | (simp [*, errW_none, errW_some] <;> rfl), by repeat (first | (with_reducible first | exact HB.out | apply below_alloc | apply pw_below_drewN | apply below_drew1 | refine below_set ?_ GE116.out | refine below_set ?_ GE117.out | refine below_set ?_ GE125.out | refine below_set ?_ GE133.out) | exact HB.out)⟩
    replace c60 := Bool.eq_false_iff.mpr c60
    subst c60
    have H1 : (some false) = some r := by rw [if_neg (show ¬ (false = true) by decide)] at H; exact H
    clear H
    have H := H1
    clear H1
    obtain rfl := Option.some.inj H
    have hnb69 := NB125_116.out
    have hnc69 := NB116_125.out
    have hnb70 := NB125_117.out
    have hnc70 := NB117_125.out
    have hnb71 := NB125_133.out
    have hnc71 := NB133_125.out
    obtain ⟨hcz72_0, hcz72_1, hcz72_2, hcz72_3, hfz72_0, hfz72_1, hfz72_2, hfz72_3⟩ := blk4_ BK125.out
    have hnb73 := NB133_116.out
    have hnc73 := NB116_133.out
    have hnb74 := NB133_117.out
    have hnc74 := NB117_133.out
    obtain ⟨hcz75_0, hcz75_1, hcz75_2, hcz75_3, hfz75_0, hfz75_1, hfz75_2, hfz75_3⟩ := blk4_ BK133.out
    go_wp2_with (first | ((with_reducible refine gate_callee (f := 15) rfl ?_); refine goesL_ (some 54) rfl rfl Try.func15 (by kernel_rfl) rfl #[.agg #[.int .i64 t118, .int .i64 t119, .int .i64 t120, .slice Ao21 t121.length co21], .agg #[.int .i64 t126, .int .i64 t127, .int .i64 t128, .slice Ao30 t129.length co30]] rfl (by simp only [List.map_toArray, List.map_cons, List.map_nil]; rfl) ?_; (with_reducible refine (laws_equalImage.calls kj5 t118 t119 t120 _ _ t121 t126 t127 t128 _ _ t129 false _ ?side1 ?side2 ?side3 ?side4 A59.out).mono ?_); (case side1 => repeat (first | exact (Kd.Q_reads' HO_126003.out).2.2 | (with_reducible refine Kd.C_alloc ?_ _) | (with_reducible refine Kd.C_drewN ?_ _) | (with_reducible refine Kd.C_drew ?_))); (case side2 => exact (Kd.Q_reads' HO_126003.out).2.1); (case side3 => repeat (first | exact (Kd.Q_reads' HO_134003.out).2.2 | (with_reducible refine Kd.C_alloc ?_ _) | (with_reducible refine Kd.C_drewN ?_ _) | (with_reducible refine Kd.C_drew ?_))); (case side4 => exact (Kd.Q_reads' HO_134003.out).2.1); rintro e w76 ⟨rfl, hb⟩; refine ⟨_, rfl, ?_⟩; replace HO_5 := am_ (Kd.R_below (by exact HO_5.out) hb); replace HO_117003 := am_ (Kd.Q_below (by exact HO_117003.out) hb); replace HO_118003 := am_ (Kd.Q_below (by exact HO_118003.out) hb); replace HO_126003 := am_ (Kd.Q_below (by exact HO_126003.out) hb); replace HO_134003 := am_ (Kd.Q_below (by exact HO_134003.out) hb); replace BK116 := am_ (blk_below (by exact BK116.out) hb); replace BK117 := am_ (blk_below (by exact BK117.out) hb); replace BK125 := am_ (blk_below (by exact BK125.out) hb); replace BK133 := am_ (blk_below (by exact BK133.out) hb); replace HB := am_ (below_step (by repeat (first | (with_reducible first | exact HB.out | apply below_alloc | apply pw_below_drewN | apply below_drew1 | refine below_set ?_ GE116.out | refine below_set ?_ GE117.out | refine below_set ?_ GE125.out | refine below_set ?_ GE133.out) | exact HB.out)) hb); (try clear hb); (try clear hb2); (try clear hk); (try clear hi)))
    go_ret
    exact ⟨by first | rfl | (simp [errW_none, errW_some] <;> rfl) | (simp [*, errW_none, errW_some] <;> rfl), by repeat (first | (with_reducible first | exact HB.out | apply below_alloc | apply pw_below_drewN | apply below_drew1 | refine below_set ?_ GE116.out | refine below_set ?_ GE117.out | refine below_set ?_ GE125.out | refine below_set ?_ GE133.out) | exact HB.out)⟩
   replace c58 := Bool.eq_false_iff.mpr c58
   subst c58
   have H1 : ((impl_BoxRegion.f 0 0 16 16).bind fun bt136 => ((impl_MaskImage.f t101 t102 t103 t104 t107 t108 t109 t110 bt136.1).bind fun bt140 => ((impl_MaskImage.f t107 t108 t109 t110 t118 t119 t120 t121 t113).bind fun bt148 => (if bt136.2 = true then (if bt140.2.2.2.2 = true then ((laws_equalImage.f kj5 bt140.1 bt140.2.1 bt140.2.2.1 bt140.2.2.2.1 t107 t108 t109 t110).bind fun t156 => (if t156 = true then (if bt148.2.2.2.2 = true then ((laws_equalImage.f kj5 bt148.1 bt148.2.1 bt148.2.2.1 bt148.2.2.2.1 t107 t108 t109 t110).bind fun t157 => (some t157)) else (some false)) else (some false))) else (some false)) else (some false))))) = some r := by rw [if_neg (show ¬ (false = true) by decide)] at H; exact H
   clear H
   have H := H1
   clear H1
   replace H := Option.bind_eq_some_iff.mp H
   obtain ⟨⟨t136, t139⟩, A770, H⟩ := H
   replace H : ((impl_MaskImage.f t101 t102 t103 t104 t107 t108 t109 t110 t136).bind fun bt140 => ((impl_MaskImage.f t107 t108 t109 t110 t118 t119 t120 t121 t113).bind fun bt148 => (if t139 = true then (if bt140.2.2.2.2 = true then ((laws_equalImage.f kj5 bt140.1 bt140.2.1 bt140.2.2.1 bt140.2.2.2.1 t107 t108 t109 t110).bind fun t156 => (if t156 = true then (if bt148.2.2.2.2 = true then ((laws_equalImage.f kj5 bt148.1 bt148.2.1 bt148.2.2.1 bt148.2.2.2.1 t107 t108 t109 t110).bind fun t157 => (some t157)) else (some false)) else (some false))) else (some false)) else (some false)))) = some r := H
   have A77 := Aside0.mk A770
   clear A770
   replace H := Option.bind_eq_some_iff.mp H
   obtain ⟨⟨t140, t141, t142, t143, t146⟩, A780, H⟩ := H
   replace H : ((impl_MaskImage.f t107 t108 t109 t110 t118 t119 t120 t121 t113).bind fun bt148 => (if t139 = true then (if t146 = true then ((laws_equalImage.f kj5 t140 t141 t142 t143 t107 t108 t109 t110).bind fun t156 => (if t156 = true then (if bt148.2.2.2.2 = true then ((laws_equalImage.f kj5 bt148.1 bt148.2.1 bt148.2.2.1 bt148.2.2.2.1 t107 t108 t109 t110).bind fun t157 => (some t157)) else (some false)) else (some false))) else (some false)) else (some false))) = some r := H
   have A78 := Aside0.mk A780
   clear A780
   replace H := Option.bind_eq_some_iff.mp H
   obtain ⟨⟨t148, t149, t150, t151, t154⟩, A790, H⟩ := H
   replace H : (if t139 = true then (if t146 = true then ((laws_equalImage.f kj5 t140 t141 t142 t143 t107 t108 t109 t110).bind fun t156 => (if t156 = true then (if t154 = true then ((laws_equalImage.f kj5 t148 t149 t150 t151 t107 t108 t109 t110).bind fun t157 => (some t157)) else (some false)) else (some false))) else (some false)) else (some false)) = some r := H
   have A79 := Aside0.mk A790
   clear A790
   go_upto_region 11 with (first | ((with_reducible refine gate_callee (f := 16) rfl ?_); refine goesL_ (some 62) rfl rfl Try.func16 (by kernel_rfl) rfl #[.agg #[.int .i64 0, .int .i64 0, .int .i64 16, .int .i64 16]] rfl (by simp only [List.map_toArray, List.map_cons, List.map_nil]; rfl) ?_; (with_reducible refine (impl_BoxRegion.calls 0 0 16 16 t136 t139 _ A77.out).mono ?_); rintro e w214 ⟨v137, rfl, ho0, hb⟩; refine ⟨_, rfl, ?_⟩; replace HO_117003 := am_ (Kd.Q_below (by exact HO_117003.out) hb); replace HO_118003 := am_ (Kd.Q_below (by exact HO_118003.out) hb); replace HO_126003 := am_ (Kd.Q_below (by exact HO_126003.out) hb); replace HO_134003 := am_ (Kd.Q_below (by exact HO_134003.out) hb); have HO138 := am_ (Kd.R_lower (Kd.R_new' ho0 (Kd.R_lt (by exact HO_5.out))) (below_size (by repeat (first | (with_reducible first | exact HB.out | apply below_alloc | apply pw_below_drewN | apply below_drew1 | refine below_set ?_ GE116.out | refine below_set ?_ GE117.out | refine below_set ?_ GE125.out | refine below_set ?_ GE133.out) | exact HB.out)))); replace HO_5 := am_ (Kd.R_elder' (by exact HO_5.out) (Kd.R_base ho0) hb); replace BK116 := am_ (blk_below (by exact BK116.out) hb); replace BK117 := am_ (blk_below (by exact BK117.out) hb); replace BK125 := am_ (blk_below (by exact BK125.out) hb); replace BK133 := am_ (blk_below (by exact BK133.out) hb); replace HB := am_ (below_step (by repeat (first | (with_reducible first | exact HB.out | apply below_alloc | apply pw_below_drewN | apply below_drew1 | refine below_set ?_ GE116.out | refine below_set ?_ GE117.out | refine below_set ?_ GE125.out | refine below_set ?_ GE133.out) | exact HB.out)) hb); (try clear hb); (try clear hb2); (try clear hk); (try clear hi); (try clear ho0); have hnb215 := NB116_117.out; have hnc215 := NB117_116.out; have hnb216 := NB116_125.out; have hnc216 := NB125_116.out; have hnb217 := NB116_133.out; have hnc217 := NB133_116.out; obtain ⟨hcz218_0, hcz218_1, hcz218_2, hcz218_3, hfz218_0, hfz218_1, hfz218_2, hfz218_3⟩ := blk4_ BK116.out; have hnb219 := NB117_125.out; have hnc219 := NB125_117.out; have hnb220 := NB117_133.out; have hnc220 := NB133_117.out; obtain ⟨hcz221_0, hcz221_1, hcz221_2, hcz221_3, hfz221_0, hfz221_1, hfz221_2, hfz221_3⟩ := blk4_ BK117.out; obtain ⟨Ao222, co222, eo222⟩ := Kd.R_slice HO138.out; subst eo222) | ((with_reducible refine gate_callee (f := 13) rfl ?_); refine goesL_ (some 69) rfl rfl Try.func13 (by kernel_rfl) rfl #[.agg #[.int .i64 t101, .int .i64 t102, .int .i64 t103, .slice Ao12 t104.length co12], .agg #[.int .i64 t107, .int .i64 t108, .int .i64 t109, .slice Ao14 t110.length co14], .slice Ao222 t136.length co222] rfl (by simp only [List.map_toArray, List.map_cons, List.map_nil]; rfl) ?_; (with_reducible refine (impl_MaskImage.calls t101 t102 t103 _ _ t104 t107 t108 t109 _ _ t110 _ _ t136 t140 t141 t142 t143 t146 _ ?side1 ?side2 ?side3 ?side4 ?side5 ?side6 A78.out).mono ?_); (case side1 => repeat (first | exact (Kd.Q_reads' HO_117003.out).2.2 | (with_reducible refine Kd.C_alloc ?_ _) | (with_reducible refine Kd.C_drewN ?_ _) | (with_reducible refine Kd.C_drew ?_))); (case side2 => exact (Kd.Q_reads' HO_117003.out).2.1); (case side3 => repeat (first | exact (Kd.Q_reads' HO_118003.out).2.2 | (with_reducible refine Kd.C_alloc ?_ _) | (with_reducible refine Kd.C_drewN ?_ _) | (with_reducible refine Kd.C_drew ?_))); (case side4 => exact (Kd.Q_reads' HO_118003.out).2.1); (case side5 => repeat (first | exact (Kd.R_reads' HO138.out).2.2 | (with_reducible refine Kd.C_alloc ?_ _) | (with_reducible refine Kd.C_drewN ?_ _) | (with_reducible refine Kd.C_drew ?_))); (case side6 => exact (Kd.R_reads' HO138.out).2.1); rintro e w223 ⟨v144, rfl, ho0, hb⟩; refine ⟨_, rfl, ?_⟩; replace HO_5 := am_ (Kd.R_below (by exact HO_5.out) hb); replace HO138 := am_ (Kd.R_below (by exact HO138.out) hb); have HO145 := am_ (Kd.R_lower (Kd.R_new' (Kd.R_new' (Kd.R_new' (Kd.R_new' ho0 (Kd.Q_lt (by exact HO_117003.out))) (Kd.Q_lt (by exact HO_118003.out))) (Kd.Q_lt (by exact HO_126003.out))) (Kd.Q_lt (by exact HO_134003.out))) (below_size (by repeat (first | (with_reducible first | exact HB.out | apply below_alloc | apply pw_below_drewN | apply below_drew1 | refine below_set ?_ GE116.out | refine below_set ?_ GE117.out | refine below_set ?_ GE125.out | refine below_set ?_ GE133.out) | exact HB.out)))); replace HO_117003 := am_ (Kd.Q_elder' (by exact HO_117003.out) (Kd.R_base ho0) hb); replace HO_118003 := am_ (Kd.Q_elder' (by exact HO_118003.out) (Kd.R_base ho0) hb); replace HO_126003 := am_ (Kd.Q_elder' (by exact HO_126003.out) (Kd.R_base ho0) hb); replace HO_134003 := am_ (Kd.Q_elder' (by exact HO_134003.out) (Kd.R_base ho0) hb); replace BK116 := am_ (blk_below (by exact BK116.out) hb); replace BK117 := am_ (blk_below (by exact BK117.out) hb); replace BK125 := am_ (blk_below (by exact BK125.out) hb); replace BK133 := am_ (blk_below (by exact BK133.out) hb); replace HB := am_ (below_step (by repeat (first | (with_reducible first | exact HB.out | apply below_alloc | apply pw_below_drewN | apply below_drew1 | refine below_set ?_ GE116.out | refine below_set ?_ GE117.out | refine below_set ?_ GE125.out | refine below_set ?_ GE133.out) | exact HB.out)) hb); (try clear hb); (try clear hb2); (try clear hk); (try clear hi); (try clear ho0)) | ((with_reducible refine gate_dst (N := 12) rfl ?_); refine box_event ?hg (N := 12) ?hd (cs := #[.int .i64 0, .int .i64 0, .int .i64 0, .slice none 0 0]) (t := 25) ?hr ?_; (case hd => rfl); (case hg => rfl); (case hr => first | (go_simp; done) | (go_simp; rfl)); intro gb147 hg w224 hbox hb; replace HO_5 := am_ (Kd.R_below (by exact HO_5.out) hb); replace HO_117003 := am_ (Kd.Q_below (by exact HO_117003.out) hb); replace HO_118003 := am_ (Kd.Q_below (by exact HO_118003.out) hb); replace HO_126003 := am_ (Kd.Q_below (by exact HO_126003.out) hb); replace HO_134003 := am_ (Kd.Q_below (by exact HO_134003.out) hb); replace HO138 := am_ (Kd.R_below (by exact HO138.out) hb); replace HO145 := am_ (Kd.R_below (by exact HO145.out) hb); have BK147 := am_ (hbox); have GW147 := am_ ((by rw [hg]; exact (below_size (by repeat (first | (with_reducible first | exact HB.out | apply below_alloc | apply pw_below_drewN | apply below_drew1 | refine below_set ?_ GE116.out | refine below_set ?_ GE117.out | refine below_set ?_ GE125.out | refine below_set ?_ GE133.out) | exact HB.out))) : w.heap.size ≤ gb147)); have GE147 := GW147; replace HB := am_ (below_step (by repeat (first | (with_reducible first | exact HB.out | apply below_alloc | apply pw_below_drewN | apply below_drew1 | refine below_set ?_ GE116.out | refine below_set ?_ GE117.out | refine below_set ?_ GE125.out | refine below_set ?_ GE133.out) | exact HB.out)) hb); have NB116_147 := am_ ((by rw [hg]; exact Nat.ne_of_lt (blk_lt (by exact BK116.out)) : gb116 ≠ gb147)); have NB147_116 := am_ ((by rw [hg]; exact Nat.ne_of_gt (blk_lt (by exact BK116.out)) : gb147 ≠ gb116)); replace BK116 := am_ (blk_below (by exact BK116.out) hb); have NB117_147 := am_ ((by rw [hg]; exact Nat.ne_of_lt (blk_lt (by exact BK117.out)) : gb117 ≠ gb147)); have NB147_117 := am_ ((by rw [hg]; exact Nat.ne_of_gt (blk_lt (by exact BK117.out)) : gb147 ≠ gb117)); replace BK117 := am_ (blk_below (by exact BK117.out) hb); have NB125_147 := am_ ((by rw [hg]; exact Nat.ne_of_lt (blk_lt (by exact BK125.out)) : gb125 ≠ gb147)); have NB147_125 := am_ ((by rw [hg]; exact Nat.ne_of_gt (blk_lt (by exact BK125.out)) : gb147 ≠ gb125)); replace BK125 := am_ (blk_below (by exact BK125.out) hb); have NB133_147 := am_ ((by rw [hg]; exact Nat.ne_of_lt (blk_lt (by exact BK133.out)) : gb133 ≠ gb147)); have NB147_133 := am_ ((by rw [hg]; exact Nat.ne_of_gt (blk_lt (by exact BK133.out)) : gb147 ≠ gb133)); replace BK133 := am_ (blk_below (by exact BK133.out) hb); clear hb hbox hg; have hnb225 := NB147_116.out; have hnc225 := NB116_147.out; have hnb226 := NB147_117.out; have hnc226 := NB117_147.out; have hnb227 := NB147_125.out; have hnc227 := NB125_147.out; have hnb228 := NB147_133.out; have hnc228 := NB133_147.out; obtain ⟨hcz229_0, hcz229_1, hcz229_2, hcz229_3, hfz229_0, hfz229_1, hfz229_2, hfz229_3⟩ := blk4_ BK147.out; obtain ⟨Ao230, co230, eo230⟩ := Kd.R_slice HO145.out; subst eo230; obtain ⟨hcz231_0, hcz231_1, hcz231_2, hcz231_3, hfz231_0, hfz231_1, hfz231_2, hfz231_3⟩ := blk4_ BK117.out; have hnb232 := NB125_133.out; have hnc232 := NB133_125.out; obtain ⟨hcz233_0, hcz233_1, hcz233_2, hcz233_3, hfz233_0, hfz233_1, hfz233_2, hfz233_3⟩ := blk4_ BK125.out) | ((with_reducible refine gate_callee (f := 13) rfl ?_); refine goesL_ (some 76) rfl rfl Try.func13 (by kernel_rfl) rfl #[.agg #[.int .i64 t107, .int .i64 t108, .int .i64 t109, .slice Ao14 t110.length co14], .agg #[.int .i64 t118, .int .i64 t119, .int .i64 t120, .slice Ao21 t121.length co21], .slice Ao15 t113.length co15] rfl (by simp only [List.map_toArray, List.map_cons, List.map_nil]; rfl) ?_; (with_reducible refine (impl_MaskImage.calls t107 t108 t109 _ _ t110 t118 t119 t120 _ _ t121 _ _ t113 t148 t149 t150 t151 t154 _ ?side1 ?side2 ?side3 ?side4 ?side5 ?side6 A79.out).mono ?_); (case side1 => refine (Kd.Q_reads' (e := 3) (base := w.heap.size) (ok := fun k_ => ((some k_ ≠ (.slice Ao12 t104.length co12 : Value).ownBlock ∧ (some k_ ≠ (.slice Ao21 t121.length co21 : Value).ownBlock ∧ some k_ ≠ (.slice Ao30 t129.length co30 : Value).ownBlock)) ∧ some k_ ≠ (.slice Ao230 t143.length co230 : Value).ownBlock)) (n := t110.length) (c := co14) ?_).2.2; exact (by exact (Q4_ HO_118003.out BK147.out (by decide) _ _ _ _))); (case side2 => exact (Kd.Q_reads' HO_118003.out).2.1); (case side3 => refine (Kd.Q_reads' (e := 3) (base := w.heap.size) (ok := fun k_ => ((some k_ ≠ (.slice Ao12 t104.length co12 : Value).ownBlock ∧ (some k_ ≠ (.slice Ao14 t110.length co14 : Value).ownBlock ∧ some k_ ≠ (.slice Ao30 t129.length co30 : Value).ownBlock)) ∧ some k_ ≠ (.slice Ao230 t143.length co230 : Value).ownBlock)) (n := t121.length) (c := co21) ?_).2.2; exact (by exact (Q4_ HO_126003.out BK147.out (by decide) _ _ _ _))); (case side4 => exact (Kd.Q_reads' HO_126003.out).2.1); (case side5 => refine (Kd.R_reads' (e := 96) (base := w.heap.size) (ok := fun k_ => (True ∧ some k_ ≠ (.slice Ao222 t136.length co222 : Value).ownBlock)) (n := t113.length) (c := co15) ?_).2.2; exact (by exact (R4_ HO_5.out BK147.out (by decide) _ _ _ _))); (case side6 => exact (Kd.R_reads' HO_5.out).2.1); rintro e w234 ⟨v152, rfl, ho0, hb⟩; refine ⟨_, rfl, ?_⟩; replace HO_5 := am_ (Kd.R_below (by exact (R4_ HO_5.out BK147.out (by decide) _ _ _ _)) hb); replace HO138 := am_ (Kd.R_below (by exact (R4_ HO138.out BK147.out (by decide) _ _ _ _)) hb); have HO153 := am_ (Kd.R_lower (Kd.R_new' (Kd.R_new' (Kd.R_new' (Kd.R_new' (Kd.R_new' ho0 (Kd.Q_lt (by exact (Q4_ HO_117003.out BK147.out (by decide) _ _ _ _)))) (Kd.Q_lt (by exact (Q4_ HO_118003.out BK147.out (by decide) _ _ _ _)))) (Kd.Q_lt (by exact (Q4_ HO_126003.out BK147.out (by decide) _ _ _ _)))) (Kd.Q_lt (by exact (Q4_ HO_134003.out BK147.out (by decide) _ _ _ _)))) (Kd.R_lt (by exact (R4_ HO145.out BK147.out (by decide) _ _ _ _)))) (below_size (by repeat (first | (with_reducible first | exact HB.out | apply below_alloc | apply pw_below_drewN | apply below_drew1 | refine below_set ?_ GE116.out | refine below_set ?_ GE117.out | refine below_set ?_ GE125.out | refine below_set ?_ GE133.out | refine below_set ?_ GE147.out) | exact HB.out)))); replace HO_117003 := am_ (Kd.Q_elder' (by exact (Q4_ HO_117003.out BK147.out (by decide) _ _ _ _)) (Kd.R_base ho0) hb); replace HO_118003 := am_ (Kd.Q_elder' (by exact (Q4_ HO_118003.out BK147.out (by decide) _ _ _ _)) (Kd.R_base ho0) hb); replace HO_126003 := am_ (Kd.Q_elder' (by exact (Q4_ HO_126003.out BK147.out (by decide) _ _ _ _)) (Kd.R_base ho0) hb); replace HO_134003 := am_ (Kd.Q_elder' (by exact (Q4_ HO_134003.out BK147.out (by decide) _ _ _ _)) (Kd.R_base ho0) hb); replace HO145 := am_ (Kd.R_elder' (by exact (R4_ HO145.out BK147.out (by decide) _ _ _ _)) (Kd.R_base ho0) hb); replace BK116 := am_ (blk_below (by exact far4_ BK116.out NB116_147.out _ _ _ _) hb); replace BK117 := am_ (blk_below (by exact far4_ BK117.out NB117_147.out _ _ _ _) hb); replace BK125 := am_ (blk_below (by exact far4_ BK125.out NB125_147.out _ _ _ _) hb); replace BK133 := am_ (blk_below (by exact far4_ BK133.out NB133_147.out _ _ _ _) hb); replace BK147 := am_ (blk_below (by exact put4_ BK147.out _ _ _ _) hb); replace HB := am_ (below_step (by repeat (first | (with_reducible first | exact HB.out | apply below_alloc | apply pw_below_drewN | apply below_drew1 | refine below_set ?_ GE116.out | refine below_set ?_ GE117.out | refine below_set ?_ GE125.out | refine below_set ?_ GE133.out | refine below_set ?_ GE147.out) | exact HB.out)) hb); (try clear hb); (try clear hb2); (try clear hk); (try clear hi); (try clear ho0)) | ((with_reducible refine gate_dst (N := 14) rfl ?_); refine box_event ?hg (N := 14) ?hd (cs := #[.int .i64 0, .int .i64 0, .int .i64 0, .slice none 0 0]) (t := 25) ?hr ?_; (case hd => rfl); (case hg => rfl); (case hr => first | (go_simp; done) | (go_simp; rfl)); intro gb155 hg w235 hbox hb; replace HO_5 := am_ (Kd.R_below (by exact HO_5.out) hb); replace HO_117003 := am_ (Kd.Q_below (by exact HO_117003.out) hb); replace HO_118003 := am_ (Kd.Q_below (by exact HO_118003.out) hb); replace HO_126003 := am_ (Kd.Q_below (by exact HO_126003.out) hb); replace HO_134003 := am_ (Kd.Q_below (by exact HO_134003.out) hb); replace HO138 := am_ (Kd.R_below (by exact HO138.out) hb); replace HO145 := am_ (Kd.R_below (by exact HO145.out) hb); replace HO153 := am_ (Kd.R_below (by exact HO153.out) hb); have BK155 := am_ (hbox); have GW155 := am_ ((by rw [hg]; exact (below_size (by repeat (first | (with_reducible first | exact HB.out | apply below_alloc | apply pw_below_drewN | apply below_drew1 | refine below_set ?_ GE116.out | refine below_set ?_ GE117.out | refine below_set ?_ GE125.out | refine below_set ?_ GE133.out | refine below_set ?_ GE147.out) | exact HB.out))) : w.heap.size ≤ gb155)); have GE155 := GW155; replace HB := am_ (below_step (by repeat (first | (with_reducible first | exact HB.out | apply below_alloc | apply pw_below_drewN | apply below_drew1 | refine below_set ?_ GE116.out | refine below_set ?_ GE117.out | refine below_set ?_ GE125.out | refine below_set ?_ GE133.out | refine below_set ?_ GE147.out) | exact HB.out)) hb); have NB116_155 := am_ ((by rw [hg]; exact Nat.ne_of_lt (blk_lt (by exact BK116.out)) : gb116 ≠ gb155)); have NB155_116 := am_ ((by rw [hg]; exact Nat.ne_of_gt (blk_lt (by exact BK116.out)) : gb155 ≠ gb116)); replace BK116 := am_ (blk_below (by exact BK116.out) hb); have NB117_155 := am_ ((by rw [hg]; exact Nat.ne_of_lt (blk_lt (by exact BK117.out)) : gb117 ≠ gb155)); have NB155_117 := am_ ((by rw [hg]; exact Nat.ne_of_gt (blk_lt (by exact BK117.out)) : gb155 ≠ gb117)); replace BK117 := am_ (blk_below (by exact BK117.out) hb); have NB125_155 := am_ ((by rw [hg]; exact Nat.ne_of_lt (blk_lt (by exact BK125.out)) : gb125 ≠ gb155)); have NB155_125 := am_ ((by rw [hg]; exact Nat.ne_of_gt (blk_lt (by exact BK125.out)) : gb155 ≠ gb125)); replace BK125 := am_ (blk_below (by exact BK125.out) hb); have NB133_155 := am_ ((by rw [hg]; exact Nat.ne_of_lt (blk_lt (by exact BK133.out)) : gb133 ≠ gb155)); have NB155_133 := am_ ((by rw [hg]; exact Nat.ne_of_gt (blk_lt (by exact BK133.out)) : gb155 ≠ gb133)); replace BK133 := am_ (blk_below (by exact BK133.out) hb); have NB147_155 := am_ ((by rw [hg]; exact Nat.ne_of_lt (blk_lt (by exact BK147.out)) : gb147 ≠ gb155)); have NB155_147 := am_ ((by rw [hg]; exact Nat.ne_of_gt (blk_lt (by exact BK147.out)) : gb155 ≠ gb147)); replace BK147 := am_ (blk_below (by exact BK147.out) hb); clear hb hbox hg; have hnb236 := NB155_116.out; have hnc236 := NB116_155.out; have hnb237 := NB155_117.out; have hnc237 := NB117_155.out; have hnb238 := NB155_125.out; have hnc238 := NB125_155.out; have hnb239 := NB155_133.out; have hnc239 := NB133_155.out; have hnb240 := NB155_147.out; have hnc240 := NB147_155.out; obtain ⟨hcz241_0, hcz241_1, hcz241_2, hcz241_3, hfz241_0, hfz241_1, hfz241_2, hfz241_3⟩ := blk4_ BK155.out; obtain ⟨Ao242, co242, eo242⟩ := Kd.R_slice HO153.out; subst eo242))
   by_cases c80 : t139 = true
   rotate_left
   ·
    replace c80 := Bool.eq_false_iff.mpr c80
    subst c80
    have H1 : (some false) = some r := by rw [if_neg (show ¬ (false = true) by decide)] at H; exact H
    clear H
    have H := H1
    clear H1
    obtain rfl := Option.some.inj H
    go_wp2
    go_ret
    exact ⟨by first | rfl | (simp [errW_none, errW_some] <;> rfl) | (simp [*, errW_none, errW_some] <;> rfl), by repeat (first | (with_reducible first | exact HB.out | apply below_alloc | apply pw_below_drewN | apply below_drew1 | refine below_set ?_ GE116.out | refine below_set ?_ GE117.out | refine below_set ?_ GE125.out | refine below_set ?_ GE133.out | refine below_set ?_ GE147.out | refine below_set ?_ GE155.out) | exact HB.out)⟩
   subst c80
   have H1 : (if t146 = true then ((laws_equalImage.f kj5 t140 t141 t142 t143 t107 t108 t109 t110).bind fun t156 => (if t156 = true then (if t154 = true then ((laws_equalImage.f kj5 t148 t149 t150 t151 t107 t108 t109 t110).bind fun t157 => (some t157)) else (some false)) else (some false))) else (some false)) = some r := by rw [if_pos rfl] at H; exact H
   clear H
   have H := H1
   clear H1
   by_cases c81 : t146 = true
   rotate_left
   ·
    replace c81 := Bool.eq_false_iff.mpr c81
    subst c81
    have H1 : (some false) = some r := by rw [if_neg (show ¬ (false = true) by decide)] at H; exact H
    clear H
    have H := H1
    clear H1
    obtain rfl := Option.some.inj H
    go_wp2
    go_ret
    exact ⟨by first | rfl | (simp [errW_none, errW_some] <;> rfl) | (simp [*, errW_none, errW_some] <;> rfl), by repeat (first | (with_reducible first | exact HB.out | apply below_alloc | apply pw_below_drewN | apply below_drew1 | refine below_set ?_ GE116.out | refine below_set ?_ GE117.out | refine below_set ?_ GE125.out | refine below_set ?_ GE133.out | refine below_set ?_ GE147.out | refine below_set ?_ GE155.out) | exact HB.out)⟩
   subst c81
   have H1 : ((laws_equalImage.f kj5 t140 t141 t142 t143 t107 t108 t109 t110).bind fun t156 => (if t156 = true then (if t154 = true then ((laws_equalImage.f kj5 t148 t149 t150 t151 t107 t108 t109 t110).bind fun t157 => (some t157)) else (some false)) else (some false))) = some r := by rw [if_pos rfl] at H; exact H
   clear H
   have H := H1
   clear H1
   replace H := Option.bind_eq_some_iff.mp H
   obtain ⟨t156, A820, H⟩ := H
   replace H : (if t156 = true then (if t154 = true then ((laws_equalImage.f kj5 t148 t149 t150 t151 t107 t108 t109 t110).bind fun t157 => (some t157)) else (some false)) else (some false)) = some r := H
   have A82 := Aside0.mk A820
   clear A820
   by_cases c83 : t156 = true
   rotate_left
   ·
    replace c83 := Bool.eq_false_iff.mpr c83
    subst c83
    have H1 : (some false) = some r := by rw [if_neg (show ¬ (false = true) by decide)] at H; exact H
    clear H
    have H := H1
    clear H1
    obtain rfl := Option.some.inj H
    obtain ⟨hcz182_0, hcz182_1, hcz182_2, hcz182_3, hfz182_0, hfz182_1, hfz182_2, hfz182_3⟩ := blk4_ BK147.out
    obtain ⟨hcz183_0, hcz183_1, hcz183_2, hcz183_3, hfz183_0, hfz183_1, hfz183_2, hfz183_3⟩ := blk4_ BK117.out
    go_wp2_with (first | (go_at_call 15; (with_reducible refine (laws_equalImage.calls kj5 t140 t141 t142 _ _ t143 t107 t108 t109 _ _ t110 false _ ?side1 ?side2 ?side3 ?side4 A82.out).mono ?_); (case side1 => refine (Kd.R_reads' (e := 3) (base := w.heap.size) (ok := fun k_ => (((((True ∧ some k_ ≠ (.slice Ao12 t104.length co12 : Value).ownBlock) ∧ some k_ ≠ (.slice Ao14 t110.length co14 : Value).ownBlock) ∧ some k_ ≠ (.slice Ao21 t121.length co21 : Value).ownBlock) ∧ some k_ ≠ (.slice Ao30 t129.length co30 : Value).ownBlock) ∧ some k_ ≠ (.slice Ao242 t151.length co242 : Value).ownBlock)) (n := t143.length) (c := co230) ?_).2.2; exact (by exact (R4_ HO145.out BK155.out (by decide) _ _ _ _))); (case side2 => exact (Kd.R_reads' HO145.out).2.1); (case side3 => refine (Kd.Q_reads' (e := 3) (base := w.heap.size) (ok := fun k_ => (((some k_ ≠ (.slice Ao12 t104.length co12 : Value).ownBlock ∧ (some k_ ≠ (.slice Ao21 t121.length co21 : Value).ownBlock ∧ some k_ ≠ (.slice Ao30 t129.length co30 : Value).ownBlock)) ∧ some k_ ≠ (.slice Ao230 t143.length co230 : Value).ownBlock) ∧ some k_ ≠ (.slice Ao242 t151.length co242 : Value).ownBlock)) (n := t110.length) (c := co14) ?_).2.2; exact (by exact (Q4_ HO_118003.out BK155.out (by decide) _ _ _ _))); (case side4 => exact (Kd.Q_reads' HO_118003.out).2.1); rintro e w184 ⟨rfl, hb⟩; replace HO_5 := am_ (Kd.R_below (by exact (R4_ HO_5.out BK155.out (by decide) _ _ _ _)) hb); replace HO_117003 := am_ (Kd.Q_below (by exact (Q4_ HO_117003.out BK155.out (by decide) _ _ _ _)) hb); replace HO_118003 := am_ (Kd.Q_below (by exact (Q4_ HO_118003.out BK155.out (by decide) _ _ _ _)) hb); replace HO_126003 := am_ (Kd.Q_below (by exact (Q4_ HO_126003.out BK155.out (by decide) _ _ _ _)) hb); replace HO_134003 := am_ (Kd.Q_below (by exact (Q4_ HO_134003.out BK155.out (by decide) _ _ _ _)) hb); replace HO138 := am_ (Kd.R_below (by exact (R4_ HO138.out BK155.out (by decide) _ _ _ _)) hb); replace HO145 := am_ (Kd.R_below (by exact (R4_ HO145.out BK155.out (by decide) _ _ _ _)) hb); replace HO153 := am_ (Kd.R_below (by exact (R4_ HO153.out BK155.out (by decide) _ _ _ _)) hb); replace BK116 := am_ (blk_below (by exact far4_ BK116.out NB116_155.out _ _ _ _) hb); replace BK117 := am_ (blk_below (by exact far4_ BK117.out NB117_155.out _ _ _ _) hb); replace BK125 := am_ (blk_below (by exact far4_ BK125.out NB125_155.out _ _ _ _) hb); replace BK133 := am_ (blk_below (by exact far4_ BK133.out NB133_155.out _ _ _ _) hb); replace BK147 := am_ (blk_below (by exact far4_ BK147.out NB147_155.out _ _ _ _) hb); replace BK155 := am_ (blk_below (by exact put4_ BK155.out _ _ _ _) hb); replace HB := am_ (below_step (by repeat (first | (with_reducible first | exact HB.out | apply below_alloc | apply pw_below_drewN | apply below_drew1 | refine below_set ?_ GE116.out | refine below_set ?_ GE117.out | refine below_set ?_ GE125.out | refine below_set ?_ GE133.out | refine below_set ?_ GE147.out | refine below_set ?_ GE155.out) | exact HB.out)) hb); (try clear hb); (try clear hb2); (try clear hk); (try clear hi)))
    go_ret
    exact ⟨by first | rfl | (simp [errW_none, errW_some] <;> rfl) | (simp [*, errW_none, errW_some] <;> rfl), by repeat (first | (with_reducible first | exact HB.out | apply below_alloc | apply pw_below_drewN | apply below_drew1 | refine below_set ?_ GE116.out | refine below_set ?_ GE117.out | refine below_set ?_ GE125.out | refine below_set ?_ GE133.out | refine below_set ?_ GE147.out | refine below_set ?_ GE155.out) | exact HB.out)⟩
   subst c83
   have H1 : (if t154 = true then ((laws_equalImage.f kj5 t148 t149 t150 t151 t107 t108 t109 t110).bind fun t157 => (some t157)) else (some false)) = some r := by rw [if_pos rfl] at H; exact H
   clear H
   have H := H1
   clear H1
   by_cases c84 : t154 = true
   ·
    subst c84
    have H1 : ((laws_equalImage.f kj5 t148 t149 t150 t151 t107 t108 t109 t110).bind fun t157 => (some t157)) = some r := by rw [if_pos rfl] at H; exact H
    clear H
    have H := H1
    clear H1
    replace H := Option.bind_eq_some_iff.mp H
    obtain ⟨t157, A850, H⟩ := H
    replace H : (some t157) = some r := H
    have A85 := Aside0.mk A850
    clear A850
    obtain rfl := Option.some.inj H
    obtain ⟨hcz115_0, hcz115_1, hcz115_2, hcz115_3, hfz115_0, hfz115_1, hfz115_2, hfz115_3⟩ := blk4_ BK147.out
    obtain ⟨hcz116_0, hcz116_1, hcz116_2, hcz116_3, hfz116_0, hfz116_1, hfz116_2, hfz116_3⟩ := blk4_ BK117.out
    go_wp2_with (first | (go_at_call 15; (with_reducible refine (laws_equalImage.calls kj5 t140 t141 t142 _ _ t143 t107 t108 t109 _ _ t110 true _ ?side1 ?side2 ?side3 ?side4 A82.out).mono ?_); (case side1 => refine (Kd.R_reads' (e := 3) (base := w.heap.size) (ok := fun k_ => (((((True ∧ some k_ ≠ (.slice Ao12 t104.length co12 : Value).ownBlock) ∧ some k_ ≠ (.slice Ao14 t110.length co14 : Value).ownBlock) ∧ some k_ ≠ (.slice Ao21 t121.length co21 : Value).ownBlock) ∧ some k_ ≠ (.slice Ao30 t129.length co30 : Value).ownBlock) ∧ some k_ ≠ (.slice Ao242 t151.length co242 : Value).ownBlock)) (n := t143.length) (c := co230) ?_).2.2; exact (by exact (R4_ HO145.out BK155.out (by decide) _ _ _ _))); (case side2 => exact (Kd.R_reads' HO145.out).2.1); (case side3 => refine (Kd.Q_reads' (e := 3) (base := w.heap.size) (ok := fun k_ => (((some k_ ≠ (.slice Ao12 t104.length co12 : Value).ownBlock ∧ (some k_ ≠ (.slice Ao21 t121.length co21 : Value).ownBlock ∧ some k_ ≠ (.slice Ao30 t129.length co30 : Value).ownBlock)) ∧ some k_ ≠ (.slice Ao230 t143.length co230 : Value).ownBlock) ∧ some k_ ≠ (.slice Ao242 t151.length co242 : Value).ownBlock)) (n := t110.length) (c := co14) ?_).2.2; exact (by exact (Q4_ HO_118003.out BK155.out (by decide) _ _ _ _))); (case side4 => exact (Kd.Q_reads' HO_118003.out).2.1); rintro e w117 ⟨rfl, hb⟩; replace HO_5 := am_ (Kd.R_below (by exact (R4_ HO_5.out BK155.out (by decide) _ _ _ _)) hb); replace HO_117003 := am_ (Kd.Q_below (by exact (Q4_ HO_117003.out BK155.out (by decide) _ _ _ _)) hb); replace HO_118003 := am_ (Kd.Q_below (by exact (Q4_ HO_118003.out BK155.out (by decide) _ _ _ _)) hb); replace HO_126003 := am_ (Kd.Q_below (by exact (Q4_ HO_126003.out BK155.out (by decide) _ _ _ _)) hb); replace HO_134003 := am_ (Kd.Q_below (by exact (Q4_ HO_134003.out BK155.out (by decide) _ _ _ _)) hb); replace HO138 := am_ (Kd.R_below (by exact (R4_ HO138.out BK155.out (by decide) _ _ _ _)) hb); replace HO145 := am_ (Kd.R_below (by exact (R4_ HO145.out BK155.out (by decide) _ _ _ _)) hb); replace HO153 := am_ (Kd.R_below (by exact (R4_ HO153.out BK155.out (by decide) _ _ _ _)) hb); replace BK116 := am_ (blk_below (by exact far4_ BK116.out NB116_155.out _ _ _ _) hb); replace BK117 := am_ (blk_below (by exact far4_ BK117.out NB117_155.out _ _ _ _) hb); replace BK125 := am_ (blk_below (by exact far4_ BK125.out NB125_155.out _ _ _ _) hb); replace BK133 := am_ (blk_below (by exact far4_ BK133.out NB133_155.out _ _ _ _) hb); replace BK147 := am_ (blk_below (by exact far4_ BK147.out NB147_155.out _ _ _ _) hb); replace BK155 := am_ (blk_below (by exact put4_ BK155.out _ _ _ _) hb); replace HB := am_ (below_step (by repeat (first | (with_reducible first | exact HB.out | apply below_alloc | apply pw_below_drewN | apply below_drew1 | refine below_set ?_ GE116.out | refine below_set ?_ GE117.out | refine below_set ?_ GE125.out | refine below_set ?_ GE133.out | refine below_set ?_ GE147.out | refine below_set ?_ GE155.out) | exact HB.out)) hb); (try clear hb); (try clear hb2); (try clear hk); (try clear hi); obtain ⟨hcz118_0, hcz118_1, hcz118_2, hcz118_3, hfz118_0, hfz118_1, hfz118_2, hfz118_3⟩ := blk4_ BK155.out; obtain ⟨hcz119_0, hcz119_1, hcz119_2, hcz119_3, hfz119_0, hfz119_1, hfz119_2, hfz119_3⟩ := blk4_ BK117.out) | (go_at_call 15; (with_reducible refine (laws_equalImage.calls kj5 t148 t149 t150 _ _ t151 t107 t108 t109 _ _ t110 t157 _ ?side1 ?side2 ?side3 ?side4 A85.out).mono ?_); (case side1 => repeat (first | exact (Kd.R_reads' HO153.out).2.2 | (with_reducible refine Kd.C_alloc ?_ _) | (with_reducible refine Kd.C_drewN ?_ _) | (with_reducible refine Kd.C_drew ?_))); (case side2 => exact (Kd.R_reads' HO153.out).2.1); (case side3 => repeat (first | exact (Kd.Q_reads' HO_118003.out).2.2 | (with_reducible refine Kd.C_alloc ?_ _) | (with_reducible refine Kd.C_drewN ?_ _) | (with_reducible refine Kd.C_drew ?_))); (case side4 => exact (Kd.Q_reads' HO_118003.out).2.1); rintro e w120 ⟨rfl, hb⟩; replace HO_5 := am_ (Kd.R_below (by exact HO_5.out) hb); replace HO_117003 := am_ (Kd.Q_below (by exact HO_117003.out) hb); replace HO_118003 := am_ (Kd.Q_below (by exact HO_118003.out) hb); replace HO_126003 := am_ (Kd.Q_below (by exact HO_126003.out) hb); replace HO_134003 := am_ (Kd.Q_below (by exact HO_134003.out) hb); replace HO138 := am_ (Kd.R_below (by exact HO138.out) hb); replace HO145 := am_ (Kd.R_below (by exact HO145.out) hb); replace HO153 := am_ (Kd.R_below (by exact HO153.out) hb); replace BK116 := am_ (blk_below (by exact BK116.out) hb); replace BK117 := am_ (blk_below (by exact BK117.out) hb); replace BK125 := am_ (blk_below (by exact BK125.out) hb); replace BK133 := am_ (blk_below (by exact BK133.out) hb); replace BK147 := am_ (blk_below (by exact BK147.out) hb); replace BK155 := am_ (blk_below (by exact BK155.out) hb); replace HB := am_ (below_step (by repeat (first | (with_reducible first | exact HB.out | apply below_alloc | apply pw_below_drewN | apply below_drew1 | refine below_set ?_ GE116.out | refine below_set ?_ GE117.out | refine below_set ?_ GE125.out | refine below_set ?_ GE133.out | refine below_set ?_ GE147.out | refine below_set ?_ GE155.out) | exact HB.out)) hb); (try clear hb); (try clear hb2); (try clear hk); (try clear hi)))
    go_ret
    exact ⟨by first | rfl | (simp [errW_none, errW_some] <;> rfl) | (simp [*, errW_none, errW_some] <;> rfl), by repeat (first | (with_reducible first | exact HB.out | apply below_alloc | apply pw_below_drewN | apply below_drew1 | refine below_set ?_ GE116.out | refine below_set ?_ GE117.out | refine below_set ?_ GE125.out | refine below_set ?_ GE133.out | refine below_set ?_ GE147.out | refine below_set ?_ GE155.out) | exact HB.out)⟩
   replace c84 := Bool.eq_false_iff.mpr c84
   subst c84
   have H1 : (some false) = some r := by rw [if_neg (show ¬ (false = true) by decide)] at H; exact H
   clear H
   have H := H1
   clear H1
   obtain rfl := Option.some.inj H
   obtain ⟨hcz150_0, hcz150_1, hcz150_2, hcz150_3, hfz150_0, hfz150_1, hfz150_2, hfz150_3⟩ := blk4_ BK147.out
   obtain ⟨hcz151_0, hcz151_1, hcz151_2, hcz151_3, hfz151_0, hfz151_1, hfz151_2, hfz151_3⟩ := blk4_ BK117.out
   go_wp2_with (first | (go_at_call 15; (with_reducible refine (laws_equalImage.calls kj5 t140 t141 t142 _ _ t143 t107 t108 t109 _ _ t110 true _ ?side1 ?side2 ?side3 ?side4 A82.out).mono ?_); (case side1 => refine (Kd.R_reads' (e := 3) (base := w.heap.size) (ok := fun k_ => (((((True ∧ some k_ ≠ (.slice Ao12 t104.length co12 : Value).ownBlock) ∧ some k_ ≠ (.slice Ao14 t110.length co14 : Value).ownBlock) ∧ some k_ ≠ (.slice Ao21 t121.length co21 : Value).ownBlock) ∧ some k_ ≠ (.slice Ao30 t129.length co30 : Value).ownBlock) ∧ some k_ ≠ (.slice Ao242 t151.length co242 : Value).ownBlock)) (n := t143.length) (c := co230) ?_).2.2; exact (by exact (R4_ HO145.out BK155.out (by decide) _ _ _ _))); (case side2 => exact (Kd.R_reads' HO145.out).2.1); (case side3 => refine (Kd.Q_reads' (e := 3) (base := w.heap.size) (ok := fun k_ => (((some k_ ≠ (.slice Ao12 t104.length co12 : Value).ownBlock ∧ (some k_ ≠ (.slice Ao21 t121.length co21 : Value).ownBlock ∧ some k_ ≠ (.slice Ao30 t129.length co30 : Value).ownBlock)) ∧ some k_ ≠ (.slice Ao230 t143.length co230 : Value).ownBlock) ∧ some k_ ≠ (.slice Ao242 t151.length co242 : Value).ownBlock)) (n := t110.length) (c := co14) ?_).2.2; exact (by exact (Q4_ HO_118003.out BK155.out (by decide) _ _ _ _))); (case side4 => exact (Kd.Q_reads' HO_118003.out).2.1); rintro e w152 ⟨rfl, hb⟩; replace HO_5 := am_ (Kd.R_below (by exact (R4_ HO_5.out BK155.out (by decide) _ _ _ _)) hb); replace HO_117003 := am_ (Kd.Q_below (by exact (Q4_ HO_117003.out BK155.out (by decide) _ _ _ _)) hb); replace HO_118003 := am_ (Kd.Q_below (by exact (Q4_ HO_118003.out BK155.out (by decide) _ _ _ _)) hb); replace HO_126003 := am_ (Kd.Q_below (by exact (Q4_ HO_126003.out BK155.out (by decide) _ _ _ _)) hb); replace HO_134003 := am_ (Kd.Q_below (by exact (Q4_ HO_134003.out BK155.out (by decide) _ _ _ _)) hb); replace HO138 := am_ (Kd.R_below (by exact (R4_ HO138.out BK155.out (by decide) _ _ _ _)) hb); replace HO145 := am_ (Kd.R_below (by exact (R4_ HO145.out BK155.out (by decide) _ _ _ _)) hb); replace HO153 := am_ (Kd.R_below (by exact (R4_ HO153.out BK155.out (by decide) _ _ _ _)) hb); replace BK116 := am_ (blk_below (by exact far4_ BK116.out NB116_155.out _ _ _ _) hb); replace BK117 := am_ (blk_below (by exact far4_ BK117.out NB117_155.out _ _ _ _) hb); replace BK125 := am_ (blk_below (by exact far4_ BK125.out NB125_155.out _ _ _ _) hb); replace BK133 := am_ (blk_below (by exact far4_ BK133.out NB133_155.out _ _ _ _) hb); replace BK147 := am_ (blk_below (by exact far4_ BK147.out NB147_155.out _ _ _ _) hb); replace BK155 := am_ (blk_below (by exact put4_ BK155.out _ _ _ _) hb); replace HB := am_ (below_step (by repeat (first | (with_reducible first | exact HB.out | apply below_alloc | apply pw_below_drewN | apply below_drew1 | refine below_set ?_ GE116.out | refine below_set ?_ GE117.out | refine below_set ?_ GE125.out | refine below_set ?_ GE133.out | refine below_set ?_ GE147.out | refine below_set ?_ GE155.out) | exact HB.out)) hb); (try clear hb); (try clear hb2); (try clear hk); (try clear hi)))
   go_ret
   exact ⟨by first | rfl | (simp [errW_none, errW_some] <;> rfl) | (simp [*, errW_none, errW_some] <;> rfl), by repeat (first | (with_reducible first | exact HB.out | apply below_alloc | apply pw_below_drewN | apply below_drew1 | refine below_set ?_ GE116.out | refine below_set ?_ GE117.out | refine below_set ?_ GE125.out | refine below_set ?_ GE133.out | refine below_set ?_ GE147.out | refine below_set ?_ GE155.out) | exact HB.out)⟩

/-- THE ONE PURE STATEMENT of laws_FnMaskImage: yours. -/
def laws_FnMaskImage.Pure : Prop := ∀ (l0 : List Int), l0.length ≤ maxLen → l0.length * 1 ≤ 140737488351232 → (∀ x ∈ l0, (Lit.int .u8 x).wf = true) → ∃ k, laws_FnMaskImage.f k l0 = some true
theorem laws_FnMaskImage.walk (P : laws_FnMaskImage.Pure) (a0 : Option Addr) (len0 cap0 : Nat) (z0 : List Int) (w : World) (w0 : (a0 = none ∧ len0 = 0 ∧ cap0 = 0 ∧ z0 = []) ∨ ∃ x, a0 = some x ∧ len0 ≤ cap0 ∧ cap0 ≤ maxLen ∧ z0.length = cap0 ∧ (∀ i, i < z0.length → w.cell? (x.add i) = some (.int .u8 (z0.getD i 0))) ∧ ∀ n ∈ z0, (Lit.int .u8 n).wf = true) (y0 : len0 * 1 ≤ 140737488351232) :
  Calls Try.prog 3 #[.slice a0 len0 cap0] w fun e w' => e = .returned (.bool true) ∧ Below w.heap.size w w' := by
 obtain ⟨l0, rfl, hr0, hm0, hw0, hc0⟩ := ReadsInt.ofRowC w0
 obtain ⟨k, h⟩ := P l0 hm0 y0 hw0
 refine (laws_FnMaskImage.calls k _ _ l0 true w (Kd.C_of_reads (d := (0 : Int)) (h1 := fun _ => rfl) hr0) hc0 h).mono ?_
 rintro e w' ⟨rfl, hd⟩
 exact ⟨rfl, hd⟩

end Go.Proofs.Ytbciflelcmmldaa.Print
