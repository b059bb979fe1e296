-- laid by hp.py (a program of this work over the kit's print), with contracts by hand for what the print does not take
import Derived.Test.YtonolnojpejgnaaPrint0
import Derived.Test.YtonolnojpejgnaaPrintHimplMapImage
import Derived.Test.YtonolnojpejgnaaPrintHx0
import Derived.Test.YtonolnojpejgnaaPrintHx2
import Derived.Test.YtonolnojpejgnaaPrintR1x2
import Derived.Test.YtonolnojpejgnaaPrintR1x4
namespace Go.Proofs.Ytonolnojpejgnaa.Print
open Go.RowKit Go.Proofs.YtonolnojpejgnaaW.PrintWords Go.Proofs.YtonolnojpejgnaaW.PrintLast Go.Proofs.YtonolnojpejgnaaW.PrintMore
attribute [local go_sem] max2_int min2_int max_two min_two max_three min_three max_four min_four   -- for this text's walks alone
set_option linter.unusedVariables false
set_option linter.unusedSimpArgs false

/-! ### laws_FnMapImageInvert: function 9 -/
mutual
def laws_FnMapImageInvert.j0 : Nat → Bool → Bool → Bool → Int → Int → Int → List Int → Int → Int → Int → List Int → Int → Int → Int → List Int → Option (Bool)
 | 0, _, _, _, _, _, _, _, _, _, _, _, _, _, _, _ => none
 | k + 1, x6, x8, x45, x111000, x111001, x111002, x111003, x119000, x119001, x119002, x119003, x127000, x127001, x127002, x127003 => if x45 = true then ((laws_equalImage.f k x119000 x119001 x119002 x119003 x127000 x127001 x127002 x127003).bind fun t128 => (if t128 = true then (some (x6 == x8)) else (some false))) else (laws_FnMapImageInvert.l0 k (([] : List Int)) 255 x111000 x111001 x111002 x111003)
def laws_FnMapImageInvert.l0 : Nat → List Int → Int → Int → Int → Int → List Int → Option (Bool)
 | 0, _, _, _, _, _, _ => none
 | k + 1, x9, x10, x111000, x111001, x111002, x111003 => if x10 ≥ 0 then (if x9.length < 17592186044416 then (laws_FnMapImageInvert.l0 k (x9 ++ [x10]) (wrap64 (x10 - 1)) x111000 x111001 x111002 x111003) else (none)) else ((impl_MapImage.f x111000 x111001 x111002 x111003 x9).bind fun bt135 => (if bt135.2.2.2.2 = true then ((impl_InvertImage.f x111000 x111001 x111002 x111003).bind fun bt143 => ((laws_equalImage.f k bt135.1 bt135.2.1 bt135.2.2.1 bt135.2.2.2.1 bt143.1 bt143.2.1 bt143.2.2.1 bt143.2.2.2).bind fun t149 => (some t149))) else (some false)))
end
def laws_FnMapImageInvert.f (k : Nat) (l0 : List Int) : Option (Bool) := if (l0.length : Int) > 1048576 then (some true) else ((spec_DrawMapImage.f k l0).bind fun bt101 => ((impl_MapImage.f bt101.1 bt101.2.1 bt101.2.2.1 bt101.2.2.2.1 bt101.2.2.2.2).bind fun bt111 => ((spec_MapImage.f k bt101.1 bt101.2.1 bt101.2.2.1 bt101.2.2.2.1 bt101.2.2.2.2).bind fun bt119 => ((laws_equalImage.f k bt111.1 bt111.2.1 bt111.2.2.1 bt111.2.2.2.1 bt119.1 bt119.2.1 bt119.2.2.1 bt119.2.2.2.1).bind fun t127 => (if t127 = true then (if (bt111.2.2.2.2 != bt119.2.2.2.2) = true then (laws_FnMapImageInvert.j0 k bt111.2.2.2.2 bt119.2.2.2.2 true bt101.1 bt101.2.1 bt101.2.2.1 bt101.2.2.2.1 bt111.1 bt111.2.1 bt111.2.2.1 bt111.2.2.2.1 bt119.1 bt119.2.1 bt119.2.2.1 bt119.2.2.2.1) else (laws_FnMapImageInvert.j0 k bt111.2.2.2.2 bt119.2.2.2.2 (!bt111.2.2.2.2) bt101.1 bt101.2.1 bt101.2.2.1 bt101.2.2.2.1 bt111.1 bt111.2.1 bt111.2.2.1 bt111.2.2.2.1 bt119.1 bt119.2.1 bt119.2.2.1 bt119.2.2.2.1)) else (laws_FnMapImageInvert.j0 k bt111.2.2.2.2 bt119.2.2.2.2 true bt101.1 bt101.2.1 bt101.2.2.1 bt101.2.2.2.1 bt111.1 bt111.2.1 bt111.2.2.1 bt111.2.2.2.1 bt119.1 bt119.2.1 bt119.2.2.1 bt119.2.2.2.1))))))
theorem laws_FnMapImageInvert.mono_l : ∀ k, (∀ y0 y1 y2 y3 y4 y5 y6 y7 y8 y9 y10 y11 y12 y13 y14, LeO (laws_FnMapImageInvert.j0 k y0 y1 y2 y3 y4 y5 y6 y7 y8 y9 y10 y11 y12 y13 y14) (laws_FnMapImageInvert.j0 (k + 1) y0 y1 y2 y3 y4 y5 y6 y7 y8 y9 y10 y11 y12 y13 y14)) ∧ (∀ y0 y1 y2 y3 y4 y5, LeO (laws_FnMapImageInvert.l0 k y0 y1 y2 y3 y4 y5) (laws_FnMapImageInvert.l0 (k + 1) y0 y1 y2 y3 y4 y5))
 | 0 => ⟨fun _ _ _ _ _ _ _ _ _ _ _ _ _ _ _ r h => by simp [laws_FnMapImageInvert.j0] at h, fun _ _ _ _ _ _ r h => by simp [laws_FnMapImageInvert.l0] at h⟩
 | k + 1 => by
  obtain ⟨ih0, ih1⟩ := laws_FnMapImageInvert.mono_l k
  refine ⟨?_, ?_⟩
  ·
   intro y0 y1 y2 y3 y4 y5 y6 y7 y8 y9 y10 y11 y12 y13 y14
   unfold laws_FnMapImageInvert.j0
   repeat' first
   | (with_reducible exact ih0 _ _ _ _ _ _ _ _ _ _ _ _ _ _ _)
   | (with_reducible exact ih1 _ _ _ _ _ _)
   | (with_reducible exact laws_equalImage.mono _ _ _ _ _ _ _ _ _)
   | (with_reducible exact spec_DrawMapImage.mono _ _)
   | (with_reducible exact spec_MapImage.mono _ _ _ _ _ _)
   | (with_reducible exact LeO.refl _)
   | (with_reducible exact LeO.none _)
   | (with_reducible refine LeO.ite ?_ ?_)
   | (with_reducible refine LeO.bind ?_ (fun _ => ?_))
   | exact ih0 _ _ _ _ _ _ _ _ _ _ _ _ _ _ _
   | exact ih1 _ _ _ _ _ _
   | exact laws_equalImage.mono _ _ _ _ _ _ _ _ _
   | exact spec_DrawMapImage.mono _ _
   | exact spec_MapImage.mono _ _ _ _ _ _
   | exact LeO.none _
   | refine LeO.ite ?_ ?_
   | refine LeO.bind ?_ (fun _ => ?_)
  ·
   intro y0 y1 y2 y3 y4 y5
   unfold laws_FnMapImageInvert.l0
   repeat' first
   | (with_reducible exact ih0 _ _ _ _ _ _ _ _ _ _ _ _ _ _ _)
   | (with_reducible exact ih1 _ _ _ _ _ _)
   | (with_reducible exact laws_equalImage.mono _ _ _ _ _ _ _ _ _)
   | (with_reducible exact spec_DrawMapImage.mono _ _)
   | (with_reducible exact spec_MapImage.mono _ _ _ _ _ _)
   | (with_reducible exact LeO.refl _)
   | (with_reducible exact LeO.none _)
   | (with_reducible refine LeO.ite ?_ ?_)
   | (with_reducible refine LeO.bind ?_ (fun _ => ?_))
   | exact ih0 _ _ _ _ _ _ _ _ _ _ _ _ _ _ _
   | exact ih1 _ _ _ _ _ _
   | exact laws_equalImage.mono _ _ _ _ _ _ _ _ _
   | exact spec_DrawMapImage.mono _ _
   | exact spec_MapImage.mono _ _ _ _ _ _
   | exact LeO.none _
   | refine LeO.ite ?_ ?_
   | refine LeO.bind ?_ (fun _ => ?_)
theorem laws_FnMapImageInvert.mono : ∀ a0 k, LeO (laws_FnMapImageInvert.f k a0) (laws_FnMapImageInvert.f (k + 1) a0) := by
 intro a0 k
 obtain ⟨ih0, ih1⟩ := laws_FnMapImageInvert.mono_l k
 unfold laws_FnMapImageInvert.f
 repeat' first
   | (with_reducible exact ih0 _ _ _ _ _ _ _ _ _ _ _ _ _ _ _)
   | (with_reducible exact ih1 _ _ _ _ _ _)
   | (with_reducible exact laws_equalImage.mono _ _ _ _ _ _ _ _ _)
   | (with_reducible exact spec_DrawMapImage.mono _ _)
   | (with_reducible exact spec_MapImage.mono _ _ _ _ _ _)
   | (with_reducible exact LeO.refl _)
   | (with_reducible exact LeO.none _)
   | (with_reducible refine LeO.ite ?_ ?_)
   | (with_reducible refine LeO.bind ?_ (fun _ => ?_))
   | exact ih0 _ _ _ _ _ _ _ _ _ _ _ _ _ _ _
   | exact ih1 _ _ _ _ _ _
   | exact laws_equalImage.mono _ _ _ _ _ _ _ _ _
   | exact spec_DrawMapImage.mono _ _
   | exact spec_MapImage.mono _ _ _ _ _ _
   | exact LeO.none _
   | refine LeO.ite ?_ ?_
   | refine LeO.bind ?_ (fun _ => ?_)
def laws_FnMapImageInvert.T14 : Bool × List (List Nat × List Nat) := (true, [([], []), ([0], [0]), ([1], [1]), ([1], [1]), ([3, 1, 1], [1, 3]), ([2, 4, 4, 1], [1, 2, 4]), ([1, 5], [1, 5]), ([6, 5, 0, 1, 2, 3, 4, 5, 6], [6])])
def laws_FnMapImageInvert.B14 : List Nat := [0, 1, 3, 3, 11, 31, 63, 127]
theorem laws_FnMapImageInvert.tab14 : rtab .any (opsOf Try.f9 14) = laws_FnMapImageInvert.T14 := by kernel_rfl
theorem laws_FnMapImageInvert.bits14 : waitsOk laws_FnMapImageInvert.T14.2 laws_FnMapImageInvert.B14 = true := by kernel_rfl
set_option maxHeartbeats 8000000 in
set_option maxRecDepth 100000 in
theorem laws_FnMapImageInvert.calls (k : Nat) (A0 : Option Addr) (c0 : Nat) (l0 : List Int) (r : Bool) (w : World) (hr0 : Kd.C (Kd.int .u8) w A0 l0.length l0) (hc0 : l0.length ≤ c0) (h : laws_FnMapImageInvert.f k l0 = some r) :
  Calls Try.prog 9 #[.slice A0 l0.length c0] w fun e w' => e = .returned (.bool r) ∧ Below w.heap.size w w' := by
 have hu27 := Try.underlying27
 have HR0 := Aside0.mk hr0
 have HC0 := Aside0.mk hc0
 clear hr0 hc0
 have HB := Aside0.mk (Below.refl w.heap.size w)
 have H : (if (l0.length : Int) > 1048576 then (some true) else ((spec_DrawMapImage.f k l0).bind fun bt101 => ((impl_MapImage.f bt101.1 bt101.2.1 bt101.2.2.1 bt101.2.2.2.1 bt101.2.2.2.2).bind fun bt111 => ((spec_MapImage.f k bt101.1 bt101.2.1 bt101.2.2.1 bt101.2.2.2.1 bt101.2.2.2.2).bind fun bt119 => ((laws_equalImage.f k bt111.1 bt111.2.1 bt111.2.2.1 bt111.2.2.2.1 bt119.1 bt119.2.1 bt119.2.2.1 bt119.2.2.2.1).bind fun t127 => (if t127 = true then (if (bt111.2.2.2.2 != bt119.2.2.2.2) = true then (laws_FnMapImageInvert.j0 k bt111.2.2.2.2 bt119.2.2.2.2 true bt101.1 bt101.2.1 bt101.2.2.1 bt101.2.2.2.1 bt111.1 bt111.2.1 bt111.2.2.1 bt111.2.2.2.1 bt119.1 bt119.2.1 bt119.2.2.1 bt119.2.2.2.1) else (laws_FnMapImageInvert.j0 k bt111.2.2.2.2 bt119.2.2.2.2 (!bt111.2.2.2.2) bt101.1 bt101.2.1 bt101.2.2.1 bt101.2.2.2.1 bt111.1 bt111.2.1 bt111.2.2.1 bt111.2.2.2.1 bt119.1 bt119.2.1 bt119.2.2.1 bt119.2.2.2.1)) else (laws_FnMapImageInvert.j0 k bt111.2.2.2.2 bt119.2.2.2.2 true bt101.1 bt101.2.1 bt101.2.2.1 bt101.2.2.2.1 bt111.1 bt111.2.1 bt111.2.2.1 bt111.2.2.2.1 bt119.1 bt119.2.1 bt119.2.2.1 bt119.2.2.2.1))))))) = some r := h
 clear h
 by_cases c2 : (l0.length : Int) > 1048576
 ·
  rw [if_pos c2] at H
  have c2b0 : decide (1048576 < (l0.length : Int)) = true := decide_eq_true c2
  have c2b1 : decide (1048576 < l0.length) = true := decide_eq_true (by omega)
  clear c2
  obtain rfl := Option.some.inj H
  go_enter Try.func9, Try.ntmps9
  go_wp2
  go_ret
  exact ⟨by first | rfl | (simp [errW_none, errW_some] <;> rfl) | (simp [*, errW_none, errW_some] <;> rfl), by repeat (first | (with_reducible first | exact HB.out | apply below_alloc | apply pw_below_drewN | apply below_drew1) | exact HB.out)⟩
 ·
  rw [if_neg c2] at H
  have c2b0 : decide (1048576 < (l0.length : Int)) = false := decide_eq_false c2
  have c2b1 : decide (1048576 < l0.length) = false := decide_eq_false (by omega)
  clear c2
  replace H := Option.bind_eq_some_iff.mp H
  obtain ⟨⟨t101, t102, t103, t104, t107⟩, A30, H⟩ := H
  replace H : ((impl_MapImage.f t101 t102 t103 t104 t107).bind fun bt111 => ((spec_MapImage.f k t101 t102 t103 t104 t107).bind fun bt119 => ((laws_equalImage.f k bt111.1 bt111.2.1 bt111.2.2.1 bt111.2.2.2.1 bt119.1 bt119.2.1 bt119.2.2.1 bt119.2.2.2.1).bind fun t127 => (if t127 = true then (if (bt111.2.2.2.2 != bt119.2.2.2.2) = true then (laws_FnMapImageInvert.j0 k bt111.2.2.2.2 bt119.2.2.2.2 true t101 t102 t103 t104 bt111.1 bt111.2.1 bt111.2.2.1 bt111.2.2.2.1 bt119.1 bt119.2.1 bt119.2.2.1 bt119.2.2.2.1) else (laws_FnMapImageInvert.j0 k bt111.2.2.2.2 bt119.2.2.2.2 (!bt111.2.2.2.2) t101 t102 t103 t104 bt111.1 bt111.2.1 bt111.2.2.1 bt111.2.2.2.1 bt119.1 bt119.2.1 bt119.2.2.1 bt119.2.2.2.1)) else (laws_FnMapImageInvert.j0 k bt111.2.2.2.2 bt119.2.2.2.2 true t101 t102 t103 t104 bt111.1 bt111.2.1 bt111.2.2.1 bt111.2.2.2.1 bt119.1 bt119.2.1 bt119.2.2.1 bt119.2.2.2.1))))) = some r := H
  have A3 := Aside0.mk A30
  clear A30
  replace H := Option.bind_eq_some_iff.mp H
  obtain ⟨⟨t111, t112, t113, t114, t117⟩, A40, H⟩ := H
  replace H : ((spec_MapImage.f k t101 t102 t103 t104 t107).bind fun bt119 => ((laws_equalImage.f k t111 t112 t113 t114 bt119.1 bt119.2.1 bt119.2.2.1 bt119.2.2.2.1).bind fun t127 => (if t127 = true then (if (t117 != bt119.2.2.2.2) = true then (laws_FnMapImageInvert.j0 k t117 bt119.2.2.2.2 true t101 t102 t103 t104 t111 t112 t113 t114 bt119.1 bt119.2.1 bt119.2.2.1 bt119.2.2.2.1) else (laws_FnMapImageInvert.j0 k t117 bt119.2.2.2.2 (!t117) t101 t102 t103 t104 t111 t112 t113 t114 bt119.1 bt119.2.1 bt119.2.2.1 bt119.2.2.2.1)) else (laws_FnMapImageInvert.j0 k t117 bt119.2.2.2.2 true t101 t102 t103 t104 t111 t112 t113 t114 bt119.1 bt119.2.1 bt119.2.2.1 bt119.2.2.2.1)))) = some r := H
  have A4 := Aside0.mk A40
  clear A40
  replace H := Option.bind_eq_some_iff.mp H
  obtain ⟨⟨t119, t120, t121, t122, t125⟩, A50, H⟩ := H
  replace H : ((laws_equalImage.f k t111 t112 t113 t114 t119 t120 t121 t122).bind fun t127 => (if t127 = true then (if (t117 != t125) = true then (laws_FnMapImageInvert.j0 k t117 t125 true t101 t102 t103 t104 t111 t112 t113 t114 t119 t120 t121 t122) else (laws_FnMapImageInvert.j0 k t117 t125 (!t117) t101 t102 t103 t104 t111 t112 t113 t114 t119 t120 t121 t122)) else (laws_FnMapImageInvert.j0 k t117 t125 true t101 t102 t103 t104 t111 t112 t113 t114 t119 t120 t121 t122))) = some r := H
  have A5 := Aside0.mk A50
  clear A50
  have HC6 := Aside0.mk H
  clear H
  go_enter Try.func9, Try.ntmps9
  go_upto_region 6 with (first | ((with_reducible refine gate_callee (f := 30) rfl ?_); refine goesL_ (some 18) rfl rfl Try.func30 (by kernel_rfl) rfl #[.slice A0 l0.length c0] rfl (by simp only [List.map_toArray, List.map_cons, List.map_nil]; rfl) ?_; (with_reducible refine (spec_DrawMapImage.calls k _ _ l0 t101 t102 t103 t104 t107 _ ?side1 ?side2 A3.out).mono ?_); (case side1 => repeat (first | exact HR0.out | (with_reducible refine Kd.C_alloc ?_ _) | (with_reducible refine Kd.C_drewN ?_ _) | (with_reducible refine Kd.C_drew ?_))); (case side2 => exact HC0.out); rintro e w7 ⟨v105, v108, rfl, ho0, ho1, hb⟩; refine ⟨_, rfl, ?_⟩; have HO106 := am_ (Kd.Q_lower ho0 (below_size (by repeat (first | (with_reducible first | exact HB.out | apply below_alloc | apply pw_below_drewN | apply below_drew1) | exact HB.out)))); have HO109 := am_ (Kd.Q_lower ho1 (below_size (by repeat (first | (with_reducible first | exact HB.out | apply below_alloc | apply pw_below_drewN | apply below_drew1) | exact HB.out)))); replace HB := am_ (below_step (by repeat (first | (with_reducible first | exact HB.out | apply below_alloc | apply pw_below_drewN | apply below_drew1) | exact HB.out)) hb); (try clear hb); (try clear hb2); (try clear hk); (try clear hi); (try clear ho0); (try clear ho1)) | ((with_reducible refine gate_dst (N := 3) rfl ?_); refine box_event ?hg (N := 3) ?hd (cs := #[.int .i64 0, .int .i64 0, .int .i64 0, .slice none 0 0]) (t := 27) ?hr ?_; (case hd => rfl); (case hg => rfl); (case hr => first | (go_simp; done) | (go_simp; rfl)); intro gb110 hg w8 hbox hb; replace HO106 := am_ (Kd.Q_below (by exact HO106.out) hb); replace HO109 := am_ (Kd.Q_below (by exact HO109.out) hb); have BK110 := am_ (hbox); have GW110 := am_ ((by rw [hg]; exact (below_size (by repeat (first | (with_reducible first | exact HB.out | apply below_alloc | apply pw_below_drewN | apply below_drew1) | exact HB.out))) : w.heap.size ≤ gb110)); have GE110 := GW110; replace HB := am_ (below_step (by repeat (first | (with_reducible first | exact HB.out | apply below_alloc | apply pw_below_drewN | apply below_drew1) | exact HB.out)) hb); clear hb hbox hg; obtain ⟨hcz9_0, hcz9_1, hcz9_2, hcz9_3, hfz9_0, hfz9_1, hfz9_2, hfz9_3⟩ := blk4_ BK110.out; obtain ⟨Ao10, co10, eo10, _⟩ := Kd.Q_slice HO106.out; subst eo10; obtain ⟨Ao11, co11, eo11, _⟩ := Kd.Q_slice HO109.out; subst eo11) | ((with_reducible refine gate_callee (f := 31) rfl ?_); refine goesL_ (some 24) rfl rfl Try.func31 (by kernel_rfl) rfl #[.agg #[.int .i64 t101, .int .i64 t102, .int .i64 t103, .slice Ao10 t104.length co10], .slice Ao11 t107.length co11] rfl (by simp only [List.map_toArray, List.map_cons, List.map_nil]; rfl) ?_; (with_reducible refine (impl_MapImage.calls t101 t102 t103 _ _ t104 _ _ t107 t111 t112 t113 t114 t117 _ ?side1 ?side2 ?side3 ?side4 A4.out).mono ?_); (case side1 => refine (Kd.Q_reads' (e := 3) (base := w.heap.size) (ok := fun k_ => some k_ ≠ (.slice Ao11 t107.length co11 : Value).ownBlock) (n := t104.length) (c := co10) ?_).2.2; exact (by exact (Q4_ HO106.out BK110.out (by decide) _ _ _ _))); (case side2 => exact (Kd.Q_reads' HO106.out).2.1); (case side3 => refine (Kd.Q_reads' (e := 3) (base := w.heap.size) (ok := fun k_ => some k_ ≠ (.slice Ao10 t104.length co10 : Value).ownBlock) (n := t107.length) (c := co11) ?_).2.2; exact (by exact (Q4_ HO109.out BK110.out (by decide) _ _ _ _))); (case side4 => exact (Kd.Q_reads' HO109.out).2.1); rintro e w12 ⟨v115, rfl, ho0, hb⟩; refine ⟨_, rfl, ?_⟩; have HO116 := am_ (Kd.R_lower (Kd.R_new' (Kd.R_new' ho0 (Kd.Q_lt (by exact (Q4_ HO106.out BK110.out (by decide) _ _ _ _)))) (Kd.Q_lt (by exact (Q4_ HO109.out BK110.out (by decide) _ _ _ _)))) (below_size (by repeat (first | (with_reducible first | exact HB.out | apply below_alloc | apply pw_below_drewN | apply below_drew1 | refine below_set ?_ GE110.out) | exact HB.out)))); replace HO106 := am_ (Kd.Q_elder' (by exact (Q4_ HO106.out BK110.out (by decide) _ _ _ _)) (Kd.R_base ho0) hb); replace HO109 := am_ (Kd.Q_elder' (by exact (Q4_ HO109.out BK110.out (by decide) _ _ _ _)) (Kd.R_base ho0) hb); replace BK110 := am_ (blk_below (by exact put4_ BK110.out _ _ _ _) hb); replace HB := am_ (below_step (by repeat (first | (with_reducible first | exact HB.out | apply below_alloc | apply pw_below_drewN | apply below_drew1 | refine below_set ?_ GE110.out) | exact HB.out)) hb); (try clear hb); (try clear hb2); (try clear hk); (try clear hi); (try clear ho0)) | ((with_reducible refine gate_dst (N := 5) rfl ?_); refine box_event ?hg (N := 5) ?hd (cs := #[.int .i64 0, .int .i64 0, .int .i64 0, .slice none 0 0]) (t := 27) ?hr ?_; (case hd => rfl); (case hg => rfl); (case hr => first | (go_simp; done) | (go_simp; rfl)); intro gb118 hg w13 hbox hb; replace HO106 := am_ (Kd.Q_below (by exact HO106.out) hb); replace HO109 := am_ (Kd.Q_below (by exact HO109.out) hb); replace HO116 := am_ (Kd.R_below (by exact HO116.out) hb); have BK118 := am_ (hbox); have GW118 := am_ ((by rw [hg]; exact (below_size (by repeat (first | (with_reducible first | exact HB.out | apply below_alloc | apply pw_below_drewN | apply below_drew1 | refine below_set ?_ GE110.out) | exact HB.out))) : w.heap.size ≤ gb118)); have GE118 := GW118; replace HB := am_ (below_step (by repeat (first | (with_reducible first | exact HB.out | apply below_alloc | apply pw_below_drewN | apply below_drew1 | refine below_set ?_ GE110.out) | exact HB.out)) hb); have NB110_118 := am_ ((by rw [hg]; exact Nat.ne_of_lt (blk_lt (by exact BK110.out)) : gb110 ≠ gb118)); have NB118_110 := am_ ((by rw [hg]; exact Nat.ne_of_gt (blk_lt (by exact BK110.out)) : gb118 ≠ gb110)); replace BK110 := am_ (blk_below (by exact BK110.out) hb); clear hb hbox hg; have hnb14 := NB118_110.out; have hnc14 := NB110_118.out; obtain ⟨hcz15_0, hcz15_1, hcz15_2, hcz15_3, hfz15_0, hfz15_1, hfz15_2, hfz15_3⟩ := blk4_ BK118.out; obtain ⟨Ao16, co16, eo16⟩ := Kd.R_slice HO116.out; subst eo16; obtain ⟨hcz17_0, hcz17_1, hcz17_2, hcz17_3, hfz17_0, hfz17_1, hfz17_2, hfz17_3⟩ := blk4_ BK110.out) | ((with_reducible refine gate_callee (f := 32) rfl ?_); refine goesL_ (some 30) rfl rfl Try.func32 (by kernel_rfl) rfl #[.agg #[.int .i64 t101, .int .i64 t102, .int .i64 t103, .slice Ao10 t104.length co10], .slice Ao11 t107.length co11] rfl (by simp only [List.map_toArray, List.map_cons, List.map_nil]; rfl) ?_; (with_reducible refine (spec_MapImage.calls k t101 t102 t103 _ _ t104 _ _ t107 t119 t120 t121 t122 t125 _ ?side1 ?side2 ?side3 ?side4 A5.out).mono ?_); (case side1 => refine (Kd.Q_reads' (e := 3) (base := w.heap.size) (ok := fun k_ => (some k_ ≠ (.slice Ao11 t107.length co11 : Value).ownBlock ∧ some k_ ≠ (.slice Ao16 t114.length co16 : Value).ownBlock)) (n := t104.length) (c := co10) ?_).2.2; exact (by exact (Q4_ HO106.out BK118.out (by decide) _ _ _ _))); (case side2 => exact (Kd.Q_reads' HO106.out).2.1); (case side3 => refine (Kd.Q_reads' (e := 3) (base := w.heap.size) (ok := fun k_ => (some k_ ≠ (.slice Ao10 t104.length co10 : Value).ownBlock ∧ some k_ ≠ (.slice Ao16 t114.length co16 : Value).ownBlock)) (n := t107.length) (c := co11) ?_).2.2; exact (by exact (Q4_ HO109.out BK118.out (by decide) _ _ _ _))); (case side4 => exact (Kd.Q_reads' HO109.out).2.1); rintro e w18 ⟨v123, rfl, ho0, hb⟩; refine ⟨_, rfl, ?_⟩; have HO124 := am_ (Kd.R_lower (Kd.R_new' (Kd.R_new' (Kd.R_new' ho0 (Kd.Q_lt (by exact (Q4_ HO106.out BK118.out (by decide) _ _ _ _)))) (Kd.Q_lt (by exact (Q4_ HO109.out BK118.out (by decide) _ _ _ _)))) (Kd.R_lt (by exact (R4_ HO116.out BK118.out (by decide) _ _ _ _)))) (below_size (by repeat (first | (with_reducible first | exact HB.out | apply below_alloc | apply pw_below_drewN | apply below_drew1 | refine below_set ?_ GE110.out | refine below_set ?_ GE118.out) | exact HB.out)))); replace HO106 := am_ (Kd.Q_elder' (by exact (Q4_ HO106.out BK118.out (by decide) _ _ _ _)) (Kd.R_base ho0) hb); replace HO109 := am_ (Kd.Q_elder' (by exact (Q4_ HO109.out BK118.out (by decide) _ _ _ _)) (Kd.R_base ho0) hb); replace HO116 := am_ (Kd.R_elder' (by exact (R4_ HO116.out BK118.out (by decide) _ _ _ _)) (Kd.R_base ho0) hb); replace BK110 := am_ (blk_below (by exact far4_ BK110.out NB110_118.out _ _ _ _) hb); replace BK118 := am_ (blk_below (by exact put4_ BK118.out _ _ _ _) hb); replace HB := am_ (below_step (by repeat (first | (with_reducible first | exact HB.out | apply below_alloc | apply pw_below_drewN | apply below_drew1 | refine below_set ?_ GE110.out | refine below_set ?_ GE118.out) | exact HB.out)) hb); (try clear hb); (try clear hb2); (try clear hk); (try clear hi); (try clear ho0)) | ((with_reducible refine gate_dst (N := 7) rfl ?_); refine box_event ?hg (N := 7) ?hd (cs := #[.int .i64 0, .int .i64 0, .int .i64 0, .slice none 0 0]) (t := 27) ?hr ?_; (case hd => rfl); (case hg => rfl); (case hr => first | (go_simp; done) | (go_simp; rfl)); intro gb126 hg w19 hbox hb; replace HO106 := am_ (Kd.Q_below (by exact HO106.out) hb); replace HO109 := am_ (Kd.Q_below (by exact HO109.out) hb); replace HO116 := am_ (Kd.R_below (by exact HO116.out) hb); replace HO124 := am_ (Kd.R_below (by exact HO124.out) hb); have BK126 := am_ (hbox); have GW126 := am_ ((by rw [hg]; exact (below_size (by repeat (first | (with_reducible first | exact HB.out | apply below_alloc | apply pw_below_drewN | apply below_drew1 | refine below_set ?_ GE110.out | refine below_set ?_ GE118.out) | exact HB.out))) : w.heap.size ≤ gb126)); have GE126 := GW126; replace HB := am_ (below_step (by repeat (first | (with_reducible first | exact HB.out | apply below_alloc | apply pw_below_drewN | apply below_drew1 | refine below_set ?_ GE110.out | refine below_set ?_ GE118.out) | exact HB.out)) hb); have NB110_126 := am_ ((by rw [hg]; exact Nat.ne_of_lt (blk_lt (by exact BK110.out)) : gb110 ≠ gb126)); have NB126_110 := am_ ((by rw [hg]; exact Nat.ne_of_gt (blk_lt (by exact BK110.out)) : gb126 ≠ gb110)); replace BK110 := am_ (blk_below (by exact BK110.out) hb); have NB118_126 := am_ ((by rw [hg]; exact Nat.ne_of_lt (blk_lt (by exact BK118.out)) : gb118 ≠ gb126)); have NB126_118 := am_ ((by rw [hg]; exact Nat.ne_of_gt (blk_lt (by exact BK118.out)) : gb126 ≠ gb118)); replace BK118 := am_ (blk_below (by exact BK118.out) hb); clear hb hbox hg; have hnb20 := NB126_110.out; have hnc20 := NB110_126.out; have hnb21 := NB126_118.out; have hnc21 := NB118_126.out; obtain ⟨hcz22_0, hcz22_1, hcz22_2, hcz22_3, hfz22_0, hfz22_1, hfz22_2, hfz22_3⟩ := blk4_ BK126.out; obtain ⟨Ao23, co23, eo23⟩ := Kd.R_slice HO124.out; subst eo23))
  (try simp only [Act.put, List.setIfInBounds_toArray, List.set_cons_zero, List.set_cons_succ])
  go_cut [45] (fun v45 wc => ∃ (kq : Nat) (x45_5 : Bool), v45 = .bool x45_5 ∧ Aside0 (laws_FnMapImageInvert.j0 kq t117 t125 x45_5 t101 t102 t103 t104 t111 t112 t113 t114 t119 t120 t121 t122 = some r) ∧ Aside0 (kq ≤ k) ∧ Aside0 (Kd.Q (Kd.int .i64) 3 wc w.heap.size (fun k_ => some k_ ≠ ((.slice Ao16 t114.length co16) : Value).ownBlock ∧ some k_ ≠ ((.slice Ao23 t122.length co23) : Value).ownBlock) (.slice Ao10 t104.length co10) t104) ∧ Aside0 (Kd.Q (Kd.int .i64) 3 wc w.heap.size (fun k_ => some k_ ≠ ((.slice Ao10 t104.length co10) : Value).ownBlock ∧ some k_ ≠ ((.slice Ao23 t122.length co23) : Value).ownBlock) (.slice Ao16 t114.length co16) t114) ∧ Aside0 (Kd.Q (Kd.int .i64) 3 wc w.heap.size (fun k_ => some k_ ≠ ((.slice Ao10 t104.length co10) : Value).ownBlock ∧ some k_ ≠ ((.slice Ao16 t114.length co16) : Value).ownBlock) (.slice Ao23 t122.length co23) t122) ∧ Aside0 (wc.heap[gb110]? = some (.cells #[.int .i64 t101, .int .i64 t102, .int .i64 t103, (.slice Ao10 t104.length co10)] 27 (0, 0))) ∧ Aside0 (wc.heap[gb118]? = some (.cells #[.int .i64 t111, .int .i64 t112, .int .i64 t113, (.slice Ao16 t114.length co16)] 27 (0, 0))) ∧ Aside0 (wc.heap[gb126]? = some (.cells #[.int .i64 t119, .int .i64 t120, .int .i64 t121, (.slice Ao23 t122.length co23)] 27 (0, 0))) ∧ Aside0 (Below w.heap.size w wc))
  case first =>
   have H := HC6.out
   clear HC6
   replace H := Option.bind_eq_some_iff.mp H
   obtain ⟨t127, A240, H⟩ := H
   replace H : (if t127 = true then (if (t117 != t125) = true then (laws_FnMapImageInvert.j0 k t117 t125 true t101 t102 t103 t104 t111 t112 t113 t114 t119 t120 t121 t122) else (laws_FnMapImageInvert.j0 k t117 t125 (!t117) t101 t102 t103 t104 t111 t112 t113 t114 t119 t120 t121 t122)) else (laws_FnMapImageInvert.j0 k t117 t125 true t101 t102 t103 t104 t111 t112 t113 t114 t119 t120 t121 t122)) = some r := H
   have A24 := Aside0.mk A240
   clear A240
   by_cases c25 : t127 = true
   ·
    subst c25
    have H1 : (if (t117 != t125) = true then (laws_FnMapImageInvert.j0 k t117 t125 true t101 t102 t103 t104 t111 t112 t113 t114 t119 t120 t121 t122) else (laws_FnMapImageInvert.j0 k t117 t125 (!t117) t101 t102 t103 t104 t111 t112 t113 t114 t119 t120 t121 t122)) = some r := by rw [if_pos rfl] at H; exact H
    clear H
    have H := H1
    clear H1
    by_cases c26 : (t117 != t125) = true
    ·
     rw [if_pos c26] at H
     have c26b0 : (t117 != t125) = true := c26
     (try (have c26b1 : decide (t117 = t125) = false := by simpa using c26))
     (try (have c26b2 : (t117 == t125) = false := by simpa using c26))
     (try (have c26b3 : ¬ (t117 = t125) := by simpa using c26))
     clear c26
     (first | rw [c26b0] | (simp only [i64_w, i32_w]; rw [c26b0]) | skip)
     have H' := Aside0.mk H
     clear H
     have hnb27 := NB118_110.out
     have hnc27 := NB110_118.out
     have hnb28 := NB118_126.out
     have hnc28 := NB126_118.out
     obtain ⟨hcz29_0, hcz29_1, hcz29_2, hcz29_3, hfz29_0, hfz29_1, hfz29_2, hfz29_3⟩ := blk4_ BK118.out
     have hnb30 := NB126_110.out
     have hnc30 := NB110_126.out
     obtain ⟨hcz31_0, hcz31_1, hcz31_2, hcz31_3, hfz31_0, hfz31_1, hfz31_2, hfz31_3⟩ := blk4_ BK126.out
     go_wp2_with (first | ((with_reducible refine gate_callee (f := 33) rfl ?_); refine goesL_ (some 35) rfl rfl Try.func33 (by kernel_rfl) rfl #[.agg #[.int .i64 t111, .int .i64 t112, .int .i64 t113, .slice Ao16 t114.length co16], .agg #[.int .i64 t119, .int .i64 t120, .int .i64 t121, .slice Ao23 t122.length co23]] rfl (by simp only [List.map_toArray, List.map_cons, List.map_nil]; rfl) ?_; (with_reducible refine (laws_equalImage.calls k t111 t112 t113 _ _ t114 t119 t120 t121 _ _ t122 true _ ?side1 ?side2 ?side3 ?side4 A24.out).mono ?_); (case side1 => refine (Kd.R_reads' (e := 3) (base := w.heap.size) (ok := fun k_ => (((True ∧ some k_ ≠ (.slice Ao10 t104.length co10 : Value).ownBlock) ∧ some k_ ≠ (.slice Ao11 t107.length co11 : Value).ownBlock) ∧ some k_ ≠ (.slice Ao23 t122.length co23 : Value).ownBlock)) (n := t114.length) (c := co16) ?_).2.2; exact (by exact (R4_ HO116.out BK126.out (by decide) _ _ _ _))); (case side2 => exact (Kd.R_reads' HO116.out).2.1); (case side3 => refine (Kd.R_reads' (e := 3) (base := w.heap.size) (ok := fun k_ => (((True ∧ some k_ ≠ (.slice Ao10 t104.length co10 : Value).ownBlock) ∧ some k_ ≠ (.slice Ao11 t107.length co11 : Value).ownBlock) ∧ some k_ ≠ (.slice Ao16 t114.length co16 : Value).ownBlock)) (n := t122.length) (c := co23) ?_).2.2; exact (by exact (R4_ HO124.out BK126.out (by decide) _ _ _ _))); (case side4 => exact (Kd.R_reads' HO124.out).2.1); rintro e w32 ⟨rfl, hb⟩; refine ⟨_, rfl, ?_⟩; replace HO106 := am_ (Kd.Q_below (by exact (Q4_ HO106.out BK126.out (by decide) _ _ _ _)) hb); replace HO109 := am_ (Kd.Q_below (by exact (Q4_ HO109.out BK126.out (by decide) _ _ _ _)) hb); replace HO116 := am_ (Kd.R_below (by exact (R4_ HO116.out BK126.out (by decide) _ _ _ _)) hb); replace HO124 := am_ (Kd.R_below (by exact (R4_ HO124.out BK126.out (by decide) _ _ _ _)) hb); replace BK110 := am_ (blk_below (by exact far4_ BK110.out NB110_126.out _ _ _ _) hb); replace BK118 := am_ (blk_below (by exact far4_ BK118.out NB118_126.out _ _ _ _) hb); replace BK126 := am_ (blk_below (by exact put4_ BK126.out _ _ _ _) hb); replace HB := am_ (below_step (by repeat (first | (with_reducible first | exact HB.out | apply below_alloc | apply pw_below_drewN | apply below_drew1 | refine below_set ?_ GE110.out | refine below_set ?_ GE118.out | refine below_set ?_ GE126.out) | exact HB.out)) hb); (try clear hb); (try clear hb2); (try clear hk); (try clear hi)))
     go_meet
     case rel => exact ⟨_, (true), (by first | rfl | (simp; done) | (simp [*]; done)), H', ⟨by first | omega | exact Nat.le_refl _⟩, ⟨by exact Kd.Q_mono HO106.out (fun _ hk => ⟨hk.1.2, hk.2⟩)⟩, ⟨Kd.Q_of_R (by exact Kd.R_mono HO116.out (fun _ hk => ⟨hk.1.1.2, hk.2⟩))⟩, ⟨Kd.Q_of_R (by exact Kd.R_mono HO124.out (fun _ hk => ⟨hk.1.1.2, hk.2⟩))⟩, ⟨by exact BK110.out⟩, ⟨by exact BK118.out⟩, ⟨by exact BK126.out⟩, ⟨by repeat (first | (with_reducible first | exact HB.out | apply below_alloc | apply pw_below_drewN | apply below_drew1 | refine below_set ?_ GE110.out | refine below_set ?_ GE118.out | refine below_set ?_ GE126.out) | exact HB.out)⟩⟩
    ·
     rw [if_neg c26] at H
     have c26b0 : (t117 != t125) = false := by simpa using c26
     (try (have c26b1 : decide (t117 = t125) = true := by simpa using c26))
     (try (have c26b2 : (t117 == t125) = true := by simpa using c26))
     clear c26
     (first | rw [c26b0] | (simp only [i64_w, i32_w]; rw [c26b0]) | skip)
     have H' := Aside0.mk H
     clear H
     have hnb33 := NB118_110.out
     have hnc33 := NB110_118.out
     have hnb34 := NB118_126.out
     have hnc34 := NB126_118.out
     obtain ⟨hcz35_0, hcz35_1, hcz35_2, hcz35_3, hfz35_0, hfz35_1, hfz35_2, hfz35_3⟩ := blk4_ BK118.out
     have hnb36 := NB126_110.out
     have hnc36 := NB110_126.out
     obtain ⟨hcz37_0, hcz37_1, hcz37_2, hcz37_3, hfz37_0, hfz37_1, hfz37_2, hfz37_3⟩ := blk4_ BK126.out
     go_wp2_with (first | ((with_reducible refine gate_callee (f := 33) rfl ?_); refine goesL_ (some 35) rfl rfl Try.func33 (by kernel_rfl) rfl #[.agg #[.int .i64 t111, .int .i64 t112, .int .i64 t113, .slice Ao16 t114.length co16], .agg #[.int .i64 t119, .int .i64 t120, .int .i64 t121, .slice Ao23 t122.length co23]] rfl (by simp only [List.map_toArray, List.map_cons, List.map_nil]; rfl) ?_; (with_reducible refine (laws_equalImage.calls k t111 t112 t113 _ _ t114 t119 t120 t121 _ _ t122 true _ ?side1 ?side2 ?side3 ?side4 A24.out).mono ?_); (case side1 => refine (Kd.R_reads' (e := 3) (base := w.heap.size) (ok := fun k_ => (((True ∧ some k_ ≠ (.slice Ao10 t104.length co10 : Value).ownBlock) ∧ some k_ ≠ (.slice Ao11 t107.length co11 : Value).ownBlock) ∧ some k_ ≠ (.slice Ao23 t122.length co23 : Value).ownBlock)) (n := t114.length) (c := co16) ?_).2.2; exact (by exact (R4_ HO116.out BK126.out (by decide) _ _ _ _))); (case side2 => exact (Kd.R_reads' HO116.out).2.1); (case side3 => refine (Kd.R_reads' (e := 3) (base := w.heap.size) (ok := fun k_ => (((True ∧ some k_ ≠ (.slice Ao10 t104.length co10 : Value).ownBlock) ∧ some k_ ≠ (.slice Ao11 t107.length co11 : Value).ownBlock) ∧ some k_ ≠ (.slice Ao16 t114.length co16 : Value).ownBlock)) (n := t122.length) (c := co23) ?_).2.2; exact (by exact (R4_ HO124.out BK126.out (by decide) _ _ _ _))); (case side4 => exact (Kd.R_reads' HO124.out).2.1); rintro e w38 ⟨rfl, hb⟩; refine ⟨_, rfl, ?_⟩; replace HO106 := am_ (Kd.Q_below (by exact (Q4_ HO106.out BK126.out (by decide) _ _ _ _)) hb); replace HO109 := am_ (Kd.Q_below (by exact (Q4_ HO109.out BK126.out (by decide) _ _ _ _)) hb); replace HO116 := am_ (Kd.R_below (by exact (R4_ HO116.out BK126.out (by decide) _ _ _ _)) hb); replace HO124 := am_ (Kd.R_below (by exact (R4_ HO124.out BK126.out (by decide) _ _ _ _)) hb); replace BK110 := am_ (blk_below (by exact far4_ BK110.out NB110_126.out _ _ _ _) hb); replace BK118 := am_ (blk_below (by exact far4_ BK118.out NB118_126.out _ _ _ _) hb); replace BK126 := am_ (blk_below (by exact put4_ BK126.out _ _ _ _) hb); replace HB := am_ (below_step (by repeat (first | (with_reducible first | exact HB.out | apply below_alloc | apply pw_below_drewN | apply below_drew1 | refine below_set ?_ GE110.out | refine below_set ?_ GE118.out | refine below_set ?_ GE126.out) | exact HB.out)) hb); (try clear hb); (try clear hb2); (try clear hk); (try clear hi)))
     go_meet
     case rel => exact ⟨_, (!t117), (by first | rfl | (simp; done) | (simp [*]; done)), H', ⟨by first | omega | exact Nat.le_refl _⟩, ⟨by exact Kd.Q_mono HO106.out (fun _ hk => ⟨hk.1.2, hk.2⟩)⟩, ⟨Kd.Q_of_R (by exact Kd.R_mono HO116.out (fun _ hk => ⟨hk.1.1.2, hk.2⟩))⟩, ⟨Kd.Q_of_R (by exact Kd.R_mono HO124.out (fun _ hk => ⟨hk.1.1.2, hk.2⟩))⟩, ⟨by exact BK110.out⟩, ⟨by exact BK118.out⟩, ⟨by exact BK126.out⟩, ⟨by repeat (first | (with_reducible first | exact HB.out | apply below_alloc | apply pw_below_drewN | apply below_drew1 | refine below_set ?_ GE110.out | refine below_set ?_ GE118.out | refine below_set ?_ GE126.out) | exact HB.out)⟩⟩
   ·
    replace c25 := Bool.eq_false_iff.mpr c25
    subst c25
    have H1 : (laws_FnMapImageInvert.j0 k t117 t125 true t101 t102 t103 t104 t111 t112 t113 t114 t119 t120 t121 t122) = some r := by rw [if_neg (show ¬ (false = true) by decide)] at H; exact H
    clear H
    have H := H1
    clear H1
    have H' := Aside0.mk H
    clear H
    have hnb39 := NB118_110.out
    have hnc39 := NB110_118.out
    have hnb40 := NB118_126.out
    have hnc40 := NB126_118.out
    obtain ⟨hcz41_0, hcz41_1, hcz41_2, hcz41_3, hfz41_0, hfz41_1, hfz41_2, hfz41_3⟩ := blk4_ BK118.out
    have hnb42 := NB126_110.out
    have hnc42 := NB110_126.out
    obtain ⟨hcz43_0, hcz43_1, hcz43_2, hcz43_3, hfz43_0, hfz43_1, hfz43_2, hfz43_3⟩ := blk4_ BK126.out
    go_wp2_with (first | ((with_reducible refine gate_callee (f := 33) rfl ?_); refine goesL_ (some 35) rfl rfl Try.func33 (by kernel_rfl) rfl #[.agg #[.int .i64 t111, .int .i64 t112, .int .i64 t113, .slice Ao16 t114.length co16], .agg #[.int .i64 t119, .int .i64 t120, .int .i64 t121, .slice Ao23 t122.length co23]] rfl (by simp only [List.map_toArray, List.map_cons, List.map_nil]; rfl) ?_; (with_reducible refine (laws_equalImage.calls k t111 t112 t113 _ _ t114 t119 t120 t121 _ _ t122 false _ ?side1 ?side2 ?side3 ?side4 A24.out).mono ?_); (case side1 => refine (Kd.R_reads' (e := 3) (base := w.heap.size) (ok := fun k_ => (((True ∧ some k_ ≠ (.slice Ao10 t104.length co10 : Value).ownBlock) ∧ some k_ ≠ (.slice Ao11 t107.length co11 : Value).ownBlock) ∧ some k_ ≠ (.slice Ao23 t122.length co23 : Value).ownBlock)) (n := t114.length) (c := co16) ?_).2.2; exact (by exact (R4_ HO116.out BK126.out (by decide) _ _ _ _))); (case side2 => exact (Kd.R_reads' HO116.out).2.1); (case side3 => refine (Kd.R_reads' (e := 3) (base := w.heap.size) (ok := fun k_ => (((True ∧ some k_ ≠ (.slice Ao10 t104.length co10 : Value).ownBlock) ∧ some k_ ≠ (.slice Ao11 t107.length co11 : Value).ownBlock) ∧ some k_ ≠ (.slice Ao16 t114.length co16 : Value).ownBlock)) (n := t122.length) (c := co23) ?_).2.2; exact (by exact (R4_ HO124.out BK126.out (by decide) _ _ _ _))); (case side4 => exact (Kd.R_reads' HO124.out).2.1); rintro e w44 ⟨rfl, hb⟩; refine ⟨_, rfl, ?_⟩; replace HO106 := am_ (Kd.Q_below (by exact (Q4_ HO106.out BK126.out (by decide) _ _ _ _)) hb); replace HO109 := am_ (Kd.Q_below (by exact (Q4_ HO109.out BK126.out (by decide) _ _ _ _)) hb); replace HO116 := am_ (Kd.R_below (by exact (R4_ HO116.out BK126.out (by decide) _ _ _ _)) hb); replace HO124 := am_ (Kd.R_below (by exact (R4_ HO124.out BK126.out (by decide) _ _ _ _)) hb); replace BK110 := am_ (blk_below (by exact far4_ BK110.out NB110_126.out _ _ _ _) hb); replace BK118 := am_ (blk_below (by exact far4_ BK118.out NB118_126.out _ _ _ _) hb); replace BK126 := am_ (blk_below (by exact put4_ BK126.out _ _ _ _) hb); replace HB := am_ (below_step (by repeat (first | (with_reducible first | exact HB.out | apply below_alloc | apply pw_below_drewN | apply below_drew1 | refine below_set ?_ GE110.out | refine below_set ?_ GE118.out | refine below_set ?_ GE126.out) | exact HB.out)) hb); (try clear hb); (try clear hb2); (try clear hk); (try clear hi)))
    go_meet
    case rel => exact ⟨_, (true), (by first | rfl | (simp; done) | (simp [*]; done)), H', ⟨by first | omega | exact Nat.le_refl _⟩, ⟨by exact Kd.Q_mono HO106.out (fun _ hk => ⟨hk.1.2, hk.2⟩)⟩, ⟨Kd.Q_of_R (by exact Kd.R_mono HO116.out (fun _ hk => ⟨hk.1.1.2, hk.2⟩))⟩, ⟨Kd.Q_of_R (by exact Kd.R_mono HO124.out (fun _ hk => ⟨hk.1.1.2, hk.2⟩))⟩, ⟨by exact BK110.out⟩, ⟨by exact BK118.out⟩, ⟨by exact BK126.out⟩, ⟨by repeat (first | (with_reducible first | exact HB.out | apply below_alloc | apply pw_below_drewN | apply below_drew1 | refine below_set ?_ GE110.out | refine below_set ?_ GE118.out | refine below_set ?_ GE126.out) | exact HB.out)⟩⟩
  case rest =>
   clear HC6
   try clear c1
   try clear c2
   try clear c2b0
   try clear c2b1
   try clear p2
   try clear c3
   try clear c4
   try clear c9
   try clear c14
   try clear c20
   try clear c21
   try clear c25
   try clear c26
   try clear c26b0
   try clear c26b1
   try clear c26b2
   try clear c27
   try clear c28
   try clear c30
   try clear c31
   try clear c32
   try clear c33
   try clear c34
   try clear c36
   try clear c39
   try clear c40
   try clear c42
   try clear hcz15_0
   try clear hcz15_1
   try clear hcz15_2
   try clear hcz15_3
   try clear hcz17_0
   try clear hcz17_1
   try clear hcz17_2
   try clear hcz17_3
   try clear hcz22_0
   try clear hcz22_1
   try clear hcz22_2
   try clear hcz22_3
   try clear hcz29_0
   try clear hcz29_1
   try clear hcz29_2
   try clear hcz29_3
   try clear hcz31_0
   try clear hcz31_1
   try clear hcz31_2
   try clear hcz31_3
   try clear hcz35_0
   try clear hcz35_1
   try clear hcz35_2
   try clear hcz35_3
   try clear hcz37_0
   try clear hcz37_1
   try clear hcz37_2
   try clear hcz37_3
   try clear hcz41_0
   try clear hcz41_1
   try clear hcz41_2
   try clear hcz41_3
   try clear hcz43_0
   try clear hcz43_1
   try clear hcz43_2
   try clear hcz43_3
   try clear hcz9_0
   try clear hcz9_1
   try clear hcz9_2
   try clear hcz9_3
   try clear hfz15_0
   try clear hfz15_1
   try clear hfz15_2
   try clear hfz15_3
   try clear hfz17_0
   try clear hfz17_1
   try clear hfz17_2
   try clear hfz17_3
   try clear hfz22_0
   try clear hfz22_1
   try clear hfz22_2
   try clear hfz22_3
   try clear hfz29_0
   try clear hfz29_1
   try clear hfz29_2
   try clear hfz29_3
   try clear hfz31_0
   try clear hfz31_1
   try clear hfz31_2
   try clear hfz31_3
   try clear hfz35_0
   try clear hfz35_1
   try clear hfz35_2
   try clear hfz35_3
   try clear hfz37_0
   try clear hfz37_1
   try clear hfz37_2
   try clear hfz37_3
   try clear hfz41_0
   try clear hfz41_1
   try clear hfz41_2
   try clear hfz41_3
   try clear hfz43_0
   try clear hfz43_1
   try clear hfz43_2
   try clear hfz43_3
   try clear hfz9_0
   try clear hfz9_1
   try clear hfz9_2
   try clear hfz9_3
   obtain ⟨kq, x45_5, rfl, HA, HJ5, HO_111003, HO_119003, HO_127003, BK110, BK118, BK126, HB⟩ := hcut
   cases kq with
   | zero => exact absurd HA.out (by simp [laws_FnMapImageInvert.j0])
   | succ kj5 =>
    have H := HA.out
    clear HA
    simp only [laws_FnMapImageInvert.j0] at H
    by_cases c45 : x45_5 = true
    ·
     subst c45
     have H1 : ((laws_equalImage.f kj5 t111 t112 t113 t114 t119 t120 t121 t122).bind fun t128 => (if t128 = true then (some (t117 == t125)) else (some false))) = some r := by rw [if_pos rfl] at H; exact H
     clear H
     have H := H1
     clear H1
     replace H := Option.bind_eq_some_iff.mp H
     obtain ⟨t128, A460, H⟩ := H
     replace H : (if t128 = true then (some (t117 == t125)) else (some false)) = some r := H
     have A46 := Aside0.mk A460
     clear A460
     by_cases c47 : t128 = true
     ·
      subst c47
      have H1 : (some (t117 == t125)) = some r := by rw [if_pos rfl] at H; exact H
      clear H
      have H := H1
      clear H1
      obtain rfl := Option.some.inj H
      have hnb48 := NB118_110.out
      have hnc48 := NB110_118.out
      have hnb49 := NB118_126.out
      have hnc49 := NB126_118.out
      obtain ⟨hcz50_0, hcz50_1, hcz50_2, hcz50_3, hfz50_0, hfz50_1, hfz50_2, hfz50_3⟩ := blk4_ BK118.out
      have hnb51 := NB126_110.out
      have hnc51 := NB110_126.out
      obtain ⟨hcz52_0, hcz52_1, hcz52_2, hcz52_3, hfz52_0, hfz52_1, hfz52_2, hfz52_3⟩ := blk4_ BK126.out
      go_wp2_with (first | ((with_reducible refine gate_callee (f := 33) rfl ?_); refine goesL_ (some 48) rfl rfl Try.func33 (by kernel_rfl) rfl #[.agg #[.int .i64 t111, .int .i64 t112, .int .i64 t113, .slice Ao16 t114.length co16], .agg #[.int .i64 t119, .int .i64 t120, .int .i64 t121, .slice Ao23 t122.length co23]] rfl (by simp only [List.map_toArray, List.map_cons, List.map_nil]; rfl) ?_; (with_reducible refine (laws_equalImage.calls kj5 t111 t112 t113 _ _ t114 t119 t120 t121 _ _ t122 true _ ?side1 ?side2 ?side3 ?side4 A46.out).mono ?_); (case side1 => repeat (first | exact (Kd.Q_reads' HO_119003.out).2.2 | (with_reducible refine Kd.C_alloc ?_ _) | (with_reducible refine Kd.C_drewN ?_ _) | (with_reducible refine Kd.C_drew ?_))); (case side2 => exact (Kd.Q_reads' HO_119003.out).2.1); (case side3 => repeat (first | exact (Kd.Q_reads' HO_127003.out).2.2 | (with_reducible refine Kd.C_alloc ?_ _) | (with_reducible refine Kd.C_drewN ?_ _) | (with_reducible refine Kd.C_drew ?_))); (case side4 => exact (Kd.Q_reads' HO_127003.out).2.1); rintro e w53 ⟨rfl, hb⟩; refine ⟨_, rfl, ?_⟩; replace HO_111003 := am_ (Kd.Q_below (by exact HO_111003.out) hb); replace HO_119003 := am_ (Kd.Q_below (by exact HO_119003.out) hb); replace HO_127003 := am_ (Kd.Q_below (by exact HO_127003.out) hb); replace BK110 := am_ (blk_below (by exact BK110.out) hb); replace BK118 := am_ (blk_below (by exact BK118.out) hb); replace BK126 := am_ (blk_below (by exact BK126.out) hb); replace HB := am_ (below_step (by repeat (first | (with_reducible first | exact HB.out | apply below_alloc | apply pw_below_drewN | apply below_drew1 | refine below_set ?_ GE110.out | refine below_set ?_ GE118.out | refine below_set ?_ GE126.out) | exact HB.out)) hb); (try clear hb); (try clear hb2); (try clear hk); (try clear hi)))
      go_ret
      exact ⟨by first | rfl | (simp [errW_none, errW_some] <;> rfl) | (simp [*, errW_none, errW_some] <;> rfl), by repeat (first | (with_reducible first | exact HB.out | apply below_alloc | apply pw_below_drewN | apply below_drew1 | refine below_set ?_ GE110.out | refine below_set ?_ GE118.out | refine below_set ?_ GE126.out) | exact HB.out)⟩
     ·
      replace c47 := Bool.eq_false_iff.mpr c47
      subst c47
      have H1 : (some false) = some r := by rw [if_neg (show ¬ (false = true) by decide)] at H; exact H
      clear H
      have H := H1
      clear H1
      obtain rfl := Option.some.inj H
      have hnb54 := NB118_110.out
      have hnc54 := NB110_118.out
      have hnb55 := NB118_126.out
      have hnc55 := NB126_118.out
      obtain ⟨hcz56_0, hcz56_1, hcz56_2, hcz56_3, hfz56_0, hfz56_1, hfz56_2, hfz56_3⟩ := blk4_ BK118.out
      have hnb57 := NB126_110.out
      have hnc57 := NB110_126.out
      obtain ⟨hcz58_0, hcz58_1, hcz58_2, hcz58_3, hfz58_0, hfz58_1, hfz58_2, hfz58_3⟩ := blk4_ BK126.out
      go_wp2_with (first | ((with_reducible refine gate_callee (f := 33) rfl ?_); refine goesL_ (some 48) rfl rfl Try.func33 (by kernel_rfl) rfl #[.agg #[.int .i64 t111, .int .i64 t112, .int .i64 t113, .slice Ao16 t114.length co16], .agg #[.int .i64 t119, .int .i64 t120, .int .i64 t121, .slice Ao23 t122.length co23]] rfl (by simp only [List.map_toArray, List.map_cons, List.map_nil]; rfl) ?_; (with_reducible refine (laws_equalImage.calls kj5 t111 t112 t113 _ _ t114 t119 t120 t121 _ _ t122 false _ ?side1 ?side2 ?side3 ?side4 A46.out).mono ?_); (case side1 => repeat (first | exact (Kd.Q_reads' HO_119003.out).2.2 | (with_reducible refine Kd.C_alloc ?_ _) | (with_reducible refine Kd.C_drewN ?_ _) | (with_reducible refine Kd.C_drew ?_))); (case side2 => exact (Kd.Q_reads' HO_119003.out).2.1); (case side3 => repeat (first | exact (Kd.Q_reads' HO_127003.out).2.2 | (with_reducible refine Kd.C_alloc ?_ _) | (with_reducible refine Kd.C_drewN ?_ _) | (with_reducible refine Kd.C_drew ?_))); (case side4 => exact (Kd.Q_reads' HO_127003.out).2.1); rintro e w59 ⟨rfl, hb⟩; refine ⟨_, rfl, ?_⟩; replace HO_111003 := am_ (Kd.Q_below (by exact HO_111003.out) hb); replace HO_119003 := am_ (Kd.Q_below (by exact HO_119003.out) hb); replace HO_127003 := am_ (Kd.Q_below (by exact HO_127003.out) hb); replace BK110 := am_ (blk_below (by exact BK110.out) hb); replace BK118 := am_ (blk_below (by exact BK118.out) hb); replace BK126 := am_ (blk_below (by exact BK126.out) hb); replace HB := am_ (below_step (by repeat (first | (with_reducible first | exact HB.out | apply below_alloc | apply pw_below_drewN | apply below_drew1 | refine below_set ?_ GE110.out | refine below_set ?_ GE118.out | refine below_set ?_ GE126.out) | exact HB.out)) hb); (try clear hb); (try clear hb2); (try clear hk); (try clear hi)))
      go_ret
      exact ⟨by first | rfl | (simp [errW_none, errW_some] <;> rfl) | (simp [*, errW_none, errW_some] <;> rfl), by repeat (first | (with_reducible first | exact HB.out | apply below_alloc | apply pw_below_drewN | apply below_drew1 | refine below_set ?_ GE110.out | refine below_set ?_ GE118.out | refine below_set ?_ GE126.out) | exact HB.out)⟩
    ·
     replace c45 := Bool.eq_false_iff.mpr c45
     subst c45
     have H1 : (laws_FnMapImageInvert.l0 kj5 (([] : List Int)) 255 t101 t102 t103 t104) = some r := by rw [if_neg (show ¬ (false = true) by decide)] at H; exact H
     clear H
     have H := H1
     clear H1
     obtain ⟨y129, hy129⟩ : ∃ y_ : List Int, y_ = (([] : List Int)) := ⟨_, rfl⟩
     replace H : (laws_FnMapImageInvert.l0 kj5 y129 255 t101 t102 t103 t104) = some r := by first | (rw [hy129]; with_reducible exact H) | (have H2_ := (Option.bind_some _ _).symm.trans H; rw [hy129]; with_reducible exact H2_) | (have H2_ := (Option.bind_some _ _).symm.trans H; with_reducible exact H2_) | with_reducible exact H | (rw [hy129]; exact H) | exact H
     have Ny129 := Aside0.mk hy129
     clear hy129
     have H' := Aside0.mk H
     clear H
     go_wp2_with (first | ((with_reducible refine gate_dst (N := 54) rfl ?_); refine Kd.R_lit (Kd.int .i64) _ 3 ?hg (N := 54) ?hd (xs := ([] : List Int)) (inner := []) (ok := fun _ => True) (okp := fun _ => True) ?hr ?hp (fun _ hk => hk) trivial (Below.refl _ _) (Nat.le_refl _) (by simp) ?_; (case hd => rfl); (case hg => rfl); (case hr => first | (go_simp; done) | (go_simp; rfl)); (case hp => exact (Reps.none _ _)); intro v130 w60 ho61 hb hg_ hnew_; clear hg_ hnew_; (first | rw [← Ny129.out] at ho61 | (simp only [Int.reduceToNat] at ho61; rw [← Ny129.out] at ho61)); have HO131 := am_ (Kd.R_lower (Kd.R_new' (Kd.R_new' (Kd.R_new' ho61 (Kd.Q_lt (by exact HO_111003.out))) (Kd.Q_lt (by exact HO_119003.out))) (Kd.Q_lt (by exact HO_127003.out))) (below_size (by repeat (first | (with_reducible first | exact HB.out | apply below_alloc | apply pw_below_drewN | apply below_drew1 | refine below_set ?_ GE110.out | refine below_set ?_ GE118.out | refine below_set ?_ GE126.out) | exact HB.out)))); replace HO_111003 := am_ (Kd.Q_elder' (by exact HO_111003.out) (Kd.R_base ho61) hb); replace HO_119003 := am_ (Kd.Q_elder' (by exact HO_119003.out) (Kd.R_base ho61) hb); replace HO_127003 := am_ (Kd.Q_elder' (by exact HO_127003.out) (Kd.R_base ho61) hb); replace BK110 := am_ (blk_below (by exact BK110.out) hb); replace BK118 := am_ (blk_below (by exact BK118.out) hb); replace BK126 := am_ (blk_below (by exact BK126.out) hb); replace HB := am_ (below_step (by repeat (first | (with_reducible first | exact HB.out | apply below_alloc | apply pw_below_drewN | apply below_drew1 | refine below_set ?_ GE110.out | refine below_set ?_ GE118.out | refine below_set ?_ GE126.out) | exact HB.out)) hb); clear hb ho61))
     go_loopg [9, 10] kj5 (fun kq v9 v10 w' => ∃ (x9_2 : List Int) (x10_2 : Int), v10 = .int .i64 x10_2 ∧ Aside0 (laws_FnMapImageInvert.l0 kq x9_2 x10_2 t101 t102 t103 t104 = some r) ∧ Aside0 (kq ≤ kj5) ∧ Aside0 (Kd.R (Kd.int .i64) 3 w' w.heap.size (fun k_ => some k_ ≠ ((.slice Ao10 t104.length co10) : Value).ownBlock ∧ some k_ ≠ ((.slice Ao16 t114.length co16) : Value).ownBlock ∧ some k_ ≠ ((.slice Ao23 t122.length co23) : Value).ownBlock) v9 x9_2) ∧ Aside0 (Kd.Q (Kd.int .i64) 3 w' w.heap.size (fun k_ => some k_ ≠ (v9 : Value).ownBlock ∧ some k_ ≠ ((.slice Ao16 t114.length co16) : Value).ownBlock ∧ some k_ ≠ ((.slice Ao23 t122.length co23) : Value).ownBlock) (.slice Ao10 t104.length co10) t104) ∧ Aside0 (Kd.Q (Kd.int .i64) 3 w' w.heap.size (fun k_ => some k_ ≠ (v9 : Value).ownBlock ∧ some k_ ≠ ((.slice Ao10 t104.length co10) : Value).ownBlock ∧ some k_ ≠ ((.slice Ao23 t122.length co23) : Value).ownBlock) (.slice Ao16 t114.length co16) t114) ∧ Aside0 (Kd.Q (Kd.int .i64) 3 w' w.heap.size (fun k_ => some k_ ≠ (v9 : Value).ownBlock ∧ some k_ ≠ ((.slice Ao10 t104.length co10) : Value).ownBlock ∧ some k_ ≠ ((.slice Ao16 t114.length co16) : Value).ownBlock) (.slice Ao23 t122.length co23) t122) ∧ Aside0 (w'.heap[gb110]? = some (.cells #[.int .i64 t101, .int .i64 t102, .int .i64 t103, (.slice Ao10 t104.length co10)] 27 (0, 0))) ∧ Aside0 (w'.heap[gb118]? = some (.cells #[.int .i64 t111, .int .i64 t112, .int .i64 t113, (.slice Ao16 t114.length co16)] 27 (0, 0))) ∧ Aside0 (w'.heap[gb126]? = some (.cells #[.int .i64 t119, .int .i64 t120, .int .i64 t121, (.slice Ao23 t122.length co23)] 27 (0, 0))) ∧ Aside0 (Below w.heap.size w w'))
     case atStart => exact ⟨(y129), (255), (by first | rfl | (simp; done) | (simp [*]; done)), H', ⟨Nat.le_refl _⟩, ⟨by exact Kd.R_mono HO131.out (fun _ hk => ⟨hk.1.1.2, ⟨hk.1.2, hk.2⟩⟩)⟩, ⟨by exact Kd.Q_mono HO_111003.out (fun _ hk => ⟨hk.2, ⟨hk.1.1, hk.1.2⟩⟩)⟩, ⟨by exact Kd.Q_mono HO_119003.out (fun _ hk => ⟨hk.2, ⟨hk.1.1, hk.1.2⟩⟩)⟩, ⟨by exact Kd.Q_mono HO_127003.out (fun _ hk => ⟨hk.2, ⟨hk.1.1, hk.1.2⟩⟩)⟩, ⟨by exact BK110.out⟩, ⟨by exact BK118.out⟩, ⟨by exact BK126.out⟩, ⟨by repeat (first | (with_reducible first | exact HB.out | apply below_alloc | apply pw_below_drewN | apply below_drew1 | refine below_set ?_ GE110.out | refine below_set ?_ GE118.out | refine below_set ?_ GE126.out) | exact HB.out)⟩⟩
     case round =>
      clear H'
      try clear c1
      try clear c2
      try clear c2b0
      try clear c2b1
      try clear p2
      try clear c3
      try clear c4
      try clear c5
      try clear c9
      try clear c14
      try clear c20
      try clear c21
      try clear c25
      try clear c26
      try clear c26b0
      try clear c26b1
      try clear c26b2
      try clear c27
      try clear c28
      try clear c30
      try clear c31
      try clear c32
      try clear c33
      try clear c34
      try clear c36
      try clear c39
      try clear c40
      try clear c42
      try clear c45
      try clear c47
      try clear c48
      try clear c49
      try clear c51
      try clear c54
      try clear c55
      try clear c57
      try clear hcz15_0
      try clear hcz15_1
      try clear hcz15_2
      try clear hcz15_3
      try clear hcz17_0
      try clear hcz17_1
      try clear hcz17_2
      try clear hcz17_3
      try clear hcz22_0
      try clear hcz22_1
      try clear hcz22_2
      try clear hcz22_3
      try clear hcz29_0
      try clear hcz29_1
      try clear hcz29_2
      try clear hcz29_3
      try clear hcz31_0
      try clear hcz31_1
      try clear hcz31_2
      try clear hcz31_3
      try clear hcz35_0
      try clear hcz35_1
      try clear hcz35_2
      try clear hcz35_3
      try clear hcz37_0
      try clear hcz37_1
      try clear hcz37_2
      try clear hcz37_3
      try clear hcz41_0
      try clear hcz41_1
      try clear hcz41_2
      try clear hcz41_3
      try clear hcz43_0
      try clear hcz43_1
      try clear hcz43_2
      try clear hcz43_3
      try clear hcz50_0
      try clear hcz50_1
      try clear hcz50_2
      try clear hcz50_3
      try clear hcz52_0
      try clear hcz52_1
      try clear hcz52_2
      try clear hcz52_3
      try clear hcz56_0
      try clear hcz56_1
      try clear hcz56_2
      try clear hcz56_3
      try clear hcz58_0
      try clear hcz58_1
      try clear hcz58_2
      try clear hcz58_3
      try clear hcz9_0
      try clear hcz9_1
      try clear hcz9_2
      try clear hcz9_3
      try clear hfz15_0
      try clear hfz15_1
      try clear hfz15_2
      try clear hfz15_3
      try clear hfz17_0
      try clear hfz17_1
      try clear hfz17_2
      try clear hfz17_3
      try clear hfz22_0
      try clear hfz22_1
      try clear hfz22_2
      try clear hfz22_3
      try clear hfz29_0
      try clear hfz29_1
      try clear hfz29_2
      try clear hfz29_3
      try clear hfz31_0
      try clear hfz31_1
      try clear hfz31_2
      try clear hfz31_3
      try clear hfz35_0
      try clear hfz35_1
      try clear hfz35_2
      try clear hfz35_3
      try clear hfz37_0
      try clear hfz37_1
      try clear hfz37_2
      try clear hfz37_3
      try clear hfz41_0
      try clear hfz41_1
      try clear hfz41_2
      try clear hfz41_3
      try clear hfz43_0
      try clear hfz43_1
      try clear hfz43_2
      try clear hfz43_3
      try clear hfz50_0
      try clear hfz50_1
      try clear hfz50_2
      try clear hfz50_3
      try clear hfz52_0
      try clear hfz52_1
      try clear hfz52_2
      try clear hfz52_3
      try clear hfz56_0
      try clear hfz56_1
      try clear hfz56_2
      try clear hfz56_3
      try clear hfz58_0
      try clear hfz58_1
      try clear hfz58_2
      try clear hfz58_3
      try clear hfz9_0
      try clear hfz9_1
      try clear hfz9_2
      try clear hfz9_3
      try clear p2
      obtain ⟨x9_2, x10_2, rfl, HA, HK2, HO_9, HO_111003, HO_119003, HO_127003, BK110, BK118, BK126, HB⟩ := hrel
      cases gk with
      | zero => exact absurd HA.out (by simp [laws_FnMapImageInvert.l0])
      | succ k2 =>
       have H := HA.out
       clear HA
       simp only [laws_FnMapImageInvert.l0] at H
       by_cases c62 : x10_2 ≥ 0
       ·
        rw [if_pos c62] at H
        have c62b0 : decide (0 ≤ x10_2) = true := decide_eq_true c62
        clear c62
        by_cases c63 : x9_2.length < 17592186044416
        ·
         rw [if_pos c63] at H
         have LMc63 := Aside0.mk c63
         clear c63
         obtain ⟨y132, hy132⟩ : ∃ y_ : List Int, y_ = (x9_2 ++ [x10_2]) := ⟨_, rfl⟩
         replace H : (laws_FnMapImageInvert.l0 k2 y132 (wrap64 (x10_2 - 1)) t101 t102 t103 t104) = some r := by first | (rw [hy132]; with_reducible exact H) | (have H2_ := (Option.bind_some _ _).symm.trans H; rw [hy132]; with_reducible exact H2_) | (have H2_ := (Option.bind_some _ _).symm.trans H; with_reducible exact H2_) | with_reducible exact H | (rw [hy132]; exact H) | exact H
         have Ny132 := Aside0.mk hy132
         clear hy132
         have H' := Aside0.mk H
         clear H
         go_wp2_with (first | ((with_reducible refine gate_builtin (b := .append) (xs := #[.tmp 59, .tmp 61]) rfl ?_); at_builtin; refine Kd.R_append (Kd.int .i64) (w0 := w) w.heap.size rfl (.tmp 59) (.tmp 61) 22 3 (.int .i64 0) 8 rfl Try.underlying22 info3 rfl (by decide) (by omega) u9 x9_2 x10_2 [.int .i64 x10_2] (fun k_ => some k_ ≠ (.slice Ao10 t104.length co10 : Value).ownBlock ∧ some k_ ≠ (.slice Ao16 t114.length co16 : Value).ownBlock ∧ some k_ ≠ (.slice Ao23 t122.length co23 : Value).ownBlock) (fun _ => False) rfl rfl ?aP (fun _ hk => hk.elim) ?aF ?aO ?aB ?aS ?aL ?_; (case aP => exact rfl); (case aB => exact (by repeat (first | (with_reducible first | exact HB.out | apply below_alloc | apply pw_below_drewN | apply below_drew1 | refine below_set ?_ GE110.out | refine below_set ?_ GE118.out | refine below_set ?_ GE126.out) | exact HB.out))); (case aF => exact (fun k_ hk => ⟨Kd.fresh' (Kd.Q_lt (by exact HO_111003.out)) k_ hk, Kd.fresh' (Kd.Q_lt (by exact HO_119003.out)) k_ hk, Kd.fresh' (Kd.Q_lt (by exact HO_127003.out)) k_ hk⟩)); (case aO => exact (by exact HO_9.out)); (case aS => exact (below_size (by repeat (first | (with_reducible first | exact HB.out | apply below_alloc | apply pw_below_drewN | apply below_drew1 | refine below_set ?_ GE110.out | refine below_set ?_ GE118.out | refine below_set ?_ GE126.out) | exact HB.out)))); (case aL => have := LMc63.out; omega); intro v133 w64 ho hb hg hat; rw [← Ny132.out] at ho; replace HO_111003 := am_ (Kd.Q_after (ok := (fun k_ => some k_ ≠ (.slice Ao16 t114.length co16 : Value).ownBlock ∧ some k_ ≠ (.slice Ao23 t122.length co23 : Value).ownBlock)) (by exact Kd.Q_mono HO_111003.out (fun _ hk => ⟨⟨hk.2.1, hk.2.2⟩, hk.1⟩)) hg hat); replace HO_119003 := am_ (Kd.Q_after (ok := (fun k_ => some k_ ≠ (.slice Ao10 t104.length co10 : Value).ownBlock ∧ some k_ ≠ (.slice Ao23 t122.length co23 : Value).ownBlock)) (by exact Kd.Q_mono HO_119003.out (fun _ hk => ⟨⟨hk.2.1, hk.2.2⟩, hk.1⟩)) hg hat); replace HO_127003 := am_ (Kd.Q_after (ok := (fun k_ => some k_ ≠ (.slice Ao10 t104.length co10 : Value).ownBlock ∧ some k_ ≠ (.slice Ao16 t114.length co16 : Value).ownBlock)) (by exact Kd.Q_mono HO_127003.out (fun _ hk => ⟨⟨hk.2.1, hk.2.2⟩, hk.1⟩)) hg hat); replace BK110 := am_ (blk_grown (by exact BK110.out) hg (Kd.R_ne HO_9.out BK110.out (by decide))); replace BK118 := am_ (blk_grown (by exact BK118.out) hg (Kd.R_ne HO_9.out BK118.out (by decide))); replace BK126 := am_ (blk_grown (by exact BK126.out) hg (Kd.R_ne HO_9.out BK126.out (by decide))); replace HB := am_ (hb); have HO134 := am_ (ho); clear HO_9; clear ho hb hg hat))
         go_roundg k2
         case measure => have := HJ5.out; have := HK2.out; omega
         case rel => exact ⟨(y132), (wrap64 (x10_2 - 1)), (by first | rfl | (simp; done) | (simp [*]; done)), H', ⟨by have := HJ5.out; have := HK2.out; omega⟩, ⟨by exact HO134.out⟩, ⟨by exact Kd.Q_mono HO_111003.out (fun _ hk => ⟨hk.2, ⟨hk.1.1, hk.1.2⟩⟩)⟩, ⟨by exact Kd.Q_mono HO_119003.out (fun _ hk => ⟨hk.2, ⟨hk.1.1, hk.1.2⟩⟩)⟩, ⟨by exact Kd.Q_mono HO_127003.out (fun _ hk => ⟨hk.2, ⟨hk.1.1, hk.1.2⟩⟩)⟩, ⟨by exact BK110.out⟩, ⟨by exact BK118.out⟩, ⟨by exact BK126.out⟩, ⟨by repeat (first | (with_reducible first | exact HB.out | apply below_alloc | apply pw_below_drewN | apply below_drew1 | refine below_set ?_ GE110.out | refine below_set ?_ GE118.out | refine below_set ?_ GE126.out) | exact HB.out)⟩⟩
        ·
         rw [if_neg c63] at H
         exact absurd H (by simp)
       ·
        rw [if_neg c62] at H
        have c62b0 : decide (0 ≤ x10_2) = false := decide_eq_false c62
        clear c62
        replace H := Option.bind_eq_some_iff.mp H
        obtain ⟨⟨t135, t136, t137, t138, t141⟩, A650, H⟩ := H
        replace H : (if t141 = true then ((impl_InvertImage.f t101 t102 t103 t104).bind fun bt143 => ((laws_equalImage.f k2 t135 t136 t137 t138 bt143.1 bt143.2.1 bt143.2.2.1 bt143.2.2.2).bind fun t149 => (some t149))) else (some false)) = some r := H
        have A65 := Aside0.mk A650
        clear A650
        by_cases c66 : t141 = true
        ·
         subst c66
         have H1 : ((impl_InvertImage.f t101 t102 t103 t104).bind fun bt143 => ((laws_equalImage.f k2 t135 t136 t137 t138 bt143.1 bt143.2.1 bt143.2.2.1 bt143.2.2.2).bind fun t149 => (some t149))) = some r := by rw [if_pos rfl] at H; exact H
         clear H
         have H := H1
         clear H1
         replace H := Option.bind_eq_some_iff.mp H
         obtain ⟨⟨t143, t144, t145, t146⟩, A670, H⟩ := H
         replace H : ((laws_equalImage.f k2 t135 t136 t137 t138 t143 t144 t145 t146).bind fun t149 => (some t149)) = some r := H
         have A67 := Aside0.mk A670
         clear A670
         replace H := Option.bind_eq_some_iff.mp H
         obtain ⟨t149, A680, H⟩ := H
         replace H : (some t149) = some r := H
         have A68 := Aside0.mk A680
         clear A680
         obtain rfl := Option.some.inj H
         have hnb69 := NB110_118.out
         have hnc69 := NB118_110.out
         have hnb70 := NB110_126.out
         have hnc70 := NB126_110.out
         obtain ⟨hcz71_0, hcz71_1, hcz71_2, hcz71_3, hfz71_0, hfz71_1, hfz71_2, hfz71_3⟩ := blk4_ BK110.out
         obtain ⟨Ao72, co72, eo72⟩ := Kd.R_slice HO_9.out
         subst eo72
         try go_wp2_with (first | ((with_reducible refine gate_callee (f := 31) rfl ?_); refine goesL_ (some 66) rfl rfl Try.func31 (by kernel_rfl) rfl #[.agg #[.int .i64 t101, .int .i64 t102, .int .i64 t103, .slice Ao10 t104.length co10], .slice Ao72 x9_2.length co72] rfl (by simp only [List.map_toArray, List.map_cons, List.map_nil]; rfl) ?_; (with_reducible refine (impl_MapImage.calls t101 t102 t103 _ _ t104 _ _ x9_2 t135 t136 t137 t138 true _ ?side1 ?side2 ?side3 ?side4 A65.out).mono ?_); (case side1 => repeat (first | exact (Kd.Q_reads' HO_111003.out).2.2 | (with_reducible refine Kd.C_alloc ?_ _) | (with_reducible refine Kd.C_drewN ?_ _) | (with_reducible refine Kd.C_drew ?_))); (case side2 => exact (Kd.Q_reads' HO_111003.out).2.1); (case side3 => repeat (first | exact (Kd.R_reads' HO_9.out).2.2 | (with_reducible refine Kd.C_alloc ?_ _) | (with_reducible refine Kd.C_drewN ?_ _) | (with_reducible refine Kd.C_drew ?_))); (case side4 => exact (Kd.R_reads' HO_9.out).2.1); rintro e w73 ⟨v139, rfl, ho0, hb⟩; refine ⟨_, rfl, ?_⟩; have HO140 := am_ (Kd.R_lower (Kd.R_new' (Kd.R_new' (Kd.R_new' (Kd.R_new' ho0 (Kd.R_lt (by exact HO_9.out))) (Kd.Q_lt (by exact HO_111003.out))) (Kd.Q_lt (by exact HO_119003.out))) (Kd.Q_lt (by exact HO_127003.out))) (below_size (by repeat (first | (with_reducible first | exact HB.out | apply below_alloc | apply pw_below_drewN | apply below_drew1 | refine below_set ?_ GE110.out | refine below_set ?_ GE118.out | refine below_set ?_ GE126.out) | exact HB.out)))); replace HO_9 := am_ (Kd.R_elder' (by exact HO_9.out) (Kd.R_base ho0) hb); replace HO_111003 := am_ (Kd.Q_elder' (by exact HO_111003.out) (Kd.R_base ho0) hb); replace HO_119003 := am_ (Kd.Q_elder' (by exact HO_119003.out) (Kd.R_base ho0) hb); replace HO_127003 := am_ (Kd.Q_elder' (by exact HO_127003.out) (Kd.R_base ho0) hb); replace BK110 := am_ (blk_below (by exact BK110.out) hb); replace BK118 := am_ (blk_below (by exact BK118.out) hb); replace BK126 := am_ (blk_below (by exact BK126.out) hb); replace HB := am_ (below_step (by repeat (first | (with_reducible first | exact HB.out | apply below_alloc | apply pw_below_drewN | apply below_drew1 | refine below_set ?_ GE110.out | refine below_set ?_ GE118.out | refine below_set ?_ GE126.out) | exact HB.out)) hb); (try clear hb); (try clear hb2); (try clear hk); (try clear hi); (try clear ho0)) | ((with_reducible refine gate_dst (N := 11) rfl ?_); refine box_event ?hg (N := 11) ?hd (cs := #[.int .i64 0, .int .i64 0, .int .i64 0, .slice none 0 0]) (t := 27) ?hr ?_; (case hd => rfl); (case hg => rfl); (case hr => first | (go_simp; done) | (go_simp; rfl)); intro gb142 hg w74 hbox hb; replace HO_9 := am_ (Kd.R_below (by exact HO_9.out) hb); replace HO_111003 := am_ (Kd.Q_below (by exact HO_111003.out) hb); replace HO_119003 := am_ (Kd.Q_below (by exact HO_119003.out) hb); replace HO_127003 := am_ (Kd.Q_below (by exact HO_127003.out) hb); replace HO140 := am_ (Kd.R_below (by exact HO140.out) hb); have BK142 := am_ (hbox); have GW142 := am_ ((by rw [hg]; exact (below_size (by repeat (first | (with_reducible first | exact HB.out | apply below_alloc | apply pw_below_drewN | apply below_drew1 | refine below_set ?_ GE110.out | refine below_set ?_ GE118.out | refine below_set ?_ GE126.out) | exact HB.out))) : w.heap.size ≤ gb142)); have GE142 := GW142; replace HB := am_ (below_step (by repeat (first | (with_reducible first | exact HB.out | apply below_alloc | apply pw_below_drewN | apply below_drew1 | refine below_set ?_ GE110.out | refine below_set ?_ GE118.out | refine below_set ?_ GE126.out) | exact HB.out)) hb); have NB110_142 := am_ ((by rw [hg]; exact Nat.ne_of_lt (blk_lt (by exact BK110.out)) : gb110 ≠ gb142)); have NB142_110 := am_ ((by rw [hg]; exact Nat.ne_of_gt (blk_lt (by exact BK110.out)) : gb142 ≠ gb110)); replace BK110 := am_ (blk_below (by exact BK110.out) hb); have NB118_142 := am_ ((by rw [hg]; exact Nat.ne_of_lt (blk_lt (by exact BK118.out)) : gb118 ≠ gb142)); have NB142_118 := am_ ((by rw [hg]; exact Nat.ne_of_gt (blk_lt (by exact BK118.out)) : gb142 ≠ gb118)); replace BK118 := am_ (blk_below (by exact BK118.out) hb); have NB126_142 := am_ ((by rw [hg]; exact Nat.ne_of_lt (blk_lt (by exact BK126.out)) : gb126 ≠ gb142)); have NB142_126 := am_ ((by rw [hg]; exact Nat.ne_of_gt (blk_lt (by exact BK126.out)) : gb142 ≠ gb126)); replace BK126 := am_ (blk_below (by exact BK126.out) hb); clear hb hbox hg; have hnb75 := NB142_110.out; have hnc75 := NB110_142.out; have hnb76 := NB142_118.out; have hnc76 := NB118_142.out; have hnb77 := NB142_126.out; have hnc77 := NB126_142.out; obtain ⟨hcz78_0, hcz78_1, hcz78_2, hcz78_3, hfz78_0, hfz78_1, hfz78_2, hfz78_3⟩ := blk4_ BK142.out; obtain ⟨Ao79, co79, eo79⟩ := Kd.R_slice HO140.out; subst eo79))
         have n0_ : Aside0 (Kd.R (Kd.int .i64) 3 ((((w74.setCell ⟨gb142, 0, none⟩ (.int .i64 t135)).setCell ⟨gb142, 1, none⟩ (.int .i64 t136)).setCell ⟨gb142, 2, none⟩ (.int .i64 t137)).setCell ⟨gb142, 3, none⟩ (.slice Ao79 t138.length co79)) w.heap.size (fun k_ => some k_ ≠ (.slice Ao10 t104.length co10 : Value).ownBlock ∧ some k_ ≠ (.slice Ao16 t114.length co16 : Value).ownBlock ∧ some k_ ≠ (.slice Ao23 t122.length co23 : Value).ownBlock ∧ some k_ ≠ (.slice Ao79 t138.length co79 : Value).ownBlock) (.slice Ao72 x9_2.length co72) x9_2) := ⟨by exact Kd.R_mono (Kd.R_far (p := ⟨gb142, 3, none⟩) (Kd.R_far (p := ⟨gb142, 2, none⟩) (Kd.R_far (p := ⟨gb142, 1, none⟩) (Kd.R_far (p := ⟨gb142, 0, none⟩) (Kd.R_types HO_9.out BK142.out (by decide)) (fun _ hk => hk.2) (.int .i64 t135)) (fun _ hk => hk.2) (.int .i64 t136)) (fun _ hk => hk.2) (.int .i64 t137)) (fun _ hk => hk.2) (.slice Ao79 t138.length co79)) (fun _ hk => ⟨hk.1.1.1, ⟨hk.1.1.2.1, ⟨hk.1.1.2.2, hk.1.2⟩⟩⟩)⟩
         have n1_ : Aside0 (Kd.Q (Kd.int .i64) 3 ((((w74.setCell ⟨gb142, 0, none⟩ (.int .i64 t135)).setCell ⟨gb142, 1, none⟩ (.int .i64 t136)).setCell ⟨gb142, 2, none⟩ (.int .i64 t137)).setCell ⟨gb142, 3, none⟩ (.slice Ao79 t138.length co79)) w.heap.size (fun k_ => some k_ ≠ (.slice Ao72 x9_2.length co72 : Value).ownBlock ∧ some k_ ≠ (.slice Ao16 t114.length co16 : Value).ownBlock ∧ some k_ ≠ (.slice Ao23 t122.length co23 : Value).ownBlock ∧ some k_ ≠ (.slice Ao79 t138.length co79 : Value).ownBlock) (.slice Ao10 t104.length co10) t104) := ⟨by exact Kd.Q_mono (Kd.Q_far (p := ⟨gb142, 3, none⟩) (Kd.Q_far (p := ⟨gb142, 2, none⟩) (Kd.Q_far (p := ⟨gb142, 1, none⟩) (Kd.Q_far (p := ⟨gb142, 0, none⟩) (Kd.Q_types HO_111003.out BK142.out (by decide)) (fun _ hk => hk.2) (.int .i64 t135)) (fun _ hk => hk.2) (.int .i64 t136)) (fun _ hk => hk.2) (.int .i64 t137)) (fun _ hk => hk.2) (.slice Ao79 t138.length co79)) (fun _ hk => ⟨hk.1.1.1, ⟨hk.1.1.2.1, ⟨hk.1.1.2.2, hk.1.2⟩⟩⟩)⟩
         have n2_ : Aside0 (Kd.Q (Kd.int .i64) 3 ((((w74.setCell ⟨gb142, 0, none⟩ (.int .i64 t135)).setCell ⟨gb142, 1, none⟩ (.int .i64 t136)).setCell ⟨gb142, 2, none⟩ (.int .i64 t137)).setCell ⟨gb142, 3, none⟩ (.slice Ao79 t138.length co79)) w.heap.size (fun k_ => some k_ ≠ (.slice Ao72 x9_2.length co72 : Value).ownBlock ∧ some k_ ≠ (.slice Ao10 t104.length co10 : Value).ownBlock ∧ some k_ ≠ (.slice Ao23 t122.length co23 : Value).ownBlock ∧ some k_ ≠ (.slice Ao79 t138.length co79 : Value).ownBlock) (.slice Ao16 t114.length co16) t114) := ⟨by exact Kd.Q_mono (Kd.Q_far (p := ⟨gb142, 3, none⟩) (Kd.Q_far (p := ⟨gb142, 2, none⟩) (Kd.Q_far (p := ⟨gb142, 1, none⟩) (Kd.Q_far (p := ⟨gb142, 0, none⟩) (Kd.Q_types HO_119003.out BK142.out (by decide)) (fun _ hk => hk.2) (.int .i64 t135)) (fun _ hk => hk.2) (.int .i64 t136)) (fun _ hk => hk.2) (.int .i64 t137)) (fun _ hk => hk.2) (.slice Ao79 t138.length co79)) (fun _ hk => ⟨hk.1.1.1, ⟨hk.1.1.2.1, ⟨hk.1.1.2.2, hk.1.2⟩⟩⟩)⟩
         have n3_ : Aside0 (Kd.Q (Kd.int .i64) 3 ((((w74.setCell ⟨gb142, 0, none⟩ (.int .i64 t135)).setCell ⟨gb142, 1, none⟩ (.int .i64 t136)).setCell ⟨gb142, 2, none⟩ (.int .i64 t137)).setCell ⟨gb142, 3, none⟩ (.slice Ao79 t138.length co79)) w.heap.size (fun k_ => some k_ ≠ (.slice Ao72 x9_2.length co72 : Value).ownBlock ∧ some k_ ≠ (.slice Ao10 t104.length co10 : Value).ownBlock ∧ some k_ ≠ (.slice Ao16 t114.length co16 : Value).ownBlock ∧ some k_ ≠ (.slice Ao79 t138.length co79 : Value).ownBlock) (.slice Ao23 t122.length co23) t122) := ⟨by exact Kd.Q_mono (Kd.Q_far (p := ⟨gb142, 3, none⟩) (Kd.Q_far (p := ⟨gb142, 2, none⟩) (Kd.Q_far (p := ⟨gb142, 1, none⟩) (Kd.Q_far (p := ⟨gb142, 0, none⟩) (Kd.Q_types HO_127003.out BK142.out (by decide)) (fun _ hk => hk.2) (.int .i64 t135)) (fun _ hk => hk.2) (.int .i64 t136)) (fun _ hk => hk.2) (.int .i64 t137)) (fun _ hk => hk.2) (.slice Ao79 t138.length co79)) (fun _ hk => ⟨hk.1.1.1, ⟨hk.1.1.2.1, ⟨hk.1.1.2.2, hk.1.2⟩⟩⟩)⟩
         have n4_ : Aside0 (Kd.R (Kd.int .i64) 3 ((((w74.setCell ⟨gb142, 0, none⟩ (.int .i64 t135)).setCell ⟨gb142, 1, none⟩ (.int .i64 t136)).setCell ⟨gb142, 2, none⟩ (.int .i64 t137)).setCell ⟨gb142, 3, none⟩ (.slice Ao79 t138.length co79)) w.heap.size (fun k_ => some k_ ≠ (.slice Ao72 x9_2.length co72 : Value).ownBlock ∧ some k_ ≠ (.slice Ao10 t104.length co10 : Value).ownBlock ∧ some k_ ≠ (.slice Ao16 t114.length co16 : Value).ownBlock ∧ some k_ ≠ (.slice Ao23 t122.length co23 : Value).ownBlock) (.slice Ao79 t138.length co79) t138) := ⟨by exact Kd.R_mono (Kd.R_far (p := ⟨gb142, 3, none⟩) (Kd.R_far (p := ⟨gb142, 2, none⟩) (Kd.R_far (p := ⟨gb142, 1, none⟩) (Kd.R_far (p := ⟨gb142, 0, none⟩) (Kd.R_types HO140.out BK142.out (by decide)) (fun _ hk => hk.2) (.int .i64 t135)) (fun _ hk => hk.2) (.int .i64 t136)) (fun _ hk => hk.2) (.int .i64 t137)) (fun _ hk => hk.2) (.slice Ao79 t138.length co79)) (fun _ hk => ⟨hk.1.1.1.1.2, ⟨hk.1.1.1.2, ⟨hk.1.1.2, hk.1.2⟩⟩⟩)⟩
         have n5_ : Aside0 (((((w74.setCell ⟨gb142, 0, none⟩ (.int .i64 t135)).setCell ⟨gb142, 1, none⟩ (.int .i64 t136)).setCell ⟨gb142, 2, none⟩ (.int .i64 t137)).setCell ⟨gb142, 3, none⟩ (.slice Ao79 t138.length co79)).heap[gb110]? = some (.cells #[.int .i64 t101, .int .i64 t102, .int .i64 t103, .slice Ao10 t104.length co10] 27 (0, 0))) := ⟨by exact far4_ BK110.out NB110_142.out _ _ _ _⟩
         have n6_ : Aside0 (((((w74.setCell ⟨gb142, 0, none⟩ (.int .i64 t135)).setCell ⟨gb142, 1, none⟩ (.int .i64 t136)).setCell ⟨gb142, 2, none⟩ (.int .i64 t137)).setCell ⟨gb142, 3, none⟩ (.slice Ao79 t138.length co79)).heap[gb118]? = some (.cells #[.int .i64 t111, .int .i64 t112, .int .i64 t113, .slice Ao16 t114.length co16] 27 (0, 0))) := ⟨by exact far4_ BK118.out NB118_142.out _ _ _ _⟩
         have n7_ : Aside0 (((((w74.setCell ⟨gb142, 0, none⟩ (.int .i64 t135)).setCell ⟨gb142, 1, none⟩ (.int .i64 t136)).setCell ⟨gb142, 2, none⟩ (.int .i64 t137)).setCell ⟨gb142, 3, none⟩ (.slice Ao79 t138.length co79)).heap[gb126]? = some (.cells #[.int .i64 t119, .int .i64 t120, .int .i64 t121, .slice Ao23 t122.length co23] 27 (0, 0))) := ⟨by exact far4_ BK126.out NB126_142.out _ _ _ _⟩
         have n8_ : Aside0 (((((w74.setCell ⟨gb142, 0, none⟩ (.int .i64 t135)).setCell ⟨gb142, 1, none⟩ (.int .i64 t136)).setCell ⟨gb142, 2, none⟩ (.int .i64 t137)).setCell ⟨gb142, 3, none⟩ (.slice Ao79 t138.length co79)).heap[gb142]? = some (.cells #[.int .i64 t135, .int .i64 t136, .int .i64 t137, .slice Ao79 t138.length co79] 27 (0, 0))) := ⟨by exact put4_ BK142.out _ _ _ _⟩
         have n9_ : Aside0 (Below w.heap.size w ((((w74.setCell ⟨gb142, 0, none⟩ (.int .i64 t135)).setCell ⟨gb142, 1, none⟩ (.int .i64 t136)).setCell ⟨gb142, 2, none⟩ (.int .i64 t137)).setCell ⟨gb142, 3, none⟩ (.slice Ao79 t138.length co79))) := ⟨by repeat (first | (with_reducible first | exact HB.out | apply below_alloc | apply pw_below_drewN | apply below_drew1 | refine below_set ?_ GE110.out | refine below_set ?_ GE118.out | refine below_set ?_ GE126.out | refine below_set ?_ GE142.out) | exact HB.out)⟩
         (try clear HO_9)
         (try clear HO_111003)
         (try clear HO_119003)
         (try clear HO_127003)
         (try clear HO140)
         (try clear BK110)
         (try clear BK118)
         (try clear BK126)
         (try clear BK142)
         (try clear HB)
         generalize ((((w74.setCell ⟨gb142, 0, none⟩ (.int .i64 t135)).setCell ⟨gb142, 1, none⟩ (.int .i64 t136)).setCell ⟨gb142, 2, none⟩ (.int .i64 t137)).setCell ⟨gb142, 3, none⟩ (.slice Ao79 t138.length co79)) = w80 at n0_ n1_ n2_ n3_ n4_ n5_ n6_ n7_ n8_ n9_ ⊢
         have HO_9 := n0_
         have HO_111003 := n1_
         have HO_119003 := n2_
         have HO_127003 := n3_
         have HO140 := n4_
         have BK110 := n5_
         have BK118 := n6_
         have BK126 := n7_
         have BK142 := n8_
         have HB := n9_
         clear n0_ n1_ n2_ n3_ n4_ n5_ n6_ n7_ n8_ n9_
         replace HO_9 := am_ (Kd.R_drew HO_9.out)
         replace HO_111003 := am_ (Kd.Q_drew HO_111003.out)
         replace HO_119003 := am_ (Kd.Q_drew HO_119003.out)
         replace HO_127003 := am_ (Kd.Q_drew HO_127003.out)
         replace HO140 := am_ (Kd.R_drew HO140.out)
         replace BK110 := am_ (blk_drew BK110.out)
         replace BK118 := am_ (blk_drew BK118.out)
         replace BK126 := am_ (blk_drew BK126.out)
         replace BK142 := am_ (blk_drew BK142.out)
         replace HB := am_ (below_drew1 HB.out)
         refine start_ (n := 8) (S := fun w' => w'.cell? ⟨gb142, 0, none⟩ = some (.int .i64 t135) ∧ w'.cell? ⟨gb142, 1, none⟩ = some (.int .i64 t136) ∧ w'.cell? ⟨gb142, 2, none⟩ = some (.int .i64 t137) ∧ w'.cell? ⟨gb142, 3, none⟩ = some (.slice Ao79 t138.length co79) ∧ w'.cell? ⟨gb110, 0, none⟩ = some (.int .i64 t101) ∧ w'.cell? ⟨gb110, 1, none⟩ = some (.int .i64 t102) ∧ w'.cell? ⟨gb110, 2, none⟩ = some (.int .i64 t103) ∧ w'.cell? ⟨gb110, 3, none⟩ = some (.slice Ao10 t104.length co10)) (ds := []) #[false, false, false, false, false, false, false, false] (by kernel_rfl) rfl rfl ⟨(blk_cell BK142.out 0).trans rfl, (blk_cell BK142.out 1).trans rfl, (blk_cell BK142.out 2).trans rfl, (blk_cell BK142.out 3).trans rfl, (blk_cell BK110.out 0).trans rfl, (blk_cell BK110.out 1).trans rfl, (blk_cell BK110.out 2).trans rfl, (blk_cell BK110.out 3).trans rfl⟩ (fun hHeld => ?_); refine with_tabW laws_FnMapImageInvert.tab14 laws_FnMapImageInvert.bits14 (fun HT_ HW_ => ?_)
         generalize w80.drew = w81 at HO_9 HO_111003 HO_119003 HO_127003 HO140 BK110 BK118 BK126 BK142 HB hHeld ⊢
         refine pure_ (i := 0) (N := some 69) (v := ?_) (a' := ?_) #[true, false, false, false, false, false, false, false] rfl rfl (any_of HT_.out (by kernel_rfl)) (fun _ _ _ h => h) (Or.inl ⟨by rfl, ?_⟩) ?_ ?_
         rotate_left
         ·
          intro w'
          go_simp
          with_reducible rfl
         rotate_left
         ·
          simp only [Act.put, List.setIfInBounds_toArray, List.set_cons_zero, List.set_cons_succ, i64_w, i32_w]
          rfl
         refine pure_ (i := 1) (N := some 70) (v := ?_) (a' := ?_) #[true, true, false, false, false, false, false, false] rfl rfl (any_of HT_.out (by kernel_rfl)) (fun _ _ _ h => h) (Or.inl ⟨by rfl, ?_⟩) ?_ ?_
         rotate_left
         ·
          intro w'
          go_simp
          with_reducible rfl
         rotate_left
         ·
          simp only [Act.put, List.setIfInBounds_toArray, List.set_cons_zero, List.set_cons_succ, i64_w, i32_w]
          rfl
         refine take_ (i := 2) (N := some 71) (v := ?_) (a' := ?_) #[true, true, true, false, false, false, false, false] rfl rfl (take_ofW HT_.out HW_.out (by kernel_rfl)) (fun _ _ _ h => h) (Or.inl ⟨by rfl, ?_⟩) hHeld ?_ ?_
         rotate_left
         ·
          rintro w' ⟨s0, s1, s2, s3, s4, s5, s6, s7⟩
          go_simp
          with_reducible rfl
         rotate_left
         ·
          simp only [Act.put, List.setIfInBounds_toArray, List.set_cons_zero, List.set_cons_succ, i64_w, i32_w]
          rfl
         refine take_ (i := 3) (N := some 72) (v := ?_) (a' := ?_) #[true, true, true, true, false, false, false, false] rfl rfl (take_ofW HT_.out HW_.out (by kernel_rfl)) (fun _ _ _ h => h) (Or.inl ⟨by rfl, ?_⟩) hHeld ?_ ?_
         rotate_left
         ·
          rintro w' ⟨s0, s1, s2, s3, s4, s5, s6, s7⟩
          go_simp
          with_reducible rfl
         rotate_left
         ·
          simp only [Act.put, List.setIfInBounds_toArray, List.set_cons_zero, List.set_cons_succ, i64_w, i32_w]
          rfl
         refine one_ (i := 4) (N := some 73) #[true, true, true, true, true, false, false, false] rfl rfl (one_of HT_.out (by kernel_rfl)) (by decide) (fun K hK => ?_)
         refine goes_ Try.func26 (by kernel_rfl) rfl #[.agg #[.int .i64 t101, .int .i64 t102, .int .i64 t103, .slice Ao10 t104.length co10]] (by rfl) rfl rfl (by simp only [List.map_toArray, List.map_cons, List.map_nil]; rfl) ?_
         with_reducible refine (impl_InvertImage.calls t101 t102 t103 _ _ t104 t143 t144 t145 t146 _ ?side1 ?side2 A67.out).mono ?_
         (case side1 => repeat (first | exact (Kd.Q_reads' HO_111003.out).2.2 | (with_reducible refine Kd.C_alloc ?_ _) | (with_reducible refine Kd.C_drewN ?_ _) | (with_reducible refine Kd.C_drew ?_)))
         (case side2 => exact (Kd.Q_reads' HO_111003.out).2.1)
         rintro e w82 ⟨v147, rfl, ho0, hb⟩
         refine ⟨_, rfl, ?_⟩
         have HO148 := am_ (Kd.R_lower (Kd.R_new' (Kd.R_new' (Kd.R_new' (Kd.R_new' (Kd.R_new' ho0 (Kd.R_lt (by exact HO_9.out))) (Kd.Q_lt (by exact HO_111003.out))) (Kd.Q_lt (by exact HO_119003.out))) (Kd.Q_lt (by exact HO_127003.out))) (Kd.R_lt (by exact HO140.out))) (below_size (by repeat (first | (with_reducible first | exact HB.out | apply below_alloc | apply pw_below_drewN | apply below_drew1 | refine below_set ?_ GE110.out | refine below_set ?_ GE118.out | refine below_set ?_ GE126.out | refine below_set ?_ GE142.out) | exact HB.out))))
         replace HO_9 := am_ (Kd.R_elder' (by exact HO_9.out) (Kd.R_base ho0) hb)
         replace HO_111003 := am_ (Kd.Q_elder' (by exact HO_111003.out) (Kd.R_base ho0) hb)
         replace HO_119003 := am_ (Kd.Q_elder' (by exact HO_119003.out) (Kd.R_base ho0) hb)
         replace HO_127003 := am_ (Kd.Q_elder' (by exact HO_127003.out) (Kd.R_base ho0) hb)
         replace HO140 := am_ (Kd.R_elder' (by exact HO140.out) (Kd.R_base ho0) hb)
         replace BK110 := am_ (blk_below (by exact BK110.out) hb)
         replace BK118 := am_ (blk_below (by exact BK118.out) hb)
         replace BK126 := am_ (blk_below (by exact BK126.out) hb)
         replace BK142 := am_ (blk_below (by exact BK142.out) hb)
         replace HB := am_ (below_step (by repeat (first | (with_reducible first | exact HB.out | apply below_alloc | apply pw_below_drewN | apply below_drew1 | refine below_set ?_ GE110.out | refine below_set ?_ GE118.out | refine below_set ?_ GE126.out | refine below_set ?_ GE142.out) | exact HB.out)) hb)
         (try clear hb)
         (try clear hb2)
         (try clear hk)
         (try clear hi)
         (try clear ho0)
         obtain ⟨Ao83, co83, eo83⟩ := Kd.R_slice HO148.out
         (first | subst eo83 | (injection eo83 with f1_ f2_ f3_; have f4_ := f1_.symm; have f5_ := f3_.symm; clear f1_ f2_ f3_; subst f4_; subst f5_))
         refine hK.out _ _ ⟨(blk_cell BK142.out 0).trans rfl, (blk_cell BK142.out 1).trans rfl, (blk_cell BK142.out 2).trans rfl, (blk_cell BK142.out 3).trans rfl, (blk_cell BK110.out 0).trans rfl, (blk_cell BK110.out 1).trans rfl, (blk_cell BK110.out 2).trans rfl, (blk_cell BK110.out 3).trans rfl⟩ (fun hHeld => ?_)
         clear hK K
         refine norm_ (a' := ?_) ?_ ?_
         rotate_left
         ·
          show Act.put _ (some 73) _ = _
          simp only [Act.put, List.setIfInBounds_toArray, List.set_cons_zero, List.set_cons_succ, i64_w, i32_w]
          rfl
         refine one_ (i := 5) (N := some 74) #[true, true, true, true, true, true, false, false] rfl rfl (one_of HT_.out (by kernel_rfl)) (by decide) (fun K hK => ?_)
         refine goes_ Try.func33 (by kernel_rfl) rfl #[.agg #[.int .i64 t135, .int .i64 t136, .int .i64 t137, .slice Ao79 t138.length co79], .agg #[.int .i64 t143, .int .i64 t144, .int .i64 t145, .slice Ao83 t146.length co83]] (by rfl) rfl rfl (by simp only [List.map_toArray, List.map_cons, List.map_nil]; rfl) ?_
         with_reducible refine (laws_equalImage.calls k2 t135 t136 t137 _ _ t138 t143 t144 t145 _ _ t146 t149 _ ?side1 ?side2 ?side3 ?side4 A68.out).mono ?_
         (case side1 => repeat (first | exact (Kd.R_reads' HO140.out).2.2 | (with_reducible refine Kd.C_alloc ?_ _) | (with_reducible refine Kd.C_drewN ?_ _) | (with_reducible refine Kd.C_drew ?_)))
         (case side2 => exact (Kd.R_reads' HO140.out).2.1)
         (case side3 => repeat (first | exact (Kd.R_reads' HO148.out).2.2 | (with_reducible refine Kd.C_alloc ?_ _) | (with_reducible refine Kd.C_drewN ?_ _) | (with_reducible refine Kd.C_drew ?_)))
         (case side4 => exact (Kd.R_reads' HO148.out).2.1)
         rintro e w84 ⟨rfl, hb⟩
         refine ⟨_, rfl, ?_⟩
         replace HO_9 := am_ (Kd.R_below (by exact HO_9.out) hb)
         replace HO_111003 := am_ (Kd.Q_below (by exact HO_111003.out) hb)
         replace HO_119003 := am_ (Kd.Q_below (by exact HO_119003.out) hb)
         replace HO_127003 := am_ (Kd.Q_below (by exact HO_127003.out) hb)
         replace HO140 := am_ (Kd.R_below (by exact HO140.out) hb)
         replace HO148 := am_ (Kd.R_below (by exact HO148.out) hb)
         replace BK110 := am_ (blk_below (by exact BK110.out) hb)
         replace BK118 := am_ (blk_below (by exact BK118.out) hb)
         replace BK126 := am_ (blk_below (by exact BK126.out) hb)
         replace BK142 := am_ (blk_below (by exact BK142.out) hb)
         replace HB := am_ (below_step (by repeat (first | (with_reducible first | exact HB.out | apply below_alloc | apply pw_below_drewN | apply below_drew1 | refine below_set ?_ GE110.out | refine below_set ?_ GE118.out | refine below_set ?_ GE126.out | refine below_set ?_ GE142.out) | exact HB.out)) hb)
         (try clear hb)
         (try clear hb2)
         (try clear hk)
         (try clear hi)
         refine hK.out _ _ ⟨(blk_cell BK142.out 0).trans rfl, (blk_cell BK142.out 1).trans rfl, (blk_cell BK142.out 2).trans rfl, (blk_cell BK142.out 3).trans rfl, (blk_cell BK110.out 0).trans rfl, (blk_cell BK110.out 1).trans rfl, (blk_cell BK110.out 2).trans rfl, (blk_cell BK110.out 3).trans rfl⟩ (fun hHeld => ?_)
         clear hK K
         refine norm_ (a' := ?_) ?_ ?_
         rotate_left
         ·
          show Act.put _ (some 74) _ = _
          simp only [Act.put, List.setIfInBounds_toArray, List.set_cons_zero, List.set_cons_succ, i64_w, i32_w]
          rfl
         refine pure_ (i := 6) (N := some 75) (v := ?_) (a' := ?_) #[true, true, true, true, true, true, true, false] rfl rfl (any_of HT_.out (by kernel_rfl)) (fun _ _ _ h => h) (Or.inl ⟨by rfl, ?_⟩) ?_ ?_
         rotate_left
         ·
          intro w'
          go_simp
          with_reducible rfl
         rotate_left
         ·
          simp only [Act.put, List.setIfInBounds_toArray, List.set_cons_zero, List.set_cons_succ, i64_w, i32_w]
          rfl
         refine pure_ (i := 7) (N := some 2) (v := ?_) (a' := ?_) #[true, true, true, true, true, true, true, true] rfl rfl (any_of HT_.out (by kernel_rfl)) (fun _ _ _ h => h) (Or.inl ⟨by rfl, ?_⟩) ?_ ?_
         rotate_left
         ·
          intro w'
          go_simp
          with_reducible rfl
         rotate_left
         ·
          simp only [Act.put, List.setIfInBounds_toArray, List.set_cons_zero, List.set_cons_succ, i64_w, i32_w]
          rfl
         refine done_ (done_of HT_.out (by kernel_rfl)) ?_
         try go_wp2
         go_ret
         exact ⟨by first | rfl | (simp [errW_none, errW_some] <;> rfl) | (simp [*, errW_none, errW_some] <;> rfl), by repeat (first | (with_reducible first | exact HB.out | apply below_alloc | apply pw_below_drewN | apply below_drew1 | refine below_set ?_ GE110.out | refine below_set ?_ GE118.out | refine below_set ?_ GE126.out | refine below_set ?_ GE142.out) | exact HB.out)⟩
        ·
         replace c66 := Bool.eq_false_iff.mpr c66
         subst c66
         have H1 : (some false) = some r := by rw [if_neg (show ¬ (false = true) by decide)] at H; exact H
         clear H
         have H := H1
         clear H1
         obtain rfl := Option.some.inj H
         have hnb85 := NB110_118.out
         have hnc85 := NB118_110.out
         have hnb86 := NB110_126.out
         have hnc86 := NB126_110.out
         obtain ⟨hcz87_0, hcz87_1, hcz87_2, hcz87_3, hfz87_0, hfz87_1, hfz87_2, hfz87_3⟩ := blk4_ BK110.out
         obtain ⟨Ao88, co88, eo88⟩ := Kd.R_slice HO_9.out
         subst eo88
         try go_wp2_with (first | ((with_reducible refine gate_callee (f := 31) rfl ?_); refine goesL_ (some 66) rfl rfl Try.func31 (by kernel_rfl) rfl #[.agg #[.int .i64 t101, .int .i64 t102, .int .i64 t103, .slice Ao10 t104.length co10], .slice Ao88 x9_2.length co88] rfl (by simp only [List.map_toArray, List.map_cons, List.map_nil]; rfl) ?_; (with_reducible refine (impl_MapImage.calls t101 t102 t103 _ _ t104 _ _ x9_2 t135 t136 t137 t138 false _ ?side1 ?side2 ?side3 ?side4 A65.out).mono ?_); (case side1 => repeat (first | exact (Kd.Q_reads' HO_111003.out).2.2 | (with_reducible refine Kd.C_alloc ?_ _) | (with_reducible refine Kd.C_drewN ?_ _) | (with_reducible refine Kd.C_drew ?_))); (case side2 => exact (Kd.Q_reads' HO_111003.out).2.1); (case side3 => repeat (first | exact (Kd.R_reads' HO_9.out).2.2 | (with_reducible refine Kd.C_alloc ?_ _) | (with_reducible refine Kd.C_drewN ?_ _) | (with_reducible refine Kd.C_drew ?_))); (case side4 => exact (Kd.R_reads' HO_9.out).2.1); rintro e w89 ⟨v139, rfl, ho0, hb⟩; refine ⟨_, rfl, ?_⟩; have HO140 := am_ (Kd.R_lower (Kd.R_new' (Kd.R_new' (Kd.R_new' (Kd.R_new' ho0 (Kd.R_lt (by exact HO_9.out))) (Kd.Q_lt (by exact HO_111003.out))) (Kd.Q_lt (by exact HO_119003.out))) (Kd.Q_lt (by exact HO_127003.out))) (below_size (by repeat (first | (with_reducible first | exact HB.out | apply below_alloc | apply pw_below_drewN | apply below_drew1 | refine below_set ?_ GE110.out | refine below_set ?_ GE118.out | refine below_set ?_ GE126.out) | exact HB.out)))); replace HO_9 := am_ (Kd.R_elder' (by exact HO_9.out) (Kd.R_base ho0) hb); replace HO_111003 := am_ (Kd.Q_elder' (by exact HO_111003.out) (Kd.R_base ho0) hb); replace HO_119003 := am_ (Kd.Q_elder' (by exact HO_119003.out) (Kd.R_base ho0) hb); replace HO_127003 := am_ (Kd.Q_elder' (by exact HO_127003.out) (Kd.R_base ho0) hb); replace BK110 := am_ (blk_below (by exact BK110.out) hb); replace BK118 := am_ (blk_below (by exact BK118.out) hb); replace BK126 := am_ (blk_below (by exact BK126.out) hb); replace HB := am_ (below_step (by repeat (first | (with_reducible first | exact HB.out | apply below_alloc | apply pw_below_drewN | apply below_drew1 | refine below_set ?_ GE110.out | refine below_set ?_ GE118.out | refine below_set ?_ GE126.out) | exact HB.out)) hb); (try clear hb); (try clear hb2); (try clear hk); (try clear hi); (try clear ho0)) | ((with_reducible refine gate_dst (N := 11) rfl ?_); refine box_event ?hg (N := 11) ?hd (cs := #[.int .i64 0, .int .i64 0, .int .i64 0, .slice none 0 0]) (t := 27) ?hr ?_; (case hd => rfl); (case hg => rfl); (case hr => first | (go_simp; done) | (go_simp; rfl)); intro gb142 hg w90 hbox hb; replace HO_9 := am_ (Kd.R_below (by exact HO_9.out) hb); replace HO_111003 := am_ (Kd.Q_below (by exact HO_111003.out) hb); replace HO_119003 := am_ (Kd.Q_below (by exact HO_119003.out) hb); replace HO_127003 := am_ (Kd.Q_below (by exact HO_127003.out) hb); replace HO140 := am_ (Kd.R_below (by exact HO140.out) hb); have BK142 := am_ (hbox); have GW142 := am_ ((by rw [hg]; exact (below_size (by repeat (first | (with_reducible first | exact HB.out | apply below_alloc | apply pw_below_drewN | apply below_drew1 | refine below_set ?_ GE110.out | refine below_set ?_ GE118.out | refine below_set ?_ GE126.out) | exact HB.out))) : w.heap.size ≤ gb142)); have GE142 := GW142; replace HB := am_ (below_step (by repeat (first | (with_reducible first | exact HB.out | apply below_alloc | apply pw_below_drewN | apply below_drew1 | refine below_set ?_ GE110.out | refine below_set ?_ GE118.out | refine below_set ?_ GE126.out) | exact HB.out)) hb); have NB110_142 := am_ ((by rw [hg]; exact Nat.ne_of_lt (blk_lt (by exact BK110.out)) : gb110 ≠ gb142)); have NB142_110 := am_ ((by rw [hg]; exact Nat.ne_of_gt (blk_lt (by exact BK110.out)) : gb142 ≠ gb110)); replace BK110 := am_ (blk_below (by exact BK110.out) hb); have NB118_142 := am_ ((by rw [hg]; exact Nat.ne_of_lt (blk_lt (by exact BK118.out)) : gb118 ≠ gb142)); have NB142_118 := am_ ((by rw [hg]; exact Nat.ne_of_gt (blk_lt (by exact BK118.out)) : gb142 ≠ gb118)); replace BK118 := am_ (blk_below (by exact BK118.out) hb); have NB126_142 := am_ ((by rw [hg]; exact Nat.ne_of_lt (blk_lt (by exact BK126.out)) : gb126 ≠ gb142)); have NB142_126 := am_ ((by rw [hg]; exact Nat.ne_of_gt (blk_lt (by exact BK126.out)) : gb142 ≠ gb126)); replace BK126 := am_ (blk_below (by exact BK126.out) hb); clear hb hbox hg; have hnb91 := NB142_110.out; have hnc91 := NB110_142.out; have hnb92 := NB142_118.out; have hnc92 := NB118_142.out; have hnb93 := NB142_126.out; have hnc93 := NB126_142.out; obtain ⟨hcz94_0, hcz94_1, hcz94_2, hcz94_3, hfz94_0, hfz94_1, hfz94_2, hfz94_3⟩ := blk4_ BK142.out; obtain ⟨Ao95, co95, eo95⟩ := Kd.R_slice HO140.out; subst eo95))
         have n0_ : Aside0 (Kd.R (Kd.int .i64) 3 ((((w90.setCell ⟨gb142, 0, none⟩ (.int .i64 t135)).setCell ⟨gb142, 1, none⟩ (.int .i64 t136)).setCell ⟨gb142, 2, none⟩ (.int .i64 t137)).setCell ⟨gb142, 3, none⟩ (.slice Ao95 t138.length co95)) w.heap.size (fun k_ => some k_ ≠ (.slice Ao10 t104.length co10 : Value).ownBlock ∧ some k_ ≠ (.slice Ao16 t114.length co16 : Value).ownBlock ∧ some k_ ≠ (.slice Ao23 t122.length co23 : Value).ownBlock ∧ some k_ ≠ (.slice Ao95 t138.length co95 : Value).ownBlock) (.slice Ao88 x9_2.length co88) x9_2) := ⟨by exact Kd.R_mono (Kd.R_far (p := ⟨gb142, 3, none⟩) (Kd.R_far (p := ⟨gb142, 2, none⟩) (Kd.R_far (p := ⟨gb142, 1, none⟩) (Kd.R_far (p := ⟨gb142, 0, none⟩) (Kd.R_types HO_9.out BK142.out (by decide)) (fun _ hk => hk.2) (.int .i64 t135)) (fun _ hk => hk.2) (.int .i64 t136)) (fun _ hk => hk.2) (.int .i64 t137)) (fun _ hk => hk.2) (.slice Ao95 t138.length co95)) (fun _ hk => ⟨hk.1.1.1, ⟨hk.1.1.2.1, ⟨hk.1.1.2.2, hk.1.2⟩⟩⟩)⟩
         have n1_ : Aside0 (Kd.Q (Kd.int .i64) 3 ((((w90.setCell ⟨gb142, 0, none⟩ (.int .i64 t135)).setCell ⟨gb142, 1, none⟩ (.int .i64 t136)).setCell ⟨gb142, 2, none⟩ (.int .i64 t137)).setCell ⟨gb142, 3, none⟩ (.slice Ao95 t138.length co95)) w.heap.size (fun k_ => some k_ ≠ (.slice Ao88 x9_2.length co88 : Value).ownBlock ∧ some k_ ≠ (.slice Ao16 t114.length co16 : Value).ownBlock ∧ some k_ ≠ (.slice Ao23 t122.length co23 : Value).ownBlock ∧ some k_ ≠ (.slice Ao95 t138.length co95 : Value).ownBlock) (.slice Ao10 t104.length co10) t104) := ⟨by exact Kd.Q_mono (Kd.Q_far (p := ⟨gb142, 3, none⟩) (Kd.Q_far (p := ⟨gb142, 2, none⟩) (Kd.Q_far (p := ⟨gb142, 1, none⟩) (Kd.Q_far (p := ⟨gb142, 0, none⟩) (Kd.Q_types HO_111003.out BK142.out (by decide)) (fun _ hk => hk.2) (.int .i64 t135)) (fun _ hk => hk.2) (.int .i64 t136)) (fun _ hk => hk.2) (.int .i64 t137)) (fun _ hk => hk.2) (.slice Ao95 t138.length co95)) (fun _ hk => ⟨hk.1.1.1, ⟨hk.1.1.2.1, ⟨hk.1.1.2.2, hk.1.2⟩⟩⟩)⟩
         have n2_ : Aside0 (Kd.Q (Kd.int .i64) 3 ((((w90.setCell ⟨gb142, 0, none⟩ (.int .i64 t135)).setCell ⟨gb142, 1, none⟩ (.int .i64 t136)).setCell ⟨gb142, 2, none⟩ (.int .i64 t137)).setCell ⟨gb142, 3, none⟩ (.slice Ao95 t138.length co95)) w.heap.size (fun k_ => some k_ ≠ (.slice Ao88 x9_2.length co88 : Value).ownBlock ∧ some k_ ≠ (.slice Ao10 t104.length co10 : Value).ownBlock ∧ some k_ ≠ (.slice Ao23 t122.length co23 : Value).ownBlock ∧ some k_ ≠ (.slice Ao95 t138.length co95 : Value).ownBlock) (.slice Ao16 t114.length co16) t114) := ⟨by exact Kd.Q_mono (Kd.Q_far (p := ⟨gb142, 3, none⟩) (Kd.Q_far (p := ⟨gb142, 2, none⟩) (Kd.Q_far (p := ⟨gb142, 1, none⟩) (Kd.Q_far (p := ⟨gb142, 0, none⟩) (Kd.Q_types HO_119003.out BK142.out (by decide)) (fun _ hk => hk.2) (.int .i64 t135)) (fun _ hk => hk.2) (.int .i64 t136)) (fun _ hk => hk.2) (.int .i64 t137)) (fun _ hk => hk.2) (.slice Ao95 t138.length co95)) (fun _ hk => ⟨hk.1.1.1, ⟨hk.1.1.2.1, ⟨hk.1.1.2.2, hk.1.2⟩⟩⟩)⟩
         have n3_ : Aside0 (Kd.Q (Kd.int .i64) 3 ((((w90.setCell ⟨gb142, 0, none⟩ (.int .i64 t135)).setCell ⟨gb142, 1, none⟩ (.int .i64 t136)).setCell ⟨gb142, 2, none⟩ (.int .i64 t137)).setCell ⟨gb142, 3, none⟩ (.slice Ao95 t138.length co95)) w.heap.size (fun k_ => some k_ ≠ (.slice Ao88 x9_2.length co88 : Value).ownBlock ∧ some k_ ≠ (.slice Ao10 t104.length co10 : Value).ownBlock ∧ some k_ ≠ (.slice Ao16 t114.length co16 : Value).ownBlock ∧ some k_ ≠ (.slice Ao95 t138.length co95 : Value).ownBlock) (.slice Ao23 t122.length co23) t122) := ⟨by exact Kd.Q_mono (Kd.Q_far (p := ⟨gb142, 3, none⟩) (Kd.Q_far (p := ⟨gb142, 2, none⟩) (Kd.Q_far (p := ⟨gb142, 1, none⟩) (Kd.Q_far (p := ⟨gb142, 0, none⟩) (Kd.Q_types HO_127003.out BK142.out (by decide)) (fun _ hk => hk.2) (.int .i64 t135)) (fun _ hk => hk.2) (.int .i64 t136)) (fun _ hk => hk.2) (.int .i64 t137)) (fun _ hk => hk.2) (.slice Ao95 t138.length co95)) (fun _ hk => ⟨hk.1.1.1, ⟨hk.1.1.2.1, ⟨hk.1.1.2.2, hk.1.2⟩⟩⟩)⟩
         have n4_ : Aside0 (Kd.R (Kd.int .i64) 3 ((((w90.setCell ⟨gb142, 0, none⟩ (.int .i64 t135)).setCell ⟨gb142, 1, none⟩ (.int .i64 t136)).setCell ⟨gb142, 2, none⟩ (.int .i64 t137)).setCell ⟨gb142, 3, none⟩ (.slice Ao95 t138.length co95)) w.heap.size (fun k_ => some k_ ≠ (.slice Ao88 x9_2.length co88 : Value).ownBlock ∧ some k_ ≠ (.slice Ao10 t104.length co10 : Value).ownBlock ∧ some k_ ≠ (.slice Ao16 t114.length co16 : Value).ownBlock ∧ some k_ ≠ (.slice Ao23 t122.length co23 : Value).ownBlock) (.slice Ao95 t138.length co95) t138) := ⟨by exact Kd.R_mono (Kd.R_far (p := ⟨gb142, 3, none⟩) (Kd.R_far (p := ⟨gb142, 2, none⟩) (Kd.R_far (p := ⟨gb142, 1, none⟩) (Kd.R_far (p := ⟨gb142, 0, none⟩) (Kd.R_types HO140.out BK142.out (by decide)) (fun _ hk => hk.2) (.int .i64 t135)) (fun _ hk => hk.2) (.int .i64 t136)) (fun _ hk => hk.2) (.int .i64 t137)) (fun _ hk => hk.2) (.slice Ao95 t138.length co95)) (fun _ hk => ⟨hk.1.1.1.1.2, ⟨hk.1.1.1.2, ⟨hk.1.1.2, hk.1.2⟩⟩⟩)⟩
         have n5_ : Aside0 (((((w90.setCell ⟨gb142, 0, none⟩ (.int .i64 t135)).setCell ⟨gb142, 1, none⟩ (.int .i64 t136)).setCell ⟨gb142, 2, none⟩ (.int .i64 t137)).setCell ⟨gb142, 3, none⟩ (.slice Ao95 t138.length co95)).heap[gb110]? = some (.cells #[.int .i64 t101, .int .i64 t102, .int .i64 t103, .slice Ao10 t104.length co10] 27 (0, 0))) := ⟨by exact far4_ BK110.out NB110_142.out _ _ _ _⟩
         have n6_ : Aside0 (((((w90.setCell ⟨gb142, 0, none⟩ (.int .i64 t135)).setCell ⟨gb142, 1, none⟩ (.int .i64 t136)).setCell ⟨gb142, 2, none⟩ (.int .i64 t137)).setCell ⟨gb142, 3, none⟩ (.slice Ao95 t138.length co95)).heap[gb118]? = some (.cells #[.int .i64 t111, .int .i64 t112, .int .i64 t113, .slice Ao16 t114.length co16] 27 (0, 0))) := ⟨by exact far4_ BK118.out NB118_142.out _ _ _ _⟩
         have n7_ : Aside0 (((((w90.setCell ⟨gb142, 0, none⟩ (.int .i64 t135)).setCell ⟨gb142, 1, none⟩ (.int .i64 t136)).setCell ⟨gb142, 2, none⟩ (.int .i64 t137)).setCell ⟨gb142, 3, none⟩ (.slice Ao95 t138.length co95)).heap[gb126]? = some (.cells #[.int .i64 t119, .int .i64 t120, .int .i64 t121, .slice Ao23 t122.length co23] 27 (0, 0))) := ⟨by exact far4_ BK126.out NB126_142.out _ _ _ _⟩
         have n8_ : Aside0 (((((w90.setCell ⟨gb142, 0, none⟩ (.int .i64 t135)).setCell ⟨gb142, 1, none⟩ (.int .i64 t136)).setCell ⟨gb142, 2, none⟩ (.int .i64 t137)).setCell ⟨gb142, 3, none⟩ (.slice Ao95 t138.length co95)).heap[gb142]? = some (.cells #[.int .i64 t135, .int .i64 t136, .int .i64 t137, .slice Ao95 t138.length co95] 27 (0, 0))) := ⟨by exact put4_ BK142.out _ _ _ _⟩
         have n9_ : Aside0 (Below w.heap.size w ((((w90.setCell ⟨gb142, 0, none⟩ (.int .i64 t135)).setCell ⟨gb142, 1, none⟩ (.int .i64 t136)).setCell ⟨gb142, 2, none⟩ (.int .i64 t137)).setCell ⟨gb142, 3, none⟩ (.slice Ao95 t138.length co95))) := ⟨by repeat (first | (with_reducible first | exact HB.out | apply below_alloc | apply pw_below_drewN | apply below_drew1 | refine below_set ?_ GE110.out | refine below_set ?_ GE118.out | refine below_set ?_ GE126.out | refine below_set ?_ GE142.out) | exact HB.out)⟩
         (try clear HO_9)
         (try clear HO_111003)
         (try clear HO_119003)
         (try clear HO_127003)
         (try clear HO140)
         (try clear BK110)
         (try clear BK118)
         (try clear BK126)
         (try clear BK142)
         (try clear HB)
         generalize ((((w90.setCell ⟨gb142, 0, none⟩ (.int .i64 t135)).setCell ⟨gb142, 1, none⟩ (.int .i64 t136)).setCell ⟨gb142, 2, none⟩ (.int .i64 t137)).setCell ⟨gb142, 3, none⟩ (.slice Ao95 t138.length co95)) = w96 at n0_ n1_ n2_ n3_ n4_ n5_ n6_ n7_ n8_ n9_ ⊢
         have HO_9 := n0_
         have HO_111003 := n1_
         have HO_119003 := n2_
         have HO_127003 := n3_
         have HO140 := n4_
         have BK110 := n5_
         have BK118 := n6_
         have BK126 := n7_
         have BK142 := n8_
         have HB := n9_
         clear n0_ n1_ n2_ n3_ n4_ n5_ n6_ n7_ n8_ n9_
         replace HO_9 := am_ (Kd.R_drew HO_9.out)
         replace HO_111003 := am_ (Kd.Q_drew HO_111003.out)
         replace HO_119003 := am_ (Kd.Q_drew HO_119003.out)
         replace HO_127003 := am_ (Kd.Q_drew HO_127003.out)
         replace HO140 := am_ (Kd.R_drew HO140.out)
         replace BK110 := am_ (blk_drew BK110.out)
         replace BK118 := am_ (blk_drew BK118.out)
         replace BK126 := am_ (blk_drew BK126.out)
         replace BK142 := am_ (blk_drew BK142.out)
         replace HB := am_ (below_drew1 HB.out)
         refine start_ (n := 8) (S := fun w' => True) (ds := []) #[false, false, false, false, false, false, false, false] (by kernel_rfl) rfl rfl trivial (fun hHeld => ?_); refine with_tabW laws_FnMapImageInvert.tab14 laws_FnMapImageInvert.bits14 (fun HT_ HW_ => ?_)
         generalize w96.drew = w97 at HO_9 HO_111003 HO_119003 HO_127003 HO140 BK110 BK118 BK126 BK142 HB hHeld ⊢
         refine pure_ (i := 0) (N := some 69) (v := ?_) (a' := ?_) #[true, false, false, false, false, false, false, false] rfl rfl (any_of HT_.out (by kernel_rfl)) (fun _ _ _ h => h) (Or.inl ⟨by rfl, ?_⟩) ?_ ?_
         rotate_left
         ·
          intro w'
          go_simp
          with_reducible rfl
         rotate_left
         ·
          simp only [Act.put, List.setIfInBounds_toArray, List.set_cons_zero, List.set_cons_succ, i64_w, i32_w]
          rfl
         refine pure_ (i := 1) (N := some 70) (v := ?_) (a' := ?_) #[true, true, false, false, false, false, false, false] rfl rfl (any_of HT_.out (by kernel_rfl)) (fun _ _ _ h => h) (Or.inl ⟨by rfl, ?_⟩) ?_ ?_
         rotate_left
         ·
          intro w'
          go_simp
          with_reducible rfl
         rotate_left
         ·
          simp only [Act.put, List.setIfInBounds_toArray, List.set_cons_zero, List.set_cons_succ, i64_w, i32_w]
          rfl
         refine pure_ (i := 2) (N := some 71) (v := undef) (a' := ?_) #[true, true, true, false, false, false, false, false] rfl rfl (any_of HT_.out (by kernel_rfl)) (fun _ _ _ h => h) (Or.inr ⟨by rfl, rfl⟩) ?_ ?_
         rotate_left
         ·
          simp only [Act.put, List.setIfInBounds_toArray, List.set_cons_zero, List.set_cons_succ, i64_w, i32_w]
          rfl
         refine pure_ (i := 3) (N := some 72) (v := undef) (a' := ?_) #[true, true, true, true, false, false, false, false] rfl rfl (any_of HT_.out (by kernel_rfl)) (fun _ _ _ h => h) (Or.inr ⟨by rfl, rfl⟩) ?_ ?_
         rotate_left
         ·
          simp only [Act.put, List.setIfInBounds_toArray, List.set_cons_zero, List.set_cons_succ, i64_w, i32_w]
          rfl
         refine pure_ (i := 4) (N := some 73) (v := undef) (a' := ?_) #[true, true, true, true, true, false, false, false] rfl rfl (any_of HT_.out (by kernel_rfl)) (fun _ _ _ h => h) (Or.inr ⟨by rfl, rfl⟩) ?_ ?_
         rotate_left
         ·
          simp only [Act.put, List.setIfInBounds_toArray, List.set_cons_zero, List.set_cons_succ, i64_w, i32_w]
          rfl
         refine pure_ (i := 5) (N := some 74) (v := undef) (a' := ?_) #[true, true, true, true, true, true, false, false] rfl rfl (any_of HT_.out (by kernel_rfl)) (fun _ _ _ h => h) (Or.inr ⟨by rfl, rfl⟩) ?_ ?_
         rotate_left
         ·
          simp only [Act.put, List.setIfInBounds_toArray, List.set_cons_zero, List.set_cons_succ, i64_w, i32_w]
          rfl
         refine pure_ (i := 6) (N := some 75) (v := ?_) (a' := ?_) #[true, true, true, true, true, true, true, false] rfl rfl (any_of HT_.out (by kernel_rfl)) (fun _ _ _ h => h) (Or.inl ⟨by rfl, ?_⟩) ?_ ?_
         rotate_left
         ·
          intro w'
          go_simp
          with_reducible rfl
         rotate_left
         ·
          simp only [Act.put, List.setIfInBounds_toArray, List.set_cons_zero, List.set_cons_succ, i64_w, i32_w]
          rfl
         refine pure_ (i := 7) (N := some 2) (v := ?_) (a' := ?_) #[true, true, true, true, true, true, true, true] rfl rfl (any_of HT_.out (by kernel_rfl)) (fun _ _ _ h => h) (Or.inl ⟨by rfl, ?_⟩) ?_ ?_
         rotate_left
         ·
          intro w'
          go_simp
          with_reducible rfl
         rotate_left
         ·
          simp only [Act.put, List.setIfInBounds_toArray, List.set_cons_zero, List.set_cons_succ, i64_w, i32_w]
          rfl
         refine done_ (done_of HT_.out (by kernel_rfl)) ?_
         try go_wp2
         go_ret
         exact ⟨by first | rfl | (simp [errW_none, errW_some] <;> rfl) | (simp [*, errW_none, errW_some] <;> rfl), by repeat (first | (with_reducible first | exact HB.out | apply below_alloc | apply pw_below_drewN | apply below_drew1 | refine below_set ?_ GE110.out | refine below_set ?_ GE118.out | refine below_set ?_ GE126.out | refine below_set ?_ GE142.out) | exact HB.out)⟩

/-- THE ONE PURE STATEMENT of laws_FnMapImageInvert: yours. -/
def laws_FnMapImageInvert.Pure : Prop := ∀ (l0 : List Int), l0.length ≤ maxLen → l0.length * 1 ≤ 140737488351232 → (∀ x ∈ l0, (Lit.int .u8 x).wf = true) → ∃ k, laws_FnMapImageInvert.f k l0 = some true
theorem laws_FnMapImageInvert.walk (P : laws_FnMapImageInvert.Pure) (a0 : Option Addr) (len0 cap0 : Nat) (z0 : List Int) (w : World) (w0 : (a0 = none ∧ len0 = 0 ∧ cap0 = 0 ∧ z0 = []) ∨ ∃ x, a0 = some x ∧ len0 ≤ cap0 ∧ cap0 ≤ maxLen ∧ z0.length = cap0 ∧ (∀ i, i < z0.length → w.cell? (x.add i) = some (.int .u8 (z0.getD i 0))) ∧ ∀ n ∈ z0, (Lit.int .u8 n).wf = true) (y0 : len0 * 1 ≤ 140737488351232) :
  Calls Try.prog 9 #[.slice a0 len0 cap0] w fun e w' => e = .returned (.bool true) ∧ Below w.heap.size w w' := by
 obtain ⟨l0, rfl, hr0, hm0, hw0, hc0⟩ := ReadsInt.ofRowC w0
 obtain ⟨k, h⟩ := P l0 hm0 y0 hw0
 refine (laws_FnMapImageInvert.calls k _ _ l0 true w (Kd.C_of_reads (d := (0 : Int)) (h1 := fun _ => rfl) hr0) hc0 h).mono ?_
 rintro e w' ⟨rfl, hd⟩
 exact ⟨rfl, hd⟩

end Go.Proofs.Ytonolnojpejgnaa.Print
