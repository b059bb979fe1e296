-- laid by hp.py (a program of this work over the kit's print), with contracts by hand for what the print does not take
import Derived.Test.YtceoecmjccakgaaPrint0
import Derived.Test.YtceoecmjccakgaaPrintHimplPartsOf
import Derived.Test.YtceoecmjccakgaaPrintHimplShiftRegion
import Derived.Test.YtceoecmjccakgaaPrintHx0
import Derived.Test.YtceoecmjccakgaaPrintR0x0
import Derived.Test.YtceoecmjccakgaaPrintR1x8
namespace Go.Proofs.Ytceoecmjccakgaa.Print
open Go.RowKit Go.Proofs.YtceoecmjccakgaaW.PrintWords Go.Proofs.YtceoecmjccakgaaW.PrintLast Go.Proofs.YtceoecmjccakgaaW.PrintMore
attribute [local go_sem] max2_int min2_int max_two min_two max_three min_three max_four min_four   -- for this text's walks alone
set_option linter.unusedVariables false
set_option linter.unusedSimpArgs false

/-! ### laws_FnShiftRegionShape: function 5 -/
def laws_FnShiftRegionShape.j0 : Nat → List (S45) → Int → Int → List (S45) → Bool → Option (Bool)
 | 0, _, _, _, _, _ => none
 | k + 1, x3, x4, x5, x6, x38 => if x38 = true then ((spec_ShiftRegion.f k x3 x4 x5).bind fun t116 => ((laws_equalRuns.f k x6 t116).bind fun t119 => (some t119))) else ((impl_PartsOf.f x6).bind fun t120 => ((impl_PartsOf.f x3).bind fun t123 => (some ((t120.length : Int) == (t123.length : Int)))))
def laws_FnShiftRegionShape.f (k : Nat) (l0 : List Int) : Option (Bool) := if (l0.length : Int) > 1048576 then (some true) else ((spec_DrawShiftRegion.f k l0).bind fun bt101 => ((impl_ShiftRegion.f bt101.1 bt101.2.1 bt101.2.2).bind fun t106 => ((spec_ShiftRegion.f k bt101.1 bt101.2.1 bt101.2.2).bind fun t109 => ((laws_equalRuns.f k t106 t109).bind fun t112 => (if t112 = true then ((impl_ValidRegion.f k bt101.1).bind fun t113 => (if t113 = true then ((impl_AreaOf.f k t106).bind fun t114 => ((impl_AreaOf.f k bt101.1).bind fun t115 => (laws_FnShiftRegionShape.j0 k bt101.1 bt101.2.1 bt101.2.2 t106 (t114 != t115)))) else (laws_FnShiftRegionShape.j0 k bt101.1 bt101.2.1 bt101.2.2 t106 true))) else (laws_FnShiftRegionShape.j0 k bt101.1 bt101.2.1 bt101.2.2 t106 true))))))
theorem laws_FnShiftRegionShape.mono_l : ∀ k, (∀ y0 y1 y2 y3 y4, LeO (laws_FnShiftRegionShape.j0 k y0 y1 y2 y3 y4) (laws_FnShiftRegionShape.j0 (k + 1) y0 y1 y2 y3 y4))
 | 0 => fun _ _ _ _ _ r h => by simp [laws_FnShiftRegionShape.j0] at h
 | k + 1 => by
  have ih0 := laws_FnShiftRegionShape.mono_l k
  intro y0 y1 y2 y3 y4
  unfold laws_FnShiftRegionShape.j0
  repeat' first
  | (with_reducible exact ih0 _ _ _ _ _)
  | (with_reducible exact impl_AreaOf.mono _ _)
  | (with_reducible exact impl_ValidRegion.mono _ _)
  | (with_reducible exact laws_equalRuns.mono _ _ _)
  | (with_reducible exact spec_DrawShiftRegion.mono _ _)
  | (with_reducible exact spec_ShiftRegion.mono _ _ _ _)
  | (with_reducible exact LeO.refl _)
  | (with_reducible exact LeO.none _)
  | (with_reducible refine LeO.ite ?_ ?_)
  | (with_reducible refine LeO.bind ?_ (fun _ => ?_))
  | exact ih0 _ _ _ _ _
  | exact impl_AreaOf.mono _ _
  | exact impl_ValidRegion.mono _ _
  | exact laws_equalRuns.mono _ _ _
  | exact spec_DrawShiftRegion.mono _ _
  | exact spec_ShiftRegion.mono _ _ _ _
  | exact LeO.none _
  | refine LeO.ite ?_ ?_
  | refine LeO.bind ?_ (fun _ => ?_)
theorem laws_FnShiftRegionShape.mono : ∀ a0 k, LeO (laws_FnShiftRegionShape.f k a0) (laws_FnShiftRegionShape.f (k + 1) a0) := by
 intro a0 k
 have ih0 := laws_FnShiftRegionShape.mono_l k
 unfold laws_FnShiftRegionShape.f
 repeat' first
   | (with_reducible exact ih0 _ _ _ _ _)
   | (with_reducible exact impl_AreaOf.mono _ _)
   | (with_reducible exact impl_ValidRegion.mono _ _)
   | (with_reducible exact laws_equalRuns.mono _ _ _)
   | (with_reducible exact spec_DrawShiftRegion.mono _ _)
   | (with_reducible exact spec_ShiftRegion.mono _ _ _ _)
   | (with_reducible exact LeO.refl _)
   | (with_reducible exact LeO.none _)
   | (with_reducible refine LeO.ite ?_ ?_)
   | (with_reducible refine LeO.bind ?_ (fun _ => ?_))
   | exact ih0 _ _ _ _ _
   | exact impl_AreaOf.mono _ _
   | exact impl_ValidRegion.mono _ _
   | exact laws_equalRuns.mono _ _ _
   | exact spec_DrawShiftRegion.mono _ _
   | exact spec_ShiftRegion.mono _ _ _ _
   | exact LeO.none _
   | refine LeO.ite ?_ ?_
   | refine LeO.bind ?_ (fun _ => ?_)
set_option maxHeartbeats 8000000 in
set_option maxRecDepth 100000 in
theorem laws_FnShiftRegionShape.calls (k : Nat) (A0 : Option Addr) (c0 : Nat) (l0 : List Int) (r : Bool) (w : World) (hr0 : Kd.C (Kd.int .u8) w A0 l0.length l0) (hc0 : l0.length ≤ c0) (h : laws_FnShiftRegionShape.f k l0 = some r) :
  Calls Try.prog 5 #[.slice A0 l0.length c0] w fun e w' => e = .returned (.bool r) ∧ Below w.heap.size w w' := by
 have HR0 := Aside0.mk hr0
 have HC0 := Aside0.mk hc0
 clear hr0 hc0
 have HB := Aside0.mk (Below.refl w.heap.size w)
 have H : (if (l0.length : Int) > 1048576 then (some true) else ((spec_DrawShiftRegion.f k l0).bind fun bt101 => ((impl_ShiftRegion.f bt101.1 bt101.2.1 bt101.2.2).bind fun t106 => ((spec_ShiftRegion.f k bt101.1 bt101.2.1 bt101.2.2).bind fun t109 => ((laws_equalRuns.f k t106 t109).bind fun t112 => (if t112 = true then ((impl_ValidRegion.f k bt101.1).bind fun t113 => (if t113 = true then ((impl_AreaOf.f k t106).bind fun t114 => ((impl_AreaOf.f k bt101.1).bind fun t115 => (laws_FnShiftRegionShape.j0 k bt101.1 bt101.2.1 bt101.2.2 t106 (t114 != t115)))) else (laws_FnShiftRegionShape.j0 k bt101.1 bt101.2.1 bt101.2.2 t106 true))) else (laws_FnShiftRegionShape.j0 k bt101.1 bt101.2.1 bt101.2.2 t106 true))))))) = some r := h
 clear h
 by_cases c2 : (l0.length : Int) > 1048576
 ·
  rw [if_pos c2] at H
  have c2b0 : decide (1048576 < (l0.length : Int)) = true := decide_eq_true c2
  have c2b1 : decide (1048576 < l0.length) = true := decide_eq_true (by omega)
  clear c2
  obtain rfl := Option.some.inj H
  go_enter Try.func5, Try.ntmps5
  go_wp2
  go_ret
  exact ⟨by first | rfl | (simp [errW_none, errW_some] <;> rfl) | (simp [*, errW_none, errW_some] <;> rfl), by repeat (first | (with_reducible first | exact HB.out | apply below_alloc | apply pw_below_drewN | apply below_drew1) | exact HB.out)⟩
 rw [if_neg c2] at H
 have c2b0 : decide (1048576 < (l0.length : Int)) = false := decide_eq_false c2
 have c2b1 : decide (1048576 < l0.length) = false := decide_eq_false (by omega)
 clear c2
 replace H := Option.bind_eq_some_iff.mp H
 obtain ⟨⟨t101, t102, t103⟩, A30, H⟩ := H
 replace H : ((impl_ShiftRegion.f t101 t102 t103).bind fun t106 => ((spec_ShiftRegion.f k t101 t102 t103).bind fun t109 => ((laws_equalRuns.f k t106 t109).bind fun t112 => (if t112 = true then ((impl_ValidRegion.f k t101).bind fun t113 => (if t113 = true then ((impl_AreaOf.f k t106).bind fun t114 => ((impl_AreaOf.f k t101).bind fun t115 => (laws_FnShiftRegionShape.j0 k t101 t102 t103 t106 (t114 != t115)))) else (laws_FnShiftRegionShape.j0 k t101 t102 t103 t106 true))) else (laws_FnShiftRegionShape.j0 k t101 t102 t103 t106 true))))) = some r := H
 have A3 := Aside0.mk A30
 clear A30
 replace H := Option.bind_eq_some_iff.mp H
 obtain ⟨t106, A40, H⟩ := H
 replace H : ((spec_ShiftRegion.f k t101 t102 t103).bind fun t109 => ((laws_equalRuns.f k t106 t109).bind fun t112 => (if t112 = true then ((impl_ValidRegion.f k t101).bind fun t113 => (if t113 = true then ((impl_AreaOf.f k t106).bind fun t114 => ((impl_AreaOf.f k t101).bind fun t115 => (laws_FnShiftRegionShape.j0 k t101 t102 t103 t106 (t114 != t115)))) else (laws_FnShiftRegionShape.j0 k t101 t102 t103 t106 true))) else (laws_FnShiftRegionShape.j0 k t101 t102 t103 t106 true)))) = some r := H
 have A4 := Aside0.mk A40
 clear A40
 have HC5 := Aside0.mk H
 clear H
 go_enter Try.func5, Try.ntmps5
 go_upto_region 5 with (first | ((with_reducible refine gate_callee (f := 15) rfl ?_); refine goesL_ (some 12) rfl rfl Try.func15 (by kernel_rfl) rfl #[.slice A0 l0.length c0] rfl (by simp only [List.map_toArray, List.map_cons, List.map_nil]; rfl) ?_; (with_reducible refine (spec_DrawShiftRegion.calls k _ _ l0 t101 t102 t103 _ ?side1 ?side2 A3.out).mono ?_); (case side1 => repeat (first | exact HR0.out | (with_reducible refine Kd.C_alloc ?_ _) | (with_reducible refine Kd.C_drewN ?_ _) | (with_reducible refine Kd.C_drew ?_))); (case side2 => exact HC0.out); rintro e w6 ⟨v104, rfl, ho0, hb⟩; refine ⟨_, rfl, ?_⟩; have HO105 := am_ (Kd.R_lower ho0 (below_size (by repeat (first | (with_reducible first | exact HB.out | apply below_alloc | apply pw_below_drewN | apply below_drew1) | exact HB.out)))); replace HB := am_ (below_step (by repeat (first | (with_reducible first | exact HB.out | apply below_alloc | apply pw_below_drewN | apply below_drew1) | exact HB.out)) hb); (try clear hb); (try clear hb2); (try clear hk); (try clear hi); (try clear ho0); obtain ⟨Ao7, co7, eo7⟩ := Kd.R_slice HO105.out; subst eo7) | ((with_reducible refine gate_callee (f := 16) rfl ?_); refine goesL_ (some 19) rfl rfl Try.func16 (by kernel_rfl) rfl #[.slice Ao7 t101.length co7, .int .i64 t102, .int .i64 t103] rfl (by simp only [List.map_toArray, List.map_cons, List.map_nil]; rfl) ?_; (with_reducible refine (impl_ShiftRegion.calls _ _ t101 t102 t103 t106 _ ?side1 ?side2 A4.out).mono ?_); (case side1 => repeat (first | exact (Kd.R_reads' HO105.out).2.2 | (with_reducible refine Kd.C_alloc ?_ _) | (with_reducible refine Kd.C_drewN ?_ _) | (with_reducible refine Kd.C_drew ?_))); (case side2 => exact (Kd.R_reads' HO105.out).2.1); rintro e w8 ⟨v107, rfl, ho0, hb⟩; refine ⟨_, rfl, ?_⟩; have HO108 := am_ (Kd.R_lower (Kd.R_new' ho0 (Kd.R_lt (by exact HO105.out))) (below_size (by repeat (first | (with_reducible first | exact HB.out | apply below_alloc | apply pw_below_drewN | apply below_drew1) | exact HB.out)))); replace HO105 := am_ (Kd.R_elder' (by exact HO105.out) (Kd.R_base ho0) hb); replace HB := am_ (below_step (by repeat (first | (with_reducible first | exact HB.out | apply below_alloc | apply pw_below_drewN | apply below_drew1) | exact HB.out)) hb); (try clear hb); (try clear hb2); (try clear hk); (try clear hi); (try clear ho0)))
 (try simp only [Act.put, List.setIfInBounds_toArray, List.set_cons_zero, List.set_cons_succ])
 go_cut [38] (fun v38 wc => ∃ (kq : Nat) (x38_4 : Bool), v38 = .bool x38_4 ∧ Aside0 (laws_FnShiftRegionShape.j0 kq t101 t102 t103 t106 x38_4 = some r) ∧ Aside0 (kq ≤ k) ∧ Aside0 (Kd.R k45 45 wc w.heap.size (fun k_ => some k_ ≠ (v107 : Value).ownBlock) (.slice Ao7 t101.length co7) t101) ∧ Aside0 (Kd.R k45 45 wc w.heap.size (fun k_ => some k_ ≠ ((.slice Ao7 t101.length co7) : Value).ownBlock) v107 t106) ∧ Aside0 (Below w.heap.size w wc))
 case first =>
  have H := HC5.out
  clear HC5
  replace H := Option.bind_eq_some_iff.mp H
  obtain ⟨t109, A90, H⟩ := H
  replace H : ((laws_equalRuns.f k t106 t109).bind fun t112 => (if t112 = true then ((impl_ValidRegion.f k t101).bind fun t113 => (if t113 = true then ((impl_AreaOf.f k t106).bind fun t114 => ((impl_AreaOf.f k t101).bind fun t115 => (laws_FnShiftRegionShape.j0 k t101 t102 t103 t106 (t114 != t115)))) else (laws_FnShiftRegionShape.j0 k t101 t102 t103 t106 true))) else (laws_FnShiftRegionShape.j0 k t101 t102 t103 t106 true))) = some r := H
  have A9 := Aside0.mk A90
  clear A90
  replace H := Option.bind_eq_some_iff.mp H
  obtain ⟨t112, A100, H⟩ := H
  replace H : (if t112 = true then ((impl_ValidRegion.f k t101).bind fun t113 => (if t113 = true then ((impl_AreaOf.f k t106).bind fun t114 => ((impl_AreaOf.f k t101).bind fun t115 => (laws_FnShiftRegionShape.j0 k t101 t102 t103 t106 (t114 != t115)))) else (laws_FnShiftRegionShape.j0 k t101 t102 t103 t106 true))) else (laws_FnShiftRegionShape.j0 k t101 t102 t103 t106 true)) = some r := H
  have A10 := Aside0.mk A100
  clear A100
  by_cases c11 : t112 = true
  rotate_left
  ·
   replace c11 := Bool.eq_false_iff.mpr c11
   subst c11
   have H1 : (laws_FnShiftRegionShape.j0 k t101 t102 t103 t106 true) = some r := by rw [if_neg (show ¬ (false = true) by decide)] at H; exact H
   clear H
   have H := H1
   clear H1
   have H' := Aside0.mk H
   clear H
   go_wp2_with (first | ((with_reducible refine gate_callee (f := 17) rfl ?_); refine goesL_ (some 24) rfl rfl Try.func17 (by kernel_rfl) rfl #[.slice Ao7 t101.length co7, .int .i64 t102, .int .i64 t103] rfl (by simp only [List.map_toArray, List.map_cons, List.map_nil]; rfl) ?_; (with_reducible refine (spec_ShiftRegion.calls k _ _ t101 t102 t103 t109 _ ?side1 ?side2 A9.out).mono ?_); (case side1 => repeat (first | exact (Kd.R_reads' HO105.out).2.2 | (with_reducible refine Kd.C_alloc ?_ _) | (with_reducible refine Kd.C_drewN ?_ _) | (with_reducible refine Kd.C_drew ?_))); (case side2 => exact (Kd.R_reads' HO105.out).2.1); rintro e w26 ⟨v110, rfl, ho0, hb⟩; refine ⟨_, rfl, ?_⟩; have HO111 := am_ (Kd.R_lower (Kd.R_new' (Kd.R_new' ho0 (Kd.R_lt (by exact HO105.out))) (Kd.R_lt (by exact HO108.out))) (below_size (by repeat (first | (with_reducible first | exact HB.out | apply below_alloc | apply pw_below_drewN | apply below_drew1) | exact HB.out)))); replace HO105 := am_ (Kd.R_elder' (by exact HO105.out) (Kd.R_base ho0) hb); replace HO108 := am_ (Kd.R_elder' (by exact HO108.out) (Kd.R_base ho0) hb); replace HB := am_ (below_step (by repeat (first | (with_reducible first | exact HB.out | apply below_alloc | apply pw_below_drewN | apply below_drew1) | exact HB.out)) hb); (try clear hb); (try clear hb2); (try clear hk); (try clear hi); (try clear ho0); obtain ⟨Ao27, co27, eo27⟩ := Kd.R_slice HO108.out; subst eo27; obtain ⟨Ao28, co28, eo28⟩ := Kd.R_slice HO111.out; subst eo28) | ((with_reducible refine gate_callee (f := 13) rfl ?_); refine goesL_ (some 25) rfl rfl Try.func13 (by kernel_rfl) rfl #[.slice Ao27 t106.length co27, .slice Ao28 t109.length co28] rfl (by simp only [List.map_toArray, List.map_cons, List.map_nil]; rfl) ?_; (with_reducible refine (laws_equalRuns.calls k _ _ t106 _ _ t109 false _ ?side1 ?side2 ?side3 ?side4 A10.out).mono ?_); (case side1 => repeat (first | exact (Kd.R_reads' HO108.out).2.2 | (with_reducible refine Kd.C_alloc ?_ _) | (with_reducible refine Kd.C_drewN ?_ _) | (with_reducible refine Kd.C_drew ?_))); (case side2 => exact (Kd.R_reads' HO108.out).2.1); (case side3 => repeat (first | exact (Kd.R_reads' HO111.out).2.2 | (with_reducible refine Kd.C_alloc ?_ _) | (with_reducible refine Kd.C_drewN ?_ _) | (with_reducible refine Kd.C_drew ?_))); (case side4 => exact (Kd.R_reads' HO111.out).2.1); rintro e w' ⟨rfl, ⟨nd, rfl⟩⟩; refine ⟨_, rfl, ?_⟩))
   go_meet
   case rel => exact ⟨_, (true), (by first | rfl | (simp; done) | (simp [*]; done)), H', ⟨by first | omega | exact Nat.le_refl _⟩, ⟨by exact Kd.R_mono HO105.out (fun _ hk => hk.1.2)⟩, ⟨by exact Kd.R_mono HO108.out (fun _ hk => hk.1.2)⟩, ⟨by repeat (first | (with_reducible first | exact HB.out | apply below_alloc | apply pw_below_drewN | apply below_drew1) | exact HB.out)⟩⟩
  subst c11
  have H1 : ((impl_ValidRegion.f k t101).bind fun t113 => (if t113 = true then ((impl_AreaOf.f k t106).bind fun t114 => ((impl_AreaOf.f k t101).bind fun t115 => (laws_FnShiftRegionShape.j0 k t101 t102 t103 t106 (t114 != t115)))) else (laws_FnShiftRegionShape.j0 k t101 t102 t103 t106 true))) = some r := by rw [if_pos rfl] at H; exact H
  clear H
  have H := H1
  clear H1
  replace H := Option.bind_eq_some_iff.mp H
  obtain ⟨t113, A120, H⟩ := H
  replace H : (if t113 = true then ((impl_AreaOf.f k t106).bind fun t114 => ((impl_AreaOf.f k t101).bind fun t115 => (laws_FnShiftRegionShape.j0 k t101 t102 t103 t106 (t114 != t115)))) else (laws_FnShiftRegionShape.j0 k t101 t102 t103 t106 true)) = some r := H
  have A12 := Aside0.mk A120
  clear A120
  by_cases c13 : t113 = true
  ·
   subst c13
   have H1 : ((impl_AreaOf.f k t106).bind fun t114 => ((impl_AreaOf.f k t101).bind fun t115 => (laws_FnShiftRegionShape.j0 k t101 t102 t103 t106 (t114 != t115)))) = some r := by rw [if_pos rfl] at H; exact H
   clear H
   have H := H1
   clear H1
   replace H := Option.bind_eq_some_iff.mp H
   obtain ⟨t114, A140, H⟩ := H
   replace H : ((impl_AreaOf.f k t101).bind fun t115 => (laws_FnShiftRegionShape.j0 k t101 t102 t103 t106 (t114 != t115))) = some r := H
   have A14 := Aside0.mk A140
   clear A140
   replace H := Option.bind_eq_some_iff.mp H
   obtain ⟨t115, A150, H⟩ := H
   replace H : (laws_FnShiftRegionShape.j0 k t101 t102 t103 t106 (t114 != t115)) = some r := H
   have A15 := Aside0.mk A150
   clear A150
   have H' := Aside0.mk H
   clear H
   go_wp2_with (first | ((with_reducible refine gate_callee (f := 17) rfl ?_); refine goesL_ (some 24) rfl rfl Try.func17 (by kernel_rfl) rfl #[.slice Ao7 t101.length co7, .int .i64 t102, .int .i64 t103] rfl (by simp only [List.map_toArray, List.map_cons, List.map_nil]; rfl) ?_; (with_reducible refine (spec_ShiftRegion.calls k _ _ t101 t102 t103 t109 _ ?side1 ?side2 A9.out).mono ?_); (case side1 => repeat (first | exact (Kd.R_reads' HO105.out).2.2 | (with_reducible refine Kd.C_alloc ?_ _) | (with_reducible refine Kd.C_drewN ?_ _) | (with_reducible refine Kd.C_drew ?_))); (case side2 => exact (Kd.R_reads' HO105.out).2.1); rintro e w16 ⟨v110, rfl, ho0, hb⟩; refine ⟨_, rfl, ?_⟩; have HO111 := am_ (Kd.R_lower (Kd.R_new' (Kd.R_new' ho0 (Kd.R_lt (by exact HO105.out))) (Kd.R_lt (by exact HO108.out))) (below_size (by repeat (first | (with_reducible first | exact HB.out | apply below_alloc | apply pw_below_drewN | apply below_drew1) | exact HB.out)))); replace HO105 := am_ (Kd.R_elder' (by exact HO105.out) (Kd.R_base ho0) hb); replace HO108 := am_ (Kd.R_elder' (by exact HO108.out) (Kd.R_base ho0) hb); replace HB := am_ (below_step (by repeat (first | (with_reducible first | exact HB.out | apply below_alloc | apply pw_below_drewN | apply below_drew1) | exact HB.out)) hb); (try clear hb); (try clear hb2); (try clear hk); (try clear hi); (try clear ho0); obtain ⟨Ao17, co17, eo17⟩ := Kd.R_slice HO108.out; subst eo17; obtain ⟨Ao18, co18, eo18⟩ := Kd.R_slice HO111.out; subst eo18) | ((with_reducible refine gate_callee (f := 13) rfl ?_); refine goesL_ (some 25) rfl rfl Try.func13 (by kernel_rfl) rfl #[.slice Ao17 t106.length co17, .slice Ao18 t109.length co18] rfl (by simp only [List.map_toArray, List.map_cons, List.map_nil]; rfl) ?_; (with_reducible refine (laws_equalRuns.calls k _ _ t106 _ _ t109 true _ ?side1 ?side2 ?side3 ?side4 A10.out).mono ?_); (case side1 => repeat (first | exact (Kd.R_reads' HO108.out).2.2 | (with_reducible refine Kd.C_alloc ?_ _) | (with_reducible refine Kd.C_drewN ?_ _) | (with_reducible refine Kd.C_drew ?_))); (case side2 => exact (Kd.R_reads' HO108.out).2.1); (case side3 => repeat (first | exact (Kd.R_reads' HO111.out).2.2 | (with_reducible refine Kd.C_alloc ?_ _) | (with_reducible refine Kd.C_drewN ?_ _) | (with_reducible refine Kd.C_drew ?_))); (case side4 => exact (Kd.R_reads' HO111.out).2.1); rintro e w' ⟨rfl, ⟨nd, rfl⟩⟩; refine ⟨_, rfl, ?_⟩) | (go_at_call 18; (with_reducible refine (impl_ValidRegion.calls k _ _ t101 true _ ?side1 ?side2 A12.out).mono ?_); (case side1 => repeat (first | exact (Kd.R_reads' HO105.out).2.2 | (with_reducible refine Kd.C_alloc ?_ _) | (with_reducible refine Kd.C_drewN ?_ _) | (with_reducible refine Kd.C_drew ?_))); (case side2 => exact (Kd.R_reads' HO105.out).2.1); rintro e w19 ⟨rfl, hb⟩; replace HO105 := am_ (Kd.R_below (by exact HO105.out) hb); replace HO108 := am_ (Kd.R_below (by exact HO108.out) hb); replace HO111 := am_ (Kd.R_below (by exact HO111.out) hb); replace HB := am_ (below_step (by repeat (first | (with_reducible first | exact HB.out | apply below_alloc | apply pw_below_drewN | apply below_drew1) | exact HB.out)) hb); (try clear hb); (try clear hb2); (try clear hk); (try clear hi)) | (go_at_call 11; (with_reducible refine (impl_AreaOf.calls k _ _ t106 t114 _ ?side1 ?side2 A14.out).mono ?_); (case side1 => repeat (first | exact (Kd.R_reads' HO108.out).2.2 | (with_reducible refine Kd.C_alloc ?_ _) | (with_reducible refine Kd.C_drewN ?_ _) | (with_reducible refine Kd.C_drew ?_))); (case side2 => exact (Kd.R_reads' HO108.out).2.1); rintro e w20 ⟨rfl, hb⟩; replace HO105 := am_ (Kd.R_below (by exact HO105.out) hb); replace HO108 := am_ (Kd.R_below (by exact HO108.out) hb); replace HO111 := am_ (Kd.R_below (by exact HO111.out) hb); replace HB := am_ (below_step (by repeat (first | (with_reducible first | exact HB.out | apply below_alloc | apply pw_below_drewN | apply below_drew1) | exact HB.out)) hb); (try clear hb); (try clear hb2); (try clear hk); (try clear hi)) | (go_at_call 11; (with_reducible refine (impl_AreaOf.calls k _ _ t101 t115 _ ?side1 ?side2 A15.out).mono ?_); (case side1 => repeat (first | exact (Kd.R_reads' HO105.out).2.2 | (with_reducible refine Kd.C_alloc ?_ _) | (with_reducible refine Kd.C_drewN ?_ _) | (with_reducible refine Kd.C_drew ?_))); (case side2 => exact (Kd.R_reads' HO105.out).2.1); rintro e w21 ⟨rfl, hb⟩; replace HO105 := am_ (Kd.R_below (by exact HO105.out) hb); replace HO108 := am_ (Kd.R_below (by exact HO108.out) hb); replace HO111 := am_ (Kd.R_below (by exact HO111.out) hb); replace HB := am_ (below_step (by repeat (first | (with_reducible first | exact HB.out | apply below_alloc | apply pw_below_drewN | apply below_drew1) | exact HB.out)) hb); (try clear hb); (try clear hb2); (try clear hk); (try clear hi)))
   go_meet
   case rel => exact ⟨_, ((t114 != t115)), (by first | rfl | (simp; done) | (simp [*]; done)), H', ⟨by first | omega | exact Nat.le_refl _⟩, ⟨by exact Kd.R_mono HO105.out (fun _ hk => hk.1.2)⟩, ⟨by exact Kd.R_mono HO108.out (fun _ hk => hk.1.2)⟩, ⟨by repeat (first | (with_reducible first | exact HB.out | apply below_alloc | apply pw_below_drewN | apply below_drew1) | exact HB.out)⟩⟩
  replace c13 := Bool.eq_false_iff.mpr c13
  subst c13
  have H1 : (laws_FnShiftRegionShape.j0 k t101 t102 t103 t106 true) = some r := by rw [if_neg (show ¬ (false = true) by decide)] at H; exact H
  clear H
  have H := H1
  clear H1
  have H' := Aside0.mk H
  clear H
  go_wp2_with (first | ((with_reducible refine gate_callee (f := 17) rfl ?_); refine goesL_ (some 24) rfl rfl Try.func17 (by kernel_rfl) rfl #[.slice Ao7 t101.length co7, .int .i64 t102, .int .i64 t103] rfl (by simp only [List.map_toArray, List.map_cons, List.map_nil]; rfl) ?_; (with_reducible refine (spec_ShiftRegion.calls k _ _ t101 t102 t103 t109 _ ?side1 ?side2 A9.out).mono ?_); (case side1 => repeat (first | exact (Kd.R_reads' HO105.out).2.2 | (with_reducible refine Kd.C_alloc ?_ _) | (with_reducible refine Kd.C_drewN ?_ _) | (with_reducible refine Kd.C_drew ?_))); (case side2 => exact (Kd.R_reads' HO105.out).2.1); rintro e w22 ⟨v110, rfl, ho0, hb⟩; refine ⟨_, rfl, ?_⟩; have HO111 := am_ (Kd.R_lower (Kd.R_new' (Kd.R_new' ho0 (Kd.R_lt (by exact HO105.out))) (Kd.R_lt (by exact HO108.out))) (below_size (by repeat (first | (with_reducible first | exact HB.out | apply below_alloc | apply pw_below_drewN | apply below_drew1) | exact HB.out)))); replace HO105 := am_ (Kd.R_elder' (by exact HO105.out) (Kd.R_base ho0) hb); replace HO108 := am_ (Kd.R_elder' (by exact HO108.out) (Kd.R_base ho0) hb); replace HB := am_ (below_step (by repeat (first | (with_reducible first | exact HB.out | apply below_alloc | apply pw_below_drewN | apply below_drew1) | exact HB.out)) hb); (try clear hb); (try clear hb2); (try clear hk); (try clear hi); (try clear ho0); obtain ⟨Ao23, co23, eo23⟩ := Kd.R_slice HO108.out; subst eo23; obtain ⟨Ao24, co24, eo24⟩ := Kd.R_slice HO111.out; subst eo24) | ((with_reducible refine gate_callee (f := 13) rfl ?_); refine goesL_ (some 25) rfl rfl Try.func13 (by kernel_rfl) rfl #[.slice Ao23 t106.length co23, .slice Ao24 t109.length co24] rfl (by simp only [List.map_toArray, List.map_cons, List.map_nil]; rfl) ?_; (with_reducible refine (laws_equalRuns.calls k _ _ t106 _ _ t109 true _ ?side1 ?side2 ?side3 ?side4 A10.out).mono ?_); (case side1 => repeat (first | exact (Kd.R_reads' HO108.out).2.2 | (with_reducible refine Kd.C_alloc ?_ _) | (with_reducible refine Kd.C_drewN ?_ _) | (with_reducible refine Kd.C_drew ?_))); (case side2 => exact (Kd.R_reads' HO108.out).2.1); (case side3 => repeat (first | exact (Kd.R_reads' HO111.out).2.2 | (with_reducible refine Kd.C_alloc ?_ _) | (with_reducible refine Kd.C_drewN ?_ _) | (with_reducible refine Kd.C_drew ?_))); (case side4 => exact (Kd.R_reads' HO111.out).2.1); rintro e w' ⟨rfl, ⟨nd, rfl⟩⟩; refine ⟨_, rfl, ?_⟩) | (go_at_call 18; (with_reducible refine (impl_ValidRegion.calls k _ _ t101 false _ ?side1 ?side2 A12.out).mono ?_); (case side1 => repeat (first | exact (Kd.R_reads' HO105.out).2.2 | (with_reducible refine Kd.C_alloc ?_ _) | (with_reducible refine Kd.C_drewN ?_ _) | (with_reducible refine Kd.C_drew ?_))); (case side2 => exact (Kd.R_reads' HO105.out).2.1); rintro e w25 ⟨rfl, hb⟩; replace HO105 := am_ (Kd.R_below (by exact HO105.out) hb); replace HO108 := am_ (Kd.R_below (by exact HO108.out) hb); replace HO111 := am_ (Kd.R_below (by exact HO111.out) hb); replace HB := am_ (below_step (by repeat (first | (with_reducible first | exact HB.out | apply below_alloc | apply pw_below_drewN | apply below_drew1) | exact HB.out)) hb); (try clear hb); (try clear hb2); (try clear hk); (try clear hi)))
  go_meet
  case rel => exact ⟨_, (true), (by first | rfl | (simp; done) | (simp [*]; done)), H', ⟨by first | omega | exact Nat.le_refl _⟩, ⟨by exact Kd.R_mono HO105.out (fun _ hk => hk.1.2)⟩, ⟨by exact Kd.R_mono HO108.out (fun _ hk => hk.1.2)⟩, ⟨by repeat (first | (with_reducible first | exact HB.out | apply below_alloc | apply pw_below_drewN | apply below_drew1) | exact HB.out)⟩⟩
 case rest =>
  clear HC5
  try clear c1
  try clear c2
  try clear c2b0
  try clear c2b1
  try clear p2
  try clear c5
  try clear c11
  try clear c13
  try clear c15
  try clear c16
  try clear c17
  obtain ⟨kq, x38_4, rfl, HA, HJ4, HO_3, HO_6, HB⟩ := hcut
  cases kq with
  | zero => exact absurd HA.out (by simp [laws_FnShiftRegionShape.j0])
  | succ kj4 =>
   have H := HA.out
   clear HA
   simp only [laws_FnShiftRegionShape.j0] at H
   by_cases c29 : x38_4 = true
   ·
    subst c29
    have H1 : ((spec_ShiftRegion.f kj4 t101 t102 t103).bind fun t116 => ((laws_equalRuns.f kj4 t106 t116).bind fun t119 => (some t119))) = some r := by rw [if_pos rfl] at H; exact H
    clear H
    have H := H1
    clear H1
    replace H := Option.bind_eq_some_iff.mp H
    obtain ⟨t116, A300, H⟩ := H
    replace H : ((laws_equalRuns.f kj4 t106 t116).bind fun t119 => (some t119)) = some r := H
    have A30 := Aside0.mk A300
    clear A300
    replace H := Option.bind_eq_some_iff.mp H
    obtain ⟨t119, A310, H⟩ := H
    replace H : (some t119) = some r := H
    have A31 := Aside0.mk A310
    clear A310
    obtain rfl := Option.some.inj H
    go_wp2_with (first | ((with_reducible refine gate_callee (f := 17) rfl ?_); refine goesL_ (some 43) rfl rfl Try.func17 (by kernel_rfl) rfl #[.slice Ao7 t101.length co7, .int .i64 t102, .int .i64 t103] rfl (by simp only [List.map_toArray, List.map_cons, List.map_nil]; rfl) ?_; (with_reducible refine (spec_ShiftRegion.calls kj4 _ _ t101 t102 t103 t116 _ ?side1 ?side2 A30.out).mono ?_); (case side1 => repeat (first | exact (Kd.R_reads' HO_3.out).2.2 | (with_reducible refine Kd.C_alloc ?_ _) | (with_reducible refine Kd.C_drewN ?_ _) | (with_reducible refine Kd.C_drew ?_))); (case side2 => exact (Kd.R_reads' HO_3.out).2.1); rintro e w32 ⟨v117, rfl, ho0, hb⟩; refine ⟨_, rfl, ?_⟩; have HO118 := am_ (Kd.R_lower (Kd.R_new' (Kd.R_new' ho0 (Kd.R_lt (by exact HO_3.out))) (Kd.R_lt (by exact HO_6.out))) (below_size (by repeat (first | (with_reducible first | exact HB.out | apply below_alloc | apply pw_below_drewN | apply below_drew1) | exact HB.out)))); replace HO_3 := am_ (Kd.R_elder' (by exact HO_3.out) (Kd.R_base ho0) hb); replace HO_6 := am_ (Kd.R_elder' (by exact HO_6.out) (Kd.R_base ho0) hb); replace HB := am_ (below_step (by repeat (first | (with_reducible first | exact HB.out | apply below_alloc | apply pw_below_drewN | apply below_drew1) | exact HB.out)) hb); (try clear hb); (try clear hb2); (try clear hk); (try clear hi); (try clear ho0); obtain ⟨Ao33, co33, eo33⟩ := Kd.R_slice HO_6.out; subst eo33; obtain ⟨Ao34, co34, eo34⟩ := Kd.R_slice HO118.out; subst eo34) | ((with_reducible refine gate_callee (f := 13) rfl ?_); refine goesL_ (some 44) rfl rfl Try.func13 (by kernel_rfl) rfl #[.slice Ao33 t106.length co33, .slice Ao34 t116.length co34] rfl (by simp only [List.map_toArray, List.map_cons, List.map_nil]; rfl) ?_; (with_reducible refine (laws_equalRuns.calls kj4 _ _ t106 _ _ t116 t119 _ ?side1 ?side2 ?side3 ?side4 A31.out).mono ?_); (case side1 => repeat (first | exact (Kd.R_reads' HO_6.out).2.2 | (with_reducible refine Kd.C_alloc ?_ _) | (with_reducible refine Kd.C_drewN ?_ _) | (with_reducible refine Kd.C_drew ?_))); (case side2 => exact (Kd.R_reads' HO_6.out).2.1); (case side3 => repeat (first | exact (Kd.R_reads' HO118.out).2.2 | (with_reducible refine Kd.C_alloc ?_ _) | (with_reducible refine Kd.C_drewN ?_ _) | (with_reducible refine Kd.C_drew ?_))); (case side4 => exact (Kd.R_reads' HO118.out).2.1); rintro e w' ⟨rfl, ⟨nd, rfl⟩⟩; refine ⟨_, rfl, ?_⟩))
    go_ret
    exact ⟨by first | rfl | (simp [errW_none, errW_some] <;> rfl) | (simp [*, errW_none, errW_some] <;> rfl), by repeat (first | (with_reducible first | exact HB.out | apply below_alloc | apply pw_below_drewN | apply below_drew1) | exact HB.out)⟩
   replace c29 := Bool.eq_false_iff.mpr c29
   subst c29
   have H1 : ((impl_PartsOf.f t106).bind fun t120 => ((impl_PartsOf.f t101).bind fun t123 => (some ((t120.length : Int) == (t123.length : Int))))) = some r := by rw [if_neg (show ¬ (false = true) by decide)] at H; exact H
   clear H
   have H := H1
   clear H1
   replace H := Option.bind_eq_some_iff.mp H
   obtain ⟨t120, A350, H⟩ := H
   replace H : ((impl_PartsOf.f t101).bind fun t123 => (some ((t120.length : Int) == (t123.length : Int)))) = some r := H
   have A35 := Aside0.mk A350
   clear A350
   replace H := Option.bind_eq_some_iff.mp H
   obtain ⟨t123, A360, H⟩ := H
   replace H : (some ((t120.length : Int) == (t123.length : Int))) = some r := H
   have A36 := Aside0.mk A360
   clear A360
   obtain rfl := Option.some.inj H
   obtain ⟨Ao37, co37, eo37⟩ := Kd.R_slice HO_6.out
   subst eo37
   go_wp2_with (first | ((with_reducible refine gate_callee (f := 8) rfl ?_); refine goesL_ (some 46) rfl rfl Try.func8 (by kernel_rfl) rfl #[.slice Ao37 t106.length co37] rfl (by simp only [List.map_toArray, List.map_cons, List.map_nil]; rfl) ?_; (with_reducible refine (impl_PartsOf.calls _ _ t106 t120 _ ?side1 ?side2 A35.out).mono ?_); (case side1 => repeat (first | exact (Kd.R_reads' HO_6.out).2.2 | (with_reducible refine Kd.C_alloc ?_ _) | (with_reducible refine Kd.C_drewN ?_ _) | (with_reducible refine Kd.C_drew ?_))); (case side2 => exact (Kd.R_reads' HO_6.out).2.1); rintro e w38 ⟨v121, rfl, ho0, hb⟩; refine ⟨_, rfl, ?_⟩; have HO122 := am_ (Kd.S_lower (Kd.S_new' (Kd.S_new' ho0 (Kd.R_lt (by exact HO_3.out))) (Kd.R_lt (by exact HO_6.out))) (below_size (by repeat (first | (with_reducible first | exact HB.out | apply below_alloc | apply pw_below_drewN | apply below_drew1) | exact HB.out)))); replace HO_3 := am_ (Kd.R_below (by exact HO_3.out) hb); replace HO_6 := am_ (Kd.R_below (by exact HO_6.out) hb); replace HB := am_ (below_step (by repeat (first | (with_reducible first | exact HB.out | apply below_alloc | apply pw_below_drewN | apply below_drew1) | exact HB.out)) hb); (try clear hb); (try clear hb2); (try clear hk); (try clear hi); (try clear ho0); obtain ⟨Ao39, co39, eo39⟩ := Kd.S_slice HO122.out; subst eo39) | ((with_reducible refine gate_callee (f := 8) rfl ?_); refine goesL_ (some 49) rfl rfl Try.func8 (by kernel_rfl) rfl #[.slice Ao7 t101.length co7] rfl (by simp only [List.map_toArray, List.map_cons, List.map_nil]; rfl) ?_; (with_reducible refine (impl_PartsOf.calls _ _ t101 t123 _ ?side1 ?side2 A36.out).mono ?_); (case side1 => repeat (first | exact (Kd.R_reads' HO_3.out).2.2 | (with_reducible refine Kd.C_alloc ?_ _) | (with_reducible refine Kd.C_drewN ?_ _) | (with_reducible refine Kd.C_drew ?_))); (case side2 => exact (Kd.R_reads' HO_3.out).2.1); rintro e w40 ⟨v124, rfl, ho0, hb⟩; refine ⟨_, rfl, ?_⟩; have HO125 := am_ (Kd.S_lower (Kd.S_new' (Kd.S_new' (Kd.S_new' ho0 (Kd.R_lt (by exact HO_3.out))) (Kd.R_lt (by exact HO_6.out))) (Kd.S_lt (by exact HO122.out))) (below_size (by repeat (first | (with_reducible first | exact HB.out | apply below_alloc | apply pw_below_drewN | apply below_drew1) | exact HB.out)))); replace HO_3 := am_ (Kd.R_below (by exact HO_3.out) hb); replace HO_6 := am_ (Kd.R_below (by exact HO_6.out) hb); replace HO122 := am_ (Kd.S_elder' (by exact HO122.out) (Kd.S_base ho0) hb); replace HB := am_ (below_step (by repeat (first | (with_reducible first | exact HB.out | apply below_alloc | apply pw_below_drewN | apply below_drew1) | exact HB.out)) hb); (try clear hb); (try clear hb2); (try clear hk); (try clear hi); (try clear ho0); obtain ⟨Ao41, co41, eo41⟩ := Kd.S_slice HO125.out; subst eo41))
   go_ret
   exact ⟨by first | rfl | (simp [errW_none, errW_some] <;> rfl) | (simp [*, errW_none, errW_some] <;> rfl), by repeat (first | (with_reducible first | exact HB.out | apply below_alloc | apply pw_below_drewN | apply below_drew1) | exact HB.out)⟩

/-- THE ONE PURE STATEMENT of laws_FnShiftRegionShape: yours. -/
def laws_FnShiftRegionShape.Pure : Prop := ∀ (l0 : List Int), l0.length ≤ maxLen → l0.length * 1 ≤ 140737488351232 → (∀ x ∈ l0, (Lit.int .u8 x).wf = true) → ∃ k, laws_FnShiftRegionShape.f k l0 = some true
theorem laws_FnShiftRegionShape.walk (P : laws_FnShiftRegionShape.Pure) (a0 : Option Addr) (len0 cap0 : Nat) (z0 : List Int) (w : World) (w0 : (a0 = none ∧ len0 = 0 ∧ cap0 = 0 ∧ z0 = []) ∨ ∃ x, a0 = some x ∧ len0 ≤ cap0 ∧ cap0 ≤ maxLen ∧ z0.length = cap0 ∧ (∀ i, i < z0.length → w.cell? (x.add i) = some (.int .u8 (z0.getD i 0))) ∧ ∀ n ∈ z0, (Lit.int .u8 n).wf = true) (y0 : len0 * 1 ≤ 140737488351232) :
  Calls Try.prog 5 #[.slice a0 len0 cap0] w fun e w' => e = .returned (.bool true) ∧ Below w.heap.size w w' := by
 obtain ⟨l0, rfl, hr0, hm0, hw0, hc0⟩ := ReadsInt.ofRowC w0
 obtain ⟨k, h⟩ := P l0 hm0 y0 hw0
 refine (laws_FnShiftRegionShape.calls k _ _ l0 true w (Kd.C_of_reads (d := (0 : Int)) (h1 := fun _ => rfl) hr0) hc0 h).mono ?_
 rintro e w' ⟨rfl, hd⟩
 exact ⟨rfl, hd⟩

end Go.Proofs.Ytceoecmjccakgaa.Print
