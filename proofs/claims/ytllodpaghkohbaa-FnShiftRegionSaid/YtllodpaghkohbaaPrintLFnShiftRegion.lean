-- laid by hp.py (a program of this work over the kit's print), with contracts by hand for what the print does not take
import Derived.Test.YtllodpaghkohbaaPrint0
import Derived.Test.YtllodpaghkohbaaPrintHimplShiftRegion
import Derived.Test.YtllodpaghkohbaaPrintHx0
import Derived.Test.YtllodpaghkohbaaPrintR0x0
import Derived.Test.YtllodpaghkohbaaPrintR1x0
import Derived.Test.YtllodpaghkohbaaPrintR1x4
import Derived.Test.YtllodpaghkohbaaPrintR1x6
import Derived.Test.YtllodpaghkohbaaPrintR3x0
namespace Go.Proofs.Ytllodpaghkohbaa.Print
open Go.RowKit Go.Proofs.YtllodpaghkohbaaW.PrintWords Go.Proofs.YtllodpaghkohbaaW.PrintLast Go.Proofs.YtllodpaghkohbaaW.PrintMore
attribute [local go_sem] max2_int min2_int max_two min_two max_three min_three max_four min_four   -- for this text's walks alone
set_option linter.unusedVariables false
set_option linter.unusedSimpArgs false

/-! ### laws_FnShiftRegion: function 7 -/
def laws_FnShiftRegion.j0 : Nat → List (S62) → Int → Int → List (S62) → Bool → Option (Bool)
 | 0, _, _, _, _, _ => none
 | k + 1, x3, x4, x5, x6, x48 => if x48 = true then ((spec_ShiftRegion.f k x3 x4 x5).bind fun t114 => ((laws_equalRuns.f k x6 t114).bind fun t117 => (some t117))) else ((impl_ShiftRegion.f x6 (wrap64 (-x4)) (wrap64 (-x5))).bind fun t118 => ((laws_combined.f t118 x3 2).bind fun t121 => (if (t121.length : Int) = 0 then ((impl_AreaOf.f k x6).bind fun t124 => ((impl_AreaOf.f k x3).bind fun t125 => (if t124 = t125 then ((laws_equalRuns.f k t118 x3).bind fun t126 => (if t126 = true then ((impl_AreaOf.f k x6).bind fun t127 => ((impl_AreaOf.f k x3).bind fun t128 => (some (decide (t127 ≤ t128))))) else (some false))) else ((impl_AreaOf.f k x6).bind fun t129 => ((impl_AreaOf.f k x3).bind fun t130 => (some (decide (t129 ≤ t130)))))))) else (some false))))
def laws_FnShiftRegion.f (k : Nat) (l0 : List Int) : Option (Bool) := if (l0.length : Int) > 1048576 then (some true) else ((spec_DrawShiftRegion.f k l0).bind fun bt101 => ((impl_ShiftRegion.f bt101.1 bt101.2.1 bt101.2.2).bind fun t106 => ((spec_ShiftRegion.f k bt101.1 bt101.2.1 bt101.2.2).bind fun t109 => ((laws_equalRuns.f k t106 t109).bind fun t112 => (if t112 = true then ((impl_ValidRegion.f k bt101.1).bind fun t113 => (if t113 = true then (if bt101.2.1 < (-16) then (laws_FnShiftRegion.j0 k bt101.1 bt101.2.1 bt101.2.2 t106 true) else (if bt101.2.1 > 16 then (laws_FnShiftRegion.j0 k bt101.1 bt101.2.1 bt101.2.2 t106 true) else (if bt101.2.2 < (-16) then (laws_FnShiftRegion.j0 k bt101.1 bt101.2.1 bt101.2.2 t106 true) else (laws_FnShiftRegion.j0 k bt101.1 bt101.2.1 bt101.2.2 t106 (decide (bt101.2.2 > 16)))))) else (laws_FnShiftRegion.j0 k bt101.1 bt101.2.1 bt101.2.2 t106 true))) else (laws_FnShiftRegion.j0 k bt101.1 bt101.2.1 bt101.2.2 t106 true))))))
theorem laws_FnShiftRegion.mono_l : ∀ k, (∀ y0 y1 y2 y3 y4, LeO (laws_FnShiftRegion.j0 k y0 y1 y2 y3 y4) (laws_FnShiftRegion.j0 (k + 1) y0 y1 y2 y3 y4))
 | 0 => fun _ _ _ _ _ r h => by simp [laws_FnShiftRegion.j0] at h
 | k + 1 => by
  have ih0 := laws_FnShiftRegion.mono_l k
  intro y0 y1 y2 y3 y4
  unfold laws_FnShiftRegion.j0
  repeat' first
  | (with_reducible exact ih0 _ _ _ _ _)
  | (with_reducible exact impl_AreaOf.mono _ _)
  | (with_reducible exact impl_ValidRegion.mono _ _)
  | (with_reducible exact laws_equalRuns.mono _ _ _)
  | (with_reducible exact spec_DrawShiftRegion.mono _ _)
  | (with_reducible exact spec_ShiftRegion.mono _ _ _ _)
  | (with_reducible exact LeO.refl _)
  | (with_reducible exact LeO.none _)
  | (with_reducible refine LeO.ite ?_ ?_)
  | (with_reducible refine LeO.bind ?_ (fun _ => ?_))
  | exact ih0 _ _ _ _ _
  | exact impl_AreaOf.mono _ _
  | exact impl_ValidRegion.mono _ _
  | exact laws_equalRuns.mono _ _ _
  | exact spec_DrawShiftRegion.mono _ _
  | exact spec_ShiftRegion.mono _ _ _ _
  | exact LeO.none _
  | refine LeO.ite ?_ ?_
  | refine LeO.bind ?_ (fun _ => ?_)
theorem laws_FnShiftRegion.mono : ∀ a0 k, LeO (laws_FnShiftRegion.f k a0) (laws_FnShiftRegion.f (k + 1) a0) := by
 intro a0 k
 have ih0 := laws_FnShiftRegion.mono_l k
 unfold laws_FnShiftRegion.f
 repeat' first
   | (with_reducible exact ih0 _ _ _ _ _)
   | (with_reducible exact impl_AreaOf.mono _ _)
   | (with_reducible exact impl_ValidRegion.mono _ _)
   | (with_reducible exact laws_equalRuns.mono _ _ _)
   | (with_reducible exact spec_DrawShiftRegion.mono _ _)
   | (with_reducible exact spec_ShiftRegion.mono _ _ _ _)
   | (with_reducible exact LeO.refl _)
   | (with_reducible exact LeO.none _)
   | (with_reducible refine LeO.ite ?_ ?_)
   | (with_reducible refine LeO.bind ?_ (fun _ => ?_))
   | exact ih0 _ _ _ _ _
   | exact impl_AreaOf.mono _ _
   | exact impl_ValidRegion.mono _ _
   | exact laws_equalRuns.mono _ _ _
   | exact spec_DrawShiftRegion.mono _ _
   | exact spec_ShiftRegion.mono _ _ _ _
   | exact LeO.none _
   | refine LeO.ite ?_ ?_
   | refine LeO.bind ?_ (fun _ => ?_)
set_option maxHeartbeats 8000000 in
set_option maxRecDepth 100000 in
theorem laws_FnShiftRegion.calls (k : Nat) (A0 : Option Addr) (c0 : Nat) (l0 : List Int) (r : Bool) (w : World) (hr0 : Kd.C (Kd.int .u8) w A0 l0.length l0) (hc0 : l0.length ≤ c0) (h : laws_FnShiftRegion.f k l0 = some r) :
  Calls Try.prog 7 #[.slice A0 l0.length c0] w fun e w' => e = .returned (.bool r) ∧ Below w.heap.size w w' := by
 have HR0 := Aside0.mk hr0
 have HC0 := Aside0.mk hc0
 clear hr0 hc0
 have HB := Aside0.mk (Below.refl w.heap.size w)
 have H : (if (l0.length : Int) > 1048576 then (some true) else ((spec_DrawShiftRegion.f k l0).bind fun bt101 => ((impl_ShiftRegion.f bt101.1 bt101.2.1 bt101.2.2).bind fun t106 => ((spec_ShiftRegion.f k bt101.1 bt101.2.1 bt101.2.2).bind fun t109 => ((laws_equalRuns.f k t106 t109).bind fun t112 => (if t112 = true then ((impl_ValidRegion.f k bt101.1).bind fun t113 => (if t113 = true then (if bt101.2.1 < (-16) then (laws_FnShiftRegion.j0 k bt101.1 bt101.2.1 bt101.2.2 t106 true) else (if bt101.2.1 > 16 then (laws_FnShiftRegion.j0 k bt101.1 bt101.2.1 bt101.2.2 t106 true) else (if bt101.2.2 < (-16) then (laws_FnShiftRegion.j0 k bt101.1 bt101.2.1 bt101.2.2 t106 true) else (laws_FnShiftRegion.j0 k bt101.1 bt101.2.1 bt101.2.2 t106 (decide (bt101.2.2 > 16)))))) else (laws_FnShiftRegion.j0 k bt101.1 bt101.2.1 bt101.2.2 t106 true))) else (laws_FnShiftRegion.j0 k bt101.1 bt101.2.1 bt101.2.2 t106 true))))))) = some r := h
 clear h
 by_cases c2 : (l0.length : Int) > 1048576
 ·
  rw [if_pos c2] at H
  have c2b0 : decide (1048576 < (l0.length : Int)) = true := decide_eq_true c2
  have c2b1 : decide (1048576 < l0.length) = true := decide_eq_true (by omega)
  clear c2
  obtain rfl := Option.some.inj H
  go_enter Try.func7, Try.ntmps7
  go_wp2
  go_ret
  exact ⟨by first | rfl | (simp [errW_none, errW_some] <;> rfl) | (simp [*, errW_none, errW_some] <;> rfl), by repeat (first | (with_reducible first | exact HB.out | apply below_alloc | apply pw_below_drewN | apply below_drew1) | exact HB.out)⟩
 rw [if_neg c2] at H
 have c2b0 : decide (1048576 < (l0.length : Int)) = false := decide_eq_false c2
 have c2b1 : decide (1048576 < l0.length) = false := decide_eq_false (by omega)
 clear c2
 replace H := Option.bind_eq_some_iff.mp H
 obtain ⟨⟨t101, t102, t103⟩, A30, H⟩ := H
 replace H : ((impl_ShiftRegion.f t101 t102 t103).bind fun t106 => ((spec_ShiftRegion.f k t101 t102 t103).bind fun t109 => ((laws_equalRuns.f k t106 t109).bind fun t112 => (if t112 = true then ((impl_ValidRegion.f k t101).bind fun t113 => (if t113 = true then (if t102 < (-16) then (laws_FnShiftRegion.j0 k t101 t102 t103 t106 true) else (if t102 > 16 then (laws_FnShiftRegion.j0 k t101 t102 t103 t106 true) else (if t103 < (-16) then (laws_FnShiftRegion.j0 k t101 t102 t103 t106 true) else (laws_FnShiftRegion.j0 k t101 t102 t103 t106 (decide (t103 > 16)))))) else (laws_FnShiftRegion.j0 k t101 t102 t103 t106 true))) else (laws_FnShiftRegion.j0 k t101 t102 t103 t106 true))))) = some r := H
 have A3 := Aside0.mk A30
 clear A30
 replace H := Option.bind_eq_some_iff.mp H
 obtain ⟨t106, A40, H⟩ := H
 replace H : ((spec_ShiftRegion.f k t101 t102 t103).bind fun t109 => ((laws_equalRuns.f k t106 t109).bind fun t112 => (if t112 = true then ((impl_ValidRegion.f k t101).bind fun t113 => (if t113 = true then (if t102 < (-16) then (laws_FnShiftRegion.j0 k t101 t102 t103 t106 true) else (if t102 > 16 then (laws_FnShiftRegion.j0 k t101 t102 t103 t106 true) else (if t103 < (-16) then (laws_FnShiftRegion.j0 k t101 t102 t103 t106 true) else (laws_FnShiftRegion.j0 k t101 t102 t103 t106 (decide (t103 > 16)))))) else (laws_FnShiftRegion.j0 k t101 t102 t103 t106 true))) else (laws_FnShiftRegion.j0 k t101 t102 t103 t106 true)))) = some r := H
 have A4 := Aside0.mk A40
 clear A40
 have HC5 := Aside0.mk H
 clear H
 go_enter Try.func7, Try.ntmps7
 go_upto_region 5 with (first | ((with_reducible refine gate_callee (f := 24) rfl ?_); refine goesL_ (some 13) rfl rfl Try.func24 (by kernel_rfl) rfl #[.slice A0 l0.length c0] rfl (by simp only [List.map_toArray, List.map_cons, List.map_nil]; rfl) ?_; (with_reducible refine (spec_DrawShiftRegion.calls k _ _ l0 t101 t102 t103 _ ?side1 ?side2 A3.out).mono ?_); (case side1 => repeat (first | exact HR0.out | (with_reducible refine Kd.C_alloc ?_ _) | (with_reducible refine Kd.C_drewN ?_ _) | (with_reducible refine Kd.C_drew ?_))); (case side2 => exact HC0.out); rintro e w6 ⟨v104, rfl, ho0, hb⟩; refine ⟨_, rfl, ?_⟩; have HO105 := am_ (Kd.R_lower ho0 (below_size (by repeat (first | (with_reducible first | exact HB.out | apply below_alloc | apply pw_below_drewN | apply below_drew1) | exact HB.out)))); replace HB := am_ (below_step (by repeat (first | (with_reducible first | exact HB.out | apply below_alloc | apply pw_below_drewN | apply below_drew1) | exact HB.out)) hb); (try clear hb); (try clear hb2); (try clear hk); (try clear hi); (try clear ho0); obtain ⟨Ao7, co7, eo7⟩ := Kd.R_slice HO105.out; subst eo7) | ((with_reducible refine gate_callee (f := 22) rfl ?_); refine goesL_ (some 20) rfl rfl Try.func22 (by kernel_rfl) rfl #[.slice Ao7 t101.length co7, .int .i64 t102, .int .i64 t103] rfl (by simp only [List.map_toArray, List.map_cons, List.map_nil]; rfl) ?_; (with_reducible refine (impl_ShiftRegion.calls _ _ t101 t102 t103 t106 _ ?side1 ?side2 A4.out).mono ?_); (case side1 => repeat (first | exact (Kd.R_reads' HO105.out).2.2 | (with_reducible refine Kd.C_alloc ?_ _) | (with_reducible refine Kd.C_drewN ?_ _) | (with_reducible refine Kd.C_drew ?_))); (case side2 => exact (Kd.R_reads' HO105.out).2.1); rintro e w8 ⟨v107, rfl, ho0, hb⟩; refine ⟨_, rfl, ?_⟩; have HO108 := am_ (Kd.R_lower (Kd.R_new' ho0 (Kd.R_lt (by exact HO105.out))) (below_size (by repeat (first | (with_reducible first | exact HB.out | apply below_alloc | apply pw_below_drewN | apply below_drew1) | exact HB.out)))); replace HO105 := am_ (Kd.R_elder' (by exact HO105.out) (Kd.R_base ho0) hb); replace HB := am_ (below_step (by repeat (first | (with_reducible first | exact HB.out | apply below_alloc | apply pw_below_drewN | apply below_drew1) | exact HB.out)) hb); (try clear hb); (try clear hb2); (try clear hk); (try clear hi); (try clear ho0)))
 (try simp only [Act.put, List.setIfInBounds_toArray, List.set_cons_zero, List.set_cons_succ])
 go_cut [48] (fun v48 wc => ∃ (kq : Nat) (x48_4 : Bool), v48 = .bool x48_4 ∧ Aside0 (laws_FnShiftRegion.j0 kq t101 t102 t103 t106 x48_4 = some r) ∧ Aside0 (kq ≤ k) ∧ Aside0 (Kd.R k62 62 wc w.heap.size (fun k_ => some k_ ≠ (v107 : Value).ownBlock) (.slice Ao7 t101.length co7) t101) ∧ Aside0 (Kd.R k62 62 wc w.heap.size (fun k_ => some k_ ≠ ((.slice Ao7 t101.length co7) : Value).ownBlock) v107 t106) ∧ Aside0 (Below w.heap.size w wc))
 case first =>
  have H := HC5.out
  clear HC5
  replace H := Option.bind_eq_some_iff.mp H
  obtain ⟨t109, A90, H⟩ := H
  replace H : ((laws_equalRuns.f k t106 t109).bind fun t112 => (if t112 = true then ((impl_ValidRegion.f k t101).bind fun t113 => (if t113 = true then (if t102 < (-16) then (laws_FnShiftRegion.j0 k t101 t102 t103 t106 true) else (if t102 > 16 then (laws_FnShiftRegion.j0 k t101 t102 t103 t106 true) else (if t103 < (-16) then (laws_FnShiftRegion.j0 k t101 t102 t103 t106 true) else (laws_FnShiftRegion.j0 k t101 t102 t103 t106 (decide (t103 > 16)))))) else (laws_FnShiftRegion.j0 k t101 t102 t103 t106 true))) else (laws_FnShiftRegion.j0 k t101 t102 t103 t106 true))) = some r := H
  have A9 := Aside0.mk A90
  clear A90
  replace H := Option.bind_eq_some_iff.mp H
  obtain ⟨t112, A100, H⟩ := H
  replace H : (if t112 = true then ((impl_ValidRegion.f k t101).bind fun t113 => (if t113 = true then (if t102 < (-16) then (laws_FnShiftRegion.j0 k t101 t102 t103 t106 true) else (if t102 > 16 then (laws_FnShiftRegion.j0 k t101 t102 t103 t106 true) else (if t103 < (-16) then (laws_FnShiftRegion.j0 k t101 t102 t103 t106 true) else (laws_FnShiftRegion.j0 k t101 t102 t103 t106 (decide (t103 > 16)))))) else (laws_FnShiftRegion.j0 k t101 t102 t103 t106 true))) else (laws_FnShiftRegion.j0 k t101 t102 t103 t106 true)) = some r := H
  have A10 := Aside0.mk A100
  clear A100
  by_cases c11 : t112 = true
  rotate_left
  ·
   replace c11 := Bool.eq_false_iff.mpr c11
   subst c11
   have H1 : (laws_FnShiftRegion.j0 k t101 t102 t103 t106 true) = some r := by rw [if_neg (show ¬ (false = true) by decide)] at H; exact H
   clear H
   have H := H1
   clear H1
   have H' := Aside0.mk H
   clear H
   go_wp2_with (first | ((with_reducible refine gate_callee (f := 25) rfl ?_); refine goesL_ (some 25) rfl rfl Try.func25 (by kernel_rfl) rfl #[.slice Ao7 t101.length co7, .int .i64 t102, .int .i64 t103] rfl (by simp only [List.map_toArray, List.map_cons, List.map_nil]; rfl) ?_; (with_reducible refine (spec_ShiftRegion.calls k _ _ t101 t102 t103 t109 _ ?side1 ?side2 A9.out).mono ?_); (case side1 => repeat (first | exact (Kd.R_reads' HO105.out).2.2 | (with_reducible refine Kd.C_alloc ?_ _) | (with_reducible refine Kd.C_drewN ?_ _) | (with_reducible refine Kd.C_drew ?_))); (case side2 => exact (Kd.R_reads' HO105.out).2.1); rintro e w37 ⟨v110, rfl, ho0, hb⟩; refine ⟨_, rfl, ?_⟩; have HO111 := am_ (Kd.R_lower (Kd.R_new' (Kd.R_new' ho0 (Kd.R_lt (by exact HO105.out))) (Kd.R_lt (by exact HO108.out))) (below_size (by repeat (first | (with_reducible first | exact HB.out | apply below_alloc | apply pw_below_drewN | apply below_drew1) | exact HB.out)))); replace HO105 := am_ (Kd.R_elder' (by exact HO105.out) (Kd.R_base ho0) hb); replace HO108 := am_ (Kd.R_elder' (by exact HO108.out) (Kd.R_base ho0) hb); replace HB := am_ (below_step (by repeat (first | (with_reducible first | exact HB.out | apply below_alloc | apply pw_below_drewN | apply below_drew1) | exact HB.out)) hb); (try clear hb); (try clear hb2); (try clear hk); (try clear hi); (try clear ho0); obtain ⟨Ao38, co38, eo38⟩ := Kd.R_slice HO108.out; subst eo38; obtain ⟨Ao39, co39, eo39⟩ := Kd.R_slice HO111.out; subst eo39) | ((with_reducible refine gate_callee (f := 18) rfl ?_); refine goesL_ (some 26) rfl rfl Try.func18 (by kernel_rfl) rfl #[.slice Ao38 t106.length co38, .slice Ao39 t109.length co39] rfl (by simp only [List.map_toArray, List.map_cons, List.map_nil]; rfl) ?_; (with_reducible refine (laws_equalRuns.calls k _ _ t106 _ _ t109 false _ ?side1 ?side2 ?side3 ?side4 A10.out).mono ?_); (case side1 => repeat (first | exact (Kd.R_reads' HO108.out).2.2 | (with_reducible refine Kd.C_alloc ?_ _) | (with_reducible refine Kd.C_drewN ?_ _) | (with_reducible refine Kd.C_drew ?_))); (case side2 => exact (Kd.R_reads' HO108.out).2.1); (case side3 => repeat (first | exact (Kd.R_reads' HO111.out).2.2 | (with_reducible refine Kd.C_alloc ?_ _) | (with_reducible refine Kd.C_drewN ?_ _) | (with_reducible refine Kd.C_drew ?_))); (case side4 => exact (Kd.R_reads' HO111.out).2.1); rintro e w' ⟨rfl, ⟨nd, rfl⟩⟩; refine ⟨_, rfl, ?_⟩))
   go_meet
   case rel => exact ⟨_, (true), (by first | rfl | (simp; done) | (simp [*]; done)), H', ⟨by first | omega | exact Nat.le_refl _⟩, ⟨by exact Kd.R_mono HO105.out (fun _ hk => hk.1.2)⟩, ⟨by exact Kd.R_mono HO108.out (fun _ hk => hk.1.2)⟩, ⟨by repeat (first | (with_reducible first | exact HB.out | apply below_alloc | apply pw_below_drewN | apply below_drew1) | exact HB.out)⟩⟩
  subst c11
  have H1 : ((impl_ValidRegion.f k t101).bind fun t113 => (if t113 = true then (if t102 < (-16) then (laws_FnShiftRegion.j0 k t101 t102 t103 t106 true) else (if t102 > 16 then (laws_FnShiftRegion.j0 k t101 t102 t103 t106 true) else (if t103 < (-16) then (laws_FnShiftRegion.j0 k t101 t102 t103 t106 true) else (laws_FnShiftRegion.j0 k t101 t102 t103 t106 (decide (t103 > 16)))))) else (laws_FnShiftRegion.j0 k t101 t102 t103 t106 true))) = some r := by rw [if_pos rfl] at H; exact H
  clear H
  have H := H1
  clear H1
  replace H := Option.bind_eq_some_iff.mp H
  obtain ⟨t113, A120, H⟩ := H
  replace H : (if t113 = true then (if t102 < (-16) then (laws_FnShiftRegion.j0 k t101 t102 t103 t106 true) else (if t102 > 16 then (laws_FnShiftRegion.j0 k t101 t102 t103 t106 true) else (if t103 < (-16) then (laws_FnShiftRegion.j0 k t101 t102 t103 t106 true) else (laws_FnShiftRegion.j0 k t101 t102 t103 t106 (decide (t103 > 16)))))) else (laws_FnShiftRegion.j0 k t101 t102 t103 t106 true)) = some r := H
  have A12 := Aside0.mk A120
  clear A120
  by_cases c13 : t113 = true
  rotate_left
  ·
   replace c13 := Bool.eq_false_iff.mpr c13
   subst c13
   have H1 : (laws_FnShiftRegion.j0 k t101 t102 t103 t106 true) = some r := by rw [if_neg (show ¬ (false = true) by decide)] at H; exact H
   clear H
   have H := H1
   clear H1
   have H' := Aside0.mk H
   clear H
   go_wp2_with (first | ((with_reducible refine gate_callee (f := 25) rfl ?_); refine goesL_ (some 25) rfl rfl Try.func25 (by kernel_rfl) rfl #[.slice Ao7 t101.length co7, .int .i64 t102, .int .i64 t103] rfl (by simp only [List.map_toArray, List.map_cons, List.map_nil]; rfl) ?_; (with_reducible refine (spec_ShiftRegion.calls k _ _ t101 t102 t103 t109 _ ?side1 ?side2 A9.out).mono ?_); (case side1 => repeat (first | exact (Kd.R_reads' HO105.out).2.2 | (with_reducible refine Kd.C_alloc ?_ _) | (with_reducible refine Kd.C_drewN ?_ _) | (with_reducible refine Kd.C_drew ?_))); (case side2 => exact (Kd.R_reads' HO105.out).2.1); rintro e w33 ⟨v110, rfl, ho0, hb⟩; refine ⟨_, rfl, ?_⟩; have HO111 := am_ (Kd.R_lower (Kd.R_new' (Kd.R_new' ho0 (Kd.R_lt (by exact HO105.out))) (Kd.R_lt (by exact HO108.out))) (below_size (by repeat (first | (with_reducible first | exact HB.out | apply below_alloc | apply pw_below_drewN | apply below_drew1) | exact HB.out)))); replace HO105 := am_ (Kd.R_elder' (by exact HO105.out) (Kd.R_base ho0) hb); replace HO108 := am_ (Kd.R_elder' (by exact HO108.out) (Kd.R_base ho0) hb); replace HB := am_ (below_step (by repeat (first | (with_reducible first | exact HB.out | apply below_alloc | apply pw_below_drewN | apply below_drew1) | exact HB.out)) hb); (try clear hb); (try clear hb2); (try clear hk); (try clear hi); (try clear ho0); obtain ⟨Ao34, co34, eo34⟩ := Kd.R_slice HO108.out; subst eo34; obtain ⟨Ao35, co35, eo35⟩ := Kd.R_slice HO111.out; subst eo35) | ((with_reducible refine gate_callee (f := 18) rfl ?_); refine goesL_ (some 26) rfl rfl Try.func18 (by kernel_rfl) rfl #[.slice Ao34 t106.length co34, .slice Ao35 t109.length co35] rfl (by simp only [List.map_toArray, List.map_cons, List.map_nil]; rfl) ?_; (with_reducible refine (laws_equalRuns.calls k _ _ t106 _ _ t109 true _ ?side1 ?side2 ?side3 ?side4 A10.out).mono ?_); (case side1 => repeat (first | exact (Kd.R_reads' HO108.out).2.2 | (with_reducible refine Kd.C_alloc ?_ _) | (with_reducible refine Kd.C_drewN ?_ _) | (with_reducible refine Kd.C_drew ?_))); (case side2 => exact (Kd.R_reads' HO108.out).2.1); (case side3 => repeat (first | exact (Kd.R_reads' HO111.out).2.2 | (with_reducible refine Kd.C_alloc ?_ _) | (with_reducible refine Kd.C_drewN ?_ _) | (with_reducible refine Kd.C_drew ?_))); (case side4 => exact (Kd.R_reads' HO111.out).2.1); rintro e w' ⟨rfl, ⟨nd, rfl⟩⟩; refine ⟨_, rfl, ?_⟩) | (go_at_call 21; (with_reducible refine (impl_ValidRegion.calls k _ _ t101 false _ ?side1 ?side2 A12.out).mono ?_); (case side1 => repeat (first | exact (Kd.R_reads' HO105.out).2.2 | (with_reducible refine Kd.C_alloc ?_ _) | (with_reducible refine Kd.C_drewN ?_ _) | (with_reducible refine Kd.C_drew ?_))); (case side2 => exact (Kd.R_reads' HO105.out).2.1); rintro e w36 ⟨rfl, hb⟩; replace HO105 := am_ (Kd.R_below (by exact HO105.out) hb); replace HO108 := am_ (Kd.R_below (by exact HO108.out) hb); replace HO111 := am_ (Kd.R_below (by exact HO111.out) hb); replace HB := am_ (below_step (by repeat (first | (with_reducible first | exact HB.out | apply below_alloc | apply pw_below_drewN | apply below_drew1) | exact HB.out)) hb); (try clear hb); (try clear hb2); (try clear hk); (try clear hi)))
   go_meet
   case rel => exact ⟨_, (true), (by first | rfl | (simp; done) | (simp [*]; done)), H', ⟨by first | omega | exact Nat.le_refl _⟩, ⟨by exact Kd.R_mono HO105.out (fun _ hk => hk.1.2)⟩, ⟨by exact Kd.R_mono HO108.out (fun _ hk => hk.1.2)⟩, ⟨by repeat (first | (with_reducible first | exact HB.out | apply below_alloc | apply pw_below_drewN | apply below_drew1) | exact HB.out)⟩⟩
  subst c13
  have H1 : (if t102 < (-16) then (laws_FnShiftRegion.j0 k t101 t102 t103 t106 true) else (if t102 > 16 then (laws_FnShiftRegion.j0 k t101 t102 t103 t106 true) else (if t103 < (-16) then (laws_FnShiftRegion.j0 k t101 t102 t103 t106 true) else (laws_FnShiftRegion.j0 k t101 t102 t103 t106 (decide (t103 > 16)))))) = some r := by rw [if_pos rfl] at H; exact H
  clear H
  have H := H1
  clear H1
  by_cases c14 : t102 < (-16)
  ·
   rw [if_pos c14] at H
   have c14b0 : decide (t102 < (-16)) = true := decide_eq_true c14
   clear c14
   (first | rw [c14b0] | (simp only [i64_w, i32_w]; rw [c14b0]) | skip)
   have H' := Aside0.mk H
   clear H
   go_wp2_with (first | ((with_reducible refine gate_callee (f := 25) rfl ?_); refine goesL_ (some 25) rfl rfl Try.func25 (by kernel_rfl) rfl #[.slice Ao7 t101.length co7, .int .i64 t102, .int .i64 t103] rfl (by simp only [List.map_toArray, List.map_cons, List.map_nil]; rfl) ?_; (with_reducible refine (spec_ShiftRegion.calls k _ _ t101 t102 t103 t109 _ ?side1 ?side2 A9.out).mono ?_); (case side1 => repeat (first | exact (Kd.R_reads' HO105.out).2.2 | (with_reducible refine Kd.C_alloc ?_ _) | (with_reducible refine Kd.C_drewN ?_ _) | (with_reducible refine Kd.C_drew ?_))); (case side2 => exact (Kd.R_reads' HO105.out).2.1); rintro e w15 ⟨v110, rfl, ho0, hb⟩; refine ⟨_, rfl, ?_⟩; have HO111 := am_ (Kd.R_lower (Kd.R_new' (Kd.R_new' ho0 (Kd.R_lt (by exact HO105.out))) (Kd.R_lt (by exact HO108.out))) (below_size (by repeat (first | (with_reducible first | exact HB.out | apply below_alloc | apply pw_below_drewN | apply below_drew1) | exact HB.out)))); replace HO105 := am_ (Kd.R_elder' (by exact HO105.out) (Kd.R_base ho0) hb); replace HO108 := am_ (Kd.R_elder' (by exact HO108.out) (Kd.R_base ho0) hb); replace HB := am_ (below_step (by repeat (first | (with_reducible first | exact HB.out | apply below_alloc | apply pw_below_drewN | apply below_drew1) | exact HB.out)) hb); (try clear hb); (try clear hb2); (try clear hk); (try clear hi); (try clear ho0); obtain ⟨Ao16, co16, eo16⟩ := Kd.R_slice HO108.out; subst eo16; obtain ⟨Ao17, co17, eo17⟩ := Kd.R_slice HO111.out; subst eo17) | ((with_reducible refine gate_callee (f := 18) rfl ?_); refine goesL_ (some 26) rfl rfl Try.func18 (by kernel_rfl) rfl #[.slice Ao16 t106.length co16, .slice Ao17 t109.length co17] rfl (by simp only [List.map_toArray, List.map_cons, List.map_nil]; rfl) ?_; (with_reducible refine (laws_equalRuns.calls k _ _ t106 _ _ t109 true _ ?side1 ?side2 ?side3 ?side4 A10.out).mono ?_); (case side1 => repeat (first | exact (Kd.R_reads' HO108.out).2.2 | (with_reducible refine Kd.C_alloc ?_ _) | (with_reducible refine Kd.C_drewN ?_ _) | (with_reducible refine Kd.C_drew ?_))); (case side2 => exact (Kd.R_reads' HO108.out).2.1); (case side3 => repeat (first | exact (Kd.R_reads' HO111.out).2.2 | (with_reducible refine Kd.C_alloc ?_ _) | (with_reducible refine Kd.C_drewN ?_ _) | (with_reducible refine Kd.C_drew ?_))); (case side4 => exact (Kd.R_reads' HO111.out).2.1); rintro e w' ⟨rfl, ⟨nd, rfl⟩⟩; refine ⟨_, rfl, ?_⟩) | (go_at_call 21; (with_reducible refine (impl_ValidRegion.calls k _ _ t101 true _ ?side1 ?side2 A12.out).mono ?_); (case side1 => repeat (first | exact (Kd.R_reads' HO105.out).2.2 | (with_reducible refine Kd.C_alloc ?_ _) | (with_reducible refine Kd.C_drewN ?_ _) | (with_reducible refine Kd.C_drew ?_))); (case side2 => exact (Kd.R_reads' HO105.out).2.1); rintro e w18 ⟨rfl, hb⟩; replace HO105 := am_ (Kd.R_below (by exact HO105.out) hb); replace HO108 := am_ (Kd.R_below (by exact HO108.out) hb); replace HO111 := am_ (Kd.R_below (by exact HO111.out) hb); replace HB := am_ (below_step (by repeat (first | (with_reducible first | exact HB.out | apply below_alloc | apply pw_below_drewN | apply below_drew1) | exact HB.out)) hb); (try clear hb); (try clear hb2); (try clear hk); (try clear hi)))
   go_meet
   case rel => exact ⟨_, (true), (by first | rfl | (simp; done) | (simp [*]; done)), H', ⟨by first | omega | exact Nat.le_refl _⟩, ⟨by exact Kd.R_mono HO105.out (fun _ hk => hk.1.2)⟩, ⟨by exact Kd.R_mono HO108.out (fun _ hk => hk.1.2)⟩, ⟨by repeat (first | (with_reducible first | exact HB.out | apply below_alloc | apply pw_below_drewN | apply below_drew1) | exact HB.out)⟩⟩
  rw [if_neg c14] at H
  have c14b0 : decide (t102 < (-16)) = false := decide_eq_false c14
  clear c14
  (first | rw [c14b0] | (simp only [i64_w, i32_w]; rw [c14b0]) | skip)
  by_cases c19 : t102 > 16
  ·
   rw [if_pos c19] at H
   have c19b0 : decide (16 < t102) = true := decide_eq_true c19
   clear c19
   have H' := Aside0.mk H
   clear H
   go_wp2_with (first | ((with_reducible refine gate_callee (f := 25) rfl ?_); refine goesL_ (some 25) rfl rfl Try.func25 (by kernel_rfl) rfl #[.slice Ao7 t101.length co7, .int .i64 t102, .int .i64 t103] rfl (by simp only [List.map_toArray, List.map_cons, List.map_nil]; rfl) ?_; (with_reducible refine (spec_ShiftRegion.calls k _ _ t101 t102 t103 t109 _ ?side1 ?side2 A9.out).mono ?_); (case side1 => repeat (first | exact (Kd.R_reads' HO105.out).2.2 | (with_reducible refine Kd.C_alloc ?_ _) | (with_reducible refine Kd.C_drewN ?_ _) | (with_reducible refine Kd.C_drew ?_))); (case side2 => exact (Kd.R_reads' HO105.out).2.1); rintro e w20 ⟨v110, rfl, ho0, hb⟩; refine ⟨_, rfl, ?_⟩; have HO111 := am_ (Kd.R_lower (Kd.R_new' (Kd.R_new' ho0 (Kd.R_lt (by exact HO105.out))) (Kd.R_lt (by exact HO108.out))) (below_size (by repeat (first | (with_reducible first | exact HB.out | apply below_alloc | apply pw_below_drewN | apply below_drew1) | exact HB.out)))); replace HO105 := am_ (Kd.R_elder' (by exact HO105.out) (Kd.R_base ho0) hb); replace HO108 := am_ (Kd.R_elder' (by exact HO108.out) (Kd.R_base ho0) hb); replace HB := am_ (below_step (by repeat (first | (with_reducible first | exact HB.out | apply below_alloc | apply pw_below_drewN | apply below_drew1) | exact HB.out)) hb); (try clear hb); (try clear hb2); (try clear hk); (try clear hi); (try clear ho0); obtain ⟨Ao21, co21, eo21⟩ := Kd.R_slice HO108.out; subst eo21; obtain ⟨Ao22, co22, eo22⟩ := Kd.R_slice HO111.out; subst eo22) | ((with_reducible refine gate_callee (f := 18) rfl ?_); refine goesL_ (some 26) rfl rfl Try.func18 (by kernel_rfl) rfl #[.slice Ao21 t106.length co21, .slice Ao22 t109.length co22] rfl (by simp only [List.map_toArray, List.map_cons, List.map_nil]; rfl) ?_; (with_reducible refine (laws_equalRuns.calls k _ _ t106 _ _ t109 true _ ?side1 ?side2 ?side3 ?side4 A10.out).mono ?_); (case side1 => repeat (first | exact (Kd.R_reads' HO108.out).2.2 | (with_reducible refine Kd.C_alloc ?_ _) | (with_reducible refine Kd.C_drewN ?_ _) | (with_reducible refine Kd.C_drew ?_))); (case side2 => exact (Kd.R_reads' HO108.out).2.1); (case side3 => repeat (first | exact (Kd.R_reads' HO111.out).2.2 | (with_reducible refine Kd.C_alloc ?_ _) | (with_reducible refine Kd.C_drewN ?_ _) | (with_reducible refine Kd.C_drew ?_))); (case side4 => exact (Kd.R_reads' HO111.out).2.1); rintro e w' ⟨rfl, ⟨nd, rfl⟩⟩; refine ⟨_, rfl, ?_⟩) | (go_at_call 21; (with_reducible refine (impl_ValidRegion.calls k _ _ t101 true _ ?side1 ?side2 A12.out).mono ?_); (case side1 => repeat (first | exact (Kd.R_reads' HO105.out).2.2 | (with_reducible refine Kd.C_alloc ?_ _) | (with_reducible refine Kd.C_drewN ?_ _) | (with_reducible refine Kd.C_drew ?_))); (case side2 => exact (Kd.R_reads' HO105.out).2.1); rintro e w23 ⟨rfl, hb⟩; replace HO105 := am_ (Kd.R_below (by exact HO105.out) hb); replace HO108 := am_ (Kd.R_below (by exact HO108.out) hb); replace HO111 := am_ (Kd.R_below (by exact HO111.out) hb); replace HB := am_ (below_step (by repeat (first | (with_reducible first | exact HB.out | apply below_alloc | apply pw_below_drewN | apply below_drew1) | exact HB.out)) hb); (try clear hb); (try clear hb2); (try clear hk); (try clear hi)))
   go_meet
   case rel => exact ⟨_, (true), (by first | rfl | (simp; done) | (simp [*]; done)), H', ⟨by first | omega | exact Nat.le_refl _⟩, ⟨by exact Kd.R_mono HO105.out (fun _ hk => hk.1.2)⟩, ⟨by exact Kd.R_mono HO108.out (fun _ hk => hk.1.2)⟩, ⟨by repeat (first | (with_reducible first | exact HB.out | apply below_alloc | apply pw_below_drewN | apply below_drew1) | exact HB.out)⟩⟩
  rw [if_neg c19] at H
  have c19b0 : decide (16 < t102) = false := decide_eq_false c19
  clear c19
  by_cases c24 : t103 < (-16)
  ·
   rw [if_pos c24] at H
   have c24b0 : decide (t103 < (-16)) = true := decide_eq_true c24
   clear c24
   have H' := Aside0.mk H
   clear H
   go_wp2_with (first | ((with_reducible refine gate_callee (f := 25) rfl ?_); refine goesL_ (some 25) rfl rfl Try.func25 (by kernel_rfl) rfl #[.slice Ao7 t101.length co7, .int .i64 t102, .int .i64 t103] rfl (by simp only [List.map_toArray, List.map_cons, List.map_nil]; rfl) ?_; (with_reducible refine (spec_ShiftRegion.calls k _ _ t101 t102 t103 t109 _ ?side1 ?side2 A9.out).mono ?_); (case side1 => repeat (first | exact (Kd.R_reads' HO105.out).2.2 | (with_reducible refine Kd.C_alloc ?_ _) | (with_reducible refine Kd.C_drewN ?_ _) | (with_reducible refine Kd.C_drew ?_))); (case side2 => exact (Kd.R_reads' HO105.out).2.1); rintro e w25 ⟨v110, rfl, ho0, hb⟩; refine ⟨_, rfl, ?_⟩; have HO111 := am_ (Kd.R_lower (Kd.R_new' (Kd.R_new' ho0 (Kd.R_lt (by exact HO105.out))) (Kd.R_lt (by exact HO108.out))) (below_size (by repeat (first | (with_reducible first | exact HB.out | apply below_alloc | apply pw_below_drewN | apply below_drew1) | exact HB.out)))); replace HO105 := am_ (Kd.R_elder' (by exact HO105.out) (Kd.R_base ho0) hb); replace HO108 := am_ (Kd.R_elder' (by exact HO108.out) (Kd.R_base ho0) hb); replace HB := am_ (below_step (by repeat (first | (with_reducible first | exact HB.out | apply below_alloc | apply pw_below_drewN | apply below_drew1) | exact HB.out)) hb); (try clear hb); (try clear hb2); (try clear hk); (try clear hi); (try clear ho0); obtain ⟨Ao26, co26, eo26⟩ := Kd.R_slice HO108.out; subst eo26; obtain ⟨Ao27, co27, eo27⟩ := Kd.R_slice HO111.out; subst eo27) | ((with_reducible refine gate_callee (f := 18) rfl ?_); refine goesL_ (some 26) rfl rfl Try.func18 (by kernel_rfl) rfl #[.slice Ao26 t106.length co26, .slice Ao27 t109.length co27] rfl (by simp only [List.map_toArray, List.map_cons, List.map_nil]; rfl) ?_; (with_reducible refine (laws_equalRuns.calls k _ _ t106 _ _ t109 true _ ?side1 ?side2 ?side3 ?side4 A10.out).mono ?_); (case side1 => repeat (first | exact (Kd.R_reads' HO108.out).2.2 | (with_reducible refine Kd.C_alloc ?_ _) | (with_reducible refine Kd.C_drewN ?_ _) | (with_reducible refine Kd.C_drew ?_))); (case side2 => exact (Kd.R_reads' HO108.out).2.1); (case side3 => repeat (first | exact (Kd.R_reads' HO111.out).2.2 | (with_reducible refine Kd.C_alloc ?_ _) | (with_reducible refine Kd.C_drewN ?_ _) | (with_reducible refine Kd.C_drew ?_))); (case side4 => exact (Kd.R_reads' HO111.out).2.1); rintro e w' ⟨rfl, ⟨nd, rfl⟩⟩; refine ⟨_, rfl, ?_⟩) | (go_at_call 21; (with_reducible refine (impl_ValidRegion.calls k _ _ t101 true _ ?side1 ?side2 A12.out).mono ?_); (case side1 => repeat (first | exact (Kd.R_reads' HO105.out).2.2 | (with_reducible refine Kd.C_alloc ?_ _) | (with_reducible refine Kd.C_drewN ?_ _) | (with_reducible refine Kd.C_drew ?_))); (case side2 => exact (Kd.R_reads' HO105.out).2.1); rintro e w28 ⟨rfl, hb⟩; replace HO105 := am_ (Kd.R_below (by exact HO105.out) hb); replace HO108 := am_ (Kd.R_below (by exact HO108.out) hb); replace HO111 := am_ (Kd.R_below (by exact HO111.out) hb); replace HB := am_ (below_step (by repeat (first | (with_reducible first | exact HB.out | apply below_alloc | apply pw_below_drewN | apply below_drew1) | exact HB.out)) hb); (try clear hb); (try clear hb2); (try clear hk); (try clear hi)))
   go_meet
   case rel => exact ⟨_, (true), (by first | rfl | (simp; done) | (simp [*]; done)), H', ⟨by first | omega | exact Nat.le_refl _⟩, ⟨by exact Kd.R_mono HO105.out (fun _ hk => hk.1.2)⟩, ⟨by exact Kd.R_mono HO108.out (fun _ hk => hk.1.2)⟩, ⟨by repeat (first | (with_reducible first | exact HB.out | apply below_alloc | apply pw_below_drewN | apply below_drew1) | exact HB.out)⟩⟩
  rw [if_neg c24] at H
  have c24b0 : decide (t103 < (-16)) = false := decide_eq_false c24
  clear c24
  have H' := Aside0.mk H
  clear H
  go_wp2_with (first | ((with_reducible refine gate_callee (f := 25) rfl ?_); refine goesL_ (some 25) rfl rfl Try.func25 (by kernel_rfl) rfl #[.slice Ao7 t101.length co7, .int .i64 t102, .int .i64 t103] rfl (by simp only [List.map_toArray, List.map_cons, List.map_nil]; rfl) ?_; (with_reducible refine (spec_ShiftRegion.calls k _ _ t101 t102 t103 t109 _ ?side1 ?side2 A9.out).mono ?_); (case side1 => repeat (first | exact (Kd.R_reads' HO105.out).2.2 | (with_reducible refine Kd.C_alloc ?_ _) | (with_reducible refine Kd.C_drewN ?_ _) | (with_reducible refine Kd.C_drew ?_))); (case side2 => exact (Kd.R_reads' HO105.out).2.1); rintro e w29 ⟨v110, rfl, ho0, hb⟩; refine ⟨_, rfl, ?_⟩; have HO111 := am_ (Kd.R_lower (Kd.R_new' (Kd.R_new' ho0 (Kd.R_lt (by exact HO105.out))) (Kd.R_lt (by exact HO108.out))) (below_size (by repeat (first | (with_reducible first | exact HB.out | apply below_alloc | apply pw_below_drewN | apply below_drew1) | exact HB.out)))); replace HO105 := am_ (Kd.R_elder' (by exact HO105.out) (Kd.R_base ho0) hb); replace HO108 := am_ (Kd.R_elder' (by exact HO108.out) (Kd.R_base ho0) hb); replace HB := am_ (below_step (by repeat (first | (with_reducible first | exact HB.out | apply below_alloc | apply pw_below_drewN | apply below_drew1) | exact HB.out)) hb); (try clear hb); (try clear hb2); (try clear hk); (try clear hi); (try clear ho0); obtain ⟨Ao30, co30, eo30⟩ := Kd.R_slice HO108.out; subst eo30; obtain ⟨Ao31, co31, eo31⟩ := Kd.R_slice HO111.out; subst eo31) | ((with_reducible refine gate_callee (f := 18) rfl ?_); refine goesL_ (some 26) rfl rfl Try.func18 (by kernel_rfl) rfl #[.slice Ao30 t106.length co30, .slice Ao31 t109.length co31] rfl (by simp only [List.map_toArray, List.map_cons, List.map_nil]; rfl) ?_; (with_reducible refine (laws_equalRuns.calls k _ _ t106 _ _ t109 true _ ?side1 ?side2 ?side3 ?side4 A10.out).mono ?_); (case side1 => repeat (first | exact (Kd.R_reads' HO108.out).2.2 | (with_reducible refine Kd.C_alloc ?_ _) | (with_reducible refine Kd.C_drewN ?_ _) | (with_reducible refine Kd.C_drew ?_))); (case side2 => exact (Kd.R_reads' HO108.out).2.1); (case side3 => repeat (first | exact (Kd.R_reads' HO111.out).2.2 | (with_reducible refine Kd.C_alloc ?_ _) | (with_reducible refine Kd.C_drewN ?_ _) | (with_reducible refine Kd.C_drew ?_))); (case side4 => exact (Kd.R_reads' HO111.out).2.1); rintro e w' ⟨rfl, ⟨nd, rfl⟩⟩; refine ⟨_, rfl, ?_⟩) | (go_at_call 21; (with_reducible refine (impl_ValidRegion.calls k _ _ t101 true _ ?side1 ?side2 A12.out).mono ?_); (case side1 => repeat (first | exact (Kd.R_reads' HO105.out).2.2 | (with_reducible refine Kd.C_alloc ?_ _) | (with_reducible refine Kd.C_drewN ?_ _) | (with_reducible refine Kd.C_drew ?_))); (case side2 => exact (Kd.R_reads' HO105.out).2.1); rintro e w32 ⟨rfl, hb⟩; replace HO105 := am_ (Kd.R_below (by exact HO105.out) hb); replace HO108 := am_ (Kd.R_below (by exact HO108.out) hb); replace HO111 := am_ (Kd.R_below (by exact HO111.out) hb); replace HB := am_ (below_step (by repeat (first | (with_reducible first | exact HB.out | apply below_alloc | apply pw_below_drewN | apply below_drew1) | exact HB.out)) hb); (try clear hb); (try clear hb2); (try clear hk); (try clear hi)))
  go_meet
  case rel => exact ⟨_, (decide (t103 > 16)), (by first | rfl | (simp; done) | (simp [*]; done)), H', ⟨by first | omega | exact Nat.le_refl _⟩, ⟨by exact Kd.R_mono HO105.out (fun _ hk => hk.1.2)⟩, ⟨by exact Kd.R_mono HO108.out (fun _ hk => hk.1.2)⟩, ⟨by repeat (first | (with_reducible first | exact HB.out | apply below_alloc | apply pw_below_drewN | apply below_drew1) | exact HB.out)⟩⟩
 case rest =>
  clear HC5
  try clear c1
  try clear c2
  try clear c2b0
  try clear c2b1
  try clear p2
  try clear c7
  try clear c11
  try clear c13
  try clear c14
  try clear c14b0
  try clear c18
  try clear c19
  try clear c19b0
  try clear c22
  try clear c24
  try clear c24b0
  try clear c25
  obtain ⟨kq, x48_4, rfl, HA, HJ4, HO_3, HO_6, HB⟩ := hcut
  cases kq with
  | zero => exact absurd HA.out (by simp [laws_FnShiftRegion.j0])
  | succ kj4 =>
   have H := HA.out
   clear HA
   simp only [laws_FnShiftRegion.j0] at H
   by_cases c40 : x48_4 = true
   ·
    subst c40
    have H1 : ((spec_ShiftRegion.f kj4 t101 t102 t103).bind fun t114 => ((laws_equalRuns.f kj4 t106 t114).bind fun t117 => (some t117))) = some r := by rw [if_pos rfl] at H; exact H
    clear H
    have H := H1
    clear H1
    replace H := Option.bind_eq_some_iff.mp H
    obtain ⟨t114, A410, H⟩ := H
    replace H : ((laws_equalRuns.f kj4 t106 t114).bind fun t117 => (some t117)) = some r := H
    have A41 := Aside0.mk A410
    clear A410
    replace H := Option.bind_eq_some_iff.mp H
    obtain ⟨t117, A420, H⟩ := H
    replace H : (some t117) = some r := H
    have A42 := Aside0.mk A420
    clear A420
    obtain rfl := Option.some.inj H
    go_wp2_with (first | ((with_reducible refine gate_callee (f := 25) rfl ?_); refine goesL_ (some 53) rfl rfl Try.func25 (by kernel_rfl) rfl #[.slice Ao7 t101.length co7, .int .i64 t102, .int .i64 t103] rfl (by simp only [List.map_toArray, List.map_cons, List.map_nil]; rfl) ?_; (with_reducible refine (spec_ShiftRegion.calls kj4 _ _ t101 t102 t103 t114 _ ?side1 ?side2 A41.out).mono ?_); (case side1 => repeat (first | exact (Kd.R_reads' HO_3.out).2.2 | (with_reducible refine Kd.C_alloc ?_ _) | (with_reducible refine Kd.C_drewN ?_ _) | (with_reducible refine Kd.C_drew ?_))); (case side2 => exact (Kd.R_reads' HO_3.out).2.1); rintro e w43 ⟨v115, rfl, ho0, hb⟩; refine ⟨_, rfl, ?_⟩; have HO116 := am_ (Kd.R_lower (Kd.R_new' (Kd.R_new' ho0 (Kd.R_lt (by exact HO_3.out))) (Kd.R_lt (by exact HO_6.out))) (below_size (by repeat (first | (with_reducible first | exact HB.out | apply below_alloc | apply pw_below_drewN | apply below_drew1) | exact HB.out)))); replace HO_3 := am_ (Kd.R_elder' (by exact HO_3.out) (Kd.R_base ho0) hb); replace HO_6 := am_ (Kd.R_elder' (by exact HO_6.out) (Kd.R_base ho0) hb); replace HB := am_ (below_step (by repeat (first | (with_reducible first | exact HB.out | apply below_alloc | apply pw_below_drewN | apply below_drew1) | exact HB.out)) hb); (try clear hb); (try clear hb2); (try clear hk); (try clear hi); (try clear ho0); obtain ⟨Ao44, co44, eo44⟩ := Kd.R_slice HO_6.out; subst eo44; obtain ⟨Ao45, co45, eo45⟩ := Kd.R_slice HO116.out; subst eo45) | ((with_reducible refine gate_callee (f := 18) rfl ?_); refine goesL_ (some 54) rfl rfl Try.func18 (by kernel_rfl) rfl #[.slice Ao44 t106.length co44, .slice Ao45 t114.length co45] rfl (by simp only [List.map_toArray, List.map_cons, List.map_nil]; rfl) ?_; (with_reducible refine (laws_equalRuns.calls kj4 _ _ t106 _ _ t114 t117 _ ?side1 ?side2 ?side3 ?side4 A42.out).mono ?_); (case side1 => repeat (first | exact (Kd.R_reads' HO_6.out).2.2 | (with_reducible refine Kd.C_alloc ?_ _) | (with_reducible refine Kd.C_drewN ?_ _) | (with_reducible refine Kd.C_drew ?_))); (case side2 => exact (Kd.R_reads' HO_6.out).2.1); (case side3 => repeat (first | exact (Kd.R_reads' HO116.out).2.2 | (with_reducible refine Kd.C_alloc ?_ _) | (with_reducible refine Kd.C_drewN ?_ _) | (with_reducible refine Kd.C_drew ?_))); (case side4 => exact (Kd.R_reads' HO116.out).2.1); rintro e w' ⟨rfl, ⟨nd, rfl⟩⟩; refine ⟨_, rfl, ?_⟩))
    go_ret
    exact ⟨by first | rfl | (simp [errW_none, errW_some] <;> rfl) | (simp [*, errW_none, errW_some] <;> rfl), by repeat (first | (with_reducible first | exact HB.out | apply below_alloc | apply pw_below_drewN | apply below_drew1) | exact HB.out)⟩
   replace c40 := Bool.eq_false_iff.mpr c40
   subst c40
   have H1 : ((impl_ShiftRegion.f t106 (wrap64 (-t102)) (wrap64 (-t103))).bind fun t118 => ((laws_combined.f t118 t101 2).bind fun t121 => (if (t121.length : Int) = 0 then ((impl_AreaOf.f kj4 t106).bind fun t124 => ((impl_AreaOf.f kj4 t101).bind fun t125 => (if t124 = t125 then ((laws_equalRuns.f kj4 t118 t101).bind fun t126 => (if t126 = true then ((impl_AreaOf.f kj4 t106).bind fun t127 => ((impl_AreaOf.f kj4 t101).bind fun t128 => (some (decide (t127 ≤ t128))))) else (some false))) else ((impl_AreaOf.f kj4 t106).bind fun t129 => ((impl_AreaOf.f kj4 t101).bind fun t130 => (some (decide (t129 ≤ t130)))))))) else (some false)))) = some r := by rw [if_neg (show ¬ (false = true) by decide)] at H; exact H
   clear H
   have H := H1
   clear H1
   replace H := Option.bind_eq_some_iff.mp H
   obtain ⟨t118, A460, H⟩ := H
   replace H : ((laws_combined.f t118 t101 2).bind fun t121 => (if (t121.length : Int) = 0 then ((impl_AreaOf.f kj4 t106).bind fun t124 => ((impl_AreaOf.f kj4 t101).bind fun t125 => (if t124 = t125 then ((laws_equalRuns.f kj4 t118 t101).bind fun t126 => (if t126 = true then ((impl_AreaOf.f kj4 t106).bind fun t127 => ((impl_AreaOf.f kj4 t101).bind fun t128 => (some (decide (t127 ≤ t128))))) else (some false))) else ((impl_AreaOf.f kj4 t106).bind fun t129 => ((impl_AreaOf.f kj4 t101).bind fun t130 => (some (decide (t129 ≤ t130)))))))) else (some false))) = some r := H
   have A46 := Aside0.mk A460
   clear A460
   replace H := Option.bind_eq_some_iff.mp H
   obtain ⟨t121, A470, H⟩ := H
   replace H : (if (t121.length : Int) = 0 then ((impl_AreaOf.f kj4 t106).bind fun t124 => ((impl_AreaOf.f kj4 t101).bind fun t125 => (if t124 = t125 then ((laws_equalRuns.f kj4 t118 t101).bind fun t126 => (if t126 = true then ((impl_AreaOf.f kj4 t106).bind fun t127 => ((impl_AreaOf.f kj4 t101).bind fun t128 => (some (decide (t127 ≤ t128))))) else (some false))) else ((impl_AreaOf.f kj4 t106).bind fun t129 => ((impl_AreaOf.f kj4 t101).bind fun t130 => (some (decide (t129 ≤ t130)))))))) else (some false)) = some r := H
   have A47 := Aside0.mk A470
   clear A470
   by_cases c48 : (t121.length : Int) = 0
   rotate_left
   ·
    rw [if_neg c48] at H
    have c48b0 : ((t121.length : Int) == 0) = false := beq_eq_false_iff_ne.mpr c48
    have c48b1 : ((t121.length : Int) != 0) = true := bne_iff_ne.mpr c48
    have c48b2 : ¬ (t121 = []) := fun h_ => c48 (by rw [h_]; rfl)
    obtain rfl := Option.some.inj H
    obtain ⟨Ao83, co83, eo83⟩ := Kd.R_slice HO_6.out
    subst eo83
    go_wp2_with (first | ((with_reducible refine gate_callee (f := 22) rfl ?_); refine goesL_ (some 60) rfl rfl Try.func22 (by kernel_rfl) rfl #[.slice Ao83 t106.length co83, .int .i64 (wrap64 (-t102)), .int .i64 (wrap64 (-t103))] rfl (by simp only [List.map_toArray, List.map_cons, List.map_nil]; rfl) ?_; (with_reducible refine (impl_ShiftRegion.calls _ _ t106 (wrap64 (-t102)) (wrap64 (-t103)) t118 _ ?side1 ?side2 A46.out).mono ?_); (case side1 => repeat (first | exact (Kd.R_reads' HO_6.out).2.2 | (with_reducible refine Kd.C_alloc ?_ _) | (with_reducible refine Kd.C_drewN ?_ _) | (with_reducible refine Kd.C_drew ?_))); (case side2 => exact (Kd.R_reads' HO_6.out).2.1); rintro e w84 ⟨v119, rfl, ho0, hb⟩; refine ⟨_, rfl, ?_⟩; have HO120 := am_ (Kd.R_lower (Kd.R_new' (Kd.R_new' ho0 (Kd.R_lt (by exact HO_3.out))) (Kd.R_lt (by exact HO_6.out))) (below_size (by repeat (first | (with_reducible first | exact HB.out | apply below_alloc | apply pw_below_drewN | apply below_drew1) | exact HB.out)))); replace HO_3 := am_ (Kd.R_elder' (by exact HO_3.out) (Kd.R_base ho0) hb); replace HO_6 := am_ (Kd.R_elder' (by exact HO_6.out) (Kd.R_base ho0) hb); replace HB := am_ (below_step (by repeat (first | (with_reducible first | exact HB.out | apply below_alloc | apply pw_below_drewN | apply below_drew1) | exact HB.out)) hb); (try clear hb); (try clear hb2); (try clear hk); (try clear hi); (try clear ho0); obtain ⟨Ao85, co85, eo85⟩ := Kd.R_slice HO120.out; subst eo85) | ((with_reducible refine gate_callee (f := 19) rfl ?_); refine goesL_ (some 63) rfl rfl Try.func19 (by kernel_rfl) rfl #[.slice Ao85 t118.length co85, .slice Ao7 t101.length co7, .int .i64 2] rfl (by simp only [List.map_toArray, List.map_cons, List.map_nil]; rfl) ?_; (with_reducible refine (laws_combined.calls _ _ t118 _ _ t101 2 t121 _ ?side1 ?side2 ?side3 ?side4 A47.out).mono ?_); (case side1 => repeat (first | exact (Kd.R_reads' HO120.out).2.2 | (with_reducible refine Kd.C_alloc ?_ _) | (with_reducible refine Kd.C_drewN ?_ _) | (with_reducible refine Kd.C_drew ?_))); (case side2 => exact (Kd.R_reads' HO120.out).2.1); (case side3 => repeat (first | exact (Kd.R_reads' HO_3.out).2.2 | (with_reducible refine Kd.C_alloc ?_ _) | (with_reducible refine Kd.C_drewN ?_ _) | (with_reducible refine Kd.C_drew ?_))); (case side4 => exact (Kd.R_reads' HO_3.out).2.1); rintro e w86 ⟨v122, rfl, ho0, hb⟩; refine ⟨_, rfl, ?_⟩; have HO123 := am_ (Kd.R_lower (Kd.R_new' (Kd.R_new' (Kd.R_new' ho0 (Kd.R_lt (by exact HO_3.out))) (Kd.R_lt (by exact HO_6.out))) (Kd.R_lt (by exact HO120.out))) (below_size (by repeat (first | (with_reducible first | exact HB.out | apply below_alloc | apply pw_below_drewN | apply below_drew1) | exact HB.out)))); replace HO_3 := am_ (Kd.R_elder' (by exact HO_3.out) (Kd.R_base ho0) hb); replace HO_6 := am_ (Kd.R_elder' (by exact HO_6.out) (Kd.R_base ho0) hb); replace HO120 := am_ (Kd.R_elder' (by exact HO120.out) (Kd.R_base ho0) hb); replace HB := am_ (below_step (by repeat (first | (with_reducible first | exact HB.out | apply below_alloc | apply pw_below_drewN | apply below_drew1) | exact HB.out)) hb); (try clear hb); (try clear hb2); (try clear hk); (try clear hi); (try clear ho0); obtain ⟨Ao87, co87, eo87⟩ := Kd.R_slice HO123.out; subst eo87))
    go_ret
    exact ⟨by first | rfl | (simp [errW_none, errW_some] <;> rfl) | (simp [*, errW_none, errW_some] <;> rfl), by repeat (first | (with_reducible first | exact HB.out | apply below_alloc | apply pw_below_drewN | apply below_drew1) | exact HB.out)⟩
   rw [if_pos c48] at H
   have c48b0 : ((t121.length : Int) == 0) = true := beq_iff_eq.mpr c48
   have c48b1 : ((t121.length : Int) != 0) = false := bne_eq_false_iff_eq.mpr c48
   clear c48
   replace H := Option.bind_eq_some_iff.mp H
   obtain ⟨t124, A490, H⟩ := H
   replace H : ((impl_AreaOf.f kj4 t101).bind fun t125 => (if t124 = t125 then ((laws_equalRuns.f kj4 t118 t101).bind fun t126 => (if t126 = true then ((impl_AreaOf.f kj4 t106).bind fun t127 => ((impl_AreaOf.f kj4 t101).bind fun t128 => (some (decide (t127 ≤ t128))))) else (some false))) else ((impl_AreaOf.f kj4 t106).bind fun t129 => ((impl_AreaOf.f kj4 t101).bind fun t130 => (some (decide (t129 ≤ t130))))))) = some r := H
   have A49 := Aside0.mk A490
   clear A490
   replace H := Option.bind_eq_some_iff.mp H
   obtain ⟨t125, A500, H⟩ := H
   replace H : (if t124 = t125 then ((laws_equalRuns.f kj4 t118 t101).bind fun t126 => (if t126 = true then ((impl_AreaOf.f kj4 t106).bind fun t127 => ((impl_AreaOf.f kj4 t101).bind fun t128 => (some (decide (t127 ≤ t128))))) else (some false))) else ((impl_AreaOf.f kj4 t106).bind fun t129 => ((impl_AreaOf.f kj4 t101).bind fun t130 => (some (decide (t129 ≤ t130)))))) = some r := H
   have A50 := Aside0.mk A500
   clear A500
   by_cases c51 : t124 = t125
   rotate_left
   ·
    rw [if_neg c51] at H
    have c51b0 : (t124 == t125) = false := beq_eq_false_iff_ne.mpr c51
    have c51b1 : (t124 != t125) = true := bne_iff_ne.mpr c51
    replace H := Option.bind_eq_some_iff.mp H
    obtain ⟨t129, A720, H⟩ := H
    replace H : ((impl_AreaOf.f kj4 t101).bind fun t130 => (some (decide (t129 ≤ t130)))) = some r := H
    have A72 := Aside0.mk A720
    clear A720
    replace H := Option.bind_eq_some_iff.mp H
    obtain ⟨t130, A730, H⟩ := H
    replace H : (some (decide (t129 ≤ t130))) = some r := H
    have A73 := Aside0.mk A730
    clear A730
    rw [Option.some.inj (A72.out.symm.trans A49.out), Option.some.inj (A73.out.symm.trans A50.out)] at H
    obtain rfl := Option.some.inj H
    obtain ⟨Ao74, co74, eo74⟩ := Kd.R_slice HO_6.out
    subst eo74
    go_wp2_with (first | ((with_reducible refine gate_callee (f := 22) rfl ?_); refine goesL_ (some 60) rfl rfl Try.func22 (by kernel_rfl) rfl #[.slice Ao74 t106.length co74, .int .i64 (wrap64 (-t102)), .int .i64 (wrap64 (-t103))] rfl (by simp only [List.map_toArray, List.map_cons, List.map_nil]; rfl) ?_; (with_reducible refine (impl_ShiftRegion.calls _ _ t106 (wrap64 (-t102)) (wrap64 (-t103)) t118 _ ?side1 ?side2 A46.out).mono ?_); (case side1 => repeat (first | exact (Kd.R_reads' HO_6.out).2.2 | (with_reducible refine Kd.C_alloc ?_ _) | (with_reducible refine Kd.C_drewN ?_ _) | (with_reducible refine Kd.C_drew ?_))); (case side2 => exact (Kd.R_reads' HO_6.out).2.1); rintro e w75 ⟨v119, rfl, ho0, hb⟩; refine ⟨_, rfl, ?_⟩; have HO120 := am_ (Kd.R_lower (Kd.R_new' (Kd.R_new' ho0 (Kd.R_lt (by exact HO_3.out))) (Kd.R_lt (by exact HO_6.out))) (below_size (by repeat (first | (with_reducible first | exact HB.out | apply below_alloc | apply pw_below_drewN | apply below_drew1) | exact HB.out)))); replace HO_3 := am_ (Kd.R_elder' (by exact HO_3.out) (Kd.R_base ho0) hb); replace HO_6 := am_ (Kd.R_elder' (by exact HO_6.out) (Kd.R_base ho0) hb); replace HB := am_ (below_step (by repeat (first | (with_reducible first | exact HB.out | apply below_alloc | apply pw_below_drewN | apply below_drew1) | exact HB.out)) hb); (try clear hb); (try clear hb2); (try clear hk); (try clear hi); (try clear ho0); obtain ⟨Ao76, co76, eo76⟩ := Kd.R_slice HO120.out; subst eo76) | ((with_reducible refine gate_callee (f := 19) rfl ?_); refine goesL_ (some 63) rfl rfl Try.func19 (by kernel_rfl) rfl #[.slice Ao76 t118.length co76, .slice Ao7 t101.length co7, .int .i64 2] rfl (by simp only [List.map_toArray, List.map_cons, List.map_nil]; rfl) ?_; (with_reducible refine (laws_combined.calls _ _ t118 _ _ t101 2 t121 _ ?side1 ?side2 ?side3 ?side4 A47.out).mono ?_); (case side1 => repeat (first | exact (Kd.R_reads' HO120.out).2.2 | (with_reducible refine Kd.C_alloc ?_ _) | (with_reducible refine Kd.C_drewN ?_ _) | (with_reducible refine Kd.C_drew ?_))); (case side2 => exact (Kd.R_reads' HO120.out).2.1); (case side3 => repeat (first | exact (Kd.R_reads' HO_3.out).2.2 | (with_reducible refine Kd.C_alloc ?_ _) | (with_reducible refine Kd.C_drewN ?_ _) | (with_reducible refine Kd.C_drew ?_))); (case side4 => exact (Kd.R_reads' HO_3.out).2.1); rintro e w77 ⟨v122, rfl, ho0, hb⟩; refine ⟨_, rfl, ?_⟩; have HO123 := am_ (Kd.R_lower (Kd.R_new' (Kd.R_new' (Kd.R_new' ho0 (Kd.R_lt (by exact HO_3.out))) (Kd.R_lt (by exact HO_6.out))) (Kd.R_lt (by exact HO120.out))) (below_size (by repeat (first | (with_reducible first | exact HB.out | apply below_alloc | apply pw_below_drewN | apply below_drew1) | exact HB.out)))); replace HO_3 := am_ (Kd.R_elder' (by exact HO_3.out) (Kd.R_base ho0) hb); replace HO_6 := am_ (Kd.R_elder' (by exact HO_6.out) (Kd.R_base ho0) hb); replace HO120 := am_ (Kd.R_elder' (by exact HO120.out) (Kd.R_base ho0) hb); replace HB := am_ (below_step (by repeat (first | (with_reducible first | exact HB.out | apply below_alloc | apply pw_below_drewN | apply below_drew1) | exact HB.out)) hb); (try clear hb); (try clear hb2); (try clear hk); (try clear hi); (try clear ho0); obtain ⟨Ao78, co78, eo78⟩ := Kd.R_slice HO123.out; subst eo78) | (go_at_call 23; (with_reducible refine (impl_AreaOf.calls kj4 _ _ t106 t124 _ ?side1 ?side2 A49.out).mono ?_); (case side1 => repeat (first | exact (Kd.R_reads' HO_6.out).2.2 | (with_reducible refine Kd.C_alloc ?_ _) | (with_reducible refine Kd.C_drewN ?_ _) | (with_reducible refine Kd.C_drew ?_))); (case side2 => exact (Kd.R_reads' HO_6.out).2.1); rintro e w79 ⟨rfl, hb⟩; replace HO_3 := am_ (Kd.R_below (by exact HO_3.out) hb); replace HO_6 := am_ (Kd.R_below (by exact HO_6.out) hb); replace HO120 := am_ (Kd.R_below (by exact HO120.out) hb); replace HO123 := am_ (Kd.R_below (by exact HO123.out) hb); replace HB := am_ (below_step (by repeat (first | (with_reducible first | exact HB.out | apply below_alloc | apply pw_below_drewN | apply below_drew1) | exact HB.out)) hb); (try clear hb); (try clear hb2); (try clear hk); (try clear hi)) | (go_at_call 23; (with_reducible refine (impl_AreaOf.calls kj4 _ _ t101 t125 _ ?side1 ?side2 A50.out).mono ?_); (case side1 => repeat (first | exact (Kd.R_reads' HO_3.out).2.2 | (with_reducible refine Kd.C_alloc ?_ _) | (with_reducible refine Kd.C_drewN ?_ _) | (with_reducible refine Kd.C_drew ?_))); (case side2 => exact (Kd.R_reads' HO_3.out).2.1); rintro e w80 ⟨rfl, hb⟩; replace HO_3 := am_ (Kd.R_below (by exact HO_3.out) hb); replace HO_6 := am_ (Kd.R_below (by exact HO_6.out) hb); replace HO120 := am_ (Kd.R_below (by exact HO120.out) hb); replace HO123 := am_ (Kd.R_below (by exact HO123.out) hb); replace HB := am_ (below_step (by repeat (first | (with_reducible first | exact HB.out | apply below_alloc | apply pw_below_drewN | apply below_drew1) | exact HB.out)) hb); (try clear hb); (try clear hb2); (try clear hk); (try clear hi)) | (go_at_call 23; (with_reducible refine (impl_AreaOf.calls kj4 _ _ t106 t129 _ ?side1 ?side2 A72.out).mono ?_); (case side1 => repeat (first | exact (Kd.R_reads' HO_6.out).2.2 | (with_reducible refine Kd.C_alloc ?_ _) | (with_reducible refine Kd.C_drewN ?_ _) | (with_reducible refine Kd.C_drew ?_))); (case side2 => exact (Kd.R_reads' HO_6.out).2.1); rintro e w81 ⟨rfl, hb⟩; replace HO_3 := am_ (Kd.R_below (by exact HO_3.out) hb); replace HO_6 := am_ (Kd.R_below (by exact HO_6.out) hb); replace HO120 := am_ (Kd.R_below (by exact HO120.out) hb); replace HO123 := am_ (Kd.R_below (by exact HO123.out) hb); replace HB := am_ (below_step (by repeat (first | (with_reducible first | exact HB.out | apply below_alloc | apply pw_below_drewN | apply below_drew1) | exact HB.out)) hb); (try clear hb); (try clear hb2); (try clear hk); (try clear hi)) | (go_at_call 23; (with_reducible refine (impl_AreaOf.calls kj4 _ _ t101 t130 _ ?side1 ?side2 A73.out).mono ?_); (case side1 => repeat (first | exact (Kd.R_reads' HO_3.out).2.2 | (with_reducible refine Kd.C_alloc ?_ _) | (with_reducible refine Kd.C_drewN ?_ _) | (with_reducible refine Kd.C_drew ?_))); (case side2 => exact (Kd.R_reads' HO_3.out).2.1); rintro e w82 ⟨rfl, hb⟩; replace HO_3 := am_ (Kd.R_below (by exact HO_3.out) hb); replace HO_6 := am_ (Kd.R_below (by exact HO_6.out) hb); replace HO120 := am_ (Kd.R_below (by exact HO120.out) hb); replace HO123 := am_ (Kd.R_below (by exact HO123.out) hb); replace HB := am_ (below_step (by repeat (first | (with_reducible first | exact HB.out | apply below_alloc | apply pw_below_drewN | apply below_drew1) | exact HB.out)) hb); (try clear hb); (try clear hb2); (try clear hk); (try clear hi)))
    go_ret
    exact ⟨by first | rfl | (simp [errW_none, errW_some] <;> rfl) | (simp [*, errW_none, errW_some] <;> rfl), by repeat (first | (with_reducible first | exact HB.out | apply below_alloc | apply pw_below_drewN | apply below_drew1) | exact HB.out)⟩
   rw [if_pos c51] at H
   have c51b0 : (t124 == t125) = true := beq_iff_eq.mpr c51
   have c51b1 : (t124 != t125) = false := bne_eq_false_iff_eq.mpr c51
   clear c51
   replace H := Option.bind_eq_some_iff.mp H
   obtain ⟨t126, A520, H⟩ := H
   replace H : (if t126 = true then ((impl_AreaOf.f kj4 t106).bind fun t127 => ((impl_AreaOf.f kj4 t101).bind fun t128 => (some (decide (t127 ≤ t128))))) else (some false)) = some r := H
   have A52 := Aside0.mk A520
   clear A520
   by_cases c53 : t126 = true
   ·
    subst c53
    have H1 : ((impl_AreaOf.f kj4 t106).bind fun t127 => ((impl_AreaOf.f kj4 t101).bind fun t128 => (some (decide (t127 ≤ t128))))) = some r := by rw [if_pos rfl] at H; exact H
    clear H
    have H := H1
    clear H1
    replace H := Option.bind_eq_some_iff.mp H
    obtain ⟨t127, A540, H⟩ := H
    replace H : ((impl_AreaOf.f kj4 t101).bind fun t128 => (some (decide (t127 ≤ t128)))) = some r := H
    have A54 := Aside0.mk A540
    clear A540
    replace H := Option.bind_eq_some_iff.mp H
    obtain ⟨t128, A550, H⟩ := H
    replace H : (some (decide (t127 ≤ t128))) = some r := H
    have A55 := Aside0.mk A550
    clear A550
    rw [Option.some.inj (A54.out.symm.trans A49.out), Option.some.inj (A55.out.symm.trans A50.out)] at H
    obtain rfl := Option.some.inj H
    obtain ⟨Ao56, co56, eo56⟩ := Kd.R_slice HO_6.out
    subst eo56
    go_wp2_with (first | ((with_reducible refine gate_callee (f := 22) rfl ?_); refine goesL_ (some 60) rfl rfl Try.func22 (by kernel_rfl) rfl #[.slice Ao56 t106.length co56, .int .i64 (wrap64 (-t102)), .int .i64 (wrap64 (-t103))] rfl (by simp only [List.map_toArray, List.map_cons, List.map_nil]; rfl) ?_; (with_reducible refine (impl_ShiftRegion.calls _ _ t106 (wrap64 (-t102)) (wrap64 (-t103)) t118 _ ?side1 ?side2 A46.out).mono ?_); (case side1 => repeat (first | exact (Kd.R_reads' HO_6.out).2.2 | (with_reducible refine Kd.C_alloc ?_ _) | (with_reducible refine Kd.C_drewN ?_ _) | (with_reducible refine Kd.C_drew ?_))); (case side2 => exact (Kd.R_reads' HO_6.out).2.1); rintro e w57 ⟨v119, rfl, ho0, hb⟩; refine ⟨_, rfl, ?_⟩; have HO120 := am_ (Kd.R_lower (Kd.R_new' (Kd.R_new' ho0 (Kd.R_lt (by exact HO_3.out))) (Kd.R_lt (by exact HO_6.out))) (below_size (by repeat (first | (with_reducible first | exact HB.out | apply below_alloc | apply pw_below_drewN | apply below_drew1) | exact HB.out)))); replace HO_3 := am_ (Kd.R_elder' (by exact HO_3.out) (Kd.R_base ho0) hb); replace HO_6 := am_ (Kd.R_elder' (by exact HO_6.out) (Kd.R_base ho0) hb); replace HB := am_ (below_step (by repeat (first | (with_reducible first | exact HB.out | apply below_alloc | apply pw_below_drewN | apply below_drew1) | exact HB.out)) hb); (try clear hb); (try clear hb2); (try clear hk); (try clear hi); (try clear ho0); obtain ⟨Ao58, co58, eo58⟩ := Kd.R_slice HO120.out; subst eo58) | ((with_reducible refine gate_callee (f := 19) rfl ?_); refine goesL_ (some 63) rfl rfl Try.func19 (by kernel_rfl) rfl #[.slice Ao58 t118.length co58, .slice Ao7 t101.length co7, .int .i64 2] rfl (by simp only [List.map_toArray, List.map_cons, List.map_nil]; rfl) ?_; (with_reducible refine (laws_combined.calls _ _ t118 _ _ t101 2 t121 _ ?side1 ?side2 ?side3 ?side4 A47.out).mono ?_); (case side1 => repeat (first | exact (Kd.R_reads' HO120.out).2.2 | (with_reducible refine Kd.C_alloc ?_ _) | (with_reducible refine Kd.C_drewN ?_ _) | (with_reducible refine Kd.C_drew ?_))); (case side2 => exact (Kd.R_reads' HO120.out).2.1); (case side3 => repeat (first | exact (Kd.R_reads' HO_3.out).2.2 | (with_reducible refine Kd.C_alloc ?_ _) | (with_reducible refine Kd.C_drewN ?_ _) | (with_reducible refine Kd.C_drew ?_))); (case side4 => exact (Kd.R_reads' HO_3.out).2.1); rintro e w59 ⟨v122, rfl, ho0, hb⟩; refine ⟨_, rfl, ?_⟩; have HO123 := am_ (Kd.R_lower (Kd.R_new' (Kd.R_new' (Kd.R_new' ho0 (Kd.R_lt (by exact HO_3.out))) (Kd.R_lt (by exact HO_6.out))) (Kd.R_lt (by exact HO120.out))) (below_size (by repeat (first | (with_reducible first | exact HB.out | apply below_alloc | apply pw_below_drewN | apply below_drew1) | exact HB.out)))); replace HO_3 := am_ (Kd.R_elder' (by exact HO_3.out) (Kd.R_base ho0) hb); replace HO_6 := am_ (Kd.R_elder' (by exact HO_6.out) (Kd.R_base ho0) hb); replace HO120 := am_ (Kd.R_elder' (by exact HO120.out) (Kd.R_base ho0) hb); replace HB := am_ (below_step (by repeat (first | (with_reducible first | exact HB.out | apply below_alloc | apply pw_below_drewN | apply below_drew1) | exact HB.out)) hb); (try clear hb); (try clear hb2); (try clear hk); (try clear hi); (try clear ho0); obtain ⟨Ao60, co60, eo60⟩ := Kd.R_slice HO123.out; subst eo60) | (go_at_call 23; (with_reducible refine (impl_AreaOf.calls kj4 _ _ t106 t124 _ ?side1 ?side2 A49.out).mono ?_); (case side1 => repeat (first | exact (Kd.R_reads' HO_6.out).2.2 | (with_reducible refine Kd.C_alloc ?_ _) | (with_reducible refine Kd.C_drewN ?_ _) | (with_reducible refine Kd.C_drew ?_))); (case side2 => exact (Kd.R_reads' HO_6.out).2.1); rintro e w61 ⟨rfl, hb⟩; replace HO_3 := am_ (Kd.R_below (by exact HO_3.out) hb); replace HO_6 := am_ (Kd.R_below (by exact HO_6.out) hb); replace HO120 := am_ (Kd.R_below (by exact HO120.out) hb); replace HO123 := am_ (Kd.R_below (by exact HO123.out) hb); replace HB := am_ (below_step (by repeat (first | (with_reducible first | exact HB.out | apply below_alloc | apply pw_below_drewN | apply below_drew1) | exact HB.out)) hb); (try clear hb); (try clear hb2); (try clear hk); (try clear hi)) | (go_at_call 23; (with_reducible refine (impl_AreaOf.calls kj4 _ _ t101 t125 _ ?side1 ?side2 A50.out).mono ?_); (case side1 => repeat (first | exact (Kd.R_reads' HO_3.out).2.2 | (with_reducible refine Kd.C_alloc ?_ _) | (with_reducible refine Kd.C_drewN ?_ _) | (with_reducible refine Kd.C_drew ?_))); (case side2 => exact (Kd.R_reads' HO_3.out).2.1); rintro e w62 ⟨rfl, hb⟩; replace HO_3 := am_ (Kd.R_below (by exact HO_3.out) hb); replace HO_6 := am_ (Kd.R_below (by exact HO_6.out) hb); replace HO120 := am_ (Kd.R_below (by exact HO120.out) hb); replace HO123 := am_ (Kd.R_below (by exact HO123.out) hb); replace HB := am_ (below_step (by repeat (first | (with_reducible first | exact HB.out | apply below_alloc | apply pw_below_drewN | apply below_drew1) | exact HB.out)) hb); (try clear hb); (try clear hb2); (try clear hk); (try clear hi)) | (go_at_call 18; (with_reducible refine (laws_equalRuns.calls kj4 _ _ t118 _ _ t101 true _ ?side1 ?side2 ?side3 ?side4 A52.out).mono ?_); (case side1 => repeat (first | exact (Kd.R_reads' HO120.out).2.2 | (with_reducible refine Kd.C_alloc ?_ _) | (with_reducible refine Kd.C_drewN ?_ _) | (with_reducible refine Kd.C_drew ?_))); (case side2 => exact (Kd.R_reads' HO120.out).2.1); (case side3 => repeat (first | exact (Kd.R_reads' HO_3.out).2.2 | (with_reducible refine Kd.C_alloc ?_ _) | (with_reducible refine Kd.C_drewN ?_ _) | (with_reducible refine Kd.C_drew ?_))); (case side4 => exact (Kd.R_reads' HO_3.out).2.1); rintro e w' ⟨rfl, ⟨nd, rfl⟩⟩) | (go_at_call 23; (with_reducible refine (impl_AreaOf.calls kj4 _ _ t106 t127 _ ?side1 ?side2 A54.out).mono ?_); (case side1 => repeat (first | exact (Kd.R_reads' HO_6.out).2.2 | (with_reducible refine Kd.C_alloc ?_ _) | (with_reducible refine Kd.C_drewN ?_ _) | (with_reducible refine Kd.C_drew ?_))); (case side2 => exact (Kd.R_reads' HO_6.out).2.1); rintro e w63 ⟨rfl, hb⟩; replace HO_3 := am_ (Kd.R_below (by exact HO_3.out) hb); replace HO_6 := am_ (Kd.R_below (by exact HO_6.out) hb); replace HO120 := am_ (Kd.R_below (by exact HO120.out) hb); replace HO123 := am_ (Kd.R_below (by exact HO123.out) hb); replace HB := am_ (below_step (by repeat (first | (with_reducible first | exact HB.out | apply below_alloc | apply pw_below_drewN | apply below_drew1) | exact HB.out)) hb); (try clear hb); (try clear hb2); (try clear hk); (try clear hi)) | (go_at_call 23; (with_reducible refine (impl_AreaOf.calls kj4 _ _ t101 t128 _ ?side1 ?side2 A55.out).mono ?_); (case side1 => repeat (first | exact (Kd.R_reads' HO_3.out).2.2 | (with_reducible refine Kd.C_alloc ?_ _) | (with_reducible refine Kd.C_drewN ?_ _) | (with_reducible refine Kd.C_drew ?_))); (case side2 => exact (Kd.R_reads' HO_3.out).2.1); rintro e w64 ⟨rfl, hb⟩; replace HO_3 := am_ (Kd.R_below (by exact HO_3.out) hb); replace HO_6 := am_ (Kd.R_below (by exact HO_6.out) hb); replace HO120 := am_ (Kd.R_below (by exact HO120.out) hb); replace HO123 := am_ (Kd.R_below (by exact HO123.out) hb); replace HB := am_ (below_step (by repeat (first | (with_reducible first | exact HB.out | apply below_alloc | apply pw_below_drewN | apply below_drew1) | exact HB.out)) hb); (try clear hb); (try clear hb2); (try clear hk); (try clear hi)))
    go_ret
    exact ⟨by first | rfl | (simp [errW_none, errW_some] <;> rfl) | (simp [*, errW_none, errW_some] <;> rfl), by repeat (first | (with_reducible first | exact HB.out | apply below_alloc | apply pw_below_drewN | apply below_drew1) | exact HB.out)⟩
   replace c53 := Bool.eq_false_iff.mpr c53
   subst c53
   have H1 : (some false) = some r := by rw [if_neg (show ¬ (false = true) by decide)] at H; exact H
   clear H
   have H := H1
   clear H1
   obtain rfl := Option.some.inj H
   obtain ⟨Ao65, co65, eo65⟩ := Kd.R_slice HO_6.out
   subst eo65
   go_wp2_with (first | ((with_reducible refine gate_callee (f := 22) rfl ?_); refine goesL_ (some 60) rfl rfl Try.func22 (by kernel_rfl) rfl #[.slice Ao65 t106.length co65, .int .i64 (wrap64 (-t102)), .int .i64 (wrap64 (-t103))] rfl (by simp only [List.map_toArray, List.map_cons, List.map_nil]; rfl) ?_; (with_reducible refine (impl_ShiftRegion.calls _ _ t106 (wrap64 (-t102)) (wrap64 (-t103)) t118 _ ?side1 ?side2 A46.out).mono ?_); (case side1 => repeat (first | exact (Kd.R_reads' HO_6.out).2.2 | (with_reducible refine Kd.C_alloc ?_ _) | (with_reducible refine Kd.C_drewN ?_ _) | (with_reducible refine Kd.C_drew ?_))); (case side2 => exact (Kd.R_reads' HO_6.out).2.1); rintro e w66 ⟨v119, rfl, ho0, hb⟩; refine ⟨_, rfl, ?_⟩; have HO120 := am_ (Kd.R_lower (Kd.R_new' (Kd.R_new' ho0 (Kd.R_lt (by exact HO_3.out))) (Kd.R_lt (by exact HO_6.out))) (below_size (by repeat (first | (with_reducible first | exact HB.out | apply below_alloc | apply pw_below_drewN | apply below_drew1) | exact HB.out)))); replace HO_3 := am_ (Kd.R_elder' (by exact HO_3.out) (Kd.R_base ho0) hb); replace HO_6 := am_ (Kd.R_elder' (by exact HO_6.out) (Kd.R_base ho0) hb); replace HB := am_ (below_step (by repeat (first | (with_reducible first | exact HB.out | apply below_alloc | apply pw_below_drewN | apply below_drew1) | exact HB.out)) hb); (try clear hb); (try clear hb2); (try clear hk); (try clear hi); (try clear ho0); obtain ⟨Ao67, co67, eo67⟩ := Kd.R_slice HO120.out; subst eo67) | ((with_reducible refine gate_callee (f := 19) rfl ?_); refine goesL_ (some 63) rfl rfl Try.func19 (by kernel_rfl) rfl #[.slice Ao67 t118.length co67, .slice Ao7 t101.length co7, .int .i64 2] rfl (by simp only [List.map_toArray, List.map_cons, List.map_nil]; rfl) ?_; (with_reducible refine (laws_combined.calls _ _ t118 _ _ t101 2 t121 _ ?side1 ?side2 ?side3 ?side4 A47.out).mono ?_); (case side1 => repeat (first | exact (Kd.R_reads' HO120.out).2.2 | (with_reducible refine Kd.C_alloc ?_ _) | (with_reducible refine Kd.C_drewN ?_ _) | (with_reducible refine Kd.C_drew ?_))); (case side2 => exact (Kd.R_reads' HO120.out).2.1); (case side3 => repeat (first | exact (Kd.R_reads' HO_3.out).2.2 | (with_reducible refine Kd.C_alloc ?_ _) | (with_reducible refine Kd.C_drewN ?_ _) | (with_reducible refine Kd.C_drew ?_))); (case side4 => exact (Kd.R_reads' HO_3.out).2.1); rintro e w68 ⟨v122, rfl, ho0, hb⟩; refine ⟨_, rfl, ?_⟩; have HO123 := am_ (Kd.R_lower (Kd.R_new' (Kd.R_new' (Kd.R_new' ho0 (Kd.R_lt (by exact HO_3.out))) (Kd.R_lt (by exact HO_6.out))) (Kd.R_lt (by exact HO120.out))) (below_size (by repeat (first | (with_reducible first | exact HB.out | apply below_alloc | apply pw_below_drewN | apply below_drew1) | exact HB.out)))); replace HO_3 := am_ (Kd.R_elder' (by exact HO_3.out) (Kd.R_base ho0) hb); replace HO_6 := am_ (Kd.R_elder' (by exact HO_6.out) (Kd.R_base ho0) hb); replace HO120 := am_ (Kd.R_elder' (by exact HO120.out) (Kd.R_base ho0) hb); replace HB := am_ (below_step (by repeat (first | (with_reducible first | exact HB.out | apply below_alloc | apply pw_below_drewN | apply below_drew1) | exact HB.out)) hb); (try clear hb); (try clear hb2); (try clear hk); (try clear hi); (try clear ho0); obtain ⟨Ao69, co69, eo69⟩ := Kd.R_slice HO123.out; subst eo69) | (go_at_call 23; (with_reducible refine (impl_AreaOf.calls kj4 _ _ t106 t124 _ ?side1 ?side2 A49.out).mono ?_); (case side1 => repeat (first | exact (Kd.R_reads' HO_6.out).2.2 | (with_reducible refine Kd.C_alloc ?_ _) | (with_reducible refine Kd.C_drewN ?_ _) | (with_reducible refine Kd.C_drew ?_))); (case side2 => exact (Kd.R_reads' HO_6.out).2.1); rintro e w70 ⟨rfl, hb⟩; replace HO_3 := am_ (Kd.R_below (by exact HO_3.out) hb); replace HO_6 := am_ (Kd.R_below (by exact HO_6.out) hb); replace HO120 := am_ (Kd.R_below (by exact HO120.out) hb); replace HO123 := am_ (Kd.R_below (by exact HO123.out) hb); replace HB := am_ (below_step (by repeat (first | (with_reducible first | exact HB.out | apply below_alloc | apply pw_below_drewN | apply below_drew1) | exact HB.out)) hb); (try clear hb); (try clear hb2); (try clear hk); (try clear hi)) | (go_at_call 23; (with_reducible refine (impl_AreaOf.calls kj4 _ _ t101 t125 _ ?side1 ?side2 A50.out).mono ?_); (case side1 => repeat (first | exact (Kd.R_reads' HO_3.out).2.2 | (with_reducible refine Kd.C_alloc ?_ _) | (with_reducible refine Kd.C_drewN ?_ _) | (with_reducible refine Kd.C_drew ?_))); (case side2 => exact (Kd.R_reads' HO_3.out).2.1); rintro e w71 ⟨rfl, hb⟩; replace HO_3 := am_ (Kd.R_below (by exact HO_3.out) hb); replace HO_6 := am_ (Kd.R_below (by exact HO_6.out) hb); replace HO120 := am_ (Kd.R_below (by exact HO120.out) hb); replace HO123 := am_ (Kd.R_below (by exact HO123.out) hb); replace HB := am_ (below_step (by repeat (first | (with_reducible first | exact HB.out | apply below_alloc | apply pw_below_drewN | apply below_drew1) | exact HB.out)) hb); (try clear hb); (try clear hb2); (try clear hk); (try clear hi)) | (go_at_call 18; (with_reducible refine (laws_equalRuns.calls kj4 _ _ t118 _ _ t101 false _ ?side1 ?side2 ?side3 ?side4 A52.out).mono ?_); (case side1 => repeat (first | exact (Kd.R_reads' HO120.out).2.2 | (with_reducible refine Kd.C_alloc ?_ _) | (with_reducible refine Kd.C_drewN ?_ _) | (with_reducible refine Kd.C_drew ?_))); (case side2 => exact (Kd.R_reads' HO120.out).2.1); (case side3 => repeat (first | exact (Kd.R_reads' HO_3.out).2.2 | (with_reducible refine Kd.C_alloc ?_ _) | (with_reducible refine Kd.C_drewN ?_ _) | (with_reducible refine Kd.C_drew ?_))); (case side4 => exact (Kd.R_reads' HO_3.out).2.1); rintro e w' ⟨rfl, ⟨nd, rfl⟩⟩))
   go_ret
   exact ⟨by first | rfl | (simp [errW_none, errW_some] <;> rfl) | (simp [*, errW_none, errW_some] <;> rfl), by repeat (first | (with_reducible first | exact HB.out | apply below_alloc | apply pw_below_drewN | apply below_drew1) | exact HB.out)⟩

/-- THE ONE PURE STATEMENT of laws_FnShiftRegion: yours. -/
def laws_FnShiftRegion.Pure : Prop := ∀ (l0 : List Int), l0.length ≤ maxLen → l0.length * 1 ≤ 140737488351232 → (∀ x ∈ l0, (Lit.int .u8 x).wf = true) → ∃ k, laws_FnShiftRegion.f k l0 = some true
theorem laws_FnShiftRegion.walk (P : laws_FnShiftRegion.Pure) (a0 : Option Addr) (len0 cap0 : Nat) (z0 : List Int) (w : World) (w0 : (a0 = none ∧ len0 = 0 ∧ cap0 = 0 ∧ z0 = []) ∨ ∃ x, a0 = some x ∧ len0 ≤ cap0 ∧ cap0 ≤ maxLen ∧ z0.length = cap0 ∧ (∀ i, i < z0.length → w.cell? (x.add i) = some (.int .u8 (z0.getD i 0))) ∧ ∀ n ∈ z0, (Lit.int .u8 n).wf = true) (y0 : len0 * 1 ≤ 140737488351232) :
  Calls Try.prog 7 #[.slice a0 len0 cap0] w fun e w' => e = .returned (.bool true) ∧ Below w.heap.size w w' := by
 obtain ⟨l0, rfl, hr0, hm0, hw0, hc0⟩ := ReadsInt.ofRowC w0
 obtain ⟨k, h⟩ := P l0 hm0 y0 hw0
 refine (laws_FnShiftRegion.calls k _ _ l0 true w (Kd.C_of_reads (d := (0 : Int)) (h1 := fun _ => rfl) hr0) hc0 h).mono ?_
 rintro e w' ⟨rfl, hd⟩
 exact ⟨rfl, hd⟩

end Go.Proofs.Ytllodpaghkohbaa.Print
