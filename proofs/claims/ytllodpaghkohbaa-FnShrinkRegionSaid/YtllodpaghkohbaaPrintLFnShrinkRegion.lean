-- laid by hp.py (a program of this work over the kit's print), with contracts by hand for what the print does not take
import Derived.Test.YtllodpaghkohbaaPrint0
import Derived.Test.YtllodpaghkohbaaPrintHx0
import Derived.Test.YtllodpaghkohbaaPrintHx2
import Derived.Test.YtllodpaghkohbaaPrintR0x0
import Derived.Test.YtllodpaghkohbaaPrintR1x0
import Derived.Test.YtllodpaghkohbaaPrintR1x4
import Derived.Test.YtllodpaghkohbaaPrintR1x9
import Derived.Test.YtllodpaghkohbaaPrintR3x0
namespace Go.Proofs.Ytllodpaghkohbaa.Print
open Go.RowKit Go.Proofs.YtllodpaghkohbaaW.PrintWords Go.Proofs.YtllodpaghkohbaaW.PrintLast Go.Proofs.YtllodpaghkohbaaW.PrintMore
attribute [local go_sem] max2_int min2_int max_two min_two max_three min_three max_four min_four   -- for this text's walks alone
set_option linter.unusedVariables false
set_option linter.unusedSimpArgs false

/-! ### laws_FnShrinkRegion: function 13 -/
def laws_FnShrinkRegion.j0 : Nat → List (S62) → Int → List (S62) → Bool → Option (Bool)
 | 0, _, _, _, _ => none
 | k + 1, x3, x4, x5, x38 => if x38 = true then ((spec_ShrinkRegion.f k x3 x4).bind fun t113 => ((laws_equalRuns.f k x5 t113).bind fun t116 => (some t116))) else ((impl_BoxRegion.f 1 1 14 14).bind fun bt117 => ((impl_GrowRegion.f x3 1).bind fun t121 => ((impl_ShrinkRegion.f t121 1).bind fun t124 => (if bt117.2 = true then ((impl_GrowRegion.f x5 x4).bind fun t127 => ((laws_combined.f t127 x3 2).bind fun t130 => (if (t130.length : Int) = 0 then ((laws_combined.f x3 bt117.1 1).bind fun t133 => ((laws_combined.f t133 t124 2).bind fun t136 => (some ((t136.length : Int) == 0)))) else (some false)))) else (some false)))))
def laws_FnShrinkRegion.f (k : Nat) (l0 : List Int) : Option (Bool) := if (l0.length : Int) > 1048576 then (some true) else ((spec_DrawShrinkRegion.f k l0).bind fun bt101 => ((impl_ShrinkRegion.f bt101.1 bt101.2).bind fun t105 => ((spec_ShrinkRegion.f k bt101.1 bt101.2).bind fun t108 => ((laws_equalRuns.f k t105 t108).bind fun t111 => (if t111 = true then ((impl_ValidRegion.f k bt101.1).bind fun t112 => (if t112 = true then (if bt101.2 < 0 then (laws_FnShrinkRegion.j0 k bt101.1 bt101.2 t105 true) else (laws_FnShrinkRegion.j0 k bt101.1 bt101.2 t105 (decide (bt101.2 > 16)))) else (laws_FnShrinkRegion.j0 k bt101.1 bt101.2 t105 true))) else (laws_FnShrinkRegion.j0 k bt101.1 bt101.2 t105 true))))))
theorem laws_FnShrinkRegion.mono_l : ∀ k, (∀ y0 y1 y2 y3, LeO (laws_FnShrinkRegion.j0 k y0 y1 y2 y3) (laws_FnShrinkRegion.j0 (k + 1) y0 y1 y2 y3))
 | 0 => fun _ _ _ _ r h => by simp [laws_FnShrinkRegion.j0] at h
 | k + 1 => by
  have ih0 := laws_FnShrinkRegion.mono_l k
  intro y0 y1 y2 y3
  unfold laws_FnShrinkRegion.j0
  repeat' first
  | (with_reducible exact ih0 _ _ _ _)
  | (with_reducible exact impl_ValidRegion.mono _ _)
  | (with_reducible exact laws_equalRuns.mono _ _ _)
  | (with_reducible exact spec_DrawShrinkRegion.mono _ _)
  | (with_reducible exact spec_ShrinkRegion.mono _ _ _)
  | (with_reducible exact LeO.refl _)
  | (with_reducible exact LeO.none _)
  | (with_reducible refine LeO.ite ?_ ?_)
  | (with_reducible refine LeO.bind ?_ (fun _ => ?_))
  | exact ih0 _ _ _ _
  | exact impl_ValidRegion.mono _ _
  | exact laws_equalRuns.mono _ _ _
  | exact spec_DrawShrinkRegion.mono _ _
  | exact spec_ShrinkRegion.mono _ _ _
  | exact LeO.none _
  | refine LeO.ite ?_ ?_
  | refine LeO.bind ?_ (fun _ => ?_)
theorem laws_FnShrinkRegion.mono : ∀ a0 k, LeO (laws_FnShrinkRegion.f k a0) (laws_FnShrinkRegion.f (k + 1) a0) := by
 intro a0 k
 have ih0 := laws_FnShrinkRegion.mono_l k
 unfold laws_FnShrinkRegion.f
 repeat' first
   | (with_reducible exact ih0 _ _ _ _)
   | (with_reducible exact impl_ValidRegion.mono _ _)
   | (with_reducible exact laws_equalRuns.mono _ _ _)
   | (with_reducible exact spec_DrawShrinkRegion.mono _ _)
   | (with_reducible exact spec_ShrinkRegion.mono _ _ _)
   | (with_reducible exact LeO.refl _)
   | (with_reducible exact LeO.none _)
   | (with_reducible refine LeO.ite ?_ ?_)
   | (with_reducible refine LeO.bind ?_ (fun _ => ?_))
   | exact ih0 _ _ _ _
   | exact impl_ValidRegion.mono _ _
   | exact laws_equalRuns.mono _ _ _
   | exact spec_DrawShrinkRegion.mono _ _
   | exact spec_ShrinkRegion.mono _ _ _
   | exact LeO.none _
   | refine LeO.ite ?_ ?_
   | refine LeO.bind ?_ (fun _ => ?_)
set_option maxHeartbeats 8000000 in
set_option maxRecDepth 100000 in
theorem laws_FnShrinkRegion.calls (k : Nat) (A0 : Option Addr) (c0 : Nat) (l0 : List Int) (r : Bool) (w : World) (hr0 : Kd.C (Kd.int .u8) w A0 l0.length l0) (hc0 : l0.length ≤ c0) (h : laws_FnShrinkRegion.f k l0 = some r) :
  Calls Try.prog 13 #[.slice A0 l0.length c0] w fun e w' => e = .returned (.bool r) ∧ Below w.heap.size w w' := by
 have hu47 := Try.underlying47
 have HR0 := Aside0.mk hr0
 have HC0 := Aside0.mk hc0
 clear hr0 hc0
 have HB := Aside0.mk (Below.refl w.heap.size w)
 have H : (if (l0.length : Int) > 1048576 then (some true) else ((spec_DrawShrinkRegion.f k l0).bind fun bt101 => ((impl_ShrinkRegion.f bt101.1 bt101.2).bind fun t105 => ((spec_ShrinkRegion.f k bt101.1 bt101.2).bind fun t108 => ((laws_equalRuns.f k t105 t108).bind fun t111 => (if t111 = true then ((impl_ValidRegion.f k bt101.1).bind fun t112 => (if t112 = true then (if bt101.2 < 0 then (laws_FnShrinkRegion.j0 k bt101.1 bt101.2 t105 true) else (laws_FnShrinkRegion.j0 k bt101.1 bt101.2 t105 (decide (bt101.2 > 16)))) else (laws_FnShrinkRegion.j0 k bt101.1 bt101.2 t105 true))) else (laws_FnShrinkRegion.j0 k bt101.1 bt101.2 t105 true))))))) = some r := h
 clear h
 by_cases c2 : (l0.length : Int) > 1048576
 ·
  rw [if_pos c2] at H
  have c2b0 : decide (1048576 < (l0.length : Int)) = true := decide_eq_true c2
  have c2b1 : decide (1048576 < l0.length) = true := decide_eq_true (by omega)
  clear c2
  obtain rfl := Option.some.inj H
  go_enter Try.func13, Try.ntmps13
  go_wp2
  go_ret
  exact ⟨by first | rfl | (simp [errW_none, errW_some] <;> rfl) | (simp [*, errW_none, errW_some] <;> rfl), by repeat (first | (with_reducible first | exact HB.out | apply below_alloc | apply pw_below_drewN | apply below_drew1) | exact HB.out)⟩
 rw [if_neg c2] at H
 have c2b0 : decide (1048576 < (l0.length : Int)) = false := decide_eq_false c2
 have c2b1 : decide (1048576 < l0.length) = false := decide_eq_false (by omega)
 clear c2
 replace H := Option.bind_eq_some_iff.mp H
 obtain ⟨⟨t101, t102⟩, A30, H⟩ := H
 replace H : ((impl_ShrinkRegion.f t101 t102).bind fun t105 => ((spec_ShrinkRegion.f k t101 t102).bind fun t108 => ((laws_equalRuns.f k t105 t108).bind fun t111 => (if t111 = true then ((impl_ValidRegion.f k t101).bind fun t112 => (if t112 = true then (if t102 < 0 then (laws_FnShrinkRegion.j0 k t101 t102 t105 true) else (laws_FnShrinkRegion.j0 k t101 t102 t105 (decide (t102 > 16)))) else (laws_FnShrinkRegion.j0 k t101 t102 t105 true))) else (laws_FnShrinkRegion.j0 k t101 t102 t105 true))))) = some r := H
 have A3 := Aside0.mk A30
 clear A30
 replace H := Option.bind_eq_some_iff.mp H
 obtain ⟨t105, A40, H⟩ := H
 replace H : ((spec_ShrinkRegion.f k t101 t102).bind fun t108 => ((laws_equalRuns.f k t105 t108).bind fun t111 => (if t111 = true then ((impl_ValidRegion.f k t101).bind fun t112 => (if t112 = true then (if t102 < 0 then (laws_FnShrinkRegion.j0 k t101 t102 t105 true) else (laws_FnShrinkRegion.j0 k t101 t102 t105 (decide (t102 > 16)))) else (laws_FnShrinkRegion.j0 k t101 t102 t105 true))) else (laws_FnShrinkRegion.j0 k t101 t102 t105 true)))) = some r := H
 have A4 := Aside0.mk A40
 clear A40
 have HC5 := Aside0.mk H
 clear H
 go_enter Try.func13, Try.ntmps13
 go_upto_region 5 with (first | ((with_reducible refine gate_callee (f := 34) rfl ?_); refine goesL_ (some 14) rfl rfl Try.func34 (by kernel_rfl) rfl #[.slice A0 l0.length c0] rfl (by simp only [List.map_toArray, List.map_cons, List.map_nil]; rfl) ?_; (with_reducible refine (spec_DrawShrinkRegion.calls k _ _ l0 t101 t102 _ ?side1 ?side2 A3.out).mono ?_); (case side1 => repeat (first | exact HR0.out | (with_reducible refine Kd.C_alloc ?_ _) | (with_reducible refine Kd.C_drewN ?_ _) | (with_reducible refine Kd.C_drew ?_))); (case side2 => exact HC0.out); rintro e w6 ⟨v103, rfl, ho0, hb⟩; refine ⟨_, rfl, ?_⟩; have HO104 := am_ (Kd.R_lower ho0 (below_size (by repeat (first | (with_reducible first | exact HB.out | apply below_alloc | apply pw_below_drewN | apply below_drew1) | exact HB.out)))); replace HB := am_ (below_step (by repeat (first | (with_reducible first | exact HB.out | apply below_alloc | apply pw_below_drewN | apply below_drew1) | exact HB.out)) hb); (try clear hb); (try clear hb2); (try clear hk); (try clear hi); (try clear ho0); obtain ⟨Ao7, co7, eo7⟩ := Kd.R_slice HO104.out; subst eo7) | ((with_reducible refine gate_callee (f := 30) rfl ?_); refine goesL_ (some 19) rfl rfl Try.func30 (by kernel_rfl) rfl #[.slice Ao7 t101.length co7, .int .i64 t102] rfl (by simp only [List.map_toArray, List.map_cons, List.map_nil]; rfl) ?_; (with_reducible refine (impl_ShrinkRegion.calls _ _ t101 t102 t105 _ ?side1 ?side2 A4.out).mono ?_); (case side1 => repeat (first | exact (Kd.R_reads' HO104.out).2.2 | (with_reducible refine Kd.C_alloc ?_ _) | (with_reducible refine Kd.C_drewN ?_ _) | (with_reducible refine Kd.C_drew ?_))); (case side2 => exact (Kd.R_reads' HO104.out).2.1); rintro e w8 ⟨v106, rfl, ho0, hb⟩; refine ⟨_, rfl, ?_⟩; have HO107 := am_ (Kd.R_lower (Kd.R_new' ho0 (Kd.R_lt (by exact HO104.out))) (below_size (by repeat (first | (with_reducible first | exact HB.out | apply below_alloc | apply pw_below_drewN | apply below_drew1) | exact HB.out)))); replace HO104 := am_ (Kd.R_elder' (by exact HO104.out) (Kd.R_base ho0) hb); replace HB := am_ (below_step (by repeat (first | (with_reducible first | exact HB.out | apply below_alloc | apply pw_below_drewN | apply below_drew1) | exact HB.out)) hb); (try clear hb); (try clear hb2); (try clear hk); (try clear hi); (try clear ho0)))
 (try simp only [Act.put, List.setIfInBounds_toArray, List.set_cons_zero, List.set_cons_succ])
 go_cut [38] (fun v38 wc => ∃ (kq : Nat) (x38_4 : Bool), v38 = .bool x38_4 ∧ Aside0 (laws_FnShrinkRegion.j0 kq t101 t102 t105 x38_4 = some r) ∧ Aside0 (kq ≤ k) ∧ Aside0 (Kd.R k62 62 wc w.heap.size (fun k_ => some k_ ≠ (v106 : Value).ownBlock) (.slice Ao7 t101.length co7) t101) ∧ Aside0 (Kd.R k62 62 wc w.heap.size (fun k_ => some k_ ≠ ((.slice Ao7 t101.length co7) : Value).ownBlock) v106 t105) ∧ Aside0 (Below w.heap.size w wc))
 case first =>
  have H := HC5.out
  clear HC5
  replace H := Option.bind_eq_some_iff.mp H
  obtain ⟨t108, A90, H⟩ := H
  replace H : ((laws_equalRuns.f k t105 t108).bind fun t111 => (if t111 = true then ((impl_ValidRegion.f k t101).bind fun t112 => (if t112 = true then (if t102 < 0 then (laws_FnShrinkRegion.j0 k t101 t102 t105 true) else (laws_FnShrinkRegion.j0 k t101 t102 t105 (decide (t102 > 16)))) else (laws_FnShrinkRegion.j0 k t101 t102 t105 true))) else (laws_FnShrinkRegion.j0 k t101 t102 t105 true))) = some r := H
  have A9 := Aside0.mk A90
  clear A90
  replace H := Option.bind_eq_some_iff.mp H
  obtain ⟨t111, A100, H⟩ := H
  replace H : (if t111 = true then ((impl_ValidRegion.f k t101).bind fun t112 => (if t112 = true then (if t102 < 0 then (laws_FnShrinkRegion.j0 k t101 t102 t105 true) else (laws_FnShrinkRegion.j0 k t101 t102 t105 (decide (t102 > 16)))) else (laws_FnShrinkRegion.j0 k t101 t102 t105 true))) else (laws_FnShrinkRegion.j0 k t101 t102 t105 true)) = some r := H
  have A10 := Aside0.mk A100
  clear A100
  by_cases c11 : t111 = true
  rotate_left
  ·
   replace c11 := Bool.eq_false_iff.mpr c11
   subst c11
   have H1 : (laws_FnShrinkRegion.j0 k t101 t102 t105 true) = some r := by rw [if_neg (show ¬ (false = true) by decide)] at H; exact H
   clear H
   have H := H1
   clear H1
   have H' := Aside0.mk H
   clear H
   go_wp2_with (first | ((with_reducible refine gate_callee (f := 35) rfl ?_); refine goesL_ (some 23) rfl rfl Try.func35 (by kernel_rfl) rfl #[.slice Ao7 t101.length co7, .int .i64 t102] rfl (by simp only [List.map_toArray, List.map_cons, List.map_nil]; rfl) ?_; (with_reducible refine (spec_ShrinkRegion.calls k _ _ t101 t102 t108 _ ?side1 ?side2 A9.out).mono ?_); (case side1 => repeat (first | exact (Kd.R_reads' HO104.out).2.2 | (with_reducible refine Kd.C_alloc ?_ _) | (with_reducible refine Kd.C_drewN ?_ _) | (with_reducible refine Kd.C_drew ?_))); (case side2 => exact (Kd.R_reads' HO104.out).2.1); rintro e w27 ⟨v109, rfl, ho0, hb⟩; refine ⟨_, rfl, ?_⟩; have HO110 := am_ (Kd.R_lower (Kd.R_new' (Kd.R_new' ho0 (Kd.R_lt (by exact HO104.out))) (Kd.R_lt (by exact HO107.out))) (below_size (by repeat (first | (with_reducible first | exact HB.out | apply below_alloc | apply pw_below_drewN | apply below_drew1) | exact HB.out)))); replace HO104 := am_ (Kd.R_elder' (by exact HO104.out) (Kd.R_base ho0) hb); replace HO107 := am_ (Kd.R_elder' (by exact HO107.out) (Kd.R_base ho0) hb); replace HB := am_ (below_step (by repeat (first | (with_reducible first | exact HB.out | apply below_alloc | apply pw_below_drewN | apply below_drew1) | exact HB.out)) hb); (try clear hb); (try clear hb2); (try clear hk); (try clear hi); (try clear ho0); obtain ⟨Ao28, co28, eo28⟩ := Kd.R_slice HO107.out; subst eo28; obtain ⟨Ao29, co29, eo29⟩ := Kd.R_slice HO110.out; subst eo29) | ((with_reducible refine gate_callee (f := 18) rfl ?_); refine goesL_ (some 24) rfl rfl Try.func18 (by kernel_rfl) rfl #[.slice Ao28 t105.length co28, .slice Ao29 t108.length co29] rfl (by simp only [List.map_toArray, List.map_cons, List.map_nil]; rfl) ?_; (with_reducible refine (laws_equalRuns.calls k _ _ t105 _ _ t108 false _ ?side1 ?side2 ?side3 ?side4 A10.out).mono ?_); (case side1 => repeat (first | exact (Kd.R_reads' HO107.out).2.2 | (with_reducible refine Kd.C_alloc ?_ _) | (with_reducible refine Kd.C_drewN ?_ _) | (with_reducible refine Kd.C_drew ?_))); (case side2 => exact (Kd.R_reads' HO107.out).2.1); (case side3 => repeat (first | exact (Kd.R_reads' HO110.out).2.2 | (with_reducible refine Kd.C_alloc ?_ _) | (with_reducible refine Kd.C_drewN ?_ _) | (with_reducible refine Kd.C_drew ?_))); (case side4 => exact (Kd.R_reads' HO110.out).2.1); rintro e w' ⟨rfl, ⟨nd, rfl⟩⟩; refine ⟨_, rfl, ?_⟩))
   go_meet
   case rel => exact ⟨_, (true), (by first | rfl | (simp; done) | (simp [*]; done)), H', ⟨by first | omega | exact Nat.le_refl _⟩, ⟨by exact Kd.R_mono HO104.out (fun _ hk => hk.1.2)⟩, ⟨by exact Kd.R_mono HO107.out (fun _ hk => hk.1.2)⟩, ⟨by repeat (first | (with_reducible first | exact HB.out | apply below_alloc | apply pw_below_drewN | apply below_drew1) | exact HB.out)⟩⟩
  subst c11
  have H1 : ((impl_ValidRegion.f k t101).bind fun t112 => (if t112 = true then (if t102 < 0 then (laws_FnShrinkRegion.j0 k t101 t102 t105 true) else (laws_FnShrinkRegion.j0 k t101 t102 t105 (decide (t102 > 16)))) else (laws_FnShrinkRegion.j0 k t101 t102 t105 true))) = some r := by rw [if_pos rfl] at H; exact H
  clear H
  have H := H1
  clear H1
  replace H := Option.bind_eq_some_iff.mp H
  obtain ⟨t112, A120, H⟩ := H
  replace H : (if t112 = true then (if t102 < 0 then (laws_FnShrinkRegion.j0 k t101 t102 t105 true) else (laws_FnShrinkRegion.j0 k t101 t102 t105 (decide (t102 > 16)))) else (laws_FnShrinkRegion.j0 k t101 t102 t105 true)) = some r := H
  have A12 := Aside0.mk A120
  clear A120
  by_cases c13 : t112 = true
  ·
   subst c13
   have H1 : (if t102 < 0 then (laws_FnShrinkRegion.j0 k t101 t102 t105 true) else (laws_FnShrinkRegion.j0 k t101 t102 t105 (decide (t102 > 16)))) = some r := by rw [if_pos rfl] at H; exact H
   clear H
   have H := H1
   clear H1
   by_cases c14 : t102 < 0
   ·
    rw [if_pos c14] at H
    have c14b0 : decide (t102 < 0) = true := decide_eq_true c14
    clear c14
    (first | rw [c14b0] | (simp only [i64_w, i32_w]; rw [c14b0]) | skip)
    have H' := Aside0.mk H
    clear H
    go_wp2_with (first | ((with_reducible refine gate_callee (f := 35) rfl ?_); refine goesL_ (some 23) rfl rfl Try.func35 (by kernel_rfl) rfl #[.slice Ao7 t101.length co7, .int .i64 t102] rfl (by simp only [List.map_toArray, List.map_cons, List.map_nil]; rfl) ?_; (with_reducible refine (spec_ShrinkRegion.calls k _ _ t101 t102 t108 _ ?side1 ?side2 A9.out).mono ?_); (case side1 => repeat (first | exact (Kd.R_reads' HO104.out).2.2 | (with_reducible refine Kd.C_alloc ?_ _) | (with_reducible refine Kd.C_drewN ?_ _) | (with_reducible refine Kd.C_drew ?_))); (case side2 => exact (Kd.R_reads' HO104.out).2.1); rintro e w15 ⟨v109, rfl, ho0, hb⟩; refine ⟨_, rfl, ?_⟩; have HO110 := am_ (Kd.R_lower (Kd.R_new' (Kd.R_new' ho0 (Kd.R_lt (by exact HO104.out))) (Kd.R_lt (by exact HO107.out))) (below_size (by repeat (first | (with_reducible first | exact HB.out | apply below_alloc | apply pw_below_drewN | apply below_drew1) | exact HB.out)))); replace HO104 := am_ (Kd.R_elder' (by exact HO104.out) (Kd.R_base ho0) hb); replace HO107 := am_ (Kd.R_elder' (by exact HO107.out) (Kd.R_base ho0) hb); replace HB := am_ (below_step (by repeat (first | (with_reducible first | exact HB.out | apply below_alloc | apply pw_below_drewN | apply below_drew1) | exact HB.out)) hb); (try clear hb); (try clear hb2); (try clear hk); (try clear hi); (try clear ho0); obtain ⟨Ao16, co16, eo16⟩ := Kd.R_slice HO107.out; subst eo16; obtain ⟨Ao17, co17, eo17⟩ := Kd.R_slice HO110.out; subst eo17) | ((with_reducible refine gate_callee (f := 18) rfl ?_); refine goesL_ (some 24) rfl rfl Try.func18 (by kernel_rfl) rfl #[.slice Ao16 t105.length co16, .slice Ao17 t108.length co17] rfl (by simp only [List.map_toArray, List.map_cons, List.map_nil]; rfl) ?_; (with_reducible refine (laws_equalRuns.calls k _ _ t105 _ _ t108 true _ ?side1 ?side2 ?side3 ?side4 A10.out).mono ?_); (case side1 => repeat (first | exact (Kd.R_reads' HO107.out).2.2 | (with_reducible refine Kd.C_alloc ?_ _) | (with_reducible refine Kd.C_drewN ?_ _) | (with_reducible refine Kd.C_drew ?_))); (case side2 => exact (Kd.R_reads' HO107.out).2.1); (case side3 => repeat (first | exact (Kd.R_reads' HO110.out).2.2 | (with_reducible refine Kd.C_alloc ?_ _) | (with_reducible refine Kd.C_drewN ?_ _) | (with_reducible refine Kd.C_drew ?_))); (case side4 => exact (Kd.R_reads' HO110.out).2.1); rintro e w' ⟨rfl, ⟨nd, rfl⟩⟩; refine ⟨_, rfl, ?_⟩) | (go_at_call 21; (with_reducible refine (impl_ValidRegion.calls k _ _ t101 true _ ?side1 ?side2 A12.out).mono ?_); (case side1 => repeat (first | exact (Kd.R_reads' HO104.out).2.2 | (with_reducible refine Kd.C_alloc ?_ _) | (with_reducible refine Kd.C_drewN ?_ _) | (with_reducible refine Kd.C_drew ?_))); (case side2 => exact (Kd.R_reads' HO104.out).2.1); rintro e w18 ⟨rfl, hb⟩; replace HO104 := am_ (Kd.R_below (by exact HO104.out) hb); replace HO107 := am_ (Kd.R_below (by exact HO107.out) hb); replace HO110 := am_ (Kd.R_below (by exact HO110.out) hb); replace HB := am_ (below_step (by repeat (first | (with_reducible first | exact HB.out | apply below_alloc | apply pw_below_drewN | apply below_drew1) | exact HB.out)) hb); (try clear hb); (try clear hb2); (try clear hk); (try clear hi)))
    go_meet
    case rel => exact ⟨_, (true), (by first | rfl | (simp; done) | (simp [*]; done)), H', ⟨by first | omega | exact Nat.le_refl _⟩, ⟨by exact Kd.R_mono HO104.out (fun _ hk => hk.1.2)⟩, ⟨by exact Kd.R_mono HO107.out (fun _ hk => hk.1.2)⟩, ⟨by repeat (first | (with_reducible first | exact HB.out | apply below_alloc | apply pw_below_drewN | apply below_drew1) | exact HB.out)⟩⟩
   rw [if_neg c14] at H
   have c14b0 : decide (t102 < 0) = false := decide_eq_false c14
   clear c14
   (first | rw [c14b0] | (simp only [i64_w, i32_w]; rw [c14b0]) | skip)
   have H' := Aside0.mk H
   clear H
   go_wp2_with (first | ((with_reducible refine gate_callee (f := 35) rfl ?_); refine goesL_ (some 23) rfl rfl Try.func35 (by kernel_rfl) rfl #[.slice Ao7 t101.length co7, .int .i64 t102] rfl (by simp only [List.map_toArray, List.map_cons, List.map_nil]; rfl) ?_; (with_reducible refine (spec_ShrinkRegion.calls k _ _ t101 t102 t108 _ ?side1 ?side2 A9.out).mono ?_); (case side1 => repeat (first | exact (Kd.R_reads' HO104.out).2.2 | (with_reducible refine Kd.C_alloc ?_ _) | (with_reducible refine Kd.C_drewN ?_ _) | (with_reducible refine Kd.C_drew ?_))); (case side2 => exact (Kd.R_reads' HO104.out).2.1); rintro e w19 ⟨v109, rfl, ho0, hb⟩; refine ⟨_, rfl, ?_⟩; have HO110 := am_ (Kd.R_lower (Kd.R_new' (Kd.R_new' ho0 (Kd.R_lt (by exact HO104.out))) (Kd.R_lt (by exact HO107.out))) (below_size (by repeat (first | (with_reducible first | exact HB.out | apply below_alloc | apply pw_below_drewN | apply below_drew1) | exact HB.out)))); replace HO104 := am_ (Kd.R_elder' (by exact HO104.out) (Kd.R_base ho0) hb); replace HO107 := am_ (Kd.R_elder' (by exact HO107.out) (Kd.R_base ho0) hb); replace HB := am_ (below_step (by repeat (first | (with_reducible first | exact HB.out | apply below_alloc | apply pw_below_drewN | apply below_drew1) | exact HB.out)) hb); (try clear hb); (try clear hb2); (try clear hk); (try clear hi); (try clear ho0); obtain ⟨Ao20, co20, eo20⟩ := Kd.R_slice HO107.out; subst eo20; obtain ⟨Ao21, co21, eo21⟩ := Kd.R_slice HO110.out; subst eo21) | ((with_reducible refine gate_callee (f := 18) rfl ?_); refine goesL_ (some 24) rfl rfl Try.func18 (by kernel_rfl) rfl #[.slice Ao20 t105.length co20, .slice Ao21 t108.length co21] rfl (by simp only [List.map_toArray, List.map_cons, List.map_nil]; rfl) ?_; (with_reducible refine (laws_equalRuns.calls k _ _ t105 _ _ t108 true _ ?side1 ?side2 ?side3 ?side4 A10.out).mono ?_); (case side1 => repeat (first | exact (Kd.R_reads' HO107.out).2.2 | (with_reducible refine Kd.C_alloc ?_ _) | (with_reducible refine Kd.C_drewN ?_ _) | (with_reducible refine Kd.C_drew ?_))); (case side2 => exact (Kd.R_reads' HO107.out).2.1); (case side3 => repeat (first | exact (Kd.R_reads' HO110.out).2.2 | (with_reducible refine Kd.C_alloc ?_ _) | (with_reducible refine Kd.C_drewN ?_ _) | (with_reducible refine Kd.C_drew ?_))); (case side4 => exact (Kd.R_reads' HO110.out).2.1); rintro e w' ⟨rfl, ⟨nd, rfl⟩⟩; refine ⟨_, rfl, ?_⟩) | (go_at_call 21; (with_reducible refine (impl_ValidRegion.calls k _ _ t101 true _ ?side1 ?side2 A12.out).mono ?_); (case side1 => repeat (first | exact (Kd.R_reads' HO104.out).2.2 | (with_reducible refine Kd.C_alloc ?_ _) | (with_reducible refine Kd.C_drewN ?_ _) | (with_reducible refine Kd.C_drew ?_))); (case side2 => exact (Kd.R_reads' HO104.out).2.1); rintro e w22 ⟨rfl, hb⟩; replace HO104 := am_ (Kd.R_below (by exact HO104.out) hb); replace HO107 := am_ (Kd.R_below (by exact HO107.out) hb); replace HO110 := am_ (Kd.R_below (by exact HO110.out) hb); replace HB := am_ (below_step (by repeat (first | (with_reducible first | exact HB.out | apply below_alloc | apply pw_below_drewN | apply below_drew1) | exact HB.out)) hb); (try clear hb); (try clear hb2); (try clear hk); (try clear hi)))
   go_meet
   case rel => exact ⟨_, (decide (t102 > 16)), (by first | rfl | (simp; done) | (simp [*]; done)), H', ⟨by first | omega | exact Nat.le_refl _⟩, ⟨by exact Kd.R_mono HO104.out (fun _ hk => hk.1.2)⟩, ⟨by exact Kd.R_mono HO107.out (fun _ hk => hk.1.2)⟩, ⟨by repeat (first | (with_reducible first | exact HB.out | apply below_alloc | apply pw_below_drewN | apply below_drew1) | exact HB.out)⟩⟩
  replace c13 := Bool.eq_false_iff.mpr c13
  subst c13
  have H1 : (laws_FnShrinkRegion.j0 k t101 t102 t105 true) = some r := by rw [if_neg (show ¬ (false = true) by decide)] at H; exact H
  clear H
  have H := H1
  clear H1
  have H' := Aside0.mk H
  clear H
  go_wp2_with (first | ((with_reducible refine gate_callee (f := 35) rfl ?_); refine goesL_ (some 23) rfl rfl Try.func35 (by kernel_rfl) rfl #[.slice Ao7 t101.length co7, .int .i64 t102] rfl (by simp only [List.map_toArray, List.map_cons, List.map_nil]; rfl) ?_; (with_reducible refine (spec_ShrinkRegion.calls k _ _ t101 t102 t108 _ ?side1 ?side2 A9.out).mono ?_); (case side1 => repeat (first | exact (Kd.R_reads' HO104.out).2.2 | (with_reducible refine Kd.C_alloc ?_ _) | (with_reducible refine Kd.C_drewN ?_ _) | (with_reducible refine Kd.C_drew ?_))); (case side2 => exact (Kd.R_reads' HO104.out).2.1); rintro e w23 ⟨v109, rfl, ho0, hb⟩; refine ⟨_, rfl, ?_⟩; have HO110 := am_ (Kd.R_lower (Kd.R_new' (Kd.R_new' ho0 (Kd.R_lt (by exact HO104.out))) (Kd.R_lt (by exact HO107.out))) (below_size (by repeat (first | (with_reducible first | exact HB.out | apply below_alloc | apply pw_below_drewN | apply below_drew1) | exact HB.out)))); replace HO104 := am_ (Kd.R_elder' (by exact HO104.out) (Kd.R_base ho0) hb); replace HO107 := am_ (Kd.R_elder' (by exact HO107.out) (Kd.R_base ho0) hb); replace HB := am_ (below_step (by repeat (first | (with_reducible first | exact HB.out | apply below_alloc | apply pw_below_drewN | apply below_drew1) | exact HB.out)) hb); (try clear hb); (try clear hb2); (try clear hk); (try clear hi); (try clear ho0); obtain ⟨Ao24, co24, eo24⟩ := Kd.R_slice HO107.out; subst eo24; obtain ⟨Ao25, co25, eo25⟩ := Kd.R_slice HO110.out; subst eo25) | ((with_reducible refine gate_callee (f := 18) rfl ?_); refine goesL_ (some 24) rfl rfl Try.func18 (by kernel_rfl) rfl #[.slice Ao24 t105.length co24, .slice Ao25 t108.length co25] rfl (by simp only [List.map_toArray, List.map_cons, List.map_nil]; rfl) ?_; (with_reducible refine (laws_equalRuns.calls k _ _ t105 _ _ t108 true _ ?side1 ?side2 ?side3 ?side4 A10.out).mono ?_); (case side1 => repeat (first | exact (Kd.R_reads' HO107.out).2.2 | (with_reducible refine Kd.C_alloc ?_ _) | (with_reducible refine Kd.C_drewN ?_ _) | (with_reducible refine Kd.C_drew ?_))); (case side2 => exact (Kd.R_reads' HO107.out).2.1); (case side3 => repeat (first | exact (Kd.R_reads' HO110.out).2.2 | (with_reducible refine Kd.C_alloc ?_ _) | (with_reducible refine Kd.C_drewN ?_ _) | (with_reducible refine Kd.C_drew ?_))); (case side4 => exact (Kd.R_reads' HO110.out).2.1); rintro e w' ⟨rfl, ⟨nd, rfl⟩⟩; refine ⟨_, rfl, ?_⟩) | (go_at_call 21; (with_reducible refine (impl_ValidRegion.calls k _ _ t101 false _ ?side1 ?side2 A12.out).mono ?_); (case side1 => repeat (first | exact (Kd.R_reads' HO104.out).2.2 | (with_reducible refine Kd.C_alloc ?_ _) | (with_reducible refine Kd.C_drewN ?_ _) | (with_reducible refine Kd.C_drew ?_))); (case side2 => exact (Kd.R_reads' HO104.out).2.1); rintro e w26 ⟨rfl, hb⟩; replace HO104 := am_ (Kd.R_below (by exact HO104.out) hb); replace HO107 := am_ (Kd.R_below (by exact HO107.out) hb); replace HO110 := am_ (Kd.R_below (by exact HO110.out) hb); replace HB := am_ (below_step (by repeat (first | (with_reducible first | exact HB.out | apply below_alloc | apply pw_below_drewN | apply below_drew1) | exact HB.out)) hb); (try clear hb); (try clear hb2); (try clear hk); (try clear hi)))
  go_meet
  case rel => exact ⟨_, (true), (by first | rfl | (simp; done) | (simp [*]; done)), H', ⟨by first | omega | exact Nat.le_refl _⟩, ⟨by exact Kd.R_mono HO104.out (fun _ hk => hk.1.2)⟩, ⟨by exact Kd.R_mono HO107.out (fun _ hk => hk.1.2)⟩, ⟨by repeat (first | (with_reducible first | exact HB.out | apply below_alloc | apply pw_below_drewN | apply below_drew1) | exact HB.out)⟩⟩
 case rest =>
  clear HC5
  try clear c1
  try clear c2
  try clear c2b0
  try clear c2b1
  try clear p2
  try clear c3
  try clear c11
  try clear c13
  try clear c14
  try clear c14b0
  try clear c18
  obtain ⟨kq, x38_4, rfl, HA, HJ4, HO_3, HO_5, HB⟩ := hcut
  cases kq with
  | zero => exact absurd HA.out (by simp [laws_FnShrinkRegion.j0])
  | succ kj4 =>
   have H := HA.out
   clear HA
   simp only [laws_FnShrinkRegion.j0] at H
   by_cases c30 : x38_4 = true
   ·
    subst c30
    have H1 : ((spec_ShrinkRegion.f kj4 t101 t102).bind fun t113 => ((laws_equalRuns.f kj4 t105 t113).bind fun t116 => (some t116))) = some r := by rw [if_pos rfl] at H; exact H
    clear H
    have H := H1
    clear H1
    replace H := Option.bind_eq_some_iff.mp H
    obtain ⟨t113, A310, H⟩ := H
    replace H : ((laws_equalRuns.f kj4 t105 t113).bind fun t116 => (some t116)) = some r := H
    have A31 := Aside0.mk A310
    clear A310
    replace H := Option.bind_eq_some_iff.mp H
    obtain ⟨t116, A320, H⟩ := H
    replace H : (some t116) = some r := H
    have A32 := Aside0.mk A320
    clear A320
    obtain rfl := Option.some.inj H
    go_wp2_with (first | ((with_reducible refine gate_callee (f := 35) rfl ?_); refine goesL_ (some 42) rfl rfl Try.func35 (by kernel_rfl) rfl #[.slice Ao7 t101.length co7, .int .i64 t102] rfl (by simp only [List.map_toArray, List.map_cons, List.map_nil]; rfl) ?_; (with_reducible refine (spec_ShrinkRegion.calls kj4 _ _ t101 t102 t113 _ ?side1 ?side2 A31.out).mono ?_); (case side1 => repeat (first | exact (Kd.R_reads' HO_3.out).2.2 | (with_reducible refine Kd.C_alloc ?_ _) | (with_reducible refine Kd.C_drewN ?_ _) | (with_reducible refine Kd.C_drew ?_))); (case side2 => exact (Kd.R_reads' HO_3.out).2.1); rintro e w33 ⟨v114, rfl, ho0, hb⟩; refine ⟨_, rfl, ?_⟩; have HO115 := am_ (Kd.R_lower (Kd.R_new' (Kd.R_new' ho0 (Kd.R_lt (by exact HO_3.out))) (Kd.R_lt (by exact HO_5.out))) (below_size (by repeat (first | (with_reducible first | exact HB.out | apply below_alloc | apply pw_below_drewN | apply below_drew1) | exact HB.out)))); replace HO_3 := am_ (Kd.R_elder' (by exact HO_3.out) (Kd.R_base ho0) hb); replace HO_5 := am_ (Kd.R_elder' (by exact HO_5.out) (Kd.R_base ho0) hb); replace HB := am_ (below_step (by repeat (first | (with_reducible first | exact HB.out | apply below_alloc | apply pw_below_drewN | apply below_drew1) | exact HB.out)) hb); (try clear hb); (try clear hb2); (try clear hk); (try clear hi); (try clear ho0); obtain ⟨Ao34, co34, eo34⟩ := Kd.R_slice HO_5.out; subst eo34; obtain ⟨Ao35, co35, eo35⟩ := Kd.R_slice HO115.out; subst eo35) | ((with_reducible refine gate_callee (f := 18) rfl ?_); refine goesL_ (some 43) rfl rfl Try.func18 (by kernel_rfl) rfl #[.slice Ao34 t105.length co34, .slice Ao35 t113.length co35] rfl (by simp only [List.map_toArray, List.map_cons, List.map_nil]; rfl) ?_; (with_reducible refine (laws_equalRuns.calls kj4 _ _ t105 _ _ t113 t116 _ ?side1 ?side2 ?side3 ?side4 A32.out).mono ?_); (case side1 => repeat (first | exact (Kd.R_reads' HO_5.out).2.2 | (with_reducible refine Kd.C_alloc ?_ _) | (with_reducible refine Kd.C_drewN ?_ _) | (with_reducible refine Kd.C_drew ?_))); (case side2 => exact (Kd.R_reads' HO_5.out).2.1); (case side3 => repeat (first | exact (Kd.R_reads' HO115.out).2.2 | (with_reducible refine Kd.C_alloc ?_ _) | (with_reducible refine Kd.C_drewN ?_ _) | (with_reducible refine Kd.C_drew ?_))); (case side4 => exact (Kd.R_reads' HO115.out).2.1); rintro e w' ⟨rfl, ⟨nd, rfl⟩⟩; refine ⟨_, rfl, ?_⟩))
    go_ret
    exact ⟨by first | rfl | (simp [errW_none, errW_some] <;> rfl) | (simp [*, errW_none, errW_some] <;> rfl), by repeat (first | (with_reducible first | exact HB.out | apply below_alloc | apply pw_below_drewN | apply below_drew1) | exact HB.out)⟩
   replace c30 := Bool.eq_false_iff.mpr c30
   subst c30
   have H1 : ((impl_BoxRegion.f 1 1 14 14).bind fun bt117 => ((impl_GrowRegion.f t101 1).bind fun t121 => ((impl_ShrinkRegion.f t121 1).bind fun t124 => (if bt117.2 = true then ((impl_GrowRegion.f t105 t102).bind fun t127 => ((laws_combined.f t127 t101 2).bind fun t130 => (if (t130.length : Int) = 0 then ((laws_combined.f t101 bt117.1 1).bind fun t133 => ((laws_combined.f t133 t124 2).bind fun t136 => (some ((t136.length : Int) == 0)))) else (some false)))) else (some false))))) = some r := by rw [if_neg (show ¬ (false = true) by decide)] at H; exact H
   clear H
   have H := H1
   clear H1
   replace H := Option.bind_eq_some_iff.mp H
   obtain ⟨⟨t117, t120⟩, A360, H⟩ := H
   replace H : ((impl_GrowRegion.f t101 1).bind fun t121 => ((impl_ShrinkRegion.f t121 1).bind fun t124 => (if t120 = true then ((impl_GrowRegion.f t105 t102).bind fun t127 => ((laws_combined.f t127 t101 2).bind fun t130 => (if (t130.length : Int) = 0 then ((laws_combined.f t101 t117 1).bind fun t133 => ((laws_combined.f t133 t124 2).bind fun t136 => (some ((t136.length : Int) == 0)))) else (some false)))) else (some false)))) = some r := H
   have A36 := Aside0.mk A360
   clear A360
   replace H := Option.bind_eq_some_iff.mp H
   obtain ⟨t121, A370, H⟩ := H
   replace H : ((impl_ShrinkRegion.f t121 1).bind fun t124 => (if t120 = true then ((impl_GrowRegion.f t105 t102).bind fun t127 => ((laws_combined.f t127 t101 2).bind fun t130 => (if (t130.length : Int) = 0 then ((laws_combined.f t101 t117 1).bind fun t133 => ((laws_combined.f t133 t124 2).bind fun t136 => (some ((t136.length : Int) == 0)))) else (some false)))) else (some false))) = some r := H
   have A37 := Aside0.mk A370
   clear A370
   replace H := Option.bind_eq_some_iff.mp H
   obtain ⟨t124, A380, H⟩ := H
   replace H : (if t120 = true then ((impl_GrowRegion.f t105 t102).bind fun t127 => ((laws_combined.f t127 t101 2).bind fun t130 => (if (t130.length : Int) = 0 then ((laws_combined.f t101 t117 1).bind fun t133 => ((laws_combined.f t133 t124 2).bind fun t136 => (some ((t136.length : Int) == 0)))) else (some false)))) else (some false)) = some r := H
   have A38 := Aside0.mk A380
   clear A380
   by_cases c39 : t120 = true
   rotate_left
   ·
    replace c39 := Bool.eq_false_iff.mpr c39
    subst c39
    have H1 : (some false) = some r := by rw [if_neg (show ¬ (false = true) by decide)] at H; exact H
    clear H
    have H := H1
    clear H1
    obtain rfl := Option.some.inj H
    go_wp2_with (first | ((with_reducible refine gate_callee (f := 36) rfl ?_); refine goesL_ (some 46) rfl rfl Try.func36 (by kernel_rfl) rfl #[.agg #[.int .i64 1, .int .i64 1, .int .i64 14, .int .i64 14]] rfl (by simp only [List.map_toArray, List.map_cons, List.map_nil]; rfl) ?_; (with_reducible refine (impl_BoxRegion.calls 1 1 14 14 t117 false _ A36.out).mono ?_); rintro e w69 ⟨v118, rfl, ho0, hb⟩; refine ⟨_, rfl, ?_⟩; have HO119 := am_ (Kd.R_lower (Kd.R_new' (Kd.R_new' ho0 (Kd.R_lt (by exact HO_3.out))) (Kd.R_lt (by exact HO_5.out))) (below_size (by repeat (first | (with_reducible first | exact HB.out | apply below_alloc | apply pw_below_drewN | apply below_drew1) | exact HB.out)))); replace HO_3 := am_ (Kd.R_elder' (by exact HO_3.out) (Kd.R_base ho0) hb); replace HO_5 := am_ (Kd.R_elder' (by exact HO_5.out) (Kd.R_base ho0) hb); replace HB := am_ (below_step (by repeat (first | (with_reducible first | exact HB.out | apply below_alloc | apply pw_below_drewN | apply below_drew1) | exact HB.out)) hb); (try clear hb); (try clear hb2); (try clear hk); (try clear hi); (try clear ho0)) | ((with_reducible refine gate_callee (f := 32) rfl ?_); refine goesL_ (some 50) rfl rfl Try.func32 (by kernel_rfl) rfl #[.slice Ao7 t101.length co7, .int .i64 1] rfl (by simp only [List.map_toArray, List.map_cons, List.map_nil]; rfl) ?_; (with_reducible refine (impl_GrowRegion.calls _ _ t101 1 t121 _ ?side1 ?side2 A37.out).mono ?_); (case side1 => repeat (first | exact (Kd.R_reads' HO_3.out).2.2 | (with_reducible refine Kd.C_alloc ?_ _) | (with_reducible refine Kd.C_drewN ?_ _) | (with_reducible refine Kd.C_drew ?_))); (case side2 => exact (Kd.R_reads' HO_3.out).2.1); rintro e w70 ⟨v122, rfl, ho0, hb⟩; refine ⟨_, rfl, ?_⟩; have HO123 := am_ (Kd.R_lower (Kd.R_new' (Kd.R_new' (Kd.R_new' ho0 (Kd.R_lt (by exact HO_3.out))) (Kd.R_lt (by exact HO_5.out))) (Kd.R_lt (by exact HO119.out))) (below_size (by repeat (first | (with_reducible first | exact HB.out | apply below_alloc | apply pw_below_drewN | apply below_drew1) | exact HB.out)))); replace HO_3 := am_ (Kd.R_elder' (by exact HO_3.out) (Kd.R_base ho0) hb); replace HO_5 := am_ (Kd.R_elder' (by exact HO_5.out) (Kd.R_base ho0) hb); replace HO119 := am_ (Kd.R_elder' (by exact HO119.out) (Kd.R_base ho0) hb); replace HB := am_ (below_step (by repeat (first | (with_reducible first | exact HB.out | apply below_alloc | apply pw_below_drewN | apply below_drew1) | exact HB.out)) hb); (try clear hb); (try clear hb2); (try clear hk); (try clear hi); (try clear ho0); obtain ⟨Ao71, co71, eo71⟩ := Kd.R_slice HO123.out; subst eo71) | ((with_reducible refine gate_callee (f := 30) rfl ?_); refine goesL_ (some 51) rfl rfl Try.func30 (by kernel_rfl) rfl #[.slice Ao71 t121.length co71, .int .i64 1] rfl (by simp only [List.map_toArray, List.map_cons, List.map_nil]; rfl) ?_; (with_reducible refine (impl_ShrinkRegion.calls _ _ t121 1 t124 _ ?side1 ?side2 A38.out).mono ?_); (case side1 => repeat (first | exact (Kd.R_reads' HO123.out).2.2 | (with_reducible refine Kd.C_alloc ?_ _) | (with_reducible refine Kd.C_drewN ?_ _) | (with_reducible refine Kd.C_drew ?_))); (case side2 => exact (Kd.R_reads' HO123.out).2.1); rintro e w72 ⟨v125, rfl, ho0, hb⟩; refine ⟨_, rfl, ?_⟩; have HO126 := am_ (Kd.R_lower (Kd.R_new' (Kd.R_new' (Kd.R_new' (Kd.R_new' ho0 (Kd.R_lt (by exact HO_3.out))) (Kd.R_lt (by exact HO_5.out))) (Kd.R_lt (by exact HO119.out))) (Kd.R_lt (by exact HO123.out))) (below_size (by repeat (first | (with_reducible first | exact HB.out | apply below_alloc | apply pw_below_drewN | apply below_drew1) | exact HB.out)))); replace HO_3 := am_ (Kd.R_elder' (by exact HO_3.out) (Kd.R_base ho0) hb); replace HO_5 := am_ (Kd.R_elder' (by exact HO_5.out) (Kd.R_base ho0) hb); replace HO119 := am_ (Kd.R_elder' (by exact HO119.out) (Kd.R_base ho0) hb); replace HO123 := am_ (Kd.R_elder' (by exact HO123.out) (Kd.R_base ho0) hb); replace HB := am_ (below_step (by repeat (first | (with_reducible first | exact HB.out | apply below_alloc | apply pw_below_drewN | apply below_drew1) | exact HB.out)) hb); (try clear hb); (try clear hb2); (try clear hk); (try clear hi); (try clear ho0)))
    go_ret
    exact ⟨by first | rfl | (simp [errW_none, errW_some] <;> rfl) | (simp [*, errW_none, errW_some] <;> rfl), by repeat (first | (with_reducible first | exact HB.out | apply below_alloc | apply pw_below_drewN | apply below_drew1) | exact HB.out)⟩
   subst c39
   have H1 : ((impl_GrowRegion.f t105 t102).bind fun t127 => ((laws_combined.f t127 t101 2).bind fun t130 => (if (t130.length : Int) = 0 then ((laws_combined.f t101 t117 1).bind fun t133 => ((laws_combined.f t133 t124 2).bind fun t136 => (some ((t136.length : Int) == 0)))) else (some false)))) = some r := by rw [if_pos rfl] at H; exact H
   clear H
   have H := H1
   clear H1
   replace H := Option.bind_eq_some_iff.mp H
   obtain ⟨t127, A400, H⟩ := H
   replace H : ((laws_combined.f t127 t101 2).bind fun t130 => (if (t130.length : Int) = 0 then ((laws_combined.f t101 t117 1).bind fun t133 => ((laws_combined.f t133 t124 2).bind fun t136 => (some ((t136.length : Int) == 0)))) else (some false))) = some r := H
   have A40 := Aside0.mk A400
   clear A400
   replace H := Option.bind_eq_some_iff.mp H
   obtain ⟨t130, A410, H⟩ := H
   replace H : (if (t130.length : Int) = 0 then ((laws_combined.f t101 t117 1).bind fun t133 => ((laws_combined.f t133 t124 2).bind fun t136 => (some ((t136.length : Int) == 0)))) else (some false)) = some r := H
   have A41 := Aside0.mk A410
   clear A410
   by_cases c42 : (t130.length : Int) = 0
   ·
    rw [if_pos c42] at H
    have c42b0 : ((t130.length : Int) == 0) = true := beq_iff_eq.mpr c42
    have c42b1 : ((t130.length : Int) != 0) = false := bne_eq_false_iff_eq.mpr c42
    clear c42
    replace H := Option.bind_eq_some_iff.mp H
    obtain ⟨t133, A430, H⟩ := H
    replace H : ((laws_combined.f t133 t124 2).bind fun t136 => (some ((t136.length : Int) == 0))) = some r := H
    have A43 := Aside0.mk A430
    clear A430
    replace H := Option.bind_eq_some_iff.mp H
    obtain ⟨t136, A440, H⟩ := H
    replace H : (some ((t136.length : Int) == 0)) = some r := H
    have A44 := Aside0.mk A440
    clear A440
    obtain rfl := Option.some.inj H
    go_wp2_with (first | ((with_reducible refine gate_callee (f := 36) rfl ?_); refine goesL_ (some 46) rfl rfl Try.func36 (by kernel_rfl) rfl #[.agg #[.int .i64 1, .int .i64 1, .int .i64 14, .int .i64 14]] rfl (by simp only [List.map_toArray, List.map_cons, List.map_nil]; rfl) ?_; (with_reducible refine (impl_BoxRegion.calls 1 1 14 14 t117 true _ A36.out).mono ?_); rintro e w45 ⟨v118, rfl, ho0, hb⟩; refine ⟨_, rfl, ?_⟩; have HO119 := am_ (Kd.R_lower (Kd.R_new' (Kd.R_new' ho0 (Kd.R_lt (by exact HO_3.out))) (Kd.R_lt (by exact HO_5.out))) (below_size (by repeat (first | (with_reducible first | exact HB.out | apply below_alloc | apply pw_below_drewN | apply below_drew1) | exact HB.out)))); replace HO_3 := am_ (Kd.R_elder' (by exact HO_3.out) (Kd.R_base ho0) hb); replace HO_5 := am_ (Kd.R_elder' (by exact HO_5.out) (Kd.R_base ho0) hb); replace HB := am_ (below_step (by repeat (first | (with_reducible first | exact HB.out | apply below_alloc | apply pw_below_drewN | apply below_drew1) | exact HB.out)) hb); (try clear hb); (try clear hb2); (try clear hk); (try clear hi); (try clear ho0)) | ((with_reducible refine gate_callee (f := 32) rfl ?_); refine goesL_ (some 50) rfl rfl Try.func32 (by kernel_rfl) rfl #[.slice Ao7 t101.length co7, .int .i64 1] rfl (by simp only [List.map_toArray, List.map_cons, List.map_nil]; rfl) ?_; (with_reducible refine (impl_GrowRegion.calls _ _ t101 1 t121 _ ?side1 ?side2 A37.out).mono ?_); (case side1 => repeat (first | exact (Kd.R_reads' HO_3.out).2.2 | (with_reducible refine Kd.C_alloc ?_ _) | (with_reducible refine Kd.C_drewN ?_ _) | (with_reducible refine Kd.C_drew ?_))); (case side2 => exact (Kd.R_reads' HO_3.out).2.1); rintro e w46 ⟨v122, rfl, ho0, hb⟩; refine ⟨_, rfl, ?_⟩; have HO123 := am_ (Kd.R_lower (Kd.R_new' (Kd.R_new' (Kd.R_new' ho0 (Kd.R_lt (by exact HO_3.out))) (Kd.R_lt (by exact HO_5.out))) (Kd.R_lt (by exact HO119.out))) (below_size (by repeat (first | (with_reducible first | exact HB.out | apply below_alloc | apply pw_below_drewN | apply below_drew1) | exact HB.out)))); replace HO_3 := am_ (Kd.R_elder' (by exact HO_3.out) (Kd.R_base ho0) hb); replace HO_5 := am_ (Kd.R_elder' (by exact HO_5.out) (Kd.R_base ho0) hb); replace HO119 := am_ (Kd.R_elder' (by exact HO119.out) (Kd.R_base ho0) hb); replace HB := am_ (below_step (by repeat (first | (with_reducible first | exact HB.out | apply below_alloc | apply pw_below_drewN | apply below_drew1) | exact HB.out)) hb); (try clear hb); (try clear hb2); (try clear hk); (try clear hi); (try clear ho0); obtain ⟨Ao47, co47, eo47⟩ := Kd.R_slice HO123.out; subst eo47) | ((with_reducible refine gate_callee (f := 30) rfl ?_); refine goesL_ (some 51) rfl rfl Try.func30 (by kernel_rfl) rfl #[.slice Ao47 t121.length co47, .int .i64 1] rfl (by simp only [List.map_toArray, List.map_cons, List.map_nil]; rfl) ?_; (with_reducible refine (impl_ShrinkRegion.calls _ _ t121 1 t124 _ ?side1 ?side2 A38.out).mono ?_); (case side1 => repeat (first | exact (Kd.R_reads' HO123.out).2.2 | (with_reducible refine Kd.C_alloc ?_ _) | (with_reducible refine Kd.C_drewN ?_ _) | (with_reducible refine Kd.C_drew ?_))); (case side2 => exact (Kd.R_reads' HO123.out).2.1); rintro e w48 ⟨v125, rfl, ho0, hb⟩; refine ⟨_, rfl, ?_⟩; have HO126 := am_ (Kd.R_lower (Kd.R_new' (Kd.R_new' (Kd.R_new' (Kd.R_new' ho0 (Kd.R_lt (by exact HO_3.out))) (Kd.R_lt (by exact HO_5.out))) (Kd.R_lt (by exact HO119.out))) (Kd.R_lt (by exact HO123.out))) (below_size (by repeat (first | (with_reducible first | exact HB.out | apply below_alloc | apply pw_below_drewN | apply below_drew1) | exact HB.out)))); replace HO_3 := am_ (Kd.R_elder' (by exact HO_3.out) (Kd.R_base ho0) hb); replace HO_5 := am_ (Kd.R_elder' (by exact HO_5.out) (Kd.R_base ho0) hb); replace HO119 := am_ (Kd.R_elder' (by exact HO119.out) (Kd.R_base ho0) hb); replace HO123 := am_ (Kd.R_elder' (by exact HO123.out) (Kd.R_base ho0) hb); replace HB := am_ (below_step (by repeat (first | (with_reducible first | exact HB.out | apply below_alloc | apply pw_below_drewN | apply below_drew1) | exact HB.out)) hb); (try clear hb); (try clear hb2); (try clear hk); (try clear hi); (try clear ho0); obtain ⟨Ao49, co49, eo49⟩ := Kd.R_slice HO_5.out; subst eo49) | (go_at_call 32; (with_reducible refine (impl_GrowRegion.calls _ _ t105 t102 t127 _ ?side1 ?side2 A40.out).mono ?_); (case side1 => repeat (first | exact (Kd.R_reads' HO_5.out).2.2 | (with_reducible refine Kd.C_alloc ?_ _) | (with_reducible refine Kd.C_drewN ?_ _) | (with_reducible refine Kd.C_drew ?_))); (case side2 => exact (Kd.R_reads' HO_5.out).2.1); rintro e w50 ⟨v128, rfl, ho0, hb⟩; have HO129 := am_ (Kd.R_lower (Kd.R_new' (Kd.R_new' (Kd.R_new' (Kd.R_new' (Kd.R_new' ho0 (Kd.R_lt (by exact HO_3.out))) (Kd.R_lt (by exact HO_5.out))) (Kd.R_lt (by exact HO119.out))) (Kd.R_lt (by exact HO123.out))) (Kd.R_lt (by exact HO126.out))) (below_size (by repeat (first | (with_reducible first | exact HB.out | apply below_alloc | apply pw_below_drewN | apply below_drew1) | exact HB.out)))); replace HO_3 := am_ (Kd.R_elder' (by exact HO_3.out) (Kd.R_base ho0) hb); replace HO_5 := am_ (Kd.R_elder' (by exact HO_5.out) (Kd.R_base ho0) hb); replace HO119 := am_ (Kd.R_elder' (by exact HO119.out) (Kd.R_base ho0) hb); replace HO123 := am_ (Kd.R_elder' (by exact HO123.out) (Kd.R_base ho0) hb); replace HO126 := am_ (Kd.R_elder' (by exact HO126.out) (Kd.R_base ho0) hb); replace HB := am_ (below_step (by repeat (first | (with_reducible first | exact HB.out | apply below_alloc | apply pw_below_drewN | apply below_drew1) | exact HB.out)) hb); (try clear hb); (try clear hb2); (try clear hk); (try clear hi); (try clear ho0); obtain ⟨Ao51, co51, eo51⟩ := Kd.R_slice HO129.out; subst eo51) | (go_at_call 19; (with_reducible refine (laws_combined.calls _ _ t127 _ _ t101 2 t130 _ ?side1 ?side2 ?side3 ?side4 A41.out).mono ?_); (case side1 => repeat (first | exact (Kd.R_reads' HO129.out).2.2 | (with_reducible refine Kd.C_alloc ?_ _) | (with_reducible refine Kd.C_drewN ?_ _) | (with_reducible refine Kd.C_drew ?_))); (case side2 => exact (Kd.R_reads' HO129.out).2.1); (case side3 => repeat (first | exact (Kd.R_reads' HO_3.out).2.2 | (with_reducible refine Kd.C_alloc ?_ _) | (with_reducible refine Kd.C_drewN ?_ _) | (with_reducible refine Kd.C_drew ?_))); (case side4 => exact (Kd.R_reads' HO_3.out).2.1); rintro e w52 ⟨v131, rfl, ho0, hb⟩; have HO132 := am_ (Kd.R_lower (Kd.R_new' (Kd.R_new' (Kd.R_new' (Kd.R_new' (Kd.R_new' (Kd.R_new' ho0 (Kd.R_lt (by exact HO_3.out))) (Kd.R_lt (by exact HO_5.out))) (Kd.R_lt (by exact HO119.out))) (Kd.R_lt (by exact HO123.out))) (Kd.R_lt (by exact HO126.out))) (Kd.R_lt (by exact HO129.out))) (below_size (by repeat (first | (with_reducible first | exact HB.out | apply below_alloc | apply pw_below_drewN | apply below_drew1) | exact HB.out)))); replace HO_3 := am_ (Kd.R_elder' (by exact HO_3.out) (Kd.R_base ho0) hb); replace HO_5 := am_ (Kd.R_elder' (by exact HO_5.out) (Kd.R_base ho0) hb); replace HO119 := am_ (Kd.R_elder' (by exact HO119.out) (Kd.R_base ho0) hb); replace HO123 := am_ (Kd.R_elder' (by exact HO123.out) (Kd.R_base ho0) hb); replace HO126 := am_ (Kd.R_elder' (by exact HO126.out) (Kd.R_base ho0) hb); replace HO129 := am_ (Kd.R_elder' (by exact HO129.out) (Kd.R_base ho0) hb); replace HB := am_ (below_step (by repeat (first | (with_reducible first | exact HB.out | apply below_alloc | apply pw_below_drewN | apply below_drew1) | exact HB.out)) hb); (try clear hb); (try clear hb2); (try clear hk); (try clear hi); (try clear ho0); obtain ⟨Ao53, co53, eo53⟩ := Kd.R_slice HO132.out; subst eo53; obtain ⟨Ao54, co54, eo54⟩ := Kd.R_slice HO119.out; subst eo54) | (go_at_call 19; (with_reducible refine (laws_combined.calls _ _ t101 _ _ t117 1 t133 _ ?side1 ?side2 ?side3 ?side4 A43.out).mono ?_); (case side1 => repeat (first | exact (Kd.R_reads' HO_3.out).2.2 | (with_reducible refine Kd.C_alloc ?_ _) | (with_reducible refine Kd.C_drewN ?_ _) | (with_reducible refine Kd.C_drew ?_))); (case side2 => exact (Kd.R_reads' HO_3.out).2.1); (case side3 => repeat (first | exact (Kd.R_reads' HO119.out).2.2 | (with_reducible refine Kd.C_alloc ?_ _) | (with_reducible refine Kd.C_drewN ?_ _) | (with_reducible refine Kd.C_drew ?_))); (case side4 => exact (Kd.R_reads' HO119.out).2.1); rintro e w55 ⟨v134, rfl, ho0, hb⟩; have HO135 := am_ (Kd.R_lower (Kd.R_new' (Kd.R_new' (Kd.R_new' (Kd.R_new' (Kd.R_new' (Kd.R_new' (Kd.R_new' ho0 (Kd.R_lt (by exact HO_3.out))) (Kd.R_lt (by exact HO_5.out))) (Kd.R_lt (by exact HO119.out))) (Kd.R_lt (by exact HO123.out))) (Kd.R_lt (by exact HO126.out))) (Kd.R_lt (by exact HO129.out))) (Kd.R_lt (by exact HO132.out))) (below_size (by repeat (first | (with_reducible first | exact HB.out | apply below_alloc | apply pw_below_drewN | apply below_drew1) | exact HB.out)))); replace HO_3 := am_ (Kd.R_elder' (by exact HO_3.out) (Kd.R_base ho0) hb); replace HO_5 := am_ (Kd.R_elder' (by exact HO_5.out) (Kd.R_base ho0) hb); replace HO119 := am_ (Kd.R_elder' (by exact HO119.out) (Kd.R_base ho0) hb); replace HO123 := am_ (Kd.R_elder' (by exact HO123.out) (Kd.R_base ho0) hb); replace HO126 := am_ (Kd.R_elder' (by exact HO126.out) (Kd.R_base ho0) hb); replace HO129 := am_ (Kd.R_elder' (by exact HO129.out) (Kd.R_base ho0) hb); replace HO132 := am_ (Kd.R_elder' (by exact HO132.out) (Kd.R_base ho0) hb); replace HB := am_ (below_step (by repeat (first | (with_reducible first | exact HB.out | apply below_alloc | apply pw_below_drewN | apply below_drew1) | exact HB.out)) hb); (try clear hb); (try clear hb2); (try clear hk); (try clear hi); (try clear ho0); obtain ⟨Ao56, co56, eo56⟩ := Kd.R_slice HO135.out; subst eo56; obtain ⟨Ao57, co57, eo57⟩ := Kd.R_slice HO126.out; subst eo57) | (go_at_call 19; (with_reducible refine (laws_combined.calls _ _ t133 _ _ t124 2 t136 _ ?side1 ?side2 ?side3 ?side4 A44.out).mono ?_); (case side1 => repeat (first | exact (Kd.R_reads' HO135.out).2.2 | (with_reducible refine Kd.C_alloc ?_ _) | (with_reducible refine Kd.C_drewN ?_ _) | (with_reducible refine Kd.C_drew ?_))); (case side2 => exact (Kd.R_reads' HO135.out).2.1); (case side3 => repeat (first | exact (Kd.R_reads' HO126.out).2.2 | (with_reducible refine Kd.C_alloc ?_ _) | (with_reducible refine Kd.C_drewN ?_ _) | (with_reducible refine Kd.C_drew ?_))); (case side4 => exact (Kd.R_reads' HO126.out).2.1); rintro e w58 ⟨v137, rfl, ho0, hb⟩; have HO138 := am_ (Kd.R_lower (Kd.R_new' (Kd.R_new' (Kd.R_new' (Kd.R_new' (Kd.R_new' (Kd.R_new' (Kd.R_new' (Kd.R_new' ho0 (Kd.R_lt (by exact HO_3.out))) (Kd.R_lt (by exact HO_5.out))) (Kd.R_lt (by exact HO119.out))) (Kd.R_lt (by exact HO123.out))) (Kd.R_lt (by exact HO126.out))) (Kd.R_lt (by exact HO129.out))) (Kd.R_lt (by exact HO132.out))) (Kd.R_lt (by exact HO135.out))) (below_size (by repeat (first | (with_reducible first | exact HB.out | apply below_alloc | apply pw_below_drewN | apply below_drew1) | exact HB.out)))); replace HO_3 := am_ (Kd.R_elder' (by exact HO_3.out) (Kd.R_base ho0) hb); replace HO_5 := am_ (Kd.R_elder' (by exact HO_5.out) (Kd.R_base ho0) hb); replace HO119 := am_ (Kd.R_elder' (by exact HO119.out) (Kd.R_base ho0) hb); replace HO123 := am_ (Kd.R_elder' (by exact HO123.out) (Kd.R_base ho0) hb); replace HO126 := am_ (Kd.R_elder' (by exact HO126.out) (Kd.R_base ho0) hb); replace HO129 := am_ (Kd.R_elder' (by exact HO129.out) (Kd.R_base ho0) hb); replace HO132 := am_ (Kd.R_elder' (by exact HO132.out) (Kd.R_base ho0) hb); replace HO135 := am_ (Kd.R_elder' (by exact HO135.out) (Kd.R_base ho0) hb); replace HB := am_ (below_step (by repeat (first | (with_reducible first | exact HB.out | apply below_alloc | apply pw_below_drewN | apply below_drew1) | exact HB.out)) hb); (try clear hb); (try clear hb2); (try clear hk); (try clear hi); (try clear ho0); obtain ⟨Ao59, co59, eo59⟩ := Kd.R_slice HO138.out; subst eo59))
    go_ret
    exact ⟨by first | rfl | (simp [errW_none, errW_some] <;> rfl) | (simp [*, errW_none, errW_some] <;> rfl), by repeat (first | (with_reducible first | exact HB.out | apply below_alloc | apply pw_below_drewN | apply below_drew1) | exact HB.out)⟩
   rw [if_neg c42] at H
   have c42b0 : ((t130.length : Int) == 0) = false := beq_eq_false_iff_ne.mpr c42
   have c42b1 : ((t130.length : Int) != 0) = true := bne_iff_ne.mpr c42
   have c42b2 : ¬ (t130 = []) := fun h_ => c42 (by rw [h_]; rfl)
   obtain rfl := Option.some.inj H
   go_wp2_with (first | ((with_reducible refine gate_callee (f := 36) rfl ?_); refine goesL_ (some 46) rfl rfl Try.func36 (by kernel_rfl) rfl #[.agg #[.int .i64 1, .int .i64 1, .int .i64 14, .int .i64 14]] rfl (by simp only [List.map_toArray, List.map_cons, List.map_nil]; rfl) ?_; (with_reducible refine (impl_BoxRegion.calls 1 1 14 14 t117 true _ A36.out).mono ?_); rintro e w60 ⟨v118, rfl, ho0, hb⟩; refine ⟨_, rfl, ?_⟩; have HO119 := am_ (Kd.R_lower (Kd.R_new' (Kd.R_new' ho0 (Kd.R_lt (by exact HO_3.out))) (Kd.R_lt (by exact HO_5.out))) (below_size (by repeat (first | (with_reducible first | exact HB.out | apply below_alloc | apply pw_below_drewN | apply below_drew1) | exact HB.out)))); replace HO_3 := am_ (Kd.R_elder' (by exact HO_3.out) (Kd.R_base ho0) hb); replace HO_5 := am_ (Kd.R_elder' (by exact HO_5.out) (Kd.R_base ho0) hb); replace HB := am_ (below_step (by repeat (first | (with_reducible first | exact HB.out | apply below_alloc | apply pw_below_drewN | apply below_drew1) | exact HB.out)) hb); (try clear hb); (try clear hb2); (try clear hk); (try clear hi); (try clear ho0)) | ((with_reducible refine gate_callee (f := 32) rfl ?_); refine goesL_ (some 50) rfl rfl Try.func32 (by kernel_rfl) rfl #[.slice Ao7 t101.length co7, .int .i64 1] rfl (by simp only [List.map_toArray, List.map_cons, List.map_nil]; rfl) ?_; (with_reducible refine (impl_GrowRegion.calls _ _ t101 1 t121 _ ?side1 ?side2 A37.out).mono ?_); (case side1 => repeat (first | exact (Kd.R_reads' HO_3.out).2.2 | (with_reducible refine Kd.C_alloc ?_ _) | (with_reducible refine Kd.C_drewN ?_ _) | (with_reducible refine Kd.C_drew ?_))); (case side2 => exact (Kd.R_reads' HO_3.out).2.1); rintro e w61 ⟨v122, rfl, ho0, hb⟩; refine ⟨_, rfl, ?_⟩; have HO123 := am_ (Kd.R_lower (Kd.R_new' (Kd.R_new' (Kd.R_new' ho0 (Kd.R_lt (by exact HO_3.out))) (Kd.R_lt (by exact HO_5.out))) (Kd.R_lt (by exact HO119.out))) (below_size (by repeat (first | (with_reducible first | exact HB.out | apply below_alloc | apply pw_below_drewN | apply below_drew1) | exact HB.out)))); replace HO_3 := am_ (Kd.R_elder' (by exact HO_3.out) (Kd.R_base ho0) hb); replace HO_5 := am_ (Kd.R_elder' (by exact HO_5.out) (Kd.R_base ho0) hb); replace HO119 := am_ (Kd.R_elder' (by exact HO119.out) (Kd.R_base ho0) hb); replace HB := am_ (below_step (by repeat (first | (with_reducible first | exact HB.out | apply below_alloc | apply pw_below_drewN | apply below_drew1) | exact HB.out)) hb); (try clear hb); (try clear hb2); (try clear hk); (try clear hi); (try clear ho0); obtain ⟨Ao62, co62, eo62⟩ := Kd.R_slice HO123.out; subst eo62) | ((with_reducible refine gate_callee (f := 30) rfl ?_); refine goesL_ (some 51) rfl rfl Try.func30 (by kernel_rfl) rfl #[.slice Ao62 t121.length co62, .int .i64 1] rfl (by simp only [List.map_toArray, List.map_cons, List.map_nil]; rfl) ?_; (with_reducible refine (impl_ShrinkRegion.calls _ _ t121 1 t124 _ ?side1 ?side2 A38.out).mono ?_); (case side1 => repeat (first | exact (Kd.R_reads' HO123.out).2.2 | (with_reducible refine Kd.C_alloc ?_ _) | (with_reducible refine Kd.C_drewN ?_ _) | (with_reducible refine Kd.C_drew ?_))); (case side2 => exact (Kd.R_reads' HO123.out).2.1); rintro e w63 ⟨v125, rfl, ho0, hb⟩; refine ⟨_, rfl, ?_⟩; have HO126 := am_ (Kd.R_lower (Kd.R_new' (Kd.R_new' (Kd.R_new' (Kd.R_new' ho0 (Kd.R_lt (by exact HO_3.out))) (Kd.R_lt (by exact HO_5.out))) (Kd.R_lt (by exact HO119.out))) (Kd.R_lt (by exact HO123.out))) (below_size (by repeat (first | (with_reducible first | exact HB.out | apply below_alloc | apply pw_below_drewN | apply below_drew1) | exact HB.out)))); replace HO_3 := am_ (Kd.R_elder' (by exact HO_3.out) (Kd.R_base ho0) hb); replace HO_5 := am_ (Kd.R_elder' (by exact HO_5.out) (Kd.R_base ho0) hb); replace HO119 := am_ (Kd.R_elder' (by exact HO119.out) (Kd.R_base ho0) hb); replace HO123 := am_ (Kd.R_elder' (by exact HO123.out) (Kd.R_base ho0) hb); replace HB := am_ (below_step (by repeat (first | (with_reducible first | exact HB.out | apply below_alloc | apply pw_below_drewN | apply below_drew1) | exact HB.out)) hb); (try clear hb); (try clear hb2); (try clear hk); (try clear hi); (try clear ho0); obtain ⟨Ao64, co64, eo64⟩ := Kd.R_slice HO_5.out; subst eo64) | (go_at_call 32; (with_reducible refine (impl_GrowRegion.calls _ _ t105 t102 t127 _ ?side1 ?side2 A40.out).mono ?_); (case side1 => repeat (first | exact (Kd.R_reads' HO_5.out).2.2 | (with_reducible refine Kd.C_alloc ?_ _) | (with_reducible refine Kd.C_drewN ?_ _) | (with_reducible refine Kd.C_drew ?_))); (case side2 => exact (Kd.R_reads' HO_5.out).2.1); rintro e w65 ⟨v128, rfl, ho0, hb⟩; have HO129 := am_ (Kd.R_lower (Kd.R_new' (Kd.R_new' (Kd.R_new' (Kd.R_new' (Kd.R_new' ho0 (Kd.R_lt (by exact HO_3.out))) (Kd.R_lt (by exact HO_5.out))) (Kd.R_lt (by exact HO119.out))) (Kd.R_lt (by exact HO123.out))) (Kd.R_lt (by exact HO126.out))) (below_size (by repeat (first | (with_reducible first | exact HB.out | apply below_alloc | apply pw_below_drewN | apply below_drew1) | exact HB.out)))); replace HO_3 := am_ (Kd.R_elder' (by exact HO_3.out) (Kd.R_base ho0) hb); replace HO_5 := am_ (Kd.R_elder' (by exact HO_5.out) (Kd.R_base ho0) hb); replace HO119 := am_ (Kd.R_elder' (by exact HO119.out) (Kd.R_base ho0) hb); replace HO123 := am_ (Kd.R_elder' (by exact HO123.out) (Kd.R_base ho0) hb); replace HO126 := am_ (Kd.R_elder' (by exact HO126.out) (Kd.R_base ho0) hb); replace HB := am_ (below_step (by repeat (first | (with_reducible first | exact HB.out | apply below_alloc | apply pw_below_drewN | apply below_drew1) | exact HB.out)) hb); (try clear hb); (try clear hb2); (try clear hk); (try clear hi); (try clear ho0); obtain ⟨Ao66, co66, eo66⟩ := Kd.R_slice HO129.out; subst eo66) | (go_at_call 19; (with_reducible refine (laws_combined.calls _ _ t127 _ _ t101 2 t130 _ ?side1 ?side2 ?side3 ?side4 A41.out).mono ?_); (case side1 => repeat (first | exact (Kd.R_reads' HO129.out).2.2 | (with_reducible refine Kd.C_alloc ?_ _) | (with_reducible refine Kd.C_drewN ?_ _) | (with_reducible refine Kd.C_drew ?_))); (case side2 => exact (Kd.R_reads' HO129.out).2.1); (case side3 => repeat (first | exact (Kd.R_reads' HO_3.out).2.2 | (with_reducible refine Kd.C_alloc ?_ _) | (with_reducible refine Kd.C_drewN ?_ _) | (with_reducible refine Kd.C_drew ?_))); (case side4 => exact (Kd.R_reads' HO_3.out).2.1); rintro e w67 ⟨v131, rfl, ho0, hb⟩; have HO132 := am_ (Kd.R_lower (Kd.R_new' (Kd.R_new' (Kd.R_new' (Kd.R_new' (Kd.R_new' (Kd.R_new' ho0 (Kd.R_lt (by exact HO_3.out))) (Kd.R_lt (by exact HO_5.out))) (Kd.R_lt (by exact HO119.out))) (Kd.R_lt (by exact HO123.out))) (Kd.R_lt (by exact HO126.out))) (Kd.R_lt (by exact HO129.out))) (below_size (by repeat (first | (with_reducible first | exact HB.out | apply below_alloc | apply pw_below_drewN | apply below_drew1) | exact HB.out)))); replace HO_3 := am_ (Kd.R_elder' (by exact HO_3.out) (Kd.R_base ho0) hb); replace HO_5 := am_ (Kd.R_elder' (by exact HO_5.out) (Kd.R_base ho0) hb); replace HO119 := am_ (Kd.R_elder' (by exact HO119.out) (Kd.R_base ho0) hb); replace HO123 := am_ (Kd.R_elder' (by exact HO123.out) (Kd.R_base ho0) hb); replace HO126 := am_ (Kd.R_elder' (by exact HO126.out) (Kd.R_base ho0) hb); replace HO129 := am_ (Kd.R_elder' (by exact HO129.out) (Kd.R_base ho0) hb); replace HB := am_ (below_step (by repeat (first | (with_reducible first | exact HB.out | apply below_alloc | apply pw_below_drewN | apply below_drew1) | exact HB.out)) hb); (try clear hb); (try clear hb2); (try clear hk); (try clear hi); (try clear ho0); obtain ⟨Ao68, co68, eo68⟩ := Kd.R_slice HO132.out; subst eo68))
   go_ret
   exact ⟨by first | rfl | (simp [errW_none, errW_some] <;> rfl) | (simp [*, errW_none, errW_some] <;> rfl), by repeat (first | (with_reducible first | exact HB.out | apply below_alloc | apply pw_below_drewN | apply below_drew1) | exact HB.out)⟩

/-- THE ONE PURE STATEMENT of laws_FnShrinkRegion: yours. -/
def laws_FnShrinkRegion.Pure : Prop := ∀ (l0 : List Int), l0.length ≤ maxLen → l0.length * 1 ≤ 140737488351232 → (∀ x ∈ l0, (Lit.int .u8 x).wf = true) → ∃ k, laws_FnShrinkRegion.f k l0 = some true
theorem laws_FnShrinkRegion.walk (P : laws_FnShrinkRegion.Pure) (a0 : Option Addr) (len0 cap0 : Nat) (z0 : List Int) (w : World) (w0 : (a0 = none ∧ len0 = 0 ∧ cap0 = 0 ∧ z0 = []) ∨ ∃ x, a0 = some x ∧ len0 ≤ cap0 ∧ cap0 ≤ maxLen ∧ z0.length = cap0 ∧ (∀ i, i < z0.length → w.cell? (x.add i) = some (.int .u8 (z0.getD i 0))) ∧ ∀ n ∈ z0, (Lit.int .u8 n).wf = true) (y0 : len0 * 1 ≤ 140737488351232) :
  Calls Try.prog 13 #[.slice a0 len0 cap0] w fun e w' => e = .returned (.bool true) ∧ Below w.heap.size w w' := by
 obtain ⟨l0, rfl, hr0, hm0, hw0, hc0⟩ := ReadsInt.ofRowC w0
 obtain ⟨k, h⟩ := P l0 hm0 y0 hw0
 refine (laws_FnShrinkRegion.calls k _ _ l0 true w (Kd.C_of_reads (d := (0 : Int)) (h1 := fun _ => rfl) hr0) hc0 h).mono ?_
 rintro e w' ⟨rfl, hd⟩
 exact ⟨rfl, hd⟩

end Go.Proofs.Ytllodpaghkohbaa.Print
