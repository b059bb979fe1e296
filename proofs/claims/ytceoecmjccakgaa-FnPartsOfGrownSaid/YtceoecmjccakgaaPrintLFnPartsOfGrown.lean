-- laid by hp.py (a program of this work over the kit's print), with contracts by hand for what the print does not take
import Derived.Test.YtceoecmjccakgaaPrint0
import Derived.Test.YtceoecmjccakgaaPrintHimplPartsOf
import Derived.Test.YtceoecmjccakgaaPrintHx0
import Derived.Test.YtceoecmjccakgaaPrintHx2
import Derived.Test.YtceoecmjccakgaaPrintR0x1
import Derived.Test.YtceoecmjccakgaaPrintR1x3
import Derived.Test.YtceoecmjccakgaaPrintR1x8
import Derived.Test.YtceoecmjccakgaaPrintR3x0
namespace Go.Proofs.Ytceoecmjccakgaa.Print
open Go.RowKit Go.Proofs.YtceoecmjccakgaaW.PrintWords Go.Proofs.YtceoecmjccakgaaW.PrintLast Go.Proofs.YtceoecmjccakgaaW.PrintMore
attribute [local go_sem] max2_int min2_int max_two min_two max_three min_three max_four min_four   -- for this text's walks alone
set_option linter.unusedVariables false
set_option linter.unusedSimpArgs false

/-! ### laws_FnPartsOfGrown: function 4 -/
mutual
def laws_FnPartsOfGrown.l0 : Nat → List (List (S45)) → Int → Option (Bool)
 | 0, _, _ => none
 | k + 1, x4, x5 => if x5 < (x4.length : Int) then (if 0 ≤ x5 then ((impl_GrowRegion.f (rd_L4 x4 x5) 1).bind fun t112 => (laws_FnPartsOfGrown.l1 k x4 x5 t112 0)) else (none)) else (some true)
def laws_FnPartsOfGrown.l1 : Nat → List (List (S45)) → Int → List (S45) → Int → Option (Bool)
 | 0, _, _, _, _ => none
 | k + 1, x4, x5, x6, x7 => if x7 < (x4.length : Int) then (if x5 = x7 then (laws_FnPartsOfGrown.l1 k x4 x5 x6 (wrap64 (x7 + 1))) else (if 0 ≤ x7 then ((laws_combined.f x6 (rd_L4 x4 x7) 1).bind fun t116 => (if (t116.length : Int) > 0 then (some false) else (laws_FnPartsOfGrown.l1 k x4 x5 x6 (wrap64 (x7 + 1))))) else (none))) else (laws_FnPartsOfGrown.l0 k x4 (wrap64 (x5 + 1)))
end
def laws_FnPartsOfGrown.f (k : Nat) (l0 : List Int) : Option (Bool) := if (l0.length : Int) > 1048576 then (some true) else ((spec_DrawPartsOf.f k l0).bind fun t101 => ((impl_PartsOf.f t101).bind fun t104 => ((spec_PartsOf.f k t101).bind fun t107 => ((laws_equalParts.f k t104 t107).bind fun t110 => (if t110 = true then (laws_FnPartsOfGrown.l0 k t104 0) else (some false))))))
theorem laws_FnPartsOfGrown.mono_l : ∀ k, (∀ y0 y1, LeO (laws_FnPartsOfGrown.l0 k y0 y1) (laws_FnPartsOfGrown.l0 (k + 1) y0 y1)) ∧ (∀ y0 y1 y2 y3, LeO (laws_FnPartsOfGrown.l1 k y0 y1 y2 y3) (laws_FnPartsOfGrown.l1 (k + 1) y0 y1 y2 y3))
 | 0 => ⟨fun _ _ r h => by simp [laws_FnPartsOfGrown.l0] at h, fun _ _ _ _ r h => by simp [laws_FnPartsOfGrown.l1] at h⟩
 | k + 1 => by
  obtain ⟨ih0, ih1⟩ := laws_FnPartsOfGrown.mono_l k
  refine ⟨?_, ?_⟩
  ·
   intro y0 y1
   unfold laws_FnPartsOfGrown.l0
   repeat' first
   | (with_reducible exact ih0 _ _)
   | (with_reducible exact ih1 _ _ _ _)
   | (with_reducible exact laws_equalParts.mono _ _ _)
   | (with_reducible exact spec_DrawPartsOf.mono _ _)
   | (with_reducible exact spec_PartsOf.mono _ _)
   | (with_reducible exact LeO.refl _)
   | (with_reducible exact LeO.none _)
   | (with_reducible refine LeO.ite ?_ ?_)
   | (with_reducible refine LeO.bind ?_ (fun _ => ?_))
   | exact ih0 _ _
   | exact ih1 _ _ _ _
   | exact laws_equalParts.mono _ _ _
   | exact spec_DrawPartsOf.mono _ _
   | exact spec_PartsOf.mono _ _
   | exact LeO.none _
   | refine LeO.ite ?_ ?_
   | refine LeO.bind ?_ (fun _ => ?_)
  intro y0 y1 y2 y3
  unfold laws_FnPartsOfGrown.l1
  repeat' first
  | (with_reducible exact ih0 _ _)
  | (with_reducible exact ih1 _ _ _ _)
  | (with_reducible exact laws_equalParts.mono _ _ _)
  | (with_reducible exact spec_DrawPartsOf.mono _ _)
  | (with_reducible exact spec_PartsOf.mono _ _)
  | (with_reducible exact LeO.refl _)
  | (with_reducible exact LeO.none _)
  | (with_reducible refine LeO.ite ?_ ?_)
  | (with_reducible refine LeO.bind ?_ (fun _ => ?_))
  | exact ih0 _ _
  | exact ih1 _ _ _ _
  | exact laws_equalParts.mono _ _ _
  | exact spec_DrawPartsOf.mono _ _
  | exact spec_PartsOf.mono _ _
  | exact LeO.none _
  | refine LeO.ite ?_ ?_
  | refine LeO.bind ?_ (fun _ => ?_)
theorem laws_FnPartsOfGrown.mono : ∀ a0 k, LeO (laws_FnPartsOfGrown.f k a0) (laws_FnPartsOfGrown.f (k + 1) a0) := by
 intro a0 k
 obtain ⟨ih0, ih1⟩ := laws_FnPartsOfGrown.mono_l k
 unfold laws_FnPartsOfGrown.f
 repeat' first
   | (with_reducible exact ih0 _ _)
   | (with_reducible exact ih1 _ _ _ _)
   | (with_reducible exact laws_equalParts.mono _ _ _)
   | (with_reducible exact spec_DrawPartsOf.mono _ _)
   | (with_reducible exact spec_PartsOf.mono _ _)
   | (with_reducible exact LeO.refl _)
   | (with_reducible exact LeO.none _)
   | (with_reducible refine LeO.ite ?_ ?_)
   | (with_reducible refine LeO.bind ?_ (fun _ => ?_))
   | exact ih0 _ _
   | exact ih1 _ _ _ _
   | exact laws_equalParts.mono _ _ _
   | exact spec_DrawPartsOf.mono _ _
   | exact spec_PartsOf.mono _ _
   | exact LeO.none _
   | refine LeO.ite ?_ ?_
   | refine LeO.bind ?_ (fun _ => ?_)
set_option maxHeartbeats 8000000 in
set_option maxRecDepth 100000 in
theorem laws_FnPartsOfGrown.calls (k : Nat) (A0 : Option Addr) (c0 : Nat) (l0 : List Int) (r : Bool) (w : World) (hr0 : Kd.C (Kd.int .u8) w A0 l0.length l0) (hc0 : l0.length ≤ c0) (h : laws_FnPartsOfGrown.f k l0 = some r) :
  Calls Try.prog 4 #[.slice A0 l0.length c0] w fun e w' => e = .returned (.bool r) ∧ Below w.heap.size w w' := by
 have HR0 := Aside0.mk hr0
 have HC0 := Aside0.mk hc0
 clear hr0 hc0
 have HB := Aside0.mk (Below.refl w.heap.size w)
 have H : (if (l0.length : Int) > 1048576 then (some true) else ((spec_DrawPartsOf.f k l0).bind fun t101 => ((impl_PartsOf.f t101).bind fun t104 => ((spec_PartsOf.f k t101).bind fun t107 => ((laws_equalParts.f k t104 t107).bind fun t110 => (if t110 = true then (laws_FnPartsOfGrown.l0 k t104 0) else (some false))))))) = some r := h
 clear h
 by_cases c2 : (l0.length : Int) > 1048576
 ·
  rw [if_pos c2] at H
  have c2b0 : decide (1048576 < (l0.length : Int)) = true := decide_eq_true c2
  have c2b1 : decide (1048576 < l0.length) = true := decide_eq_true (by omega)
  clear c2
  obtain rfl := Option.some.inj H
  go_enter Try.func4, Try.ntmps4
  go_wp2
  go_ret
  exact ⟨by first | rfl | (simp [errW_none, errW_some] <;> rfl) | (simp [*, errW_none, errW_some] <;> rfl), by repeat (first | (with_reducible first | exact HB.out | apply below_alloc | apply pw_below_drewN | apply below_drew1) | exact HB.out)⟩
 rw [if_neg c2] at H
 have c2b0 : decide (1048576 < (l0.length : Int)) = false := decide_eq_false c2
 have c2b1 : decide (1048576 < l0.length) = false := decide_eq_false (by omega)
 clear c2
 replace H := Option.bind_eq_some_iff.mp H
 obtain ⟨t101, A30, H⟩ := H
 replace H : ((impl_PartsOf.f t101).bind fun t104 => ((spec_PartsOf.f k t101).bind fun t107 => ((laws_equalParts.f k t104 t107).bind fun t110 => (if t110 = true then (laws_FnPartsOfGrown.l0 k t104 0) else (some false))))) = some r := H
 have A3 := Aside0.mk A30
 clear A30
 replace H := Option.bind_eq_some_iff.mp H
 obtain ⟨t104, A40, H⟩ := H
 replace H : ((spec_PartsOf.f k t101).bind fun t107 => ((laws_equalParts.f k t104 t107).bind fun t110 => (if t110 = true then (laws_FnPartsOfGrown.l0 k t104 0) else (some false)))) = some r := H
 have A4 := Aside0.mk A40
 clear A40
 replace H := Option.bind_eq_some_iff.mp H
 obtain ⟨t107, A50, H⟩ := H
 replace H : ((laws_equalParts.f k t104 t107).bind fun t110 => (if t110 = true then (laws_FnPartsOfGrown.l0 k t104 0) else (some false))) = some r := H
 have A5 := Aside0.mk A50
 clear A50
 replace H := Option.bind_eq_some_iff.mp H
 obtain ⟨t110, A60, H⟩ := H
 replace H : (if t110 = true then (laws_FnPartsOfGrown.l0 k t104 0) else (some false)) = some r := H
 have A6 := Aside0.mk A60
 clear A60
 by_cases c7 : t110 = true
 rotate_left
 ·
  replace c7 := Bool.eq_false_iff.mpr c7
  subst c7
  have H1 : (some false) = some r := by rw [if_neg (show ¬ (false = true) by decide)] at H; exact H
  clear H
  have H := H1
  clear H1
  obtain rfl := Option.some.inj H
  go_enter Try.func4, Try.ntmps4
  go_wp2_with (first | ((with_reducible refine gate_callee (f := 7) rfl ?_); refine goesL_ (some 12) rfl rfl Try.func7 (by kernel_rfl) rfl #[.slice A0 l0.length c0] rfl (by simp only [List.map_toArray, List.map_cons, List.map_nil]; rfl) ?_; (with_reducible refine (spec_DrawPartsOf.calls k _ _ l0 t101 _ ?side1 ?side2 A3.out).mono ?_); (case side1 => repeat (first | exact HR0.out | (with_reducible refine Kd.C_alloc ?_ _) | (with_reducible refine Kd.C_drewN ?_ _) | (with_reducible refine Kd.C_drew ?_))); (case side2 => exact HC0.out); rintro e w29 ⟨v102, rfl, ho0, hb⟩; refine ⟨_, rfl, ?_⟩; have HO103 := am_ (Kd.R_lower ho0 (below_size (by repeat (first | (with_reducible first | exact HB.out | apply below_alloc | apply pw_below_drewN | apply below_drew1) | exact HB.out)))); replace HB := am_ (below_step (by repeat (first | (with_reducible first | exact HB.out | apply below_alloc | apply pw_below_drewN | apply below_drew1) | exact HB.out)) hb); (try clear hb); (try clear hb2); (try clear hk); (try clear hi); (try clear ho0); obtain ⟨Ao30, co30, eo30⟩ := Kd.R_slice HO103.out; subst eo30) | ((with_reducible refine gate_callee (f := 8) rfl ?_); refine goesL_ (some 14) rfl rfl Try.func8 (by kernel_rfl) rfl #[.slice Ao30 t101.length co30] rfl (by simp only [List.map_toArray, List.map_cons, List.map_nil]; rfl) ?_; (with_reducible refine (impl_PartsOf.calls _ _ t101 t104 _ ?side1 ?side2 A4.out).mono ?_); (case side1 => repeat (first | exact (Kd.R_reads' HO103.out).2.2 | (with_reducible refine Kd.C_alloc ?_ _) | (with_reducible refine Kd.C_drewN ?_ _) | (with_reducible refine Kd.C_drew ?_))); (case side2 => exact (Kd.R_reads' HO103.out).2.1); rintro e w31 ⟨v105, rfl, ho0, hb⟩; refine ⟨_, rfl, ?_⟩; have HO106 := am_ (Kd.S_lower (Kd.S_new' ho0 (Kd.R_lt (by exact HO103.out))) (below_size (by repeat (first | (with_reducible first | exact HB.out | apply below_alloc | apply pw_below_drewN | apply below_drew1) | exact HB.out)))); replace HO103 := am_ (Kd.R_below (by exact HO103.out) hb); replace HB := am_ (below_step (by repeat (first | (with_reducible first | exact HB.out | apply below_alloc | apply pw_below_drewN | apply below_drew1) | exact HB.out)) hb); (try clear hb); (try clear hb2); (try clear hk); (try clear hi); (try clear ho0)) | ((with_reducible refine gate_callee (f := 10) rfl ?_); refine goesL_ (some 17) rfl rfl Try.func10 (by kernel_rfl) rfl #[.slice Ao30 t101.length co30] rfl (by simp only [List.map_toArray, List.map_cons, List.map_nil]; rfl) ?_; (with_reducible refine (spec_PartsOf.calls k _ _ t101 t107 _ ?side1 ?side2 A5.out).mono ?_); (case side1 => repeat (first | exact (Kd.R_reads' HO103.out).2.2 | (with_reducible refine Kd.C_alloc ?_ _) | (with_reducible refine Kd.C_drewN ?_ _) | (with_reducible refine Kd.C_drew ?_))); (case side2 => exact (Kd.R_reads' HO103.out).2.1); rintro e w32 ⟨v108, rfl, ho0, hb⟩; refine ⟨_, rfl, ?_⟩; have HO109 := am_ (Kd.S_lower (Kd.S_new' (Kd.S_new' ho0 (Kd.R_lt (by exact HO103.out))) (Kd.S_lt (by exact HO106.out))) (below_size (by repeat (first | (with_reducible first | exact HB.out | apply below_alloc | apply pw_below_drewN | apply below_drew1) | exact HB.out)))); replace HO103 := am_ (Kd.R_below (by exact HO103.out) hb); replace HO106 := am_ (Kd.S_elder' (by exact HO106.out) (Kd.S_base ho0) hb); replace HB := am_ (below_step (by repeat (first | (with_reducible first | exact HB.out | apply below_alloc | apply pw_below_drewN | apply below_drew1) | exact HB.out)) hb); (try clear hb); (try clear hb2); (try clear hk); (try clear hi); (try clear ho0); obtain ⟨Ao33, co33, eo33⟩ := Kd.S_slice HO106.out; subst eo33; obtain ⟨Ao34, co34, eo34⟩ := Kd.S_slice HO109.out; subst eo34) | ((with_reducible refine gate_callee (f := 9) rfl ?_); refine goesL_ (some 18) rfl rfl Try.func9 (by kernel_rfl) rfl #[.slice Ao33 t104.length co33, .slice Ao34 t107.length co34] rfl (by simp only [List.map_toArray, List.map_cons, List.map_nil]; rfl) ?_; (with_reducible refine (laws_equalParts.calls k _ _ t104 _ _ t107 false _ ?side1 ?side2 ?side3 ?side4 A6.out).mono ?_); (case side1 => repeat (first | exact (Kd.S_reads' HO106.out).2.2 | (with_reducible refine Kd.C_alloc ?_ _) | (with_reducible refine Kd.C_drewN ?_ _) | (with_reducible refine Kd.C_drew ?_))); (case side2 => exact (Kd.S_reads' HO106.out).2.1); (case side3 => repeat (first | exact (Kd.S_reads' HO109.out).2.2 | (with_reducible refine Kd.C_alloc ?_ _) | (with_reducible refine Kd.C_drewN ?_ _) | (with_reducible refine Kd.C_drew ?_))); (case side4 => exact (Kd.S_reads' HO109.out).2.1); rintro e w' ⟨rfl, ⟨nd, rfl⟩⟩; refine ⟨_, rfl, ?_⟩))
  go_ret
  exact ⟨by first | rfl | (simp [errW_none, errW_some] <;> rfl) | (simp [*, errW_none, errW_some] <;> rfl), by repeat (first | (with_reducible first | exact HB.out | apply below_alloc | apply pw_below_drewN | apply below_drew1) | exact HB.out)⟩
 subst c7
 have H1 : (laws_FnPartsOfGrown.l0 k t104 0) = some r := by rw [if_pos rfl] at H; exact H
 clear H
 have H := H1
 clear H1
 have H' := Aside0.mk H
 clear H
 go_enter Try.func4, Try.ntmps4
 go_wp2_with (first | ((with_reducible refine gate_callee (f := 7) rfl ?_); refine goesL_ (some 12) rfl rfl Try.func7 (by kernel_rfl) rfl #[.slice A0 l0.length c0] rfl (by simp only [List.map_toArray, List.map_cons, List.map_nil]; rfl) ?_; (with_reducible refine (spec_DrawPartsOf.calls k _ _ l0 t101 _ ?side1 ?side2 A3.out).mono ?_); (case side1 => repeat (first | exact HR0.out | (with_reducible refine Kd.C_alloc ?_ _) | (with_reducible refine Kd.C_drewN ?_ _) | (with_reducible refine Kd.C_drew ?_))); (case side2 => exact HC0.out); rintro e w8 ⟨v102, rfl, ho0, hb⟩; refine ⟨_, rfl, ?_⟩; have HO103 := am_ (Kd.R_lower ho0 (below_size (by repeat (first | (with_reducible first | exact HB.out | apply below_alloc | apply pw_below_drewN | apply below_drew1) | exact HB.out)))); replace HB := am_ (below_step (by repeat (first | (with_reducible first | exact HB.out | apply below_alloc | apply pw_below_drewN | apply below_drew1) | exact HB.out)) hb); (try clear hb); (try clear hb2); (try clear hk); (try clear hi); (try clear ho0); obtain ⟨Ao9, co9, eo9⟩ := Kd.R_slice HO103.out; subst eo9) | ((with_reducible refine gate_callee (f := 8) rfl ?_); refine goesL_ (some 14) rfl rfl Try.func8 (by kernel_rfl) rfl #[.slice Ao9 t101.length co9] rfl (by simp only [List.map_toArray, List.map_cons, List.map_nil]; rfl) ?_; (with_reducible refine (impl_PartsOf.calls _ _ t101 t104 _ ?side1 ?side2 A4.out).mono ?_); (case side1 => repeat (first | exact (Kd.R_reads' HO103.out).2.2 | (with_reducible refine Kd.C_alloc ?_ _) | (with_reducible refine Kd.C_drewN ?_ _) | (with_reducible refine Kd.C_drew ?_))); (case side2 => exact (Kd.R_reads' HO103.out).2.1); rintro e w10 ⟨v105, rfl, ho0, hb⟩; refine ⟨_, rfl, ?_⟩; have HO106 := am_ (Kd.S_lower (Kd.S_new' ho0 (Kd.R_lt (by exact HO103.out))) (below_size (by repeat (first | (with_reducible first | exact HB.out | apply below_alloc | apply pw_below_drewN | apply below_drew1) | exact HB.out)))); replace HO103 := am_ (Kd.R_below (by exact HO103.out) hb); replace HB := am_ (below_step (by repeat (first | (with_reducible first | exact HB.out | apply below_alloc | apply pw_below_drewN | apply below_drew1) | exact HB.out)) hb); (try clear hb); (try clear hb2); (try clear hk); (try clear hi); (try clear ho0)) | ((with_reducible refine gate_callee (f := 10) rfl ?_); refine goesL_ (some 17) rfl rfl Try.func10 (by kernel_rfl) rfl #[.slice Ao9 t101.length co9] rfl (by simp only [List.map_toArray, List.map_cons, List.map_nil]; rfl) ?_; (with_reducible refine (spec_PartsOf.calls k _ _ t101 t107 _ ?side1 ?side2 A5.out).mono ?_); (case side1 => repeat (first | exact (Kd.R_reads' HO103.out).2.2 | (with_reducible refine Kd.C_alloc ?_ _) | (with_reducible refine Kd.C_drewN ?_ _) | (with_reducible refine Kd.C_drew ?_))); (case side2 => exact (Kd.R_reads' HO103.out).2.1); rintro e w11 ⟨v108, rfl, ho0, hb⟩; refine ⟨_, rfl, ?_⟩; have HO109 := am_ (Kd.S_lower (Kd.S_new' (Kd.S_new' ho0 (Kd.R_lt (by exact HO103.out))) (Kd.S_lt (by exact HO106.out))) (below_size (by repeat (first | (with_reducible first | exact HB.out | apply below_alloc | apply pw_below_drewN | apply below_drew1) | exact HB.out)))); replace HO103 := am_ (Kd.R_below (by exact HO103.out) hb); replace HO106 := am_ (Kd.S_elder' (by exact HO106.out) (Kd.S_base ho0) hb); replace HB := am_ (below_step (by repeat (first | (with_reducible first | exact HB.out | apply below_alloc | apply pw_below_drewN | apply below_drew1) | exact HB.out)) hb); (try clear hb); (try clear hb2); (try clear hk); (try clear hi); (try clear ho0); obtain ⟨Ao12, co12, eo12⟩ := Kd.S_slice HO106.out; subst eo12; obtain ⟨Ao13, co13, eo13⟩ := Kd.S_slice HO109.out; subst eo13) | ((with_reducible refine gate_callee (f := 9) rfl ?_); refine goesL_ (some 18) rfl rfl Try.func9 (by kernel_rfl) rfl #[.slice Ao12 t104.length co12, .slice Ao13 t107.length co13] rfl (by simp only [List.map_toArray, List.map_cons, List.map_nil]; rfl) ?_; (with_reducible refine (laws_equalParts.calls k _ _ t104 _ _ t107 true _ ?side1 ?side2 ?side3 ?side4 A6.out).mono ?_); (case side1 => repeat (first | exact (Kd.S_reads' HO106.out).2.2 | (with_reducible refine Kd.C_alloc ?_ _) | (with_reducible refine Kd.C_drewN ?_ _) | (with_reducible refine Kd.C_drew ?_))); (case side2 => exact (Kd.S_reads' HO106.out).2.1); (case side3 => repeat (first | exact (Kd.S_reads' HO109.out).2.2 | (with_reducible refine Kd.C_alloc ?_ _) | (with_reducible refine Kd.C_drewN ?_ _) | (with_reducible refine Kd.C_drew ?_))); (case side4 => exact (Kd.S_reads' HO109.out).2.1); rintro e w' ⟨rfl, ⟨nd, rfl⟩⟩; refine ⟨_, rfl, ?_⟩))
 go_loopg [5] k (fun kq v5 w' => ∃ (x5_1 : Int), v5 = .int .i64 x5_1 ∧ Aside0 (laws_FnPartsOfGrown.l0 kq t104 x5_1 = some r) ∧ Aside0 (kq ≤ k) ∧ Aside0 (Kd.S (Kd.slice 45 k45) 23 w' w.heap.size (fun _ => True) (.slice Ao12 t104.length co12) t104) ∧ Aside0 (Below w.heap.size w w'))
 case atStart => exact ⟨(0), (by first | rfl | (simp; done) | (simp [*]; done)), H', ⟨Nat.le_refl _⟩, ⟨by exact Kd.S_mono HO106.out (fun _ hk => trivial)⟩, ⟨by repeat (first | (with_reducible first | exact HB.out | apply below_alloc | apply pw_below_drewN | apply below_drew1) | exact HB.out)⟩⟩
 case round =>
  clear H'
  try clear c1
  try clear c2
  try clear c2b0
  try clear c2b1
  try clear p2
  try clear c4
  try clear c7
  try clear c8
  try clear c9
  try clear c10
  obtain ⟨x5_1, rfl, HA, HK1, HO_4, HB⟩ := hrel
  cases gk with
  | zero => exact absurd HA.out (by simp [laws_FnPartsOfGrown.l0])
  | succ k1 =>
   have H := HA.out
   clear HA
   simp only [laws_FnPartsOfGrown.l0] at H
   by_cases c14 : x5_1 < (t104.length : Int)
   rotate_left
   ·
    rw [if_neg c14] at H
    have c14b0 : decide (x5_1 < (t104.length : Int)) = false := decide_eq_false c14
    clear c14
    obtain rfl := Option.some.inj H
    go_wp2
    go_ret
    exact ⟨by first | rfl | (simp [errW_none, errW_some] <;> rfl) | (simp [*, errW_none, errW_some] <;> rfl), by repeat (first | (with_reducible first | exact HB.out | apply below_alloc | apply pw_below_drewN | apply below_drew1) | exact HB.out)⟩
   rw [if_pos c14] at H
   have c14b0 : decide (x5_1 < (t104.length : Int)) = true := decide_eq_true c14
   clear c14
   by_cases c15 : 0 ≤ x5_1
   rotate_left
   ·
    rw [if_neg c15] at H
    exact absurd H (by simp)
   rw [if_pos c15] at H
   have c15b0 : decide (0 ≤ x5_1) = true := decide_eq_true c15
   clear c15
   replace H := Option.bind_eq_some_iff.mp H
   obtain ⟨t112, A160, H⟩ := H
   replace H : (laws_FnPartsOfGrown.l1 k1 t104 x5_1 t112 0) = some r := H
   have A16 := Aside0.mk A160
   clear A160
   have H' := Aside0.mk H
   clear H
   have p111 : 0 ≤ (x5_1 : Int) := of_decide_eq_true (by first | with_reducible assumption | assumption)
   have q111 : x5_1 < (t104.length : Int) := of_decide_eq_true (by first | with_reducible assumption | assumption)
   obtain ⟨ad111, A111_0, c111_0, e111, hx111_0, hl111_0, hi111_0⟩ := at_L4 (Kd.S_reads' HO_4.out).2.2 x5_1 p111 q111
   cases e111
   obtain ⟨ce111, hce111, hMe111, hcc111⟩ := Kd.S_get HO_4.out [] x5_1 p111 (by first | exact q111 | exact of_decide_eq_true (by first | with_reducible assumption | assumption) | (have e_ := (Kd.S_reads' HO_4.out).1; omega))
   obtain ⟨ve111_0, rfl, ge111_0⟩ := hMe111
   have hv111_0 := hcc111 0 _ rfl
   rw [Nat.add_zero, show ((Kd.slice 45 k45)).sz = 1 from rfl, Nat.mul_one] at hv111_0
   replace hv111_0 := Option.some.inj (hv111_0.symm.trans hx111_0)
   rw [hv111_0] at ge111_0
   have HL111_0 := Aside0.mk (show Kd.R k45 45 _ _ _ _ (rd_L4 t104 x5_1) from ge111_0)
   clear hv111_0 ge111_0
   clear hcc111 hce111
   have HR111_0 := Aside0.mk hi111_0
   have HC111_0 := Aside0.mk hl111_0
   clear hi111_0 hl111_0
   replace p111 := eq_true p111
   replace q111 := eq_true q111
   go_wp2_with (first | ((with_reducible refine gate_callee (f := 14) rfl ?_); refine goesL_ (some 30) rfl rfl Try.func14 (by kernel_rfl) rfl #[.slice A111_0 (rd_L4 t104 x5_1).length c111_0, .int .i64 1] rfl (by simp only [List.map_toArray, List.map_cons, List.map_nil]; rfl) ?_; (with_reducible refine (impl_GrowRegion.calls _ _ (rd_L4 t104 x5_1) 1 t112 _ ?side1 ?side2 A16.out).mono ?_); (case side1 => repeat (first | exact (by repeat (first | (with_reducible exact HR111_0.out) | (with_reducible refine Kd.C_alloc ?_ _) | (with_reducible refine Kd.C_drewN ?_ _) | (with_reducible refine Kd.C_drew ?_) | exact HR111_0.out)) | (with_reducible refine Kd.C_alloc ?_ _) | (with_reducible refine Kd.C_drewN ?_ _) | (with_reducible refine Kd.C_drew ?_))); (case side2 => exact HC111_0.out); rintro e w17 ⟨v113, rfl, ho0, hb⟩; refine ⟨_, rfl, ?_⟩; replace HO_4 := am_ (Kd.S_elder' (by exact HO_4.out) (Kd.R_base ho0) hb); have HO114 := am_ (Kd.R_lower (Kd.R_new' ho0 (Kd.R_lt (by exact HL111_0.out))) (below_size (by repeat (first | (with_reducible first | exact HB.out | apply below_alloc | apply pw_below_drewN | apply below_drew1) | exact HB.out)))); replace HL111_0 := am_ (Kd.R_elder' (by exact HL111_0.out) (Kd.R_base ho0) hb); replace HR111_0 := am_ (Kd.C_below (by repeat (first | (with_reducible exact HR111_0.out) | (with_reducible refine Kd.C_alloc ?_ _) | (with_reducible refine Kd.C_drewN ?_ _) | (with_reducible refine Kd.C_drew ?_) | exact HR111_0.out)) hb); replace HB := am_ (below_step (by repeat (first | (with_reducible first | exact HB.out | apply below_alloc | apply pw_below_drewN | apply below_drew1) | exact HB.out)) hb); (try clear hb); (try clear hb2); (try clear hk); (try clear hi); (try clear ho0)))
   go_loopg [7] k1 (fun kq v7 w' => ∃ (x7_2 : Int), v7 = .int .i64 x7_2 ∧ Aside0 (laws_FnPartsOfGrown.l1 kq t104 x5_1 t112 x7_2 = some r) ∧ Aside0 (kq ≤ k1) ∧ Aside0 (Kd.S (Kd.slice 45 k45) 23 w' w.heap.size (fun k_ => some k_ ≠ (v113 : Value).ownBlock) (.slice (some ad111) t104.length co12) t104) ∧ Aside0 (Kd.R k45 45 w' w.heap.size (fun _ => True) v113 t112) ∧ Aside0 (Kd.C k45 w' A111_0 (rd_L4 t104 x5_1).length (rd_L4 t104 x5_1)) ∧ Aside0 (Below w.heap.size w w'))
   case atStart => exact ⟨(0), (by first | rfl | (simp; done) | (simp [*]; done)), H', ⟨Nat.le_refl _⟩, ⟨by exact Kd.S_mono HO_4.out (fun _ hk => hk.2)⟩, ⟨by exact Kd.R_mono HO114.out (fun _ hk => trivial)⟩, ⟨by repeat (first | (with_reducible exact HR111_0.out) | (with_reducible refine Kd.C_alloc ?_ _) | (with_reducible refine Kd.C_drewN ?_ _) | (with_reducible refine Kd.C_drew ?_) | exact HR111_0.out)⟩, ⟨by repeat (first | (with_reducible first | exact HB.out | apply below_alloc | apply pw_below_drewN | apply below_drew1) | exact HB.out)⟩⟩
   case round =>
    clear H'
    try clear c1
    try clear p1
    try clear q1
    try clear hx1
    try clear c2
    try clear c2b0
    try clear c2b1
    try clear p2
    try clear c4
    try clear c7
    try clear c8
    try clear c9
    try clear c10
    try clear c11
    try clear p11
    try clear q11
    try clear hx11
    try clear c14
    try clear c14b0
    try clear c15
    try clear c15b0
    try clear hx111_0
    try clear p111
    try clear p2
    try clear q111
    obtain ⟨x7_2, rfl, HA, HK2, HO_4, HO_6, HR111_0, HB⟩ := hrel
    cases gk with
    | zero => exact absurd HA.out (by simp [laws_FnPartsOfGrown.l1])
    | succ k2 =>
     have H := HA.out
     clear HA
     simp only [laws_FnPartsOfGrown.l1] at H
     by_cases c18 : x7_2 < (t104.length : Int)
     rotate_left
     ·
      rw [if_neg c18] at H
      have c18b0 : decide (x7_2 < (t104.length : Int)) = false := decide_eq_false c18
      clear c18
      have H' := Aside0.mk H
      clear H
      go_wp2
      go_roundg k2
      case measure => have := HK1.out; have := HK2.out; omega
      case rel => exact ⟨(wrap64 (x5_1 + 1)), (by first | rfl | (simp; done) | (simp [*]; done)), H', ⟨by have := HK1.out; have := HK2.out; omega⟩, ⟨by exact Kd.S_mono HO_4.out (fun _ hk => trivial)⟩, ⟨by repeat (first | (with_reducible first | exact HB.out | apply below_alloc | apply pw_below_drewN | apply below_drew1) | exact HB.out)⟩⟩
     rw [if_pos c18] at H
     have c18b0 : decide (x7_2 < (t104.length : Int)) = true := decide_eq_true c18
     clear c18
     by_cases c19 : x5_1 = x7_2
     ·
      rw [if_pos c19] at H
      have c19b0 : (x5_1 == x7_2) = true := beq_iff_eq.mpr c19
      have c19b1 : (x5_1 != x7_2) = false := bne_eq_false_iff_eq.mpr c19
      clear c19
      have H' := Aside0.mk H
      clear H
      go_wp2
      go_roundg k2
      case measure => have := HK1.out; have := HK2.out; omega
      case rel => exact ⟨(wrap64 (x7_2 + 1)), (by first | rfl | (simp; done) | (simp [*]; done)), H', ⟨by have := HK1.out; have := HK2.out; omega⟩, ⟨by exact HO_4.out⟩, ⟨by exact HO_6.out⟩, ⟨by repeat (first | (with_reducible exact HR111_0.out) | (with_reducible refine Kd.C_alloc ?_ _) | (with_reducible refine Kd.C_drewN ?_ _) | (with_reducible refine Kd.C_drew ?_) | exact HR111_0.out)⟩, ⟨by repeat (first | (with_reducible first | exact HB.out | apply below_alloc | apply pw_below_drewN | apply below_drew1) | exact HB.out)⟩⟩
     rw [if_neg c19] at H
     have c19b0 : (x5_1 == x7_2) = false := beq_eq_false_iff_ne.mpr c19
     have c19b1 : (x5_1 != x7_2) = true := bne_iff_ne.mpr c19
     by_cases c20 : 0 ≤ x7_2
     rotate_left
     ·
      rw [if_neg c20] at H
      exact absurd H (by simp)
     rw [if_pos c20] at H
     have c20b0 : decide (0 ≤ x7_2) = true := decide_eq_true c20
     clear c20
     replace H := Option.bind_eq_some_iff.mp H
     obtain ⟨t116, A210, H⟩ := H
     replace H : (if (t116.length : Int) > 0 then (some false) else (laws_FnPartsOfGrown.l1 k2 t104 x5_1 t112 (wrap64 (x7_2 + 1)))) = some r := H
     have A21 := Aside0.mk A210
     clear A210
     by_cases c22 : (t116.length : Int) > 0
     ·
      rw [if_pos c22] at H
      have c22b0 : decide (0 < (t116.length : Int)) = true := decide_eq_true c22
      have c22b1 : decide (0 < t116.length) = true := decide_eq_true (by omega)
      clear c22
      obtain rfl := Option.some.inj H
      have p115 : 0 ≤ (x7_2 : Int) := of_decide_eq_true (by first | with_reducible assumption | assumption)
      have q115 : x7_2 < (t104.length : Int) := of_decide_eq_true (by first | with_reducible assumption | assumption)
      obtain ⟨ad115, A115_0, c115_0, e115, hx115_0, hl115_0, hi115_0⟩ := at_L4 (Kd.S_reads' HO_4.out).2.2 x7_2 p115 q115
      obtain rfl : ad111 = ad115 := (by injection e115)
      obtain ⟨ce115, hce115, hMe115, hcc115⟩ := Kd.S_get HO_4.out [] x7_2 p115 (by first | exact q115 | exact of_decide_eq_true (by first | with_reducible assumption | assumption) | (have e_ := (Kd.S_reads' HO_4.out).1; omega))
      obtain ⟨ve115_0, rfl, ge115_0⟩ := hMe115
      have hv115_0 := hcc115 0 _ rfl
      rw [Nat.add_zero, show ((Kd.slice 45 k45)).sz = 1 from rfl, Nat.mul_one] at hv115_0
      replace hv115_0 := Option.some.inj (hv115_0.symm.trans hx115_0)
      rw [hv115_0] at ge115_0
      have HL115_0 := Aside0.mk (show Kd.R k45 45 _ _ _ _ (rd_L4 t104 x7_2) from ge115_0)
      clear hv115_0 ge115_0
      clear hcc115 hce115
      have HR115_0 := Aside0.mk hi115_0
      have HC115_0 := Aside0.mk hl115_0
      clear hi115_0 hl115_0
      replace p115 := eq_true p115
      replace q115 := eq_true q115
      obtain ⟨Ao23, co23, eo23⟩ := Kd.R_slice HO_6.out
      subst eo23
      go_wp2_with (first | (go_at_call 12; (with_reducible refine (laws_combined.calls _ _ t112 _ _ (rd_L4 t104 x7_2) 1 t116 _ ?side1 ?side2 ?side3 ?side4 A21.out).mono ?_); (case side1 => repeat (first | exact (Kd.R_reads' HO_6.out).2.2 | (with_reducible refine Kd.C_alloc ?_ _) | (with_reducible refine Kd.C_drewN ?_ _) | (with_reducible refine Kd.C_drew ?_))); (case side2 => exact (Kd.R_reads' HO_6.out).2.1); (case side3 => repeat (first | exact (by repeat (first | (with_reducible exact HR115_0.out) | (with_reducible refine Kd.C_alloc ?_ _) | (with_reducible refine Kd.C_drewN ?_ _) | (with_reducible refine Kd.C_drew ?_) | exact HR115_0.out)) | (with_reducible refine Kd.C_alloc ?_ _) | (with_reducible refine Kd.C_drewN ?_ _) | (with_reducible refine Kd.C_drew ?_))); (case side4 => exact HC115_0.out); rintro e w24 ⟨v117, rfl, ho0, hb⟩; replace HO_4 := am_ (Kd.S_elder' (by exact HO_4.out) (Kd.R_base ho0) hb); have HO118 := am_ (Kd.R_lower (Kd.R_new' (Kd.R_new' ho0 (Kd.R_lt (by exact HO_6.out))) (Kd.R_lt (by exact HL115_0.out))) (below_size (by repeat (first | (with_reducible first | exact HB.out | apply below_alloc | apply pw_below_drewN | apply below_drew1) | exact HB.out)))); replace HO_6 := am_ (Kd.R_elder' (by exact HO_6.out) (Kd.R_base ho0) hb); replace HL115_0 := am_ (Kd.R_elder' (by exact HL115_0.out) (Kd.R_base ho0) hb); replace HR111_0 := am_ (Kd.C_below (by repeat (first | (with_reducible exact HR111_0.out) | (with_reducible refine Kd.C_alloc ?_ _) | (with_reducible refine Kd.C_drewN ?_ _) | (with_reducible refine Kd.C_drew ?_) | exact HR111_0.out)) hb); replace HR115_0 := am_ (Kd.C_below (by repeat (first | (with_reducible exact HR115_0.out) | (with_reducible refine Kd.C_alloc ?_ _) | (with_reducible refine Kd.C_drewN ?_ _) | (with_reducible refine Kd.C_drew ?_) | exact HR115_0.out)) hb); replace HB := am_ (below_step (by repeat (first | (with_reducible first | exact HB.out | apply below_alloc | apply pw_below_drewN | apply below_drew1) | exact HB.out)) hb); (try clear hb); (try clear hb2); (try clear hk); (try clear hi); (try clear ho0); obtain ⟨Ao25, co25, eo25⟩ := Kd.R_slice HO118.out; subst eo25))
      go_ret
      exact ⟨by first | rfl | (simp [errW_none, errW_some] <;> rfl) | (simp [*, errW_none, errW_some] <;> rfl), by repeat (first | (with_reducible first | exact HB.out | apply below_alloc | apply pw_below_drewN | apply below_drew1) | exact HB.out)⟩
     rw [if_neg c22] at H
     have c22b0 : decide (0 < (t116.length : Int)) = false := decide_eq_false c22
     have c22b1 : decide (0 < t116.length) = false := decide_eq_false (by omega)
     clear c22
     have H' := Aside0.mk H
     clear H
     have p115 : 0 ≤ (x7_2 : Int) := of_decide_eq_true (by first | with_reducible assumption | assumption)
     have q115 : x7_2 < (t104.length : Int) := of_decide_eq_true (by first | with_reducible assumption | assumption)
     obtain ⟨ad115, A115_0, c115_0, e115, hx115_0, hl115_0, hi115_0⟩ := at_L4 (Kd.S_reads' HO_4.out).2.2 x7_2 p115 q115
     obtain rfl : ad111 = ad115 := (by injection e115)
     obtain ⟨ce115, hce115, hMe115, hcc115⟩ := Kd.S_get HO_4.out [] x7_2 p115 (by first | exact q115 | exact of_decide_eq_true (by first | with_reducible assumption | assumption) | (have e_ := (Kd.S_reads' HO_4.out).1; omega))
     obtain ⟨ve115_0, rfl, ge115_0⟩ := hMe115
     have hv115_0 := hcc115 0 _ rfl
     rw [Nat.add_zero, show ((Kd.slice 45 k45)).sz = 1 from rfl, Nat.mul_one] at hv115_0
     replace hv115_0 := Option.some.inj (hv115_0.symm.trans hx115_0)
     rw [hv115_0] at ge115_0
     have HL115_0 := Aside0.mk (show Kd.R k45 45 _ _ _ _ (rd_L4 t104 x7_2) from ge115_0)
     clear hv115_0 ge115_0
     clear hcc115 hce115
     have HR115_0 := Aside0.mk hi115_0
     have HC115_0 := Aside0.mk hl115_0
     clear hi115_0 hl115_0
     replace p115 := eq_true p115
     replace q115 := eq_true q115
     obtain ⟨Ao26, co26, eo26⟩ := Kd.R_slice HO_6.out
     subst eo26
     go_wp2_with (first | (go_at_call 12; (with_reducible refine (laws_combined.calls _ _ t112 _ _ (rd_L4 t104 x7_2) 1 t116 _ ?side1 ?side2 ?side3 ?side4 A21.out).mono ?_); (case side1 => repeat (first | exact (Kd.R_reads' HO_6.out).2.2 | (with_reducible refine Kd.C_alloc ?_ _) | (with_reducible refine Kd.C_drewN ?_ _) | (with_reducible refine Kd.C_drew ?_))); (case side2 => exact (Kd.R_reads' HO_6.out).2.1); (case side3 => repeat (first | exact (by repeat (first | (with_reducible exact HR115_0.out) | (with_reducible refine Kd.C_alloc ?_ _) | (with_reducible refine Kd.C_drewN ?_ _) | (with_reducible refine Kd.C_drew ?_) | exact HR115_0.out)) | (with_reducible refine Kd.C_alloc ?_ _) | (with_reducible refine Kd.C_drewN ?_ _) | (with_reducible refine Kd.C_drew ?_))); (case side4 => exact HC115_0.out); rintro e w27 ⟨v117, rfl, ho0, hb⟩; replace HO_4 := am_ (Kd.S_elder' (by exact HO_4.out) (Kd.R_base ho0) hb); have HO118 := am_ (Kd.R_lower (Kd.R_new' (Kd.R_new' ho0 (Kd.R_lt (by exact HO_6.out))) (Kd.R_lt (by exact HL115_0.out))) (below_size (by repeat (first | (with_reducible first | exact HB.out | apply below_alloc | apply pw_below_drewN | apply below_drew1) | exact HB.out)))); replace HO_6 := am_ (Kd.R_elder' (by exact HO_6.out) (Kd.R_base ho0) hb); replace HL115_0 := am_ (Kd.R_elder' (by exact HL115_0.out) (Kd.R_base ho0) hb); replace HR111_0 := am_ (Kd.C_below (by repeat (first | (with_reducible exact HR111_0.out) | (with_reducible refine Kd.C_alloc ?_ _) | (with_reducible refine Kd.C_drewN ?_ _) | (with_reducible refine Kd.C_drew ?_) | exact HR111_0.out)) hb); replace HR115_0 := am_ (Kd.C_below (by repeat (first | (with_reducible exact HR115_0.out) | (with_reducible refine Kd.C_alloc ?_ _) | (with_reducible refine Kd.C_drewN ?_ _) | (with_reducible refine Kd.C_drew ?_) | exact HR115_0.out)) hb); replace HB := am_ (below_step (by repeat (first | (with_reducible first | exact HB.out | apply below_alloc | apply pw_below_drewN | apply below_drew1) | exact HB.out)) hb); (try clear hb); (try clear hb2); (try clear hk); (try clear hi); (try clear ho0); obtain ⟨Ao28, co28, eo28⟩ := Kd.R_slice HO118.out; subst eo28))
     go_roundg k2
     case measure => have := HK1.out; have := HK2.out; omega
     case rel => exact ⟨(wrap64 (x7_2 + 1)), (by first | rfl | (simp; done) | (simp [*]; done)), H', ⟨by have := HK1.out; have := HK2.out; omega⟩, ⟨by exact Kd.S_mono HO_4.out (fun _ hk => hk.1)⟩, ⟨by exact Kd.R_mono HO_6.out (fun _ hk => trivial)⟩, ⟨by repeat (first | (with_reducible exact HR111_0.out) | (with_reducible refine Kd.C_alloc ?_ _) | (with_reducible refine Kd.C_drewN ?_ _) | (with_reducible refine Kd.C_drew ?_) | exact HR111_0.out)⟩, ⟨by repeat (first | (with_reducible first | exact HB.out | apply below_alloc | apply pw_below_drewN | apply below_drew1) | exact HB.out)⟩⟩

/-- THE ONE PURE STATEMENT of laws_FnPartsOfGrown: yours. -/
def laws_FnPartsOfGrown.Pure : Prop := ∀ (l0 : List Int), l0.length ≤ maxLen → l0.length * 1 ≤ 140737488351232 → (∀ x ∈ l0, (Lit.int .u8 x).wf = true) → ∃ k, laws_FnPartsOfGrown.f k l0 = some true
theorem laws_FnPartsOfGrown.walk (P : laws_FnPartsOfGrown.Pure) (a0 : Option Addr) (len0 cap0 : Nat) (z0 : List Int) (w : World) (w0 : (a0 = none ∧ len0 = 0 ∧ cap0 = 0 ∧ z0 = []) ∨ ∃ x, a0 = some x ∧ len0 ≤ cap0 ∧ cap0 ≤ maxLen ∧ z0.length = cap0 ∧ (∀ i, i < z0.length → w.cell? (x.add i) = some (.int .u8 (z0.getD i 0))) ∧ ∀ n ∈ z0, (Lit.int .u8 n).wf = true) (y0 : len0 * 1 ≤ 140737488351232) :
  Calls Try.prog 4 #[.slice a0 len0 cap0] w fun e w' => e = .returned (.bool true) ∧ Below w.heap.size w w' := by
 obtain ⟨l0, rfl, hr0, hm0, hw0, hc0⟩ := ReadsInt.ofRowC w0
 obtain ⟨k, h⟩ := P l0 hm0 y0 hw0
 refine (laws_FnPartsOfGrown.calls k _ _ l0 true w (Kd.C_of_reads (d := (0 : Int)) (h1 := fun _ => rfl) hr0) hc0 h).mono ?_
 rintro e w' ⟨rfl, hd⟩
 exact ⟨rfl, hd⟩

end Go.Proofs.Ytceoecmjccakgaa.Print
