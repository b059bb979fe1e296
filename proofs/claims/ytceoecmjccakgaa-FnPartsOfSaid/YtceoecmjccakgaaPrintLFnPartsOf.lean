-- laid by hp.py (a program of this work over the kit's print), with contracts by hand for what the print does not take
import Derived.Test.YtceoecmjccakgaaPrint0
import Derived.Test.YtceoecmjccakgaaPrintHimplPartsOf
import Derived.Test.YtceoecmjccakgaaPrintHx0
import Derived.Test.YtceoecmjccakgaaPrintR0x0
import Derived.Test.YtceoecmjccakgaaPrintR0x1
import Derived.Test.YtceoecmjccakgaaPrintR1x3
import Derived.Test.YtceoecmjccakgaaPrintR1x8
import Derived.Test.YtceoecmjccakgaaPrintR1x9
import Derived.Test.YtceoecmjccakgaaPrintR3x0
namespace Go.Proofs.Ytceoecmjccakgaa.Print
open Go.RowKit Go.Proofs.YtceoecmjccakgaaW.PrintWords Go.Proofs.YtceoecmjccakgaaW.PrintLast Go.Proofs.YtceoecmjccakgaaW.PrintMore
attribute [local go_sem] max2_int min2_int max_two min_two max_three min_three max_four min_four   -- for this text's walks alone
set_option linter.unusedVariables false
set_option linter.unusedSimpArgs false

/-! ### laws_FnPartsOf: function 3 -/
mutual
def laws_FnPartsOf.j0 : Nat → List (S45) → List (List (S45)) → Bool → Option (Bool)
 | 0, _, _, _ => none
 | k + 1, x3, x4, x24 => if x24 = true then ((spec_PartsOf.f k x3).bind fun t111 => ((laws_equalParts.f k x4 t111).bind fun t114 => (some t114))) else (laws_FnPartsOf.l0 k x3 x4 (([] : List (S45))) 0 0)
def laws_FnPartsOf.l0 : Nat → List (S45) → List (List (S45)) → List (S45) → Int → Int → Option (Bool)
 | 0, _, _, _, _, _ => none
 | k + 1, x3, x4, x5, x6, x7 => if x7 < (x4.length : Int) then (if 0 ≤ x7 then ((impl_PartsOf.f (rd_L4 x4 x7)).bind fun t121 => (if (t121.length : Int) = 1 then ((impl_AreaOf.f k (rd_L4 x4 x7)).bind fun t125 => ((laws_combined.f x5 (rd_L4 x4 x7) 0).bind fun t127 => (laws_FnPartsOf.l0 k x3 x4 t127 (wrap64 (x6 + t125)) (wrap64 (x7 + 1))))) else (some false))) else (none)) else ((impl_AreaOf.f k x3).bind fun t118 => (if x6 = t118 then ((laws_equalRuns.f k x5 x3).bind fun t119 => (some t119)) else (some false)))
end
def laws_FnPartsOf.f (k : Nat) (l0 : List Int) : Option (Bool) := if (l0.length : Int) > 1048576 then (some true) else ((spec_DrawPartsOf.f k l0).bind fun t101 => ((impl_PartsOf.f t101).bind fun t104 => ((spec_PartsOf.f k t101).bind fun t107 => ((laws_equalParts.f k t104 t107).bind fun t110 => (if t110 = true then (laws_FnPartsOf.j0 k t101 t104 ((t104.length : Int) == 0)) else (laws_FnPartsOf.j0 k t101 t104 true))))))
theorem laws_FnPartsOf.mono_l : ∀ k, (∀ y0 y1 y2, LeO (laws_FnPartsOf.j0 k y0 y1 y2) (laws_FnPartsOf.j0 (k + 1) y0 y1 y2)) ∧ (∀ y0 y1 y2 y3 y4, LeO (laws_FnPartsOf.l0 k y0 y1 y2 y3 y4) (laws_FnPartsOf.l0 (k + 1) y0 y1 y2 y3 y4))
 | 0 => ⟨fun _ _ _ r h => by simp [laws_FnPartsOf.j0] at h, fun _ _ _ _ _ r h => by simp [laws_FnPartsOf.l0] at h⟩
 | k + 1 => by
  obtain ⟨ih0, ih1⟩ := laws_FnPartsOf.mono_l k
  refine ⟨?_, ?_⟩
  ·
   intro y0 y1 y2
   unfold laws_FnPartsOf.j0
   repeat' first
   | (with_reducible exact ih0 _ _ _)
   | (with_reducible exact ih1 _ _ _ _ _)
   | (with_reducible exact impl_AreaOf.mono _ _)
   | (with_reducible exact laws_equalParts.mono _ _ _)
   | (with_reducible exact laws_equalRuns.mono _ _ _)
   | (with_reducible exact spec_DrawPartsOf.mono _ _)
   | (with_reducible exact spec_PartsOf.mono _ _)
   | (with_reducible exact LeO.refl _)
   | (with_reducible exact LeO.none _)
   | (with_reducible refine LeO.ite ?_ ?_)
   | (with_reducible refine LeO.bind ?_ (fun _ => ?_))
   | exact ih0 _ _ _
   | exact ih1 _ _ _ _ _
   | exact impl_AreaOf.mono _ _
   | exact laws_equalParts.mono _ _ _
   | exact laws_equalRuns.mono _ _ _
   | exact spec_DrawPartsOf.mono _ _
   | exact spec_PartsOf.mono _ _
   | exact LeO.none _
   | refine LeO.ite ?_ ?_
   | refine LeO.bind ?_ (fun _ => ?_)
  intro y0 y1 y2 y3 y4
  unfold laws_FnPartsOf.l0
  repeat' first
  | (with_reducible exact ih0 _ _ _)
  | (with_reducible exact ih1 _ _ _ _ _)
  | (with_reducible exact impl_AreaOf.mono _ _)
  | (with_reducible exact laws_equalParts.mono _ _ _)
  | (with_reducible exact laws_equalRuns.mono _ _ _)
  | (with_reducible exact spec_DrawPartsOf.mono _ _)
  | (with_reducible exact spec_PartsOf.mono _ _)
  | (with_reducible exact LeO.refl _)
  | (with_reducible exact LeO.none _)
  | (with_reducible refine LeO.ite ?_ ?_)
  | (with_reducible refine LeO.bind ?_ (fun _ => ?_))
  | exact ih0 _ _ _
  | exact ih1 _ _ _ _ _
  | exact impl_AreaOf.mono _ _
  | exact laws_equalParts.mono _ _ _
  | exact laws_equalRuns.mono _ _ _
  | exact spec_DrawPartsOf.mono _ _
  | exact spec_PartsOf.mono _ _
  | exact LeO.none _
  | refine LeO.ite ?_ ?_
  | refine LeO.bind ?_ (fun _ => ?_)
theorem laws_FnPartsOf.mono : ∀ a0 k, LeO (laws_FnPartsOf.f k a0) (laws_FnPartsOf.f (k + 1) a0) := by
 intro a0 k
 obtain ⟨ih0, ih1⟩ := laws_FnPartsOf.mono_l k
 unfold laws_FnPartsOf.f
 repeat' first
   | (with_reducible exact ih0 _ _ _)
   | (with_reducible exact ih1 _ _ _ _ _)
   | (with_reducible exact impl_AreaOf.mono _ _)
   | (with_reducible exact laws_equalParts.mono _ _ _)
   | (with_reducible exact laws_equalRuns.mono _ _ _)
   | (with_reducible exact spec_DrawPartsOf.mono _ _)
   | (with_reducible exact spec_PartsOf.mono _ _)
   | (with_reducible exact LeO.refl _)
   | (with_reducible exact LeO.none _)
   | (with_reducible refine LeO.ite ?_ ?_)
   | (with_reducible refine LeO.bind ?_ (fun _ => ?_))
   | exact ih0 _ _ _
   | exact ih1 _ _ _ _ _
   | exact impl_AreaOf.mono _ _
   | exact laws_equalParts.mono _ _ _
   | exact laws_equalRuns.mono _ _ _
   | exact spec_DrawPartsOf.mono _ _
   | exact spec_PartsOf.mono _ _
   | exact LeO.none _
   | refine LeO.ite ?_ ?_
   | refine LeO.bind ?_ (fun _ => ?_)
set_option maxHeartbeats 8000000 in
set_option maxRecDepth 100000 in
theorem laws_FnPartsOf.calls (k : Nat) (A0 : Option Addr) (c0 : Nat) (l0 : List Int) (r : Bool) (w : World) (hr0 : Kd.C (Kd.int .u8) w A0 l0.length l0) (hc0 : l0.length ≤ c0) (h : laws_FnPartsOf.f k l0 = some r) :
  Calls Try.prog 3 #[.slice A0 l0.length c0] w fun e w' => e = .returned (.bool r) ∧ Below w.heap.size w w' := by
 have HR0 := Aside0.mk hr0
 have HC0 := Aside0.mk hc0
 clear hr0 hc0
 have HB := Aside0.mk (Below.refl w.heap.size w)
 have H : (if (l0.length : Int) > 1048576 then (some true) else ((spec_DrawPartsOf.f k l0).bind fun t101 => ((impl_PartsOf.f t101).bind fun t104 => ((spec_PartsOf.f k t101).bind fun t107 => ((laws_equalParts.f k t104 t107).bind fun t110 => (if t110 = true then (laws_FnPartsOf.j0 k t101 t104 ((t104.length : Int) == 0)) else (laws_FnPartsOf.j0 k t101 t104 true))))))) = some r := h
 clear h
 by_cases c2 : (l0.length : Int) > 1048576
 ·
  rw [if_pos c2] at H
  have c2b0 : decide (1048576 < (l0.length : Int)) = true := decide_eq_true c2
  have c2b1 : decide (1048576 < l0.length) = true := decide_eq_true (by omega)
  clear c2
  obtain rfl := Option.some.inj H
  go_enter Try.func3, Try.ntmps3
  go_wp2
  go_ret
  exact ⟨by first | rfl | (simp [errW_none, errW_some] <;> rfl) | (simp [*, errW_none, errW_some] <;> rfl), by repeat (first | (with_reducible first | exact HB.out | apply below_alloc | apply pw_below_drewN | apply below_drew1) | exact HB.out)⟩
 rw [if_neg c2] at H
 have c2b0 : decide (1048576 < (l0.length : Int)) = false := decide_eq_false c2
 have c2b1 : decide (1048576 < l0.length) = false := decide_eq_false (by omega)
 clear c2
 replace H := Option.bind_eq_some_iff.mp H
 obtain ⟨t101, A30, H⟩ := H
 replace H : ((impl_PartsOf.f t101).bind fun t104 => ((spec_PartsOf.f k t101).bind fun t107 => ((laws_equalParts.f k t104 t107).bind fun t110 => (if t110 = true then (laws_FnPartsOf.j0 k t101 t104 ((t104.length : Int) == 0)) else (laws_FnPartsOf.j0 k t101 t104 true))))) = some r := H
 have A3 := Aside0.mk A30
 clear A30
 replace H := Option.bind_eq_some_iff.mp H
 obtain ⟨t104, A40, H⟩ := H
 replace H : ((spec_PartsOf.f k t101).bind fun t107 => ((laws_equalParts.f k t104 t107).bind fun t110 => (if t110 = true then (laws_FnPartsOf.j0 k t101 t104 ((t104.length : Int) == 0)) else (laws_FnPartsOf.j0 k t101 t104 true)))) = some r := H
 have A4 := Aside0.mk A40
 clear A40
 have HC5 := Aside0.mk H
 clear H
 go_enter Try.func3, Try.ntmps3
 go_upto_region 5 with (first | ((with_reducible refine gate_callee (f := 7) rfl ?_); refine goesL_ (some 12) rfl rfl Try.func7 (by kernel_rfl) rfl #[.slice A0 l0.length c0] rfl (by simp only [List.map_toArray, List.map_cons, List.map_nil]; rfl) ?_; (with_reducible refine (spec_DrawPartsOf.calls k _ _ l0 t101 _ ?side1 ?side2 A3.out).mono ?_); (case side1 => repeat (first | exact HR0.out | (with_reducible refine Kd.C_alloc ?_ _) | (with_reducible refine Kd.C_drewN ?_ _) | (with_reducible refine Kd.C_drew ?_))); (case side2 => exact HC0.out); rintro e w6 ⟨v102, rfl, ho0, hb⟩; refine ⟨_, rfl, ?_⟩; have HO103 := am_ (Kd.R_lower ho0 (below_size (by repeat (first | (with_reducible first | exact HB.out | apply below_alloc | apply pw_below_drewN | apply below_drew1) | exact HB.out)))); replace HB := am_ (below_step (by repeat (first | (with_reducible first | exact HB.out | apply below_alloc | apply pw_below_drewN | apply below_drew1) | exact HB.out)) hb); (try clear hb); (try clear hb2); (try clear hk); (try clear hi); (try clear ho0); obtain ⟨Ao7, co7, eo7⟩ := Kd.R_slice HO103.out; subst eo7) | ((with_reducible refine gate_callee (f := 8) rfl ?_); refine goesL_ (some 14) rfl rfl Try.func8 (by kernel_rfl) rfl #[.slice Ao7 t101.length co7] rfl (by simp only [List.map_toArray, List.map_cons, List.map_nil]; rfl) ?_; (with_reducible refine (impl_PartsOf.calls _ _ t101 t104 _ ?side1 ?side2 A4.out).mono ?_); (case side1 => repeat (first | exact (Kd.R_reads' HO103.out).2.2 | (with_reducible refine Kd.C_alloc ?_ _) | (with_reducible refine Kd.C_drewN ?_ _) | (with_reducible refine Kd.C_drew ?_))); (case side2 => exact (Kd.R_reads' HO103.out).2.1); rintro e w8 ⟨v105, rfl, ho0, hb⟩; refine ⟨_, rfl, ?_⟩; have HO106 := am_ (Kd.S_lower (Kd.S_new' ho0 (Kd.R_lt (by exact HO103.out))) (below_size (by repeat (first | (with_reducible first | exact HB.out | apply below_alloc | apply pw_below_drewN | apply below_drew1) | exact HB.out)))); replace HO103 := am_ (Kd.R_below (by exact HO103.out) hb); replace HB := am_ (below_step (by repeat (first | (with_reducible first | exact HB.out | apply below_alloc | apply pw_below_drewN | apply below_drew1) | exact HB.out)) hb); (try clear hb); (try clear hb2); (try clear hk); (try clear hi); (try clear ho0)))
 (try simp only [Act.put, List.setIfInBounds_toArray, List.set_cons_zero, List.set_cons_succ])
 go_cut [24] (fun v24 wc => ∃ (kq : Nat) (x24_4 : Bool), v24 = .bool x24_4 ∧ Aside0 (laws_FnPartsOf.j0 kq t101 t104 x24_4 = some r) ∧ Aside0 (kq ≤ k) ∧ Aside0 (Kd.R k45 45 wc w.heap.size (fun _ => True) (.slice Ao7 t101.length co7) t101) ∧ Aside0 (Kd.S (Kd.slice 45 k45) 23 wc w.heap.size (fun k_ => some k_ ≠ ((.slice Ao7 t101.length co7) : Value).ownBlock) v105 t104) ∧ Aside0 (Below w.heap.size w wc))
 case first =>
  have H := HC5.out
  clear HC5
  replace H := Option.bind_eq_some_iff.mp H
  obtain ⟨t107, A90, H⟩ := H
  replace H : ((laws_equalParts.f k t104 t107).bind fun t110 => (if t110 = true then (laws_FnPartsOf.j0 k t101 t104 ((t104.length : Int) == 0)) else (laws_FnPartsOf.j0 k t101 t104 true))) = some r := H
  have A9 := Aside0.mk A90
  clear A90
  replace H := Option.bind_eq_some_iff.mp H
  obtain ⟨t110, A100, H⟩ := H
  replace H : (if t110 = true then (laws_FnPartsOf.j0 k t101 t104 ((t104.length : Int) == 0)) else (laws_FnPartsOf.j0 k t101 t104 true)) = some r := H
  have A10 := Aside0.mk A100
  clear A100
  by_cases c11 : t110 = true
  ·
   subst c11
   have H1 : (laws_FnPartsOf.j0 k t101 t104 ((t104.length : Int) == 0)) = some r := by rw [if_pos rfl] at H; exact H
   clear H
   have H := H1
   clear H1
   have H' := Aside0.mk H
   clear H
   go_wp2_with (first | ((with_reducible refine gate_callee (f := 10) rfl ?_); refine goesL_ (some 17) rfl rfl Try.func10 (by kernel_rfl) rfl #[.slice Ao7 t101.length co7] rfl (by simp only [List.map_toArray, List.map_cons, List.map_nil]; rfl) ?_; (with_reducible refine (spec_PartsOf.calls k _ _ t101 t107 _ ?side1 ?side2 A9.out).mono ?_); (case side1 => repeat (first | exact (Kd.R_reads' HO103.out).2.2 | (with_reducible refine Kd.C_alloc ?_ _) | (with_reducible refine Kd.C_drewN ?_ _) | (with_reducible refine Kd.C_drew ?_))); (case side2 => exact (Kd.R_reads' HO103.out).2.1); rintro e w12 ⟨v108, rfl, ho0, hb⟩; refine ⟨_, rfl, ?_⟩; have HO109 := am_ (Kd.S_lower (Kd.S_new' (Kd.S_new' ho0 (Kd.R_lt (by exact HO103.out))) (Kd.S_lt (by exact HO106.out))) (below_size (by repeat (first | (with_reducible first | exact HB.out | apply below_alloc | apply pw_below_drewN | apply below_drew1) | exact HB.out)))); replace HO103 := am_ (Kd.R_below (by exact HO103.out) hb); replace HO106 := am_ (Kd.S_elder' (by exact HO106.out) (Kd.S_base ho0) hb); replace HB := am_ (below_step (by repeat (first | (with_reducible first | exact HB.out | apply below_alloc | apply pw_below_drewN | apply below_drew1) | exact HB.out)) hb); (try clear hb); (try clear hb2); (try clear hk); (try clear hi); (try clear ho0); obtain ⟨Ao13, co13, eo13⟩ := Kd.S_slice HO106.out; subst eo13; obtain ⟨Ao14, co14, eo14⟩ := Kd.S_slice HO109.out; subst eo14) | ((with_reducible refine gate_callee (f := 9) rfl ?_); refine goesL_ (some 18) rfl rfl Try.func9 (by kernel_rfl) rfl #[.slice Ao13 t104.length co13, .slice Ao14 t107.length co14] rfl (by simp only [List.map_toArray, List.map_cons, List.map_nil]; rfl) ?_; (with_reducible refine (laws_equalParts.calls k _ _ t104 _ _ t107 true _ ?side1 ?side2 ?side3 ?side4 A10.out).mono ?_); (case side1 => repeat (first | exact (Kd.S_reads' HO106.out).2.2 | (with_reducible refine Kd.C_alloc ?_ _) | (with_reducible refine Kd.C_drewN ?_ _) | (with_reducible refine Kd.C_drew ?_))); (case side2 => exact (Kd.S_reads' HO106.out).2.1); (case side3 => repeat (first | exact (Kd.S_reads' HO109.out).2.2 | (with_reducible refine Kd.C_alloc ?_ _) | (with_reducible refine Kd.C_drewN ?_ _) | (with_reducible refine Kd.C_drew ?_))); (case side4 => exact (Kd.S_reads' HO109.out).2.1); rintro e w' ⟨rfl, ⟨nd, rfl⟩⟩; refine ⟨_, rfl, ?_⟩))
   go_meet
   case rel => exact ⟨_, (((t104.length : Int) == 0)), (by first | rfl | (simp; done) | (simp [*]; done)), H', ⟨by first | omega | exact Nat.le_refl _⟩, ⟨by exact HO103.out⟩, ⟨by exact Kd.S_mono HO106.out (fun _ hk => hk.1.2)⟩, ⟨by repeat (first | (with_reducible first | exact HB.out | apply below_alloc | apply pw_below_drewN | apply below_drew1) | exact HB.out)⟩⟩
  replace c11 := Bool.eq_false_iff.mpr c11
  subst c11
  have H1 : (laws_FnPartsOf.j0 k t101 t104 true) = some r := by rw [if_neg (show ¬ (false = true) by decide)] at H; exact H
  clear H
  have H := H1
  clear H1
  have H' := Aside0.mk H
  clear H
  go_wp2_with (first | ((with_reducible refine gate_callee (f := 10) rfl ?_); refine goesL_ (some 17) rfl rfl Try.func10 (by kernel_rfl) rfl #[.slice Ao7 t101.length co7] rfl (by simp only [List.map_toArray, List.map_cons, List.map_nil]; rfl) ?_; (with_reducible refine (spec_PartsOf.calls k _ _ t101 t107 _ ?side1 ?side2 A9.out).mono ?_); (case side1 => repeat (first | exact (Kd.R_reads' HO103.out).2.2 | (with_reducible refine Kd.C_alloc ?_ _) | (with_reducible refine Kd.C_drewN ?_ _) | (with_reducible refine Kd.C_drew ?_))); (case side2 => exact (Kd.R_reads' HO103.out).2.1); rintro e w15 ⟨v108, rfl, ho0, hb⟩; refine ⟨_, rfl, ?_⟩; have HO109 := am_ (Kd.S_lower (Kd.S_new' (Kd.S_new' ho0 (Kd.R_lt (by exact HO103.out))) (Kd.S_lt (by exact HO106.out))) (below_size (by repeat (first | (with_reducible first | exact HB.out | apply below_alloc | apply pw_below_drewN | apply below_drew1) | exact HB.out)))); replace HO103 := am_ (Kd.R_below (by exact HO103.out) hb); replace HO106 := am_ (Kd.S_elder' (by exact HO106.out) (Kd.S_base ho0) hb); replace HB := am_ (below_step (by repeat (first | (with_reducible first | exact HB.out | apply below_alloc | apply pw_below_drewN | apply below_drew1) | exact HB.out)) hb); (try clear hb); (try clear hb2); (try clear hk); (try clear hi); (try clear ho0); obtain ⟨Ao16, co16, eo16⟩ := Kd.S_slice HO106.out; subst eo16; obtain ⟨Ao17, co17, eo17⟩ := Kd.S_slice HO109.out; subst eo17) | ((with_reducible refine gate_callee (f := 9) rfl ?_); refine goesL_ (some 18) rfl rfl Try.func9 (by kernel_rfl) rfl #[.slice Ao16 t104.length co16, .slice Ao17 t107.length co17] rfl (by simp only [List.map_toArray, List.map_cons, List.map_nil]; rfl) ?_; (with_reducible refine (laws_equalParts.calls k _ _ t104 _ _ t107 false _ ?side1 ?side2 ?side3 ?side4 A10.out).mono ?_); (case side1 => repeat (first | exact (Kd.S_reads' HO106.out).2.2 | (with_reducible refine Kd.C_alloc ?_ _) | (with_reducible refine Kd.C_drewN ?_ _) | (with_reducible refine Kd.C_drew ?_))); (case side2 => exact (Kd.S_reads' HO106.out).2.1); (case side3 => repeat (first | exact (Kd.S_reads' HO109.out).2.2 | (with_reducible refine Kd.C_alloc ?_ _) | (with_reducible refine Kd.C_drewN ?_ _) | (with_reducible refine Kd.C_drew ?_))); (case side4 => exact (Kd.S_reads' HO109.out).2.1); rintro e w' ⟨rfl, ⟨nd, rfl⟩⟩; refine ⟨_, rfl, ?_⟩))
  go_meet
  case rel => exact ⟨_, (true), (by first | rfl | (simp; done) | (simp [*]; done)), H', ⟨by first | omega | exact Nat.le_refl _⟩, ⟨by exact HO103.out⟩, ⟨by exact Kd.S_mono HO106.out (fun _ hk => hk.1.2)⟩, ⟨by repeat (first | (with_reducible first | exact HB.out | apply below_alloc | apply pw_below_drewN | apply below_drew1) | exact HB.out)⟩⟩
 case rest =>
  clear HC5
  try clear c1
  try clear c2
  try clear c2b0
  try clear c2b1
  try clear p2
  try clear c3
  try clear c7
  try clear c8
  try clear c9
  try clear c10
  try clear c11
  obtain ⟨kq, x24_4, rfl, HA, HJ4, HO_3, HO_4, HB⟩ := hcut
  cases kq with
  | zero => exact absurd HA.out (by simp [laws_FnPartsOf.j0])
  | succ kj4 =>
   have H := HA.out
   clear HA
   simp only [laws_FnPartsOf.j0] at H
   by_cases c18 : x24_4 = true
   ·
    subst c18
    have H1 : ((spec_PartsOf.f kj4 t101).bind fun t111 => ((laws_equalParts.f kj4 t104 t111).bind fun t114 => (some t114))) = some r := by rw [if_pos rfl] at H; exact H
    clear H
    have H := H1
    clear H1
    replace H := Option.bind_eq_some_iff.mp H
    obtain ⟨t111, A190, H⟩ := H
    replace H : ((laws_equalParts.f kj4 t104 t111).bind fun t114 => (some t114)) = some r := H
    have A19 := Aside0.mk A190
    clear A190
    replace H := Option.bind_eq_some_iff.mp H
    obtain ⟨t114, A200, H⟩ := H
    replace H : (some t114) = some r := H
    have A20 := Aside0.mk A200
    clear A200
    obtain rfl := Option.some.inj H
    go_wp2_with (first | ((with_reducible refine gate_callee (f := 10) rfl ?_); refine goesL_ (some 27) rfl rfl Try.func10 (by kernel_rfl) rfl #[.slice Ao7 t101.length co7] rfl (by simp only [List.map_toArray, List.map_cons, List.map_nil]; rfl) ?_; (with_reducible refine (spec_PartsOf.calls kj4 _ _ t101 t111 _ ?side1 ?side2 A19.out).mono ?_); (case side1 => repeat (first | exact (Kd.R_reads' HO_3.out).2.2 | (with_reducible refine Kd.C_alloc ?_ _) | (with_reducible refine Kd.C_drewN ?_ _) | (with_reducible refine Kd.C_drew ?_))); (case side2 => exact (Kd.R_reads' HO_3.out).2.1); rintro e w21 ⟨v112, rfl, ho0, hb⟩; refine ⟨_, rfl, ?_⟩; have HO113 := am_ (Kd.S_lower (Kd.S_new' (Kd.S_new' ho0 (Kd.R_lt (by exact HO_3.out))) (Kd.S_lt (by exact HO_4.out))) (below_size (by repeat (first | (with_reducible first | exact HB.out | apply below_alloc | apply pw_below_drewN | apply below_drew1) | exact HB.out)))); replace HO_3 := am_ (Kd.R_below (by exact HO_3.out) hb); replace HO_4 := am_ (Kd.S_elder' (by exact HO_4.out) (Kd.S_base ho0) hb); replace HB := am_ (below_step (by repeat (first | (with_reducible first | exact HB.out | apply below_alloc | apply pw_below_drewN | apply below_drew1) | exact HB.out)) hb); (try clear hb); (try clear hb2); (try clear hk); (try clear hi); (try clear ho0); obtain ⟨Ao22, co22, eo22⟩ := Kd.S_slice HO_4.out; subst eo22; obtain ⟨Ao23, co23, eo23⟩ := Kd.S_slice HO113.out; subst eo23) | ((with_reducible refine gate_callee (f := 9) rfl ?_); refine goesL_ (some 28) rfl rfl Try.func9 (by kernel_rfl) rfl #[.slice Ao22 t104.length co22, .slice Ao23 t111.length co23] rfl (by simp only [List.map_toArray, List.map_cons, List.map_nil]; rfl) ?_; (with_reducible refine (laws_equalParts.calls kj4 _ _ t104 _ _ t111 t114 _ ?side1 ?side2 ?side3 ?side4 A20.out).mono ?_); (case side1 => repeat (first | exact (Kd.S_reads' HO_4.out).2.2 | (with_reducible refine Kd.C_alloc ?_ _) | (with_reducible refine Kd.C_drewN ?_ _) | (with_reducible refine Kd.C_drew ?_))); (case side2 => exact (Kd.S_reads' HO_4.out).2.1); (case side3 => repeat (first | exact (Kd.S_reads' HO113.out).2.2 | (with_reducible refine Kd.C_alloc ?_ _) | (with_reducible refine Kd.C_drewN ?_ _) | (with_reducible refine Kd.C_drew ?_))); (case side4 => exact (Kd.S_reads' HO113.out).2.1); rintro e w' ⟨rfl, ⟨nd, rfl⟩⟩; refine ⟨_, rfl, ?_⟩))
    go_ret
    exact ⟨by first | rfl | (simp [errW_none, errW_some] <;> rfl) | (simp [*, errW_none, errW_some] <;> rfl), by repeat (first | (with_reducible first | exact HB.out | apply below_alloc | apply pw_below_drewN | apply below_drew1) | exact HB.out)⟩
   replace c18 := Bool.eq_false_iff.mpr c18
   subst c18
   have H1 : (laws_FnPartsOf.l0 kj4 t101 t104 (([] : List (S45))) 0 0) = some r := by rw [if_neg (show ¬ (false = true) by decide)] at H; exact H
   clear H
   have H := H1
   clear H1
   obtain ⟨y115, hy115⟩ : ∃ y_ : List (S45), y_ = (([] : List (S45))) := ⟨_, rfl⟩
   replace H : (laws_FnPartsOf.l0 kj4 t101 t104 y115 0 0) = some r := by first | (rw [hy115]; with_reducible exact H) | (have H2_ := (Option.bind_some _ _).symm.trans H; rw [hy115]; with_reducible exact H2_) | (have H2_ := (Option.bind_some _ _).symm.trans H; with_reducible exact H2_) | with_reducible exact H | (rw [hy115]; exact H) | exact H
   have Ny115 := Aside0.mk hy115
   clear hy115
   have H' := Aside0.mk H
   clear H
   go_wp2_with (first | ((with_reducible refine gate_dst (N := 29) rfl ?_); (try (refine gate_guard (by rfl) ?_; dsimp only)); refine Kd.R_lit k45 _ 45 ?hg (N := 29) ?hd (xs := ([] : List (S45))) (inner := []) (ok := fun _ => True) (okp := fun _ => True) ?hr ?hp (fun _ hk => hk) trivial (Below.refl _ _) (Nat.le_refl _) (by simp) ?_; (case hd => rfl); (case hg => rfl); (case hr => first | (go_simp; done) | (go_simp; rfl)); (case hp => exact (Reps.none _ _)); intro v116 w24 ho25 hb hg_ hnew_; clear hg_ hnew_; (first | rw [← Ny115.out] at ho25 | (simp only [Int.reduceToNat] at ho25; rw [← Ny115.out] at ho25)); replace HO_4 := am_ (Kd.S_elder' (by exact HO_4.out) (Kd.R_base ho25) hb); have HO117 := am_ (Kd.R_lower (Kd.R_new' ho25 (Kd.R_lt (by exact HO_3.out))) (below_size (by repeat (first | (with_reducible first | exact HB.out | apply below_alloc | apply pw_below_drewN | apply below_drew1) | exact HB.out)))); replace HO_3 := am_ (Kd.R_elder' (by exact HO_3.out) (Kd.R_base ho25) hb); replace HB := am_ (below_step (by repeat (first | (with_reducible first | exact HB.out | apply below_alloc | apply pw_below_drewN | apply below_drew1) | exact HB.out)) hb); clear hb ho25))
   go_loopg [5, 6, 7] kj4 (fun kq v5 v6 v7 w' => ∃ (x5_2 : List (S45)) (x6_2 : Int) (x7_2 : Int), v6 = .int .i64 x6_2 ∧ v7 = .int .i64 x7_2 ∧ Aside0 (laws_FnPartsOf.l0 kq t101 t104 x5_2 x6_2 x7_2 = some r) ∧ Aside0 (kq ≤ kj4) ∧ Aside0 (Kd.R k45 45 w' w.heap.size (fun k_ => some k_ ≠ (v5 : Value).ownBlock) (.slice Ao7 t101.length co7) t101) ∧ Aside0 (Kd.S (Kd.slice 45 k45) 23 w' w.heap.size (fun k_ => some k_ ≠ ((.slice Ao7 t101.length co7) : Value).ownBlock ∧ some k_ ≠ (v5 : Value).ownBlock) v105 t104) ∧ Aside0 (Kd.R k45 45 w' w.heap.size (fun k_ => some k_ ≠ ((.slice Ao7 t101.length co7) : Value).ownBlock) v5 x5_2) ∧ Aside0 (Below w.heap.size w w'))
   case atStart => exact ⟨(y115), (0), (0), (by first | rfl | (simp; done) | (simp [*]; done)), (by first | rfl | (simp; done) | (simp [*]; done)), H', ⟨Nat.le_refl _⟩, ⟨by exact Kd.R_mono HO_3.out (fun _ hk => hk.2)⟩, ⟨by exact HO_4.out⟩, ⟨by exact Kd.R_mono HO117.out (fun _ hk => hk.2)⟩, ⟨by repeat (first | (with_reducible first | exact HB.out | apply below_alloc | apply pw_below_drewN | apply below_drew1) | exact HB.out)⟩⟩
   case round =>
    clear H'
    try clear c1
    try clear c2
    try clear c2b0
    try clear c2b1
    try clear p2
    try clear c3
    try clear c7
    try clear c8
    try clear c9
    try clear c10
    try clear c11
    try clear c18
    try clear p2
    obtain ⟨x5_2, x6_2, x7_2, rfl, rfl, HA, HK2, HO_3, HO_4, HO_5, HB⟩ := hrel
    cases gk with
    | zero => exact absurd HA.out (by simp [laws_FnPartsOf.l0])
    | succ k2 =>
     have H := HA.out
     clear HA
     simp only [laws_FnPartsOf.l0] at H
     by_cases c26 : x7_2 < (t104.length : Int)
     rotate_left
     ·
      rw [if_neg c26] at H
      have c26b0 : decide (x7_2 < (t104.length : Int)) = false := decide_eq_false c26
      clear c26
      replace H := Option.bind_eq_some_iff.mp H
      obtain ⟨t118, A410, H⟩ := H
      replace H : (if x6_2 = t118 then ((laws_equalRuns.f k2 x5_2 t101).bind fun t119 => (some t119)) else (some false)) = some r := H
      have A41 := Aside0.mk A410
      clear A410
      by_cases c42 : x6_2 = t118
      ·
       rw [if_pos c42] at H
       have c42b0 : (x6_2 == t118) = true := beq_iff_eq.mpr c42
       have c42b1 : (x6_2 != t118) = false := bne_eq_false_iff_eq.mpr c42
       clear c42
       replace H := Option.bind_eq_some_iff.mp H
       obtain ⟨t119, A430, H⟩ := H
       replace H : (some t119) = some r := H
       have A43 := Aside0.mk A430
       clear A430
       obtain rfl := Option.some.inj H
       obtain ⟨Ao44, co44, eo44⟩ := Kd.S_slice HO_4.out
       subst eo44
       go_wp2_with (first | ((with_reducible refine gate_callee (f := 11) rfl ?_); refine goesL_ (some 58) rfl rfl Try.func11 (by kernel_rfl) rfl #[.slice Ao7 t101.length co7] rfl (by simp only [List.map_toArray, List.map_cons, List.map_nil]; rfl) ?_; (with_reducible refine (impl_AreaOf.calls k2 _ _ t101 t118 _ ?side1 ?side2 A41.out).mono ?_); (case side1 => repeat (first | exact (Kd.R_reads' HO_3.out).2.2 | (with_reducible refine Kd.C_alloc ?_ _) | (with_reducible refine Kd.C_drewN ?_ _) | (with_reducible refine Kd.C_drew ?_))); (case side2 => exact (Kd.R_reads' HO_3.out).2.1); rintro e w45 ⟨rfl, hb⟩; refine ⟨_, rfl, ?_⟩; replace HO_3 := am_ (Kd.R_below (by exact HO_3.out) hb); replace HO_4 := am_ (Kd.S_below (by exact HO_4.out) hb); replace HO_5 := am_ (Kd.R_below (by exact HO_5.out) hb); replace HB := am_ (below_step (by repeat (first | (with_reducible first | exact HB.out | apply below_alloc | apply pw_below_drewN | apply below_drew1) | exact HB.out)) hb); (try clear hb); (try clear hb2); (try clear hk); (try clear hi); obtain ⟨Ao46, co46, eo46⟩ := Kd.R_slice HO_5.out; subst eo46) | (go_at_call 13; (with_reducible refine (laws_equalRuns.calls k2 _ _ x5_2 _ _ t101 t119 _ ?side1 ?side2 ?side3 ?side4 A43.out).mono ?_); (case side1 => repeat (first | exact (Kd.R_reads' HO_5.out).2.2 | (with_reducible refine Kd.C_alloc ?_ _) | (with_reducible refine Kd.C_drewN ?_ _) | (with_reducible refine Kd.C_drew ?_))); (case side2 => exact (Kd.R_reads' HO_5.out).2.1); (case side3 => repeat (first | exact (Kd.R_reads' HO_3.out).2.2 | (with_reducible refine Kd.C_alloc ?_ _) | (with_reducible refine Kd.C_drewN ?_ _) | (with_reducible refine Kd.C_drew ?_))); (case side4 => exact (Kd.R_reads' HO_3.out).2.1); rintro e w' ⟨rfl, ⟨nd, rfl⟩⟩))
       go_ret
       exact ⟨by first | rfl | (simp [errW_none, errW_some] <;> rfl) | (simp [*, errW_none, errW_some] <;> rfl), by repeat (first | (with_reducible first | exact HB.out | apply below_alloc | apply pw_below_drewN | apply below_drew1) | exact HB.out)⟩
      rw [if_neg c42] at H
      have c42b0 : (x6_2 == t118) = false := beq_eq_false_iff_ne.mpr c42
      have c42b1 : (x6_2 != t118) = true := bne_iff_ne.mpr c42
      obtain rfl := Option.some.inj H
      obtain ⟨Ao47, co47, eo47⟩ := Kd.S_slice HO_4.out
      subst eo47
      go_wp2_with (first | ((with_reducible refine gate_callee (f := 11) rfl ?_); refine goesL_ (some 58) rfl rfl Try.func11 (by kernel_rfl) rfl #[.slice Ao7 t101.length co7] rfl (by simp only [List.map_toArray, List.map_cons, List.map_nil]; rfl) ?_; (with_reducible refine (impl_AreaOf.calls k2 _ _ t101 t118 _ ?side1 ?side2 A41.out).mono ?_); (case side1 => repeat (first | exact (Kd.R_reads' HO_3.out).2.2 | (with_reducible refine Kd.C_alloc ?_ _) | (with_reducible refine Kd.C_drewN ?_ _) | (with_reducible refine Kd.C_drew ?_))); (case side2 => exact (Kd.R_reads' HO_3.out).2.1); rintro e w48 ⟨rfl, hb⟩; refine ⟨_, rfl, ?_⟩; replace HO_3 := am_ (Kd.R_below (by exact HO_3.out) hb); replace HO_4 := am_ (Kd.S_below (by exact HO_4.out) hb); replace HO_5 := am_ (Kd.R_below (by exact HO_5.out) hb); replace HB := am_ (below_step (by repeat (first | (with_reducible first | exact HB.out | apply below_alloc | apply pw_below_drewN | apply below_drew1) | exact HB.out)) hb); (try clear hb); (try clear hb2); (try clear hk); (try clear hi)))
      go_ret
      exact ⟨by first | rfl | (simp [errW_none, errW_some] <;> rfl) | (simp [*, errW_none, errW_some] <;> rfl), by repeat (first | (with_reducible first | exact HB.out | apply below_alloc | apply pw_below_drewN | apply below_drew1) | exact HB.out)⟩
     rw [if_pos c26] at H
     have c26b0 : decide (x7_2 < (t104.length : Int)) = true := decide_eq_true c26
     clear c26
     by_cases c27 : 0 ≤ x7_2
     rotate_left
     ·
      rw [if_neg c27] at H
      exact absurd H (by simp)
     rw [if_pos c27] at H
     have c27b0 : decide (0 ≤ x7_2) = true := decide_eq_true c27
     clear c27
     replace H := Option.bind_eq_some_iff.mp H
     obtain ⟨t121, A280, H⟩ := H
     replace H : (if (t121.length : Int) = 1 then ((impl_AreaOf.f k2 (rd_L4 t104 x7_2)).bind fun t125 => ((laws_combined.f x5_2 (rd_L4 t104 x7_2) 0).bind fun t127 => (laws_FnPartsOf.l0 k2 t101 t104 t127 (wrap64 (x6_2 + t125)) (wrap64 (x7_2 + 1))))) else (some false)) = some r := H
     have A28 := Aside0.mk A280
     clear A280
     by_cases c29 : (t121.length : Int) = 1
     ·
      rw [if_pos c29] at H
      have c29b0 : ((t121.length : Int) == 1) = true := beq_iff_eq.mpr c29
      have c29b1 : ((t121.length : Int) != 1) = false := bne_eq_false_iff_eq.mpr c29
      clear c29
      replace H := Option.bind_eq_some_iff.mp H
      obtain ⟨t125, A300, H⟩ := H
      replace H : ((laws_combined.f x5_2 (rd_L4 t104 x7_2) 0).bind fun t127 => (laws_FnPartsOf.l0 k2 t101 t104 t127 (wrap64 (x6_2 + t125)) (wrap64 (x7_2 + 1)))) = some r := H
      have A30 := Aside0.mk A300
      clear A300
      replace H := Option.bind_eq_some_iff.mp H
      obtain ⟨t127, A310, H⟩ := H
      replace H : (laws_FnPartsOf.l0 k2 t101 t104 t127 (wrap64 (x6_2 + t125)) (wrap64 (x7_2 + 1))) = some r := H
      have A31 := Aside0.mk A310
      clear A310
      have H' := Aside0.mk H
      clear H
      obtain ⟨Ao32, co32, eo32⟩ := Kd.S_slice HO_4.out
      subst eo32
      have p120 : 0 ≤ (x7_2 : Int) := of_decide_eq_true (by first | with_reducible assumption | assumption)
      have q120 : x7_2 < (t104.length : Int) := of_decide_eq_true (by first | with_reducible assumption | assumption)
      obtain ⟨ad120, A120_0, c120_0, e120, hx120_0, hl120_0, hi120_0⟩ := at_L4 (Kd.S_reads' HO_4.out).2.2 x7_2 p120 q120
      cases e120
      obtain ⟨ce120, hce120, hMe120, hcc120⟩ := Kd.S_get HO_4.out [] x7_2 p120 (by first | exact q120 | exact of_decide_eq_true (by first | with_reducible assumption | assumption) | (have e_ := (Kd.S_reads' HO_4.out).1; omega))
      obtain ⟨ve120_0, rfl, ge120_0⟩ := hMe120
      have hv120_0 := hcc120 0 _ rfl
      rw [Nat.add_zero, show ((Kd.slice 45 k45)).sz = 1 from rfl, Nat.mul_one] at hv120_0
      replace hv120_0 := Option.some.inj (hv120_0.symm.trans hx120_0)
      rw [hv120_0] at ge120_0
      have HL120_0 := Aside0.mk (show Kd.R k45 45 _ _ _ _ (rd_L4 t104 x7_2) from ge120_0)
      clear hv120_0 ge120_0
      clear hcc120 hce120
      have HR120_0 := Aside0.mk hi120_0
      have HC120_0 := Aside0.mk hl120_0
      clear hi120_0 hl120_0
      replace p120 := eq_true p120
      replace q120 := eq_true q120
      go_wp2_with (first | ((with_reducible refine gate_callee (f := 8) rfl ?_); refine goesL_ (some 40) rfl rfl Try.func8 (by kernel_rfl) rfl #[.slice A120_0 (rd_L4 t104 x7_2).length c120_0] rfl (by simp only [List.map_toArray, List.map_cons, List.map_nil]; rfl) ?_; (with_reducible refine (impl_PartsOf.calls _ _ (rd_L4 t104 x7_2) t121 _ ?side1 ?side2 A28.out).mono ?_); (case side1 => repeat (first | exact (by repeat (first | (with_reducible exact HR120_0.out) | (with_reducible refine Kd.C_alloc ?_ _) | (with_reducible refine Kd.C_drewN ?_ _) | (with_reducible refine Kd.C_drew ?_) | exact HR120_0.out)) | (with_reducible refine Kd.C_alloc ?_ _) | (with_reducible refine Kd.C_drewN ?_ _) | (with_reducible refine Kd.C_drew ?_))); (case side2 => exact HC120_0.out); rintro e w33 ⟨v122, rfl, ho0, hb⟩; refine ⟨_, rfl, ?_⟩; have HO123 := am_ (Kd.S_lower (Kd.S_new' (Kd.S_new' (Kd.S_new' (Kd.S_new' ho0 (Kd.R_lt (by exact HO_3.out))) (Kd.S_lt (by exact HO_4.out))) (Kd.R_lt (by exact HO_5.out))) (Kd.R_lt (by exact HL120_0.out))) (below_size (by repeat (first | (with_reducible first | exact HB.out | apply below_alloc | apply pw_below_drewN | apply below_drew1) | exact HB.out)))); replace HO_3 := am_ (Kd.R_below (by exact HO_3.out) hb); replace HO_4 := am_ (Kd.S_elder' (by exact HO_4.out) (Kd.S_base ho0) hb); replace HO_5 := am_ (Kd.R_below (by exact HO_5.out) hb); replace HL120_0 := am_ (Kd.R_below (by exact HL120_0.out) hb); replace HR120_0 := am_ (Kd.C_below (by repeat (first | (with_reducible exact HR120_0.out) | (with_reducible refine Kd.C_alloc ?_ _) | (with_reducible refine Kd.C_drewN ?_ _) | (with_reducible refine Kd.C_drew ?_) | exact HR120_0.out)) hb); replace HB := am_ (below_step (by repeat (first | (with_reducible first | exact HB.out | apply below_alloc | apply pw_below_drewN | apply below_drew1) | exact HB.out)) hb); (try clear hb); (try clear hb2); (try clear hk); (try clear hi); (try clear ho0); obtain ⟨Ao34, co34, eo34⟩ := Kd.S_slice HO123.out; subst eo34; have p124 : 0 ≤ (x7_2 : Int) := of_decide_eq_true (by first | with_reducible assumption | assumption); have q124 : x7_2 < (t104.length : Int) := of_decide_eq_true (by first | with_reducible assumption | assumption); obtain ⟨ad124, A124_0, c124_0, e124, hx124_0, hl124_0, hi124_0⟩ := at_L4 (Kd.S_reads' HO_4.out).2.2 x7_2 p124 q124; obtain rfl : ad120 = ad124 := (by injection e124); obtain ⟨ce124, hce124, hMe124, hcc124⟩ := Kd.S_get HO_4.out [] x7_2 p124 (by first | exact q124 | exact of_decide_eq_true (by first | with_reducible assumption | assumption) | (have e_ := (Kd.S_reads' HO_4.out).1; omega)); obtain ⟨ve124_0, rfl, ge124_0⟩ := hMe124; have hv124_0 := hcc124 0 _ rfl; rw [Nat.add_zero, show ((Kd.slice 45 k45)).sz = 1 from rfl, Nat.mul_one] at hv124_0; replace hv124_0 := Option.some.inj (hv124_0.symm.trans hx124_0); rw [hv124_0] at ge124_0; have HL124_0 := Aside0.mk (show Kd.R k45 45 _ _ _ _ (rd_L4 t104 x7_2) from ge124_0); clear hv124_0 ge124_0; clear hcc124 hce124; have HR124_0 := Aside0.mk hi124_0; have HC124_0 := Aside0.mk hl124_0; clear hi124_0 hl124_0; replace p124 := eq_true p124; replace q124 := eq_true q124) | ((with_reducible refine gate_callee (f := 11) rfl ?_); refine goesL_ (some 48) rfl rfl Try.func11 (by kernel_rfl) rfl #[.slice A124_0 (rd_L4 t104 x7_2).length c124_0] rfl (by simp only [List.map_toArray, List.map_cons, List.map_nil]; rfl) ?_; (with_reducible refine (impl_AreaOf.calls k2 _ _ (rd_L4 t104 x7_2) t125 _ ?side1 ?side2 A30.out).mono ?_); (case side1 => repeat (first | exact (by repeat (first | (with_reducible exact HR124_0.out) | (with_reducible refine Kd.C_alloc ?_ _) | (with_reducible refine Kd.C_drewN ?_ _) | (with_reducible refine Kd.C_drew ?_) | exact HR124_0.out)) | (with_reducible refine Kd.C_alloc ?_ _) | (with_reducible refine Kd.C_drewN ?_ _) | (with_reducible refine Kd.C_drew ?_))); (case side2 => exact HC124_0.out); rintro e w35 ⟨rfl, hb⟩; refine ⟨_, rfl, ?_⟩; replace HO_3 := am_ (Kd.R_below (by exact HO_3.out) hb); replace HO_4 := am_ (Kd.S_below (by exact HO_4.out) hb); replace HO_5 := am_ (Kd.R_below (by exact HO_5.out) hb); replace HL120_0 := am_ (Kd.R_below (by exact HL120_0.out) hb); replace HO123 := am_ (Kd.S_below (by exact HO123.out) hb); replace HL124_0 := am_ (Kd.R_below (by exact HL124_0.out) hb); replace HR120_0 := am_ (Kd.C_below (by repeat (first | (with_reducible exact HR120_0.out) | (with_reducible refine Kd.C_alloc ?_ _) | (with_reducible refine Kd.C_drewN ?_ _) | (with_reducible refine Kd.C_drew ?_) | exact HR120_0.out)) hb); replace HR124_0 := am_ (Kd.C_below (by repeat (first | (with_reducible exact HR124_0.out) | (with_reducible refine Kd.C_alloc ?_ _) | (with_reducible refine Kd.C_drewN ?_ _) | (with_reducible refine Kd.C_drew ?_) | exact HR124_0.out)) hb); replace HB := am_ (below_step (by repeat (first | (with_reducible first | exact HB.out | apply below_alloc | apply pw_below_drewN | apply below_drew1) | exact HB.out)) hb); (try clear hb); (try clear hb2); (try clear hk); (try clear hi); have p126 : 0 ≤ (x7_2 : Int) := of_decide_eq_true (by first | with_reducible assumption | assumption); have q126 : x7_2 < (t104.length : Int) := of_decide_eq_true (by first | with_reducible assumption | assumption); obtain ⟨ad126, A126_0, c126_0, e126, hx126_0, hl126_0, hi126_0⟩ := at_L4 (Kd.S_reads' HO_4.out).2.2 x7_2 p126 q126; obtain rfl : ad120 = ad126 := (by injection e126); obtain ⟨ce126, hce126, hMe126, hcc126⟩ := Kd.S_get HO_4.out [] x7_2 p126 (by first | exact q126 | exact of_decide_eq_true (by first | with_reducible assumption | assumption) | (have e_ := (Kd.S_reads' HO_4.out).1; omega)); obtain ⟨ve126_0, rfl, ge126_0⟩ := hMe126; have hv126_0 := hcc126 0 _ rfl; rw [Nat.add_zero, show ((Kd.slice 45 k45)).sz = 1 from rfl, Nat.mul_one] at hv126_0; replace hv126_0 := Option.some.inj (hv126_0.symm.trans hx126_0); rw [hv126_0] at ge126_0; have HL126_0 := Aside0.mk (show Kd.R k45 45 _ _ _ _ (rd_L4 t104 x7_2) from ge126_0); clear hv126_0 ge126_0; clear hcc126 hce126; have HR126_0 := Aside0.mk hi126_0; have HC126_0 := Aside0.mk hl126_0; clear hi126_0 hl126_0; replace p126 := eq_true p126; replace q126 := eq_true q126; obtain ⟨Ao36, co36, eo36⟩ := Kd.R_slice HO_5.out; subst eo36) | ((with_reducible refine gate_callee (f := 12) rfl ?_); refine goesL_ (some 55) rfl rfl Try.func12 (by kernel_rfl) rfl #[.slice Ao36 x5_2.length co36, .slice A126_0 (rd_L4 t104 x7_2).length c126_0, .int .i64 0] rfl (by simp only [List.map_toArray, List.map_cons, List.map_nil]; rfl) ?_; (with_reducible refine (laws_combined.calls _ _ x5_2 _ _ (rd_L4 t104 x7_2) 0 t127 _ ?side1 ?side2 ?side3 ?side4 A31.out).mono ?_); (case side1 => repeat (first | exact (Kd.R_reads' HO_5.out).2.2 | (with_reducible refine Kd.C_alloc ?_ _) | (with_reducible refine Kd.C_drewN ?_ _) | (with_reducible refine Kd.C_drew ?_))); (case side2 => exact (Kd.R_reads' HO_5.out).2.1); (case side3 => repeat (first | exact (by repeat (first | (with_reducible exact HR126_0.out) | (with_reducible refine Kd.C_alloc ?_ _) | (with_reducible refine Kd.C_drewN ?_ _) | (with_reducible refine Kd.C_drew ?_) | exact HR126_0.out)) | (with_reducible refine Kd.C_alloc ?_ _) | (with_reducible refine Kd.C_drewN ?_ _) | (with_reducible refine Kd.C_drew ?_))); (case side4 => exact HC126_0.out); rintro e w37 ⟨v128, rfl, ho0, hb⟩; refine ⟨_, rfl, ?_⟩; replace HO_4 := am_ (Kd.S_elder' (by exact HO_4.out) (Kd.R_base ho0) hb); replace HO123 := am_ (Kd.S_elder' (by exact HO123.out) (Kd.R_base ho0) hb); have HO129 := am_ (Kd.R_lower (Kd.R_new' (Kd.R_new' (Kd.R_new' (Kd.R_new' (Kd.R_new' ho0 (Kd.R_lt (by exact HO_3.out))) (Kd.R_lt (by exact HO_5.out))) (Kd.R_lt (by exact HL120_0.out))) (Kd.R_lt (by exact HL124_0.out))) (Kd.R_lt (by exact HL126_0.out))) (below_size (by repeat (first | (with_reducible first | exact HB.out | apply below_alloc | apply pw_below_drewN | apply below_drew1) | exact HB.out)))); replace HO_3 := am_ (Kd.R_elder' (by exact HO_3.out) (Kd.R_base ho0) hb); replace HO_5 := am_ (Kd.R_elder' (by exact HO_5.out) (Kd.R_base ho0) hb); replace HL120_0 := am_ (Kd.R_elder' (by exact HL120_0.out) (Kd.R_base ho0) hb); replace HL124_0 := am_ (Kd.R_elder' (by exact HL124_0.out) (Kd.R_base ho0) hb); replace HL126_0 := am_ (Kd.R_elder' (by exact HL126_0.out) (Kd.R_base ho0) hb); replace HR120_0 := am_ (Kd.C_below (by repeat (first | (with_reducible exact HR120_0.out) | (with_reducible refine Kd.C_alloc ?_ _) | (with_reducible refine Kd.C_drewN ?_ _) | (with_reducible refine Kd.C_drew ?_) | exact HR120_0.out)) hb); replace HR124_0 := am_ (Kd.C_below (by repeat (first | (with_reducible exact HR124_0.out) | (with_reducible refine Kd.C_alloc ?_ _) | (with_reducible refine Kd.C_drewN ?_ _) | (with_reducible refine Kd.C_drew ?_) | exact HR124_0.out)) hb); replace HR126_0 := am_ (Kd.C_below (by repeat (first | (with_reducible exact HR126_0.out) | (with_reducible refine Kd.C_alloc ?_ _) | (with_reducible refine Kd.C_drewN ?_ _) | (with_reducible refine Kd.C_drew ?_) | exact HR126_0.out)) hb); replace HB := am_ (below_step (by repeat (first | (with_reducible first | exact HB.out | apply below_alloc | apply pw_below_drewN | apply below_drew1) | exact HB.out)) hb); (try clear hb); (try clear hb2); (try clear hk); (try clear hi); (try clear ho0)))
      go_roundg k2
      case measure => have := HJ4.out; have := HK2.out; omega
      case rel => exact ⟨(t127), (wrap64 (x6_2 + t125)), (wrap64 (x7_2 + 1)), (by first | rfl | (simp; done) | (simp [*]; done)), (by first | rfl | (simp; done) | (simp [*]; done)), H', ⟨by have := HJ4.out; have := HK2.out; omega⟩, ⟨by exact Kd.R_mono HO_3.out (fun _ hk => hk.2)⟩, ⟨by exact Kd.S_mono HO_4.out (fun _ hk => ⟨hk.1.1.1, hk.2⟩)⟩, ⟨by exact Kd.R_mono HO129.out (fun _ hk => hk.1.1.1.1.2)⟩, ⟨by repeat (first | (with_reducible first | exact HB.out | apply below_alloc | apply pw_below_drewN | apply below_drew1) | exact HB.out)⟩⟩
     rw [if_neg c29] at H
     have c29b0 : ((t121.length : Int) == 1) = false := beq_eq_false_iff_ne.mpr c29
     have c29b1 : ((t121.length : Int) != 1) = true := bne_iff_ne.mpr c29
     obtain rfl := Option.some.inj H
     obtain ⟨Ao38, co38, eo38⟩ := Kd.S_slice HO_4.out
     subst eo38
     have p120 : 0 ≤ (x7_2 : Int) := of_decide_eq_true (by first | with_reducible assumption | assumption)
     have q120 : x7_2 < (t104.length : Int) := of_decide_eq_true (by first | with_reducible assumption | assumption)
     obtain ⟨ad120, A120_0, c120_0, e120, hx120_0, hl120_0, hi120_0⟩ := at_L4 (Kd.S_reads' HO_4.out).2.2 x7_2 p120 q120
     cases e120
     obtain ⟨ce120, hce120, hMe120, hcc120⟩ := Kd.S_get HO_4.out [] x7_2 p120 (by first | exact q120 | exact of_decide_eq_true (by first | with_reducible assumption | assumption) | (have e_ := (Kd.S_reads' HO_4.out).1; omega))
     obtain ⟨ve120_0, rfl, ge120_0⟩ := hMe120
     have hv120_0 := hcc120 0 _ rfl
     rw [Nat.add_zero, show ((Kd.slice 45 k45)).sz = 1 from rfl, Nat.mul_one] at hv120_0
     replace hv120_0 := Option.some.inj (hv120_0.symm.trans hx120_0)
     rw [hv120_0] at ge120_0
     have HL120_0 := Aside0.mk (show Kd.R k45 45 _ _ _ _ (rd_L4 t104 x7_2) from ge120_0)
     clear hv120_0 ge120_0
     clear hcc120 hce120
     have HR120_0 := Aside0.mk hi120_0
     have HC120_0 := Aside0.mk hl120_0
     clear hi120_0 hl120_0
     replace p120 := eq_true p120
     replace q120 := eq_true q120
     go_wp2_with (first | ((with_reducible refine gate_callee (f := 8) rfl ?_); refine goesL_ (some 40) rfl rfl Try.func8 (by kernel_rfl) rfl #[.slice A120_0 (rd_L4 t104 x7_2).length c120_0] rfl (by simp only [List.map_toArray, List.map_cons, List.map_nil]; rfl) ?_; (with_reducible refine (impl_PartsOf.calls _ _ (rd_L4 t104 x7_2) t121 _ ?side1 ?side2 A28.out).mono ?_); (case side1 => repeat (first | exact (by repeat (first | (with_reducible exact HR120_0.out) | (with_reducible refine Kd.C_alloc ?_ _) | (with_reducible refine Kd.C_drewN ?_ _) | (with_reducible refine Kd.C_drew ?_) | exact HR120_0.out)) | (with_reducible refine Kd.C_alloc ?_ _) | (with_reducible refine Kd.C_drewN ?_ _) | (with_reducible refine Kd.C_drew ?_))); (case side2 => exact HC120_0.out); rintro e w39 ⟨v122, rfl, ho0, hb⟩; refine ⟨_, rfl, ?_⟩; have HO123 := am_ (Kd.S_lower (Kd.S_new' (Kd.S_new' (Kd.S_new' (Kd.S_new' ho0 (Kd.R_lt (by exact HO_3.out))) (Kd.S_lt (by exact HO_4.out))) (Kd.R_lt (by exact HO_5.out))) (Kd.R_lt (by exact HL120_0.out))) (below_size (by repeat (first | (with_reducible first | exact HB.out | apply below_alloc | apply pw_below_drewN | apply below_drew1) | exact HB.out)))); replace HO_3 := am_ (Kd.R_below (by exact HO_3.out) hb); replace HO_4 := am_ (Kd.S_elder' (by exact HO_4.out) (Kd.S_base ho0) hb); replace HO_5 := am_ (Kd.R_below (by exact HO_5.out) hb); replace HL120_0 := am_ (Kd.R_below (by exact HL120_0.out) hb); replace HR120_0 := am_ (Kd.C_below (by repeat (first | (with_reducible exact HR120_0.out) | (with_reducible refine Kd.C_alloc ?_ _) | (with_reducible refine Kd.C_drewN ?_ _) | (with_reducible refine Kd.C_drew ?_) | exact HR120_0.out)) hb); replace HB := am_ (below_step (by repeat (first | (with_reducible first | exact HB.out | apply below_alloc | apply pw_below_drewN | apply below_drew1) | exact HB.out)) hb); (try clear hb); (try clear hb2); (try clear hk); (try clear hi); (try clear ho0); obtain ⟨Ao40, co40, eo40⟩ := Kd.S_slice HO123.out; subst eo40))
     go_ret
     exact ⟨by first | rfl | (simp [errW_none, errW_some] <;> rfl) | (simp [*, errW_none, errW_some] <;> rfl), by repeat (first | (with_reducible first | exact HB.out | apply below_alloc | apply pw_below_drewN | apply below_drew1) | exact HB.out)⟩

/-- THE ONE PURE STATEMENT of laws_FnPartsOf: yours. -/
def laws_FnPartsOf.Pure : Prop := ∀ (l0 : List Int), l0.length ≤ maxLen → l0.length * 1 ≤ 140737488351232 → (∀ x ∈ l0, (Lit.int .u8 x).wf = true) → ∃ k, laws_FnPartsOf.f k l0 = some true
theorem laws_FnPartsOf.walk (P : laws_FnPartsOf.Pure) (a0 : Option Addr) (len0 cap0 : Nat) (z0 : List Int) (w : World) (w0 : (a0 = none ∧ len0 = 0 ∧ cap0 = 0 ∧ z0 = []) ∨ ∃ x, a0 = some x ∧ len0 ≤ cap0 ∧ cap0 ≤ maxLen ∧ z0.length = cap0 ∧ (∀ i, i < z0.length → w.cell? (x.add i) = some (.int .u8 (z0.getD i 0))) ∧ ∀ n ∈ z0, (Lit.int .u8 n).wf = true) (y0 : len0 * 1 ≤ 140737488351232) :
  Calls Try.prog 3 #[.slice a0 len0 cap0] w fun e w' => e = .returned (.bool true) ∧ Below w.heap.size w w' := by
 obtain ⟨l0, rfl, hr0, hm0, hw0, hc0⟩ := ReadsInt.ofRowC w0
 obtain ⟨k, h⟩ := P l0 hm0 y0 hw0
 refine (laws_FnPartsOf.calls k _ _ l0 true w (Kd.C_of_reads (d := (0 : Int)) (h1 := fun _ => rfl) hr0) hc0 h).mono ?_
 rintro e w' ⟨rfl, hd⟩
 exact ⟨rfl, hd⟩

end Go.Proofs.Ytceoecmjccakgaa.Print
