-- laid by hp.py (a program of this work over the kit's print), with contracts by hand for what the print does not take
import Derived.Test.YtbpeonhhlfadcaaPrint0
import Derived.Test.YtbpeonhhlfadcaaPrintHimplPackSprites
import Derived.Test.YtbpeonhhlfadcaaPrintHx0
import Derived.Test.YtbpeonhhlfadcaaPrintR0x0
import Derived.Test.YtbpeonhhlfadcaaPrintR1x3
import Derived.Test.YtbpeonhhlfadcaaPrintR1x4
import Derived.Test.YtbpeonhhlfadcaaPrintR1x5
import Derived.Test.YtbpeonhhlfadcaaPrintR3x0
namespace Go.Proofs.Ytbpeonhhlfadcaa.Print
open Go.RowKit Go.Proofs.YtbpeonhhlfadcaaW.PrintWords Go.Proofs.YtbpeonhhlfadcaaW.PrintLast Go.Proofs.YtbpeonhhlfadcaaW.PrintMore
attribute [local go_sem] max2_int min2_int max_two min_two max_three min_three max_four min_four   -- for this text's walks alone
set_option linter.unusedVariables false
set_option linter.unusedSimpArgs false

/-! ### laws_FnExactPackSprites: function 4 -/
mutual
def laws_FnExactPackSprites.j0 : Nat → List (S55) → Int → List (S31) → Int → List (S33) → List (S31) → Int → Bool → Option (Bool)
 | 0, _, _, _, _, _, _, _, _ => none
 | k + 1, x0, x1, x6, x7, x8, x9, x10, x44 => if x44 = true then (some false) else ((laws_toSizeS.f k x0).bind fun t117 => ((laws_eqSizeS.f k x8 t117).bind fun t120 => (if t120 = true then ((laws_markSizeS.f k x8 1).bind fun bt121 => (if bt121.1 < 0 then (laws_FnExactPackSprites.j1 k x0 x1 x6 x7 x9 true) else ((laws_eqBoxS.f k x9 x6).bind fun t123 => (if t123 = true then (laws_FnExactPackSprites.j1 k x0 x1 x6 x7 x9 (x10 != x7)) else (laws_FnExactPackSprites.j1 k x0 x1 x6 x7 x9 true))))) else (some false))))
def laws_FnExactPackSprites.j1 : Nat → List (S55) → Int → List (S31) → Int → List (S31) → Bool → Option (Bool)
 | 0, _, _, _, _, _, _ => none
 | k + 1, x0, x1, x6, x7, x9, x65 => if x65 = true then (some false) else ((laws_markBoxS.f k x9 1).bind fun bt124 => ((laws_heldBoxS.f k bt124.2 1).bind fun t126 => (if t126 < 0 then (some false) else (if t126 = bt124.1 then ((laws_toSizeS.f k x0).bind fun t127 => ((impl_PackSprites.f t127 x1).bind fun bt130 => ((laws_eqBoxS.f k bt130.1 x6).bind fun t134 => (if t134 = true then (laws_FnExactPackSprites.j2 k bt124.2 bt124.1 (bt130.2 != x7)) else (laws_FnExactPackSprites.j2 k bt124.2 bt124.1 true))))) else (some false)))))
def laws_FnExactPackSprites.j2 : Nat → List (S31) → Int → Bool → Option (Bool)
 | 0, _, _, _ => none
 | k + 1, x9, x12, x92 => if x92 = true then (some false) else ((laws_heldBoxS.f k x9 1).bind fun t135 => (if t135 < 0 then (some false) else (if t135 = x12 then (some true) else (some false))))
end
def laws_FnExactPackSprites.f (k : Nat) (l0 : List (S55)) (a1 : Int) : Option (Bool) := (laws_szSizeS.f l0 1048576).bind fun t101 => (if t101 < 0 then (some true) else ((laws_toSizeS.f k l0).bind fun t102 => ((spec_PackSprites.f k t102 a1).bind fun bt105 => ((laws_toSizeS.f k l0).bind fun t109 => ((impl_PackSprites.f t109 a1).bind fun bt112 => ((laws_eqBoxS.f k bt112.1 bt105.1).bind fun t116 => (if t116 = true then (laws_FnExactPackSprites.j0 k l0 a1 bt105.1 bt105.2 t109 bt112.1 bt112.2 (bt112.2 != bt105.2)) else (laws_FnExactPackSprites.j0 k l0 a1 bt105.1 bt105.2 t109 bt112.1 bt112.2 true))))))))
theorem laws_FnExactPackSprites.mono_l : ∀ k, (∀ y0 y1 y2 y3 y4 y5 y6 y7, LeO (laws_FnExactPackSprites.j0 k y0 y1 y2 y3 y4 y5 y6 y7) (laws_FnExactPackSprites.j0 (k + 1) y0 y1 y2 y3 y4 y5 y6 y7)) ∧ (∀ y0 y1 y2 y3 y4 y5, LeO (laws_FnExactPackSprites.j1 k y0 y1 y2 y3 y4 y5) (laws_FnExactPackSprites.j1 (k + 1) y0 y1 y2 y3 y4 y5)) ∧ (∀ y0 y1 y2, LeO (laws_FnExactPackSprites.j2 k y0 y1 y2) (laws_FnExactPackSprites.j2 (k + 1) y0 y1 y2))
 | 0 => ⟨fun _ _ _ _ _ _ _ _ r h => by simp [laws_FnExactPackSprites.j0] at h, fun _ _ _ _ _ _ r h => by simp [laws_FnExactPackSprites.j1] at h, fun _ _ _ r h => by simp [laws_FnExactPackSprites.j2] at h⟩
 | k + 1 => by
  obtain ⟨ih0, ih1, ih2⟩ := laws_FnExactPackSprites.mono_l k
  refine ⟨?_, ?_, ?_⟩
  ·
   intro y0 y1 y2 y3 y4 y5 y6 y7
   unfold laws_FnExactPackSprites.j0
   repeat' first
   | (with_reducible exact ih0 _ _ _ _ _ _ _ _)
   | (with_reducible exact ih1 _ _ _ _ _ _)
   | (with_reducible exact ih2 _ _ _)
   | (with_reducible exact laws_eqBoxS.mono _ _ _)
   | (with_reducible exact laws_eqSizeS.mono _ _ _)
   | (with_reducible exact laws_heldBoxS.mono _ _ _)
   | (with_reducible exact laws_markBoxS.mono _ _ _)
   | (with_reducible exact laws_markSizeS.mono _ _ _)
   | (with_reducible exact laws_toSizeS.mono _ _)
   | (with_reducible exact spec_PackSprites.mono _ _ _)
   | (with_reducible exact LeO.refl _)
   | (with_reducible exact LeO.none _)
   | (with_reducible refine LeO.ite ?_ ?_)
   | (with_reducible refine LeO.bind ?_ (fun _ => ?_))
   | exact ih0 _ _ _ _ _ _ _ _
   | exact ih1 _ _ _ _ _ _
   | exact ih2 _ _ _
   | exact laws_eqBoxS.mono _ _ _
   | exact laws_eqSizeS.mono _ _ _
   | exact laws_heldBoxS.mono _ _ _
   | exact laws_markBoxS.mono _ _ _
   | exact laws_markSizeS.mono _ _ _
   | exact laws_toSizeS.mono _ _
   | exact spec_PackSprites.mono _ _ _
   | exact LeO.none _
   | refine LeO.ite ?_ ?_
   | refine LeO.bind ?_ (fun _ => ?_)
  ·
   intro y0 y1 y2 y3 y4 y5
   unfold laws_FnExactPackSprites.j1
   repeat' first
   | (with_reducible exact ih0 _ _ _ _ _ _ _ _)
   | (with_reducible exact ih1 _ _ _ _ _ _)
   | (with_reducible exact ih2 _ _ _)
   | (with_reducible exact laws_eqBoxS.mono _ _ _)
   | (with_reducible exact laws_eqSizeS.mono _ _ _)
   | (with_reducible exact laws_heldBoxS.mono _ _ _)
   | (with_reducible exact laws_markBoxS.mono _ _ _)
   | (with_reducible exact laws_markSizeS.mono _ _ _)
   | (with_reducible exact laws_toSizeS.mono _ _)
   | (with_reducible exact spec_PackSprites.mono _ _ _)
   | (with_reducible exact LeO.refl _)
   | (with_reducible exact LeO.none _)
   | (with_reducible refine LeO.ite ?_ ?_)
   | (with_reducible refine LeO.bind ?_ (fun _ => ?_))
   | exact ih0 _ _ _ _ _ _ _ _
   | exact ih1 _ _ _ _ _ _
   | exact ih2 _ _ _
   | exact laws_eqBoxS.mono _ _ _
   | exact laws_eqSizeS.mono _ _ _
   | exact laws_heldBoxS.mono _ _ _
   | exact laws_markBoxS.mono _ _ _
   | exact laws_markSizeS.mono _ _ _
   | exact laws_toSizeS.mono _ _
   | exact spec_PackSprites.mono _ _ _
   | exact LeO.none _
   | refine LeO.ite ?_ ?_
   | refine LeO.bind ?_ (fun _ => ?_)
  intro y0 y1 y2
  unfold laws_FnExactPackSprites.j2
  repeat' first
  | (with_reducible exact ih0 _ _ _ _ _ _ _ _)
  | (with_reducible exact ih1 _ _ _ _ _ _)
  | (with_reducible exact ih2 _ _ _)
  | (with_reducible exact laws_eqBoxS.mono _ _ _)
  | (with_reducible exact laws_eqSizeS.mono _ _ _)
  | (with_reducible exact laws_heldBoxS.mono _ _ _)
  | (with_reducible exact laws_markBoxS.mono _ _ _)
  | (with_reducible exact laws_markSizeS.mono _ _ _)
  | (with_reducible exact laws_toSizeS.mono _ _)
  | (with_reducible exact spec_PackSprites.mono _ _ _)
  | (with_reducible exact LeO.refl _)
  | (with_reducible exact LeO.none _)
  | (with_reducible refine LeO.ite ?_ ?_)
  | (with_reducible refine LeO.bind ?_ (fun _ => ?_))
  | exact ih0 _ _ _ _ _ _ _ _
  | exact ih1 _ _ _ _ _ _
  | exact ih2 _ _ _
  | exact laws_eqBoxS.mono _ _ _
  | exact laws_eqSizeS.mono _ _ _
  | exact laws_heldBoxS.mono _ _ _
  | exact laws_markBoxS.mono _ _ _
  | exact laws_markSizeS.mono _ _ _
  | exact laws_toSizeS.mono _ _
  | exact spec_PackSprites.mono _ _ _
  | exact LeO.none _
  | refine LeO.ite ?_ ?_
  | refine LeO.bind ?_ (fun _ => ?_)
theorem laws_FnExactPackSprites.mono : ∀ a0 a1 k, LeO (laws_FnExactPackSprites.f k a0 a1) (laws_FnExactPackSprites.f (k + 1) a0 a1) := by
 intro a0 a1 k
 obtain ⟨ih0, ih1, ih2⟩ := laws_FnExactPackSprites.mono_l k
 unfold laws_FnExactPackSprites.f
 repeat' first
   | (with_reducible exact ih0 _ _ _ _ _ _ _ _)
   | (with_reducible exact ih1 _ _ _ _ _ _)
   | (with_reducible exact ih2 _ _ _)
   | (with_reducible exact laws_eqBoxS.mono _ _ _)
   | (with_reducible exact laws_eqSizeS.mono _ _ _)
   | (with_reducible exact laws_heldBoxS.mono _ _ _)
   | (with_reducible exact laws_markBoxS.mono _ _ _)
   | (with_reducible exact laws_markSizeS.mono _ _ _)
   | (with_reducible exact laws_toSizeS.mono _ _)
   | (with_reducible exact spec_PackSprites.mono _ _ _)
   | (with_reducible exact LeO.refl _)
   | (with_reducible exact LeO.none _)
   | (with_reducible refine LeO.ite ?_ ?_)
   | (with_reducible refine LeO.bind ?_ (fun _ => ?_))
   | exact ih0 _ _ _ _ _ _ _ _
   | exact ih1 _ _ _ _ _ _
   | exact ih2 _ _ _
   | exact laws_eqBoxS.mono _ _ _
   | exact laws_eqSizeS.mono _ _ _
   | exact laws_heldBoxS.mono _ _ _
   | exact laws_markBoxS.mono _ _ _
   | exact laws_markSizeS.mono _ _ _
   | exact laws_toSizeS.mono _ _
   | exact spec_PackSprites.mono _ _ _
   | exact LeO.none _
   | refine LeO.ite ?_ ?_
   | refine LeO.bind ?_ (fun _ => ?_)
set_option maxHeartbeats 8000000 in
set_option maxRecDepth 100000 in
theorem laws_FnExactPackSprites.calls (k : Nat) (A0 : Option Addr) (c0 : Nat) (l0 : List (S55)) (a1 : Int) (r : Bool) (w : World) (hr0 : Kd.C k55 w A0 l0.length l0) (hc0 : l0.length ≤ c0) (h : laws_FnExactPackSprites.f k l0 a1 = some r) :
  Calls Try.prog 4 #[.slice A0 l0.length c0, .int .i64 a1] w fun e w' => e = .returned (.bool r) ∧ Below w.heap.size w w' := by
 have HR0 := Aside0.mk hr0
 have HC0 := Aside0.mk hc0
 clear hr0 hc0
 have HB := Aside0.mk (Below.refl w.heap.size w)
 have H : ((laws_szSizeS.f l0 1048576).bind fun t101 => (if t101 < 0 then (some true) else ((laws_toSizeS.f k l0).bind fun t102 => ((spec_PackSprites.f k t102 a1).bind fun bt105 => ((laws_toSizeS.f k l0).bind fun t109 => ((impl_PackSprites.f t109 a1).bind fun bt112 => ((laws_eqBoxS.f k bt112.1 bt105.1).bind fun t116 => (if t116 = true then (laws_FnExactPackSprites.j0 k l0 a1 bt105.1 bt105.2 t109 bt112.1 bt112.2 (bt112.2 != bt105.2)) else (laws_FnExactPackSprites.j0 k l0 a1 bt105.1 bt105.2 t109 bt112.1 bt112.2 true))))))))) = some r := h
 clear h
 replace H := Option.bind_eq_some_iff.mp H
 obtain ⟨t101, A30, H⟩ := H
 replace H : (if t101 < 0 then (some true) else ((laws_toSizeS.f k l0).bind fun t102 => ((spec_PackSprites.f k t102 a1).bind fun bt105 => ((laws_toSizeS.f k l0).bind fun t109 => ((impl_PackSprites.f t109 a1).bind fun bt112 => ((laws_eqBoxS.f k bt112.1 bt105.1).bind fun t116 => (if t116 = true then (laws_FnExactPackSprites.j0 k l0 a1 bt105.1 bt105.2 t109 bt112.1 bt112.2 (bt112.2 != bt105.2)) else (laws_FnExactPackSprites.j0 k l0 a1 bt105.1 bt105.2 t109 bt112.1 bt112.2 true)))))))) = some r := H
 have A3 := Aside0.mk A30
 clear A30
 by_cases c4 : t101 < 0
 ·
  rw [if_pos c4] at H
  have c4b0 : decide (t101 < 0) = true := decide_eq_true c4
  clear c4
  obtain rfl := Option.some.inj H
  go_enter Try.func4, Try.ntmps4
  go_wp2_with (first | ((with_reducible refine gate_callee (f := 10) rfl ?_); refine goesL_ (some 18) rfl rfl Try.func10 (by kernel_rfl) rfl #[.slice A0 l0.length c0, .int .i64 1048576] rfl (by simp only [List.map_toArray, List.map_cons, List.map_nil]; rfl) ?_; (with_reducible refine (laws_szSizeS.calls _ _ l0 1048576 t101 _ ?side1 ?side2 A3.out).mono ?_); (case side1 => repeat (first | exact HR0.out | (with_reducible refine Kd.C_alloc ?_ _) | (with_reducible refine Kd.C_drewN ?_ _) | (with_reducible refine Kd.C_drew ?_))); (case side2 => exact HC0.out); rintro e w' ⟨rfl, ⟨nd, rfl⟩⟩; refine ⟨_, rfl, ?_⟩))
  go_ret
  exact ⟨by first | rfl | (simp [errW_none, errW_some] <;> rfl) | (simp [*, errW_none, errW_some] <;> rfl), by repeat (first | (with_reducible first | exact HB.out | apply below_alloc | apply pw_below_drewN | apply below_drew1) | exact HB.out)⟩
 rw [if_neg c4] at H
 have c4b0 : decide (t101 < 0) = false := decide_eq_false c4
 clear c4
 replace H := Option.bind_eq_some_iff.mp H
 obtain ⟨t102, A50, H⟩ := H
 replace H : ((spec_PackSprites.f k t102 a1).bind fun bt105 => ((laws_toSizeS.f k l0).bind fun t109 => ((impl_PackSprites.f t109 a1).bind fun bt112 => ((laws_eqBoxS.f k bt112.1 bt105.1).bind fun t116 => (if t116 = true then (laws_FnExactPackSprites.j0 k l0 a1 bt105.1 bt105.2 t109 bt112.1 bt112.2 (bt112.2 != bt105.2)) else (laws_FnExactPackSprites.j0 k l0 a1 bt105.1 bt105.2 t109 bt112.1 bt112.2 true)))))) = some r := H
 have A5 := Aside0.mk A50
 clear A50
 replace H := Option.bind_eq_some_iff.mp H
 obtain ⟨⟨t105, t106⟩, A60, H⟩ := H
 replace H : ((laws_toSizeS.f k l0).bind fun t109 => ((impl_PackSprites.f t109 a1).bind fun bt112 => ((laws_eqBoxS.f k bt112.1 t105).bind fun t116 => (if t116 = true then (laws_FnExactPackSprites.j0 k l0 a1 t105 t106 t109 bt112.1 bt112.2 (bt112.2 != t106)) else (laws_FnExactPackSprites.j0 k l0 a1 t105 t106 t109 bt112.1 bt112.2 true))))) = some r := H
 have A6 := Aside0.mk A60
 clear A60
 replace H := Option.bind_eq_some_iff.mp H
 obtain ⟨t109, A70, H⟩ := H
 replace H : ((impl_PackSprites.f t109 a1).bind fun bt112 => ((laws_eqBoxS.f k bt112.1 t105).bind fun t116 => (if t116 = true then (laws_FnExactPackSprites.j0 k l0 a1 t105 t106 t109 bt112.1 bt112.2 (bt112.2 != t106)) else (laws_FnExactPackSprites.j0 k l0 a1 t105 t106 t109 bt112.1 bt112.2 true)))) = some r := H
 have A7 := Aside0.mk A70
 clear A70
 replace H := Option.bind_eq_some_iff.mp H
 obtain ⟨⟨t112, t113⟩, A80, H⟩ := H
 replace H : ((laws_eqBoxS.f k t112 t105).bind fun t116 => (if t116 = true then (laws_FnExactPackSprites.j0 k l0 a1 t105 t106 t109 t112 t113 (t113 != t106)) else (laws_FnExactPackSprites.j0 k l0 a1 t105 t106 t109 t112 t113 true))) = some r := H
 have A8 := Aside0.mk A80
 clear A80
 have HC9 := Aside0.mk H
 clear H
 go_enter Try.func4, Try.ntmps4
 go_upto_region 8 with (first | ((with_reducible refine gate_callee (f := 10) rfl ?_); refine goesL_ (some 18) rfl rfl Try.func10 (by kernel_rfl) rfl #[.slice A0 l0.length c0, .int .i64 1048576] rfl (by simp only [List.map_toArray, List.map_cons, List.map_nil]; rfl) ?_; (with_reducible refine (laws_szSizeS.calls _ _ l0 1048576 t101 _ ?side1 ?side2 A3.out).mono ?_); (case side1 => repeat (first | exact HR0.out | (with_reducible refine Kd.C_alloc ?_ _) | (with_reducible refine Kd.C_drewN ?_ _) | (with_reducible refine Kd.C_drew ?_))); (case side2 => exact HC0.out); rintro e w' ⟨rfl, ⟨nd, rfl⟩⟩; refine ⟨_, rfl, ?_⟩) | ((with_reducible refine gate_callee (f := 11) rfl ?_); refine goesL_ (some 23) rfl rfl Try.func11 (by kernel_rfl) rfl #[.slice A0 l0.length c0] rfl (by simp only [List.map_toArray, List.map_cons, List.map_nil]; rfl) ?_; (with_reducible refine (laws_toSizeS.calls k _ _ l0 t102 _ ?side1 ?side2 A5.out).mono ?_); (case side1 => repeat (first | exact HR0.out | (with_reducible refine Kd.C_alloc ?_ _) | (with_reducible refine Kd.C_drewN ?_ _) | (with_reducible refine Kd.C_drew ?_))); (case side2 => exact HC0.out); rintro e w10 ⟨v103, rfl, ho0, hb⟩; refine ⟨_, rfl, ?_⟩; have HO104 := am_ (Kd.R_lower ho0 (below_size (by repeat (first | (with_reducible first | exact HB.out | apply below_alloc | apply pw_below_drewN | apply below_drew1) | exact HB.out)))); replace HB := am_ (below_step (by repeat (first | (with_reducible first | exact HB.out | apply below_alloc | apply pw_below_drewN | apply below_drew1) | exact HB.out)) hb); (try clear hb); (try clear hb2); (try clear hk); (try clear hi); (try clear ho0); obtain ⟨Ao11, co11, eo11⟩ := Kd.R_slice HO104.out; subst eo11) | ((with_reducible refine gate_callee (f := 7) rfl ?_); refine goesL_ (some 25) rfl rfl Try.func7 (by kernel_rfl) rfl #[.slice Ao11 t102.length co11, .int .i64 a1] rfl (by simp only [List.map_toArray, List.map_cons, List.map_nil]; rfl) ?_; (with_reducible refine (spec_PackSprites.calls k _ _ t102 a1 t105 t106 _ ?side1 ?side2 A6.out).mono ?_); (case side1 => repeat (first | exact (Kd.R_reads' HO104.out).2.2 | (with_reducible refine Kd.C_alloc ?_ _) | (with_reducible refine Kd.C_drewN ?_ _) | (with_reducible refine Kd.C_drew ?_))); (case side2 => exact (Kd.R_reads' HO104.out).2.1); rintro e w12 ⟨v107, rfl, ho0, hb⟩; refine ⟨_, rfl, ?_⟩; replace HO104 := am_ (Kd.R_below (by exact HO104.out) hb); have HO108 := am_ (Kd.R_lower ho0 (below_size (by repeat (first | (with_reducible first | exact HB.out | apply below_alloc | apply pw_below_drewN | apply below_drew1) | exact HB.out)))); replace HB := am_ (below_step (by repeat (first | (with_reducible first | exact HB.out | apply below_alloc | apply pw_below_drewN | apply below_drew1) | exact HB.out)) hb); (try clear hb); (try clear hb2); (try clear hk); (try clear hi); (try clear ho0)) | ((with_reducible refine gate_callee (f := 11) rfl ?_); refine goesL_ (some 29) rfl rfl Try.func11 (by kernel_rfl) rfl #[.slice A0 l0.length c0] rfl (by simp only [List.map_toArray, List.map_cons, List.map_nil]; rfl) ?_; (with_reducible refine (laws_toSizeS.calls k _ _ l0 t109 _ ?side1 ?side2 A7.out).mono ?_); (case side1 => repeat (first | exact (Kd.C_below HR0.out HB.out) | (with_reducible refine Kd.C_alloc ?_ _) | (with_reducible refine Kd.C_drewN ?_ _) | (with_reducible refine Kd.C_drew ?_))); (case side2 => exact HC0.out); rintro e w13 ⟨v110, rfl, ho0, hb⟩; refine ⟨_, rfl, ?_⟩; replace HO108 := am_ (Kd.R_below (by exact HO108.out) hb); have HO111 := am_ (Kd.R_lower (Kd.R_new' ho0 (Kd.R_lt (by exact HO104.out))) (below_size (by repeat (first | (with_reducible first | exact HB.out | apply below_alloc | apply pw_below_drewN | apply below_drew1) | exact HB.out)))); replace HO104 := am_ (Kd.R_elder' (by exact HO104.out) (Kd.R_base ho0) hb); replace HB := am_ (below_step (by repeat (first | (with_reducible first | exact HB.out | apply below_alloc | apply pw_below_drewN | apply below_drew1) | exact HB.out)) hb); (try clear hb); (try clear hb2); (try clear hk); (try clear hi); (try clear ho0); obtain ⟨Ao14, co14, eo14⟩ := Kd.R_slice HO111.out; subst eo14) | ((with_reducible refine gate_callee (f := 6) rfl ?_); refine goesL_ (some 33) rfl rfl Try.func6 (by kernel_rfl) rfl #[.slice Ao14 t109.length co14, .int .i64 a1] rfl (by simp only [List.map_toArray, List.map_cons, List.map_nil]; rfl) ?_; (with_reducible refine (impl_PackSprites.calls _ _ t109 a1 t112 t113 _ ?side1 ?side2 A8.out).mono ?_); (case side1 => repeat (first | exact (Kd.R_reads' HO111.out).2.2 | (with_reducible refine Kd.C_alloc ?_ _) | (with_reducible refine Kd.C_drewN ?_ _) | (with_reducible refine Kd.C_drew ?_))); (case side2 => exact (Kd.R_reads' HO111.out).2.1); rintro e w15 ⟨v114, rfl, ho0, hb⟩; refine ⟨_, rfl, ?_⟩; replace HO104 := am_ (Kd.R_below (by exact HO104.out) hb); replace HO111 := am_ (Kd.R_below (by exact HO111.out) hb); have HO115 := am_ (Kd.R_lower (Kd.R_new' ho0 (Kd.R_lt (by exact HO108.out))) (below_size (by repeat (first | (with_reducible first | exact HB.out | apply below_alloc | apply pw_below_drewN | apply below_drew1) | exact HB.out)))); replace HO108 := am_ (Kd.R_elder' (by exact HO108.out) (Kd.R_base ho0) hb); replace HB := am_ (below_step (by repeat (first | (with_reducible first | exact HB.out | apply below_alloc | apply pw_below_drewN | apply below_drew1) | exact HB.out)) hb); (try clear hb); (try clear hb2); (try clear hk); (try clear hi); (try clear ho0)))
 (try simp only [Act.put, List.setIfInBounds_toArray, List.set_cons_zero, List.set_cons_succ])
 go_cut [44] (fun v44 wc => ∃ (kq : Nat) (x44_8 : Bool), v44 = .bool x44_8 ∧ Aside0 (laws_FnExactPackSprites.j0 kq l0 a1 t105 t106 t109 t112 t113 x44_8 = some r) ∧ Aside0 (kq ≤ k) ∧ Aside0 (Kd.R k31 31 wc w.heap.size (fun k_ => some k_ ≠ (v114 : Value).ownBlock) v107 t105) ∧ Aside0 (Kd.R k33 33 wc w.heap.size (fun _ => True) (.slice Ao14 t109.length co14) t109) ∧ Aside0 (Kd.R k31 31 wc w.heap.size (fun k_ => some k_ ≠ (v107 : Value).ownBlock) v114 t112) ∧ Aside0 (Below w.heap.size w wc))
 case first =>
  have H := HC9.out
  clear HC9
  replace H := Option.bind_eq_some_iff.mp H
  obtain ⟨t116, A160, H⟩ := H
  replace H : (if t116 = true then (laws_FnExactPackSprites.j0 k l0 a1 t105 t106 t109 t112 t113 (t113 != t106)) else (laws_FnExactPackSprites.j0 k l0 a1 t105 t106 t109 t112 t113 true)) = some r := H
  have A16 := Aside0.mk A160
  clear A160
  by_cases c17 : t116 = true
  ·
   subst c17
   have H1 : (laws_FnExactPackSprites.j0 k l0 a1 t105 t106 t109 t112 t113 (t113 != t106)) = some r := by rw [if_pos rfl] at H; exact H
   clear H
   have H := H1
   clear H1
   have H' := Aside0.mk H
   clear H
   obtain ⟨Ao18, co18, eo18⟩ := Kd.R_slice HO115.out
   subst eo18
   obtain ⟨Ao19, co19, eo19⟩ := Kd.R_slice HO108.out
   subst eo19
   go_wp2_with (first | ((with_reducible refine gate_callee (f := 12) rfl ?_); refine goesL_ (some 38) rfl rfl Try.func12 (by kernel_rfl) rfl #[.slice Ao18 t112.length co18, .slice Ao19 t105.length co19] rfl (by simp only [List.map_toArray, List.map_cons, List.map_nil]; rfl) ?_; (with_reducible refine (laws_eqBoxS.calls k _ _ t112 _ _ t105 true _ ?side1 ?side2 ?side3 ?side4 A16.out).mono ?_); (case side1 => repeat (first | exact (Kd.R_reads' HO115.out).2.2 | (with_reducible refine Kd.C_alloc ?_ _) | (with_reducible refine Kd.C_drewN ?_ _) | (with_reducible refine Kd.C_drew ?_))); (case side2 => exact (Kd.R_reads' HO115.out).2.1); (case side3 => repeat (first | exact (Kd.R_reads' HO108.out).2.2 | (with_reducible refine Kd.C_alloc ?_ _) | (with_reducible refine Kd.C_drewN ?_ _) | (with_reducible refine Kd.C_drew ?_))); (case side4 => exact (Kd.R_reads' HO108.out).2.1); rintro e w20 ⟨rfl, hb⟩; refine ⟨_, rfl, ?_⟩; replace HO104 := am_ (Kd.R_below (by exact HO104.out) hb); replace HO108 := am_ (Kd.R_below (by exact HO108.out) hb); replace HO111 := am_ (Kd.R_below (by exact HO111.out) hb); replace HO115 := am_ (Kd.R_below (by exact HO115.out) hb); replace HB := am_ (below_step (by repeat (first | (with_reducible first | exact HB.out | apply below_alloc | apply pw_below_drewN | apply below_drew1) | exact HB.out)) hb); (try clear hb); (try clear hb2); (try clear hk); (try clear hi)))
   go_meet
   case rel => exact ⟨_, ((t113 != t106)), (by first | rfl | (simp; done) | (simp [*]; done)), H', ⟨by first | omega | exact Nat.le_refl _⟩, ⟨by exact Kd.R_mono HO108.out (fun _ hk => hk.2)⟩, ⟨by exact Kd.R_mono HO111.out (fun _ hk => trivial)⟩, ⟨by exact Kd.R_mono HO115.out (fun _ hk => hk.2)⟩, ⟨by repeat (first | (with_reducible first | exact HB.out | apply below_alloc | apply pw_below_drewN | apply below_drew1) | exact HB.out)⟩⟩
  replace c17 := Bool.eq_false_iff.mpr c17
  subst c17
  have H1 : (laws_FnExactPackSprites.j0 k l0 a1 t105 t106 t109 t112 t113 true) = some r := by rw [if_neg (show ¬ (false = true) by decide)] at H; exact H
  clear H
  have H := H1
  clear H1
  have H' := Aside0.mk H
  clear H
  obtain ⟨Ao21, co21, eo21⟩ := Kd.R_slice HO115.out
  subst eo21
  obtain ⟨Ao22, co22, eo22⟩ := Kd.R_slice HO108.out
  subst eo22
  go_wp2_with (first | ((with_reducible refine gate_callee (f := 12) rfl ?_); refine goesL_ (some 38) rfl rfl Try.func12 (by kernel_rfl) rfl #[.slice Ao21 t112.length co21, .slice Ao22 t105.length co22] rfl (by simp only [List.map_toArray, List.map_cons, List.map_nil]; rfl) ?_; (with_reducible refine (laws_eqBoxS.calls k _ _ t112 _ _ t105 false _ ?side1 ?side2 ?side3 ?side4 A16.out).mono ?_); (case side1 => repeat (first | exact (Kd.R_reads' HO115.out).2.2 | (with_reducible refine Kd.C_alloc ?_ _) | (with_reducible refine Kd.C_drewN ?_ _) | (with_reducible refine Kd.C_drew ?_))); (case side2 => exact (Kd.R_reads' HO115.out).2.1); (case side3 => repeat (first | exact (Kd.R_reads' HO108.out).2.2 | (with_reducible refine Kd.C_alloc ?_ _) | (with_reducible refine Kd.C_drewN ?_ _) | (with_reducible refine Kd.C_drew ?_))); (case side4 => exact (Kd.R_reads' HO108.out).2.1); rintro e w23 ⟨rfl, hb⟩; refine ⟨_, rfl, ?_⟩; replace HO104 := am_ (Kd.R_below (by exact HO104.out) hb); replace HO108 := am_ (Kd.R_below (by exact HO108.out) hb); replace HO111 := am_ (Kd.R_below (by exact HO111.out) hb); replace HO115 := am_ (Kd.R_below (by exact HO115.out) hb); replace HB := am_ (below_step (by repeat (first | (with_reducible first | exact HB.out | apply below_alloc | apply pw_below_drewN | apply below_drew1) | exact HB.out)) hb); (try clear hb); (try clear hb2); (try clear hk); (try clear hi)))
  go_meet
  case rel => exact ⟨_, (true), (by first | rfl | (simp; done) | (simp [*]; done)), H', ⟨by first | omega | exact Nat.le_refl _⟩, ⟨by exact Kd.R_mono HO108.out (fun _ hk => hk.2)⟩, ⟨by exact Kd.R_mono HO111.out (fun _ hk => trivial)⟩, ⟨by exact Kd.R_mono HO115.out (fun _ hk => hk.2)⟩, ⟨by repeat (first | (with_reducible first | exact HB.out | apply below_alloc | apply pw_below_drewN | apply below_drew1) | exact HB.out)⟩⟩
 case rest =>
  clear HC9
  try clear c1
  try clear p2
  try clear c4
  try clear c4b0
  try clear c6
  try clear c7
  try clear c10
  try clear c11
  try clear c12
  try clear c17
  obtain ⟨kq, x44_8, rfl, HA, HJ8, HO_6, HO_8, HO_9, HB⟩ := hcut
  cases kq with
  | zero => exact absurd HA.out (by simp [laws_FnExactPackSprites.j0])
  | succ kj8 =>
   have H := HA.out
   clear HA
   simp only [laws_FnExactPackSprites.j0] at H
   by_cases c24 : x44_8 = true
   ·
    subst c24
    have H1 : (some false) = some r := by rw [if_pos rfl] at H; exact H
    clear H
    have H := H1
    clear H1
    obtain rfl := Option.some.inj H
    go_wp2
    go_ret
    exact ⟨by first | rfl | (simp [errW_none, errW_some] <;> rfl) | (simp [*, errW_none, errW_some] <;> rfl), by repeat (first | (with_reducible first | exact HB.out | apply below_alloc | apply pw_below_drewN | apply below_drew1) | exact HB.out)⟩
   replace c24 := Bool.eq_false_iff.mpr c24
   subst c24
   have H1 : ((laws_toSizeS.f kj8 l0).bind fun t117 => ((laws_eqSizeS.f kj8 t109 t117).bind fun t120 => (if t120 = true then ((laws_markSizeS.f kj8 t109 1).bind fun bt121 => (if bt121.1 < 0 then (laws_FnExactPackSprites.j1 kj8 l0 a1 t105 t106 t112 true) else ((laws_eqBoxS.f kj8 t112 t105).bind fun t123 => (if t123 = true then (laws_FnExactPackSprites.j1 kj8 l0 a1 t105 t106 t112 (t113 != t106)) else (laws_FnExactPackSprites.j1 kj8 l0 a1 t105 t106 t112 true))))) else (some false)))) = some r := by rw [if_neg (show ¬ (false = true) by decide)] at H; exact H
   clear H
   have H := H1
   clear H1
   replace H := Option.bind_eq_some_iff.mp H
   obtain ⟨t117, A250, H⟩ := H
   replace H : ((laws_eqSizeS.f kj8 t109 t117).bind fun t120 => (if t120 = true then ((laws_markSizeS.f kj8 t109 1).bind fun bt121 => (if bt121.1 < 0 then (laws_FnExactPackSprites.j1 kj8 l0 a1 t105 t106 t112 true) else ((laws_eqBoxS.f kj8 t112 t105).bind fun t123 => (if t123 = true then (laws_FnExactPackSprites.j1 kj8 l0 a1 t105 t106 t112 (t113 != t106)) else (laws_FnExactPackSprites.j1 kj8 l0 a1 t105 t106 t112 true))))) else (some false))) = some r := H
   have A25 := Aside0.mk A250
   clear A250
   replace H := Option.bind_eq_some_iff.mp H
   obtain ⟨t120, A260, H⟩ := H
   replace H : (if t120 = true then ((laws_markSizeS.f kj8 t109 1).bind fun bt121 => (if bt121.1 < 0 then (laws_FnExactPackSprites.j1 kj8 l0 a1 t105 t106 t112 true) else ((laws_eqBoxS.f kj8 t112 t105).bind fun t123 => (if t123 = true then (laws_FnExactPackSprites.j1 kj8 l0 a1 t105 t106 t112 (t113 != t106)) else (laws_FnExactPackSprites.j1 kj8 l0 a1 t105 t106 t112 true))))) else (some false)) = some r := H
   have A26 := Aside0.mk A260
   clear A260
   by_cases c27 : t120 = true
   rotate_left
   ·
    replace c27 := Bool.eq_false_iff.mpr c27
    subst c27
    have H1 : (some false) = some r := by rw [if_neg (show ¬ (false = true) by decide)] at H; exact H
    clear H
    have H := H1
    clear H1
    obtain rfl := Option.some.inj H
    go_wp2_with (first | ((with_reducible refine gate_callee (f := 11) rfl ?_); refine goesL_ (some 47) rfl rfl Try.func11 (by kernel_rfl) rfl #[.slice A0 l0.length c0] rfl (by simp only [List.map_toArray, List.map_cons, List.map_nil]; rfl) ?_; (with_reducible refine (laws_toSizeS.calls kj8 _ _ l0 t117 _ ?side1 ?side2 A25.out).mono ?_); (case side1 => repeat (first | exact (Kd.C_below HR0.out HB.out) | (with_reducible refine Kd.C_alloc ?_ _) | (with_reducible refine Kd.C_drewN ?_ _) | (with_reducible refine Kd.C_drew ?_))); (case side2 => exact HC0.out); rintro e w72 ⟨v118, rfl, ho0, hb⟩; refine ⟨_, rfl, ?_⟩; replace HO_6 := am_ (Kd.R_below (by exact HO_6.out) hb); replace HO_9 := am_ (Kd.R_below (by exact HO_9.out) hb); have HO119 := am_ (Kd.R_lower (Kd.R_new' ho0 (Kd.R_lt (by exact HO_8.out))) (below_size (by repeat (first | (with_reducible first | exact HB.out | apply below_alloc | apply pw_below_drewN | apply below_drew1) | exact HB.out)))); replace HO_8 := am_ (Kd.R_elder' (by exact HO_8.out) (Kd.R_base ho0) hb); replace HB := am_ (below_step (by repeat (first | (with_reducible first | exact HB.out | apply below_alloc | apply pw_below_drewN | apply below_drew1) | exact HB.out)) hb); (try clear hb); (try clear hb2); (try clear hk); (try clear hi); (try clear ho0); obtain ⟨Ao73, co73, eo73⟩ := Kd.R_slice HO119.out; subst eo73) | ((with_reducible refine gate_callee (f := 13) rfl ?_); refine goesL_ (some 48) rfl rfl Try.func13 (by kernel_rfl) rfl #[.slice Ao14 t109.length co14, .slice Ao73 t117.length co73] rfl (by simp only [List.map_toArray, List.map_cons, List.map_nil]; rfl) ?_; (with_reducible refine (laws_eqSizeS.calls kj8 _ _ t109 _ _ t117 false _ ?side1 ?side2 ?side3 ?side4 A26.out).mono ?_); (case side1 => repeat (first | exact (Kd.R_reads' HO_8.out).2.2 | (with_reducible refine Kd.C_alloc ?_ _) | (with_reducible refine Kd.C_drewN ?_ _) | (with_reducible refine Kd.C_drew ?_))); (case side2 => exact (Kd.R_reads' HO_8.out).2.1); (case side3 => repeat (first | exact (Kd.R_reads' HO119.out).2.2 | (with_reducible refine Kd.C_alloc ?_ _) | (with_reducible refine Kd.C_drewN ?_ _) | (with_reducible refine Kd.C_drew ?_))); (case side4 => exact (Kd.R_reads' HO119.out).2.1); rintro e w74 ⟨rfl, hb⟩; refine ⟨_, rfl, ?_⟩; replace HO_6 := am_ (Kd.R_below (by exact HO_6.out) hb); replace HO_8 := am_ (Kd.R_below (by exact HO_8.out) hb); replace HO_9 := am_ (Kd.R_below (by exact HO_9.out) hb); replace HO119 := am_ (Kd.R_below (by exact HO119.out) hb); replace HB := am_ (below_step (by repeat (first | (with_reducible first | exact HB.out | apply below_alloc | apply pw_below_drewN | apply below_drew1) | exact HB.out)) hb); (try clear hb); (try clear hb2); (try clear hk); (try clear hi)))
    go_ret
    exact ⟨by first | rfl | (simp [errW_none, errW_some] <;> rfl) | (simp [*, errW_none, errW_some] <;> rfl), by repeat (first | (with_reducible first | exact HB.out | apply below_alloc | apply pw_below_drewN | apply below_drew1) | exact HB.out)⟩
   subst c27
   have H1 : ((laws_markSizeS.f kj8 t109 1).bind fun bt121 => (if bt121.1 < 0 then (laws_FnExactPackSprites.j1 kj8 l0 a1 t105 t106 t112 true) else ((laws_eqBoxS.f kj8 t112 t105).bind fun t123 => (if t123 = true then (laws_FnExactPackSprites.j1 kj8 l0 a1 t105 t106 t112 (t113 != t106)) else (laws_FnExactPackSprites.j1 kj8 l0 a1 t105 t106 t112 true))))) = some r := by rw [if_pos rfl] at H; exact H
   clear H
   have H := H1
   clear H1
   replace H := Option.bind_eq_some_iff.mp H
   obtain ⟨⟨t121, t122⟩, A280, H⟩ := H
   replace H : (if t121 < 0 then (laws_FnExactPackSprites.j1 kj8 l0 a1 t105 t106 t112 true) else ((laws_eqBoxS.f kj8 t112 t105).bind fun t123 => (if t123 = true then (laws_FnExactPackSprites.j1 kj8 l0 a1 t105 t106 t112 (t113 != t106)) else (laws_FnExactPackSprites.j1 kj8 l0 a1 t105 t106 t112 true)))) = some r := H
   have A28 := Aside0.mk A280
   clear A280
   have HC29 := Aside0.mk H
   clear H
   go_upto_region 14 with (first | ((with_reducible refine gate_callee (f := 11) rfl ?_); refine goesL_ (some 47) rfl rfl Try.func11 (by kernel_rfl) rfl #[.slice A0 l0.length c0] rfl (by simp only [List.map_toArray, List.map_cons, List.map_nil]; rfl) ?_; (with_reducible refine (laws_toSizeS.calls kj8 _ _ l0 t117 _ ?side1 ?side2 A25.out).mono ?_); (case side1 => repeat (first | exact (Kd.C_below HR0.out HB.out) | (with_reducible refine Kd.C_alloc ?_ _) | (with_reducible refine Kd.C_drewN ?_ _) | (with_reducible refine Kd.C_drew ?_))); (case side2 => exact HC0.out); rintro e w30 ⟨v118, rfl, ho0, hb⟩; refine ⟨_, rfl, ?_⟩; replace HO_6 := am_ (Kd.R_below (by exact HO_6.out) hb); replace HO_9 := am_ (Kd.R_below (by exact HO_9.out) hb); have HO119 := am_ (Kd.R_lower (Kd.R_new' ho0 (Kd.R_lt (by exact HO_8.out))) (below_size (by repeat (first | (with_reducible first | exact HB.out | apply below_alloc | apply pw_below_drewN | apply below_drew1) | exact HB.out)))); replace HO_8 := am_ (Kd.R_elder' (by exact HO_8.out) (Kd.R_base ho0) hb); replace HB := am_ (below_step (by repeat (first | (with_reducible first | exact HB.out | apply below_alloc | apply pw_below_drewN | apply below_drew1) | exact HB.out)) hb); (try clear hb); (try clear hb2); (try clear hk); (try clear hi); (try clear ho0); obtain ⟨Ao31, co31, eo31⟩ := Kd.R_slice HO119.out; subst eo31) | ((with_reducible refine gate_callee (f := 13) rfl ?_); refine goesL_ (some 48) rfl rfl Try.func13 (by kernel_rfl) rfl #[.slice Ao14 t109.length co14, .slice Ao31 t117.length co31] rfl (by simp only [List.map_toArray, List.map_cons, List.map_nil]; rfl) ?_; (with_reducible refine (laws_eqSizeS.calls kj8 _ _ t109 _ _ t117 true _ ?side1 ?side2 ?side3 ?side4 A26.out).mono ?_); (case side1 => repeat (first | exact (Kd.R_reads' HO_8.out).2.2 | (with_reducible refine Kd.C_alloc ?_ _) | (with_reducible refine Kd.C_drewN ?_ _) | (with_reducible refine Kd.C_drew ?_))); (case side2 => exact (Kd.R_reads' HO_8.out).2.1); (case side3 => repeat (first | exact (Kd.R_reads' HO119.out).2.2 | (with_reducible refine Kd.C_alloc ?_ _) | (with_reducible refine Kd.C_drewN ?_ _) | (with_reducible refine Kd.C_drew ?_))); (case side4 => exact (Kd.R_reads' HO119.out).2.1); rintro e w32 ⟨rfl, hb⟩; refine ⟨_, rfl, ?_⟩; replace HO_6 := am_ (Kd.R_below (by exact HO_6.out) hb); replace HO_8 := am_ (Kd.R_below (by exact HO_8.out) hb); replace HO_9 := am_ (Kd.R_below (by exact HO_9.out) hb); replace HO119 := am_ (Kd.R_below (by exact HO119.out) hb); replace HB := am_ (below_step (by repeat (first | (with_reducible first | exact HB.out | apply below_alloc | apply pw_below_drewN | apply below_drew1) | exact HB.out)) hb); (try clear hb); (try clear hb2); (try clear hk); (try clear hi)) | ((with_reducible refine gate_callee (f := 14) rfl ?_); refine goesL_ (some 52) rfl rfl Try.func14 (by kernel_rfl) rfl #[.slice Ao14 t109.length co14, .int .i64 1] rfl (by simp only [List.map_toArray, List.map_cons, List.map_nil]; rfl) ?_; (with_reducible refine (laws_markSizeS.calls kj8 (fun k_ => some k_ = (.slice Ao14 t109.length co14 : Value).ownBlock) (.slice Ao14 t109.length co14) t109 1 t121 t122 w _ ?side1 ?side2 A28.out).mono ?_); (case side1 => repeat (first | (with_reducible first | exact HB.out | apply below_alloc | apply pw_below_drewN | apply below_drew1) | exact HB.out)); (case side2 => exact Kd.R_tight rfl HO_8.out); rintro e w33 ⟨rfl, hy0, hb, hkp⟩; refine ⟨_, rfl, ?_⟩; replace HO_6 := am_ (Kd.R_mono (ok' := fun k_ => some k_ ≠ (v114 : Value).ownBlock) (Kd.R_keptB ((Kd.R_apart' HO_6.out (Kd.R_typed HO_8.out) (by decide))) hkp (fun k_ hk_ hs_ => by simp only [hk_, ne_eq, not_false_eq_true] at hs_)) (fun k_ hk_ => hk_.1.1)); replace HO_9 := am_ (Kd.R_mono (ok' := fun k_ => some k_ ≠ (v107 : Value).ownBlock) (Kd.R_keptB ((Kd.R_apart' HO_9.out (Kd.R_typed HO_8.out) (by decide))) hkp (fun k_ hk_ hs_ => by simp only [hk_, ne_eq, not_false_eq_true] at hs_)) (fun k_ hk_ => hk_.1.1)); replace HO_8 := am_ (Kd.R_reok rfl hy0 (fun k_ e_ => HO_8.out.1 k_ e_)); replace HO119 := am_ (Kd.R_mono (ok' := fun k_ => some k_ ≠ (.slice Ao14 t109.length co14 : Value).ownBlock) (Kd.R_keptB (HO119.out) hkp (fun k_ hk_ hs_ => by simp only [hk_, ne_eq, not_false_eq_true] at hs_)) (fun k_ hk_ => hk_.1.2)); replace HB := am_ (hb); (try clear hb); (try clear hkp); (try clear hy0)))
   (try simp only [Act.put, List.setIfInBounds_toArray, List.set_cons_zero, List.set_cons_succ])
   go_cut [65] (fun v65 wc => ∃ (kq : Nat) (x65_28 : Bool), v65 = .bool x65_28 ∧ Aside0 (laws_FnExactPackSprites.j1 kq l0 a1 t105 t106 t112 x65_28 = some r) ∧ Aside0 (kq ≤ kj8) ∧ Aside0 (Kd.R k31 31 wc w.heap.size (fun k_ => some k_ ≠ (v114 : Value).ownBlock) v107 t105) ∧ Aside0 (Kd.R k31 31 wc w.heap.size (fun k_ => some k_ ≠ (v107 : Value).ownBlock) v114 t112) ∧ Aside0 (Below w.heap.size w wc))
   case first =>
    have H := HC29.out
    clear HC29
    by_cases c34 : t121 < 0
    ·
     rw [if_pos c34] at H
     have c34b0 : decide (t121 < 0) = true := decide_eq_true c34
     clear c34
     (first | rw [c34b0] | (simp only [i64_w, i32_w]; rw [c34b0]) | skip)
     have H' := Aside0.mk H
     clear H
     go_wp2
     go_meet
     case rel => exact ⟨_, (true), (by first | rfl | (simp; done) | (simp [*]; done)), H', ⟨by have := HJ8.out; first | omega | exact Nat.le_refl _⟩, ⟨by exact HO_6.out⟩, ⟨by exact HO_9.out⟩, ⟨by repeat (first | (with_reducible first | exact HB.out | apply below_alloc | apply pw_below_drewN | apply below_drew1) | exact HB.out)⟩⟩
    rw [if_neg c34] at H
    have c34b0 : decide (t121 < 0) = false := decide_eq_false c34
    clear c34
    (first | rw [c34b0] | (simp only [i64_w, i32_w]; rw [c34b0]) | skip)
    replace H := Option.bind_eq_some_iff.mp H
    obtain ⟨t123, A350, H⟩ := H
    replace H : (if t123 = true then (laws_FnExactPackSprites.j1 kj8 l0 a1 t105 t106 t112 (t113 != t106)) else (laws_FnExactPackSprites.j1 kj8 l0 a1 t105 t106 t112 true)) = some r := H
    have A35 := Aside0.mk A350
    clear A350
    by_cases c36 : t123 = true
    ·
     subst c36
     have H1 : (laws_FnExactPackSprites.j1 kj8 l0 a1 t105 t106 t112 (t113 != t106)) = some r := by rw [if_pos rfl] at H; exact H
     clear H
     have H := H1
     clear H1
     have H' := Aside0.mk H
     clear H
     obtain ⟨Ao37, co37, eo37⟩ := Kd.R_slice HO_9.out
     subst eo37
     obtain ⟨Ao38, co38, eo38⟩ := Kd.R_slice HO_6.out
     subst eo38
     go_wp2_with (first | (go_at_call 12; (with_reducible refine (laws_eqBoxS.calls kj8 _ _ t112 _ _ t105 true _ ?side1 ?side2 ?side3 ?side4 A35.out).mono ?_); (case side1 => repeat (first | exact (Kd.R_reads' HO_9.out).2.2 | (with_reducible refine Kd.C_alloc ?_ _) | (with_reducible refine Kd.C_drewN ?_ _) | (with_reducible refine Kd.C_drew ?_))); (case side2 => exact (Kd.R_reads' HO_9.out).2.1); (case side3 => repeat (first | exact (Kd.R_reads' HO_6.out).2.2 | (with_reducible refine Kd.C_alloc ?_ _) | (with_reducible refine Kd.C_drewN ?_ _) | (with_reducible refine Kd.C_drew ?_))); (case side4 => exact (Kd.R_reads' HO_6.out).2.1); rintro e w39 ⟨rfl, hb⟩; replace HO_6 := am_ (Kd.R_below (by exact HO_6.out) hb); replace HO_8 := am_ (Kd.R_below (by exact HO_8.out) hb); replace HO_9 := am_ (Kd.R_below (by exact HO_9.out) hb); replace HO119 := am_ (Kd.R_below (by exact HO119.out) hb); replace HB := am_ (below_step (by repeat (first | (with_reducible first | exact HB.out | apply below_alloc | apply pw_below_drewN | apply below_drew1) | exact HB.out)) hb); (try clear hb); (try clear hb2); (try clear hk); (try clear hi)))
     go_meet
     case rel => exact ⟨_, ((t113 != t106)), (by first | rfl | (simp; done) | (simp [*]; done)), H', ⟨by have := HJ8.out; first | omega | exact Nat.le_refl _⟩, ⟨by exact HO_6.out⟩, ⟨by exact HO_9.out⟩, ⟨by repeat (first | (with_reducible first | exact HB.out | apply below_alloc | apply pw_below_drewN | apply below_drew1) | exact HB.out)⟩⟩
    replace c36 := Bool.eq_false_iff.mpr c36
    subst c36
    have H1 : (laws_FnExactPackSprites.j1 kj8 l0 a1 t105 t106 t112 true) = some r := by rw [if_neg (show ¬ (false = true) by decide)] at H; exact H
    clear H
    have H := H1
    clear H1
    have H' := Aside0.mk H
    clear H
    obtain ⟨Ao40, co40, eo40⟩ := Kd.R_slice HO_9.out
    subst eo40
    obtain ⟨Ao41, co41, eo41⟩ := Kd.R_slice HO_6.out
    subst eo41
    go_wp2_with (first | (go_at_call 12; (with_reducible refine (laws_eqBoxS.calls kj8 _ _ t112 _ _ t105 false _ ?side1 ?side2 ?side3 ?side4 A35.out).mono ?_); (case side1 => repeat (first | exact (Kd.R_reads' HO_9.out).2.2 | (with_reducible refine Kd.C_alloc ?_ _) | (with_reducible refine Kd.C_drewN ?_ _) | (with_reducible refine Kd.C_drew ?_))); (case side2 => exact (Kd.R_reads' HO_9.out).2.1); (case side3 => repeat (first | exact (Kd.R_reads' HO_6.out).2.2 | (with_reducible refine Kd.C_alloc ?_ _) | (with_reducible refine Kd.C_drewN ?_ _) | (with_reducible refine Kd.C_drew ?_))); (case side4 => exact (Kd.R_reads' HO_6.out).2.1); rintro e w42 ⟨rfl, hb⟩; replace HO_6 := am_ (Kd.R_below (by exact HO_6.out) hb); replace HO_8 := am_ (Kd.R_below (by exact HO_8.out) hb); replace HO_9 := am_ (Kd.R_below (by exact HO_9.out) hb); replace HO119 := am_ (Kd.R_below (by exact HO119.out) hb); replace HB := am_ (below_step (by repeat (first | (with_reducible first | exact HB.out | apply below_alloc | apply pw_below_drewN | apply below_drew1) | exact HB.out)) hb); (try clear hb); (try clear hb2); (try clear hk); (try clear hi)))
    go_meet
    case rel => exact ⟨_, (true), (by first | rfl | (simp; done) | (simp [*]; done)), H', ⟨by have := HJ8.out; first | omega | exact Nat.le_refl _⟩, ⟨by exact HO_6.out⟩, ⟨by exact HO_9.out⟩, ⟨by repeat (first | (with_reducible first | exact HB.out | apply below_alloc | apply pw_below_drewN | apply below_drew1) | exact HB.out)⟩⟩
   case rest =>
    clear HC29
    try clear c1
    try clear c2
    try clear p2
    try clear c3
    try clear c4
    try clear c4b0
    try clear c6
    try clear c7
    try clear c10
    try clear c11
    try clear c12
    try clear c13
    try clear c14
    try clear c17
    try clear c24
    try clear c27
    try clear c34
    try clear c34b0
    try clear c36
    try clear p2
    obtain ⟨kq, x65_28, rfl, HA, HJ28, HO_6, HO_9, HB⟩ := hcut
    cases kq with
    | zero => exact absurd HA.out (by simp [laws_FnExactPackSprites.j1])
    | succ kj28 =>
     have H := HA.out
     clear HA
     simp only [laws_FnExactPackSprites.j1] at H
     by_cases c43 : x65_28 = true
     ·
      subst c43
      have H1 : (some false) = some r := by rw [if_pos rfl] at H; exact H
      clear H
      have H := H1
      clear H1
      obtain rfl := Option.some.inj H
      go_wp2
      go_ret
      exact ⟨by first | rfl | (simp [errW_none, errW_some] <;> rfl) | (simp [*, errW_none, errW_some] <;> rfl), by repeat (first | (with_reducible first | exact HB.out | apply below_alloc | apply pw_below_drewN | apply below_drew1) | exact HB.out)⟩
     replace c43 := Bool.eq_false_iff.mpr c43
     subst c43
     have H1 : ((laws_markBoxS.f kj28 t112 1).bind fun bt124 => ((laws_heldBoxS.f kj28 bt124.2 1).bind fun t126 => (if t126 < 0 then (some false) else (if t126 = bt124.1 then ((laws_toSizeS.f kj28 l0).bind fun t127 => ((impl_PackSprites.f t127 a1).bind fun bt130 => ((laws_eqBoxS.f kj28 bt130.1 t105).bind fun t134 => (if t134 = true then (laws_FnExactPackSprites.j2 kj28 bt124.2 bt124.1 (bt130.2 != t106)) else (laws_FnExactPackSprites.j2 kj28 bt124.2 bt124.1 true))))) else (some false))))) = some r := by rw [if_neg (show ¬ (false = true) by decide)] at H; exact H
     clear H
     have H := H1
     clear H1
     replace H := Option.bind_eq_some_iff.mp H
     obtain ⟨⟨t124, t125⟩, A440, H⟩ := H
     replace H : ((laws_heldBoxS.f kj28 t125 1).bind fun t126 => (if t126 < 0 then (some false) else (if t126 = t124 then ((laws_toSizeS.f kj28 l0).bind fun t127 => ((impl_PackSprites.f t127 a1).bind fun bt130 => ((laws_eqBoxS.f kj28 bt130.1 t105).bind fun t134 => (if t134 = true then (laws_FnExactPackSprites.j2 kj28 t125 t124 (bt130.2 != t106)) else (laws_FnExactPackSprites.j2 kj28 t125 t124 true))))) else (some false)))) = some r := H
     have A44 := Aside0.mk A440
     clear A440
     replace H := Option.bind_eq_some_iff.mp H
     obtain ⟨t126, A450, H⟩ := H
     replace H : (if t126 < 0 then (some false) else (if t126 = t124 then ((laws_toSizeS.f kj28 l0).bind fun t127 => ((impl_PackSprites.f t127 a1).bind fun bt130 => ((laws_eqBoxS.f kj28 bt130.1 t105).bind fun t134 => (if t134 = true then (laws_FnExactPackSprites.j2 kj28 t125 t124 (bt130.2 != t106)) else (laws_FnExactPackSprites.j2 kj28 t125 t124 true))))) else (some false))) = some r := H
     have A45 := Aside0.mk A450
     clear A450
     by_cases c46 : t126 < 0
     ·
      rw [if_pos c46] at H
      have c46b0 : decide (t126 < 0) = true := decide_eq_true c46
      clear c46
      obtain rfl := Option.some.inj H
      obtain ⟨Ao47, co47, eo47⟩ := Kd.R_slice HO_9.out
      subst eo47
      go_wp2_with (first | ((with_reducible refine gate_callee (f := 15) rfl ?_); refine goesL_ (some 68) rfl rfl Try.func15 (by kernel_rfl) rfl #[.slice Ao47 t112.length co47, .int .i64 1] rfl (by simp only [List.map_toArray, List.map_cons, List.map_nil]; rfl) ?_; (with_reducible refine (laws_markBoxS.calls kj28 (fun k_ => some k_ = (.slice Ao47 t112.length co47 : Value).ownBlock) (.slice Ao47 t112.length co47) t112 1 t124 t125 w _ ?side1 ?side2 A44.out).mono ?_); (case side1 => repeat (first | (with_reducible first | exact HB.out | apply below_alloc | apply pw_below_drewN | apply below_drew1) | exact HB.out)); (case side2 => exact Kd.R_tight rfl HO_9.out); rintro e w48 ⟨rfl, hy0, hb, hkp⟩; refine ⟨_, rfl, ?_⟩; replace HO_6 := am_ (Kd.R_mono (ok' := fun k_ => some k_ ≠ (.slice Ao47 t112.length co47 : Value).ownBlock) (Kd.R_keptB (HO_6.out) hkp (fun k_ hk_ hs_ => by simp only [hk_, ne_eq, not_false_eq_true] at hs_)) (fun k_ hk_ => hk_.1)); replace HO_9 := am_ (Kd.R_reok rfl hy0 (fun k_ e_ => HO_9.out.1 k_ e_)); replace HB := am_ (hb); (try clear hb); (try clear hkp); (try clear hy0)) | ((with_reducible refine gate_callee (f := 16) rfl ?_); refine goesL_ (some 71) rfl rfl Try.func16 (by kernel_rfl) rfl #[.slice Ao47 t125.length co47, .int .i64 1] rfl (by (try simp only [List.map_toArray, List.map_cons, List.map_nil]); first | done | (rw [show t125.length = t112.length from (Kd.R_reads' HO_9.out).1.symm] <;> rfl) | rfl | (simp only [List.length_drop, List.length_take]; rfl)) ?_; (with_reducible refine (laws_heldBoxS.calls kj28 _ _ t125 1 t126 _ ?side1 ?side2 A45.out).mono ?_); (case side1 => repeat (first | exact (Kd.R_reads' HO_9.out).2.2 | (with_reducible refine Kd.C_alloc ?_ _) | (with_reducible refine Kd.C_drewN ?_ _) | (with_reducible refine Kd.C_drew ?_))); (case side2 => rw [show t125.length = t112.length from (Kd.R_reads' HO_9.out).1.symm]; exact (Kd.R_reads' HO_9.out).2.1); rintro e w' ⟨rfl, ⟨nd, rfl⟩⟩; refine ⟨_, rfl, ?_⟩))
      go_ret
      exact ⟨by first | rfl | (simp [errW_none, errW_some] <;> rfl) | (simp [*, errW_none, errW_some] <;> rfl), by repeat (first | (with_reducible first | exact HB.out | apply below_alloc | apply pw_below_drewN | apply below_drew1) | exact HB.out)⟩
     rw [if_neg c46] at H
     have c46b0 : decide (t126 < 0) = false := decide_eq_false c46
     clear c46
     by_cases c49 : t126 = t124
     rotate_left
     ·
      rw [if_neg c49] at H
      have c49b0 : (t126 == t124) = false := beq_eq_false_iff_ne.mpr c49
      have c49b1 : (t126 != t124) = true := bne_iff_ne.mpr c49
      obtain rfl := Option.some.inj H
      obtain ⟨Ao70, co70, eo70⟩ := Kd.R_slice HO_9.out
      subst eo70
      go_wp2_with (first | ((with_reducible refine gate_callee (f := 15) rfl ?_); refine goesL_ (some 68) rfl rfl Try.func15 (by kernel_rfl) rfl #[.slice Ao70 t112.length co70, .int .i64 1] rfl (by simp only [List.map_toArray, List.map_cons, List.map_nil]; rfl) ?_; (with_reducible refine (laws_markBoxS.calls kj28 (fun k_ => some k_ = (.slice Ao70 t112.length co70 : Value).ownBlock) (.slice Ao70 t112.length co70) t112 1 t124 t125 w _ ?side1 ?side2 A44.out).mono ?_); (case side1 => repeat (first | (with_reducible first | exact HB.out | apply below_alloc | apply pw_below_drewN | apply below_drew1) | exact HB.out)); (case side2 => exact Kd.R_tight rfl HO_9.out); rintro e w71 ⟨rfl, hy0, hb, hkp⟩; refine ⟨_, rfl, ?_⟩; replace HO_6 := am_ (Kd.R_mono (ok' := fun k_ => some k_ ≠ (.slice Ao70 t112.length co70 : Value).ownBlock) (Kd.R_keptB (HO_6.out) hkp (fun k_ hk_ hs_ => by simp only [hk_, ne_eq, not_false_eq_true] at hs_)) (fun k_ hk_ => hk_.1)); replace HO_9 := am_ (Kd.R_reok rfl hy0 (fun k_ e_ => HO_9.out.1 k_ e_)); replace HB := am_ (hb); (try clear hb); (try clear hkp); (try clear hy0)) | ((with_reducible refine gate_callee (f := 16) rfl ?_); refine goesL_ (some 71) rfl rfl Try.func16 (by kernel_rfl) rfl #[.slice Ao70 t125.length co70, .int .i64 1] rfl (by (try simp only [List.map_toArray, List.map_cons, List.map_nil]); first | done | (rw [show t125.length = t112.length from (Kd.R_reads' HO_9.out).1.symm] <;> rfl) | rfl | (simp only [List.length_drop, List.length_take]; rfl)) ?_; (with_reducible refine (laws_heldBoxS.calls kj28 _ _ t125 1 t126 _ ?side1 ?side2 A45.out).mono ?_); (case side1 => repeat (first | exact (Kd.R_reads' HO_9.out).2.2 | (with_reducible refine Kd.C_alloc ?_ _) | (with_reducible refine Kd.C_drewN ?_ _) | (with_reducible refine Kd.C_drew ?_))); (case side2 => rw [show t125.length = t112.length from (Kd.R_reads' HO_9.out).1.symm]; exact (Kd.R_reads' HO_9.out).2.1); rintro e w' ⟨rfl, ⟨nd, rfl⟩⟩; refine ⟨_, rfl, ?_⟩))
      go_ret
      exact ⟨by first | rfl | (simp [errW_none, errW_some] <;> rfl) | (simp [*, errW_none, errW_some] <;> rfl), by repeat (first | (with_reducible first | exact HB.out | apply below_alloc | apply pw_below_drewN | apply below_drew1) | exact HB.out)⟩
     rw [if_pos c49] at H
     have c49b0 : (t126 == t124) = true := beq_iff_eq.mpr c49
     have c49b1 : (t126 != t124) = false := bne_eq_false_iff_eq.mpr c49
     clear c49
     replace H := Option.bind_eq_some_iff.mp H
     obtain ⟨t127, A500, H⟩ := H
     replace H : ((impl_PackSprites.f t127 a1).bind fun bt130 => ((laws_eqBoxS.f kj28 bt130.1 t105).bind fun t134 => (if t134 = true then (laws_FnExactPackSprites.j2 kj28 t125 t124 (bt130.2 != t106)) else (laws_FnExactPackSprites.j2 kj28 t125 t124 true)))) = some r := H
     have A50 := Aside0.mk A500
     clear A500
     replace H := Option.bind_eq_some_iff.mp H
     obtain ⟨⟨t130, t131⟩, A510, H⟩ := H
     replace H : ((laws_eqBoxS.f kj28 t130 t105).bind fun t134 => (if t134 = true then (laws_FnExactPackSprites.j2 kj28 t125 t124 (t131 != t106)) else (laws_FnExactPackSprites.j2 kj28 t125 t124 true))) = some r := H
     have A51 := Aside0.mk A510
     clear A510
     have HC52 := Aside0.mk H
     clear H
     obtain ⟨Ao53, co53, eo53⟩ := Kd.R_slice HO_9.out
     subst eo53
     go_upto_region 25 with (first | ((with_reducible refine gate_callee (f := 15) rfl ?_); refine goesL_ (some 68) rfl rfl Try.func15 (by kernel_rfl) rfl #[.slice Ao53 t112.length co53, .int .i64 1] rfl (by simp only [List.map_toArray, List.map_cons, List.map_nil]; rfl) ?_; (with_reducible refine (laws_markBoxS.calls kj28 (fun k_ => some k_ = (.slice Ao53 t112.length co53 : Value).ownBlock) (.slice Ao53 t112.length co53) t112 1 t124 t125 w _ ?side1 ?side2 A44.out).mono ?_); (case side1 => repeat (first | (with_reducible first | exact HB.out | apply below_alloc | apply pw_below_drewN | apply below_drew1) | exact HB.out)); (case side2 => exact Kd.R_tight rfl HO_9.out); rintro e w54 ⟨rfl, hy0, hb, hkp⟩; refine ⟨_, rfl, ?_⟩; replace HO_6 := am_ (Kd.R_mono (ok' := fun k_ => some k_ ≠ (.slice Ao53 t112.length co53 : Value).ownBlock) (Kd.R_keptB (HO_6.out) hkp (fun k_ hk_ hs_ => by simp only [hk_, ne_eq, not_false_eq_true] at hs_)) (fun k_ hk_ => hk_.1)); replace HO_9 := am_ (Kd.R_reok rfl hy0 (fun k_ e_ => HO_9.out.1 k_ e_)); replace HB := am_ (hb); (try clear hb); (try clear hkp); (try clear hy0)) | ((with_reducible refine gate_callee (f := 16) rfl ?_); refine goesL_ (some 71) rfl rfl Try.func16 (by kernel_rfl) rfl #[.slice Ao53 t125.length co53, .int .i64 1] rfl (by (try simp only [List.map_toArray, List.map_cons, List.map_nil]); first | done | (rw [show t125.length = t112.length from (Kd.R_reads' HO_9.out).1.symm] <;> rfl) | rfl | (simp only [List.length_drop, List.length_take]; rfl)) ?_; (with_reducible refine (laws_heldBoxS.calls kj28 _ _ t125 1 t126 _ ?side1 ?side2 A45.out).mono ?_); (case side1 => repeat (first | exact (Kd.R_reads' HO_9.out).2.2 | (with_reducible refine Kd.C_alloc ?_ _) | (with_reducible refine Kd.C_drewN ?_ _) | (with_reducible refine Kd.C_drew ?_))); (case side2 => rw [show t125.length = t112.length from (Kd.R_reads' HO_9.out).1.symm]; exact (Kd.R_reads' HO_9.out).2.1); rintro e w' ⟨rfl, ⟨nd, rfl⟩⟩; refine ⟨_, rfl, ?_⟩) | ((with_reducible refine gate_callee (f := 11) rfl ?_); refine goesL_ (some 79) rfl rfl Try.func11 (by kernel_rfl) rfl #[.slice A0 l0.length c0] rfl (by simp only [List.map_toArray, List.map_cons, List.map_nil]; rfl) ?_; (with_reducible refine (laws_toSizeS.calls kj28 _ _ l0 t127 _ ?side1 ?side2 A50.out).mono ?_); (case side1 => repeat (first | exact (Kd.C_below HR0.out (by repeat (first | (with_reducible first | exact HB.out | apply below_alloc | apply pw_below_drewN | apply below_drew1) | exact HB.out))) | (with_reducible refine Kd.C_alloc ?_ _) | (with_reducible refine Kd.C_drewN ?_ _) | (with_reducible refine Kd.C_drew ?_))); (case side2 => exact HC0.out); rintro e w55 ⟨v128, rfl, ho0, hb⟩; refine ⟨_, rfl, ?_⟩; replace HO_6 := am_ (Kd.R_below (by exact HO_6.out) hb); replace HO_9 := am_ (Kd.R_below (by exact HO_9.out) hb); have HO129 := am_ (Kd.R_lower ho0 (below_size (by repeat (first | (with_reducible first | exact HB.out | apply below_alloc | apply pw_below_drewN | apply below_drew1) | exact HB.out)))); replace HB := am_ (below_step (by repeat (first | (with_reducible first | exact HB.out | apply below_alloc | apply pw_below_drewN | apply below_drew1) | exact HB.out)) hb); (try clear hb); (try clear hb2); (try clear hk); (try clear hi); (try clear ho0); obtain ⟨Ao56, co56, eo56⟩ := Kd.R_slice HO129.out; subst eo56) | ((with_reducible refine gate_callee (f := 6) rfl ?_); refine goesL_ (some 81) rfl rfl Try.func6 (by kernel_rfl) rfl #[.slice Ao56 t127.length co56, .int .i64 a1] rfl (by simp only [List.map_toArray, List.map_cons, List.map_nil]; rfl) ?_; (with_reducible refine (impl_PackSprites.calls _ _ t127 a1 t130 t131 _ ?side1 ?side2 A51.out).mono ?_); (case side1 => repeat (first | exact (Kd.R_reads' HO129.out).2.2 | (with_reducible refine Kd.C_alloc ?_ _) | (with_reducible refine Kd.C_drewN ?_ _) | (with_reducible refine Kd.C_drew ?_))); (case side2 => exact (Kd.R_reads' HO129.out).2.1); rintro e w57 ⟨v132, rfl, ho0, hb⟩; refine ⟨_, rfl, ?_⟩; replace HO129 := am_ (Kd.R_below (by exact HO129.out) hb); have HO133 := am_ (Kd.R_lower (Kd.R_new' (Kd.R_new' ho0 (Kd.R_lt (by exact HO_6.out))) (Kd.R_lt (by exact HO_9.out))) (below_size (by repeat (first | (with_reducible first | exact HB.out | apply below_alloc | apply pw_below_drewN | apply below_drew1) | exact HB.out)))); replace HO_6 := am_ (Kd.R_elder' (by exact HO_6.out) (Kd.R_base ho0) hb); replace HO_9 := am_ (Kd.R_elder' (by exact HO_9.out) (Kd.R_base ho0) hb); replace HB := am_ (below_step (by repeat (first | (with_reducible first | exact HB.out | apply below_alloc | apply pw_below_drewN | apply below_drew1) | exact HB.out)) hb); (try clear hb); (try clear hb2); (try clear hk); (try clear hi); (try clear ho0)))
     (try simp only [Act.put, List.setIfInBounds_toArray, List.set_cons_zero, List.set_cons_succ])
     go_cut [92] (fun v92 wc => ∃ (kq : Nat) (x92_51 : Bool), v92 = .bool x92_51 ∧ Aside0 (laws_FnExactPackSprites.j2 kq t125 t124 x92_51 = some r) ∧ Aside0 (kq ≤ kj28) ∧ Aside0 (Kd.R k31 31 wc w.heap.size (fun _ => True) (.slice Ao53 t112.length co53) t125) ∧ Aside0 (Below w.heap.size w wc))
     case first =>
      have H := HC52.out
      clear HC52
      replace H := Option.bind_eq_some_iff.mp H
      obtain ⟨t134, A580, H⟩ := H
      replace H : (if t134 = true then (laws_FnExactPackSprites.j2 kj28 t125 t124 (t131 != t106)) else (laws_FnExactPackSprites.j2 kj28 t125 t124 true)) = some r := H
      have A58 := Aside0.mk A580
      clear A580
      by_cases c59 : t134 = true
      ·
       subst c59
       have H1 : (laws_FnExactPackSprites.j2 kj28 t125 t124 (t131 != t106)) = some r := by rw [if_pos rfl] at H; exact H
       clear H
       have H := H1
       clear H1
       have H' := Aside0.mk H
       clear H
       obtain ⟨Ao60, co60, eo60⟩ := Kd.R_slice HO133.out
       subst eo60
       obtain ⟨Ao61, co61, eo61⟩ := Kd.R_slice HO_6.out
       subst eo61
       go_wp2_with (first | ((with_reducible refine gate_callee (f := 12) rfl ?_); refine goesL_ (some 86) rfl rfl Try.func12 (by kernel_rfl) rfl #[.slice Ao60 t130.length co60, .slice Ao61 t105.length co61] rfl (by simp only [List.map_toArray, List.map_cons, List.map_nil]; rfl) ?_; (with_reducible refine (laws_eqBoxS.calls kj28 _ _ t130 _ _ t105 true _ ?side1 ?side2 ?side3 ?side4 A58.out).mono ?_); (case side1 => repeat (first | exact (Kd.R_reads' HO133.out).2.2 | (with_reducible refine Kd.C_alloc ?_ _) | (with_reducible refine Kd.C_drewN ?_ _) | (with_reducible refine Kd.C_drew ?_))); (case side2 => exact (Kd.R_reads' HO133.out).2.1); (case side3 => repeat (first | exact (Kd.R_reads' HO_6.out).2.2 | (with_reducible refine Kd.C_alloc ?_ _) | (with_reducible refine Kd.C_drewN ?_ _) | (with_reducible refine Kd.C_drew ?_))); (case side4 => exact (Kd.R_reads' HO_6.out).2.1); rintro e w62 ⟨rfl, hb⟩; refine ⟨_, rfl, ?_⟩; replace HO_6 := am_ (Kd.R_below (by exact HO_6.out) hb); replace HO_9 := am_ (Kd.R_below (by exact HO_9.out) hb); replace HO129 := am_ (Kd.R_below (by exact HO129.out) hb); replace HO133 := am_ (Kd.R_below (by exact HO133.out) hb); replace HB := am_ (below_step (by repeat (first | (with_reducible first | exact HB.out | apply below_alloc | apply pw_below_drewN | apply below_drew1) | exact HB.out)) hb); (try clear hb); (try clear hb2); (try clear hk); (try clear hi)))
       go_meet
       case rel => exact ⟨_, ((t131 != t106)), (by first | rfl | (simp; done) | (simp [*]; done)), H', ⟨by have := HJ8.out; have := HJ28.out; first | omega | exact Nat.le_refl _⟩, ⟨by exact Kd.R_mono HO_9.out (fun _ hk => trivial)⟩, ⟨by repeat (first | (with_reducible first | exact HB.out | apply below_alloc | apply pw_below_drewN | apply below_drew1) | exact HB.out)⟩⟩
      replace c59 := Bool.eq_false_iff.mpr c59
      subst c59
      have H1 : (laws_FnExactPackSprites.j2 kj28 t125 t124 true) = some r := by rw [if_neg (show ¬ (false = true) by decide)] at H; exact H
      clear H
      have H := H1
      clear H1
      have H' := Aside0.mk H
      clear H
      obtain ⟨Ao63, co63, eo63⟩ := Kd.R_slice HO133.out
      subst eo63
      obtain ⟨Ao64, co64, eo64⟩ := Kd.R_slice HO_6.out
      subst eo64
      go_wp2_with (first | ((with_reducible refine gate_callee (f := 12) rfl ?_); refine goesL_ (some 86) rfl rfl Try.func12 (by kernel_rfl) rfl #[.slice Ao63 t130.length co63, .slice Ao64 t105.length co64] rfl (by simp only [List.map_toArray, List.map_cons, List.map_nil]; rfl) ?_; (with_reducible refine (laws_eqBoxS.calls kj28 _ _ t130 _ _ t105 false _ ?side1 ?side2 ?side3 ?side4 A58.out).mono ?_); (case side1 => repeat (first | exact (Kd.R_reads' HO133.out).2.2 | (with_reducible refine Kd.C_alloc ?_ _) | (with_reducible refine Kd.C_drewN ?_ _) | (with_reducible refine Kd.C_drew ?_))); (case side2 => exact (Kd.R_reads' HO133.out).2.1); (case side3 => repeat (first | exact (Kd.R_reads' HO_6.out).2.2 | (with_reducible refine Kd.C_alloc ?_ _) | (with_reducible refine Kd.C_drewN ?_ _) | (with_reducible refine Kd.C_drew ?_))); (case side4 => exact (Kd.R_reads' HO_6.out).2.1); rintro e w65 ⟨rfl, hb⟩; refine ⟨_, rfl, ?_⟩; replace HO_6 := am_ (Kd.R_below (by exact HO_6.out) hb); replace HO_9 := am_ (Kd.R_below (by exact HO_9.out) hb); replace HO129 := am_ (Kd.R_below (by exact HO129.out) hb); replace HO133 := am_ (Kd.R_below (by exact HO133.out) hb); replace HB := am_ (below_step (by repeat (first | (with_reducible first | exact HB.out | apply below_alloc | apply pw_below_drewN | apply below_drew1) | exact HB.out)) hb); (try clear hb); (try clear hb2); (try clear hk); (try clear hi)))
      go_meet
      case rel => exact ⟨_, (true), (by first | rfl | (simp; done) | (simp [*]; done)), H', ⟨by have := HJ8.out; have := HJ28.out; first | omega | exact Nat.le_refl _⟩, ⟨by exact Kd.R_mono HO_9.out (fun _ hk => trivial)⟩, ⟨by repeat (first | (with_reducible first | exact HB.out | apply below_alloc | apply pw_below_drewN | apply below_drew1) | exact HB.out)⟩⟩
     case rest =>
      clear HC52
      try clear c1
      try clear c2
      try clear p2
      try clear c3
      try clear c4
      try clear c4b0
      try clear c5
      try clear c6
      try clear c7
      try clear c10
      try clear c11
      try clear c12
      try clear c13
      try clear c14
      try clear c15
      try clear c16
      try clear c17
      try clear c24
      try clear c27
      try clear c34
      try clear c34b0
      try clear c36
      try clear c43
      try clear c46
      try clear c46b0
      try clear c49
      try clear c49b0
      try clear c49b1
      try clear c59
      try clear p2
      obtain ⟨kq, x92_51, rfl, HA, HJ51, HO_9, HB⟩ := hcut
      have hl9_51 := (Kd.R_reads' HO_9.out).1
      rw [hl9_51] at HO_9
      (try simp only [hl9_51])
      cases kq with
      | zero => exact absurd HA.out (by simp [laws_FnExactPackSprites.j2])
      | succ kj51 =>
       have H := HA.out
       clear HA
       simp only [laws_FnExactPackSprites.j2] at H
       by_cases c66 : x92_51 = true
       ·
        subst c66
        have H1 : (some false) = some r := by rw [if_pos rfl] at H; exact H
        clear H
        have H := H1
        clear H1
        obtain rfl := Option.some.inj H
        go_wp2
        go_ret
        exact ⟨by first | rfl | (simp [errW_none, errW_some] <;> rfl) | (simp [*, errW_none, errW_some] <;> rfl), by repeat (first | (with_reducible first | exact HB.out | apply below_alloc | apply pw_below_drewN | apply below_drew1) | exact HB.out)⟩
       replace c66 := Bool.eq_false_iff.mpr c66
       subst c66
       have H1 : ((laws_heldBoxS.f kj51 t125 1).bind fun t135 => (if t135 < 0 then (some false) else (if t135 = t124 then (some true) else (some false)))) = some r := by rw [if_neg (show ¬ (false = true) by decide)] at H; exact H
       clear H
       have H := H1
       clear H1
       replace H := Option.bind_eq_some_iff.mp H
       obtain ⟨t135, A670, H⟩ := H
       replace H : (if t135 < 0 then (some false) else (if t135 = t124 then (some true) else (some false))) = some r := H
       have A67 := Aside0.mk A670
       clear A670
       by_cases c68 : t135 < 0
       ·
        rw [if_pos c68] at H
        have c68b0 : decide (t135 < 0) = true := decide_eq_true c68
        clear c68
        obtain rfl := Option.some.inj H
        go_wp2_with (first | ((with_reducible refine gate_callee (f := 16) rfl ?_); refine goesL_ (some 95) rfl rfl Try.func16 (by kernel_rfl) rfl #[.slice Ao53 t125.length co53, .int .i64 1] rfl (by simp only [List.map_toArray, List.map_cons, List.map_nil]; rfl) ?_; (with_reducible refine (laws_heldBoxS.calls kj51 _ _ t125 1 t135 _ ?side1 ?side2 A67.out).mono ?_); (case side1 => repeat (first | exact (Kd.R_reads' HO_9.out).2.2 | (with_reducible refine Kd.C_alloc ?_ _) | (with_reducible refine Kd.C_drewN ?_ _) | (with_reducible refine Kd.C_drew ?_))); (case side2 => exact (Kd.R_reads' HO_9.out).2.1); rintro e w' ⟨rfl, ⟨nd, rfl⟩⟩; refine ⟨_, rfl, ?_⟩))
        go_ret
        exact ⟨by first | rfl | (simp [errW_none, errW_some] <;> rfl) | (simp [*, errW_none, errW_some] <;> rfl), by repeat (first | (with_reducible first | exact HB.out | apply below_alloc | apply pw_below_drewN | apply below_drew1) | exact HB.out)⟩
       rw [if_neg c68] at H
       have c68b0 : decide (t135 < 0) = false := decide_eq_false c68
       clear c68
       by_cases c69 : t135 = t124
       ·
        rw [if_pos c69] at H
        have c69b0 : (t135 == t124) = true := beq_iff_eq.mpr c69
        have c69b1 : (t135 != t124) = false := bne_eq_false_iff_eq.mpr c69
        clear c69
        obtain rfl := Option.some.inj H
        go_wp2_with (first | ((with_reducible refine gate_callee (f := 16) rfl ?_); refine goesL_ (some 95) rfl rfl Try.func16 (by kernel_rfl) rfl #[.slice Ao53 t125.length co53, .int .i64 1] rfl (by simp only [List.map_toArray, List.map_cons, List.map_nil]; rfl) ?_; (with_reducible refine (laws_heldBoxS.calls kj51 _ _ t125 1 t135 _ ?side1 ?side2 A67.out).mono ?_); (case side1 => repeat (first | exact (Kd.R_reads' HO_9.out).2.2 | (with_reducible refine Kd.C_alloc ?_ _) | (with_reducible refine Kd.C_drewN ?_ _) | (with_reducible refine Kd.C_drew ?_))); (case side2 => exact (Kd.R_reads' HO_9.out).2.1); rintro e w' ⟨rfl, ⟨nd, rfl⟩⟩; refine ⟨_, rfl, ?_⟩))
        go_ret
        exact ⟨by first | rfl | (simp [errW_none, errW_some] <;> rfl) | (simp [*, errW_none, errW_some] <;> rfl), by repeat (first | (with_reducible first | exact HB.out | apply below_alloc | apply pw_below_drewN | apply below_drew1) | exact HB.out)⟩
       rw [if_neg c69] at H
       have c69b0 : (t135 == t124) = false := beq_eq_false_iff_ne.mpr c69
       have c69b1 : (t135 != t124) = true := bne_iff_ne.mpr c69
       obtain rfl := Option.some.inj H
       go_wp2_with (first | ((with_reducible refine gate_callee (f := 16) rfl ?_); refine goesL_ (some 95) rfl rfl Try.func16 (by kernel_rfl) rfl #[.slice Ao53 t125.length co53, .int .i64 1] rfl (by simp only [List.map_toArray, List.map_cons, List.map_nil]; rfl) ?_; (with_reducible refine (laws_heldBoxS.calls kj51 _ _ t125 1 t135 _ ?side1 ?side2 A67.out).mono ?_); (case side1 => repeat (first | exact (Kd.R_reads' HO_9.out).2.2 | (with_reducible refine Kd.C_alloc ?_ _) | (with_reducible refine Kd.C_drewN ?_ _) | (with_reducible refine Kd.C_drew ?_))); (case side2 => exact (Kd.R_reads' HO_9.out).2.1); rintro e w' ⟨rfl, ⟨nd, rfl⟩⟩; refine ⟨_, rfl, ?_⟩))
       go_ret
       exact ⟨by first | rfl | (simp [errW_none, errW_some] <;> rfl) | (simp [*, errW_none, errW_some] <;> rfl), by repeat (first | (with_reducible first | exact HB.out | apply below_alloc | apply pw_below_drewN | apply below_drew1) | exact HB.out)⟩

/-- THE ONE PURE STATEMENT of laws_FnExactPackSprites. -/
def laws_FnExactPackSprites.Pure : Prop := ∀ (l0 : List (S55)) (a1 : Int), l0.length ≤ maxLen → (∀ x ∈ l0, (Lit.int .i64 x.f0).wf = true ∧ (Lit.int .i64 x.f1).wf = true) → (Lit.int .i64 a1).wf = true → ∃ k, laws_FnExactPackSprites.f k l0 a1 = some true
theorem laws_FnExactPackSprites.walk (P : laws_FnExactPackSprites.Pure) (A0 : Option Addr) (c0 : Nat) (l0 : List (S55)) (a1 : Int) (w : World) (hr0 : Kd.C k55 w A0 l0.length l0) (hc0 : l0.length ≤ c0) (hm0 : l0.length ≤ maxLen) (hw0 : ∀ x ∈ l0, (Lit.int .i64 x.f0).wf = true ∧ (Lit.int .i64 x.f1).wf = true) (w1 : (Lit.int .i64 a1).wf = true) :
  Calls Try.prog 4 #[.slice A0 l0.length c0, .int .i64 a1] w fun e w' => e = .returned (.bool true) ∧ Below w.heap.size w w' := by
 obtain ⟨k, h⟩ := P l0 a1 hm0 hw0 w1
 refine (laws_FnExactPackSprites.calls k A0 c0 l0 a1 true w hr0 hc0 h).mono ?_
 rintro e w' ⟨rfl, hd⟩
 exact ⟨rfl, hd⟩

end Go.Proofs.Ytbpeonhhlfadcaa.Print
