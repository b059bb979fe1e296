-- laid by hp.py (a program of this work over the kit's print), with contracts by hand for what the print does not take
import Derived.Test.YtonolnojpejgnaaPrint0
import Derived.Test.YtonolnojpejgnaaPrintHimplMapImage
import Derived.Test.YtonolnojpejgnaaPrintHx0
import Derived.Test.YtonolnojpejgnaaPrintR0x1
import Derived.Test.YtonolnojpejgnaaPrintR1x10
import Derived.Test.YtonolnojpejgnaaPrintR1x4
import Derived.Test.YtonolnojpejgnaaPrintR1x5
import Derived.Test.YtonolnojpejgnaaPrintR1x7
namespace Go.Proofs.Ytonolnojpejgnaa.Print
open Go.RowKit Go.Proofs.YtonolnojpejgnaaW.PrintWords Go.Proofs.YtonolnojpejgnaaW.PrintLast Go.Proofs.YtonolnojpejgnaaW.PrintMore
attribute [local go_sem] max2_int min2_int max_two min_two max_three min_three max_four min_four   -- for this text's walks alone
set_option linter.unusedVariables false
set_option linter.unusedSimpArgs false

/-! ### laws_FnExactMapImage: function 7 -/
mutual
def laws_FnExactMapImage.j0 : Nat → List Int → Bool → List Int → Bool → Bool → Int → Int → Int → List Int → Int → Int → Int → List Int → Int → Int → Int → List Int → Int → Int → Int → List Int → Option (Bool)
 | 0, _, _, _, _, _, _, _, _, _, _, _, _, _, _, _, _, _, _, _, _, _ => none
 | k + 1, x1, x7, x9, x11, x51, x102000, x102001, x102002, x102003, x120000, x120001, x120002, x120003, x127000, x127001, x127002, x127003, x138000, x138001, x138002, x138003 => if x51 = true then (some false) else ((laws_toImage.f k x102000 x102001 x102002 x102003).bind fun bt139 => ((laws_eqImage.f k x127000 x127001 x127002 x127003 bt139.1 bt139.2.1 bt139.2.2.1 bt139.2.2.2).bind fun t145 => (if t145 = true then ((laws_toIntS.f k x1).bind fun t146 => ((laws_eqIntS.f k x9 t146).bind fun t149 => (if t149 = true then ((laws_markImage.f k x127000 x127001 x127002 x127003 1).bind fun bt150 => ((laws_markIntS.f k x9 bt150.1).bind fun bt152 => (if bt152.1 < 0 then (laws_FnExactMapImage.j1 k x1 x7 true x102000 x102001 x102002 x102003 x120000 x120001 x120002 x120003 x138000 x138001 x138002 x138003) else ((laws_eqImage.f k x138000 x138001 x138002 x138003 x120000 x120001 x120002 x120003).bind fun t154 => (if t154 = true then (laws_FnExactMapImage.j1 k x1 x7 (x11 != x7) x102000 x102001 x102002 x102003 x120000 x120001 x120002 x120003 x138000 x138001 x138002 x138003) else (laws_FnExactMapImage.j1 k x1 x7 true x102000 x102001 x102002 x102003 x120000 x120001 x120002 x120003 x138000 x138001 x138002 x138003)))))) else (some false)))) else (some false))))
def laws_FnExactMapImage.j1 : Nat → List Int → Bool → Bool → Int → Int → Int → List Int → Int → Int → Int → List Int → Int → Int → Int → List Int → Option (Bool)
 | 0, _, _, _, _, _, _, _, _, _, _, _, _, _, _, _ => none
 | k + 1, x1, x7, x80, x102000, x102001, x102002, x102003, x120000, x120001, x120002, x120003, x138000, x138001, x138002, x138003 => if x80 = true then (some false) else ((laws_markImage.f k x138000 x138001 x138002 x138003 1).bind fun bt155 => ((laws_heldImage.f k x138000 x138001 x138002 bt155.2 1).bind fun t157 => (if t157 < 0 then (some false) else (if t157 = bt155.1 then ((laws_toImage.f k x102000 x102001 x102002 x102003).bind fun bt158 => ((laws_toIntS.f k x1).bind fun t164 => ((impl_MapImage.f bt158.1 bt158.2.1 bt158.2.2.1 bt158.2.2.2 t164).bind fun bt167 => ((laws_eqImage.f k bt167.1 bt167.2.1 bt167.2.2.1 bt167.2.2.2.1 x120000 x120001 x120002 x120003).bind fun t175 => (if t175 = true then (laws_FnExactMapImage.j2 k bt155.1 (bt167.2.2.2.2 != x7) x138000 x138001 x138002 bt155.2) else (laws_FnExactMapImage.j2 k bt155.1 true x138000 x138001 x138002 bt155.2)))))) else (some false)))))
def laws_FnExactMapImage.j2 : Nat → Int → Bool → Int → Int → Int → List Int → Option (Bool)
 | 0, _, _, _, _, _, _ => none
 | k + 1, x13, x108, x138000, x138001, x138002, x138003 => if x108 = true then (some false) else ((laws_heldImage.f k x138000 x138001 x138002 x138003 1).bind fun t176 => (if t176 < 0 then (some false) else (if t176 = x13 then (some true) else (some false))))
end
def laws_FnExactMapImage.f (k : Nat) (a0_0 : Int) (a0_1 : Int) (a0_2 : Int) (l0_3 : List Int) (l1 : List Int) : Option (Bool) := if (l1.length : Int) > 1048576 then (some true) else ((laws_szImage.f a0_0 a0_1 a0_2 l0_3 1048576).bind fun t102 => (if t102 < 0 then (some true) else ((laws_toImage.f k a0_0 a0_1 a0_2 l0_3).bind fun bt103 => ((laws_toIntS.f k l1).bind fun t109 => ((spec_MapImage.f k bt103.1 bt103.2.1 bt103.2.2.1 bt103.2.2.2 t109).bind fun bt112 => ((laws_toImage.f k a0_0 a0_1 a0_2 l0_3).bind fun bt120 => ((laws_toIntS.f k l1).bind fun t127 => ((impl_MapImage.f bt120.1 bt120.2.1 bt120.2.2.1 bt120.2.2.2 t127).bind fun bt130 => ((laws_eqImage.f k bt130.1 bt130.2.1 bt130.2.2.1 bt130.2.2.2.1 bt112.1 bt112.2.1 bt112.2.2.1 bt112.2.2.2.1).bind fun t138 => (if t138 = true then (laws_FnExactMapImage.j0 k l1 bt112.2.2.2.2 t127 bt130.2.2.2.2 (bt130.2.2.2.2 != bt112.2.2.2.2) a0_0 a0_1 a0_2 l0_3 bt112.1 bt112.2.1 bt112.2.2.1 bt112.2.2.2.1 bt120.1 bt120.2.1 bt120.2.2.1 bt120.2.2.2 bt130.1 bt130.2.1 bt130.2.2.1 bt130.2.2.2.1) else (laws_FnExactMapImage.j0 k l1 bt112.2.2.2.2 t127 bt130.2.2.2.2 true a0_0 a0_1 a0_2 l0_3 bt112.1 bt112.2.1 bt112.2.2.1 bt112.2.2.2.1 bt120.1 bt120.2.1 bt120.2.2.1 bt120.2.2.2 bt130.1 bt130.2.1 bt130.2.2.1 bt130.2.2.2.1)))))))))))
theorem laws_FnExactMapImage.mono_l : ∀ k, (∀ y0 y1 y2 y3 y4 y5 y6 y7 y8 y9 y10 y11 y12 y13 y14 y15 y16 y17 y18 y19 y20, LeO (laws_FnExactMapImage.j0 k y0 y1 y2 y3 y4 y5 y6 y7 y8 y9 y10 y11 y12 y13 y14 y15 y16 y17 y18 y19 y20) (laws_FnExactMapImage.j0 (k + 1) y0 y1 y2 y3 y4 y5 y6 y7 y8 y9 y10 y11 y12 y13 y14 y15 y16 y17 y18 y19 y20)) ∧ (∀ y0 y1 y2 y3 y4 y5 y6 y7 y8 y9 y10 y11 y12 y13 y14, LeO (laws_FnExactMapImage.j1 k y0 y1 y2 y3 y4 y5 y6 y7 y8 y9 y10 y11 y12 y13 y14) (laws_FnExactMapImage.j1 (k + 1) y0 y1 y2 y3 y4 y5 y6 y7 y8 y9 y10 y11 y12 y13 y14)) ∧ (∀ y0 y1 y2 y3 y4 y5, LeO (laws_FnExactMapImage.j2 k y0 y1 y2 y3 y4 y5) (laws_FnExactMapImage.j2 (k + 1) y0 y1 y2 y3 y4 y5))
 | 0 => ⟨fun _ _ _ _ _ _ _ _ _ _ _ _ _ _ _ _ _ _ _ _ _ r h => by simp [laws_FnExactMapImage.j0] at h, fun _ _ _ _ _ _ _ _ _ _ _ _ _ _ _ r h => by simp [laws_FnExactMapImage.j1] at h, fun _ _ _ _ _ _ r h => by simp [laws_FnExactMapImage.j2] at h⟩
 | k + 1 => by
  obtain ⟨ih0, ih1, ih2⟩ := laws_FnExactMapImage.mono_l k
  refine ⟨?_, ?_, ?_⟩
  ·
   intro y0 y1 y2 y3 y4 y5 y6 y7 y8 y9 y10 y11 y12 y13 y14 y15 y16 y17 y18 y19 y20
   unfold laws_FnExactMapImage.j0
   repeat' first
   | (with_reducible exact ih0 _ _ _ _ _ _ _ _ _ _ _ _ _ _ _ _ _ _ _ _ _)
   | (with_reducible exact ih1 _ _ _ _ _ _ _ _ _ _ _ _ _ _ _)
   | (with_reducible exact ih2 _ _ _ _ _ _)
   | (with_reducible exact laws_eqImage.mono _ _ _ _ _ _ _ _ _)
   | (with_reducible exact laws_eqIntS.mono _ _ _)
   | (with_reducible exact laws_heldImage.mono _ _ _ _ _ _)
   | (with_reducible exact laws_markImage.mono _ _ _ _ _ _)
   | (with_reducible exact laws_markIntS.mono _ _ _)
   | (with_reducible exact laws_toImage.mono _ _ _ _ _)
   | (with_reducible exact laws_toIntS.mono _ _)
   | (with_reducible exact spec_MapImage.mono _ _ _ _ _ _)
   | (with_reducible exact LeO.refl _)
   | (with_reducible exact LeO.none _)
   | (with_reducible refine LeO.ite ?_ ?_)
   | (with_reducible refine LeO.bind ?_ (fun _ => ?_))
   | exact ih0 _ _ _ _ _ _ _ _ _ _ _ _ _ _ _ _ _ _ _ _ _
   | exact ih1 _ _ _ _ _ _ _ _ _ _ _ _ _ _ _
   | exact ih2 _ _ _ _ _ _
   | exact laws_eqImage.mono _ _ _ _ _ _ _ _ _
   | exact laws_eqIntS.mono _ _ _
   | exact laws_heldImage.mono _ _ _ _ _ _
   | exact laws_markImage.mono _ _ _ _ _ _
   | exact laws_markIntS.mono _ _ _
   | exact laws_toImage.mono _ _ _ _ _
   | exact laws_toIntS.mono _ _
   | exact spec_MapImage.mono _ _ _ _ _ _
   | exact LeO.none _
   | refine LeO.ite ?_ ?_
   | refine LeO.bind ?_ (fun _ => ?_)
  ·
   intro y0 y1 y2 y3 y4 y5 y6 y7 y8 y9 y10 y11 y12 y13 y14
   unfold laws_FnExactMapImage.j1
   repeat' first
   | (with_reducible exact ih0 _ _ _ _ _ _ _ _ _ _ _ _ _ _ _ _ _ _ _ _ _)
   | (with_reducible exact ih1 _ _ _ _ _ _ _ _ _ _ _ _ _ _ _)
   | (with_reducible exact ih2 _ _ _ _ _ _)
   | (with_reducible exact laws_eqImage.mono _ _ _ _ _ _ _ _ _)
   | (with_reducible exact laws_eqIntS.mono _ _ _)
   | (with_reducible exact laws_heldImage.mono _ _ _ _ _ _)
   | (with_reducible exact laws_markImage.mono _ _ _ _ _ _)
   | (with_reducible exact laws_markIntS.mono _ _ _)
   | (with_reducible exact laws_toImage.mono _ _ _ _ _)
   | (with_reducible exact laws_toIntS.mono _ _)
   | (with_reducible exact spec_MapImage.mono _ _ _ _ _ _)
   | (with_reducible exact LeO.refl _)
   | (with_reducible exact LeO.none _)
   | (with_reducible refine LeO.ite ?_ ?_)
   | (with_reducible refine LeO.bind ?_ (fun _ => ?_))
   | exact ih0 _ _ _ _ _ _ _ _ _ _ _ _ _ _ _ _ _ _ _ _ _
   | exact ih1 _ _ _ _ _ _ _ _ _ _ _ _ _ _ _
   | exact ih2 _ _ _ _ _ _
   | exact laws_eqImage.mono _ _ _ _ _ _ _ _ _
   | exact laws_eqIntS.mono _ _ _
   | exact laws_heldImage.mono _ _ _ _ _ _
   | exact laws_markImage.mono _ _ _ _ _ _
   | exact laws_markIntS.mono _ _ _
   | exact laws_toImage.mono _ _ _ _ _
   | exact laws_toIntS.mono _ _
   | exact spec_MapImage.mono _ _ _ _ _ _
   | exact LeO.none _
   | refine LeO.ite ?_ ?_
   | refine LeO.bind ?_ (fun _ => ?_)
  ·
   intro y0 y1 y2 y3 y4 y5
   unfold laws_FnExactMapImage.j2
   repeat' first
   | (with_reducible exact ih0 _ _ _ _ _ _ _ _ _ _ _ _ _ _ _ _ _ _ _ _ _)
   | (with_reducible exact ih1 _ _ _ _ _ _ _ _ _ _ _ _ _ _ _)
   | (with_reducible exact ih2 _ _ _ _ _ _)
   | (with_reducible exact laws_eqImage.mono _ _ _ _ _ _ _ _ _)
   | (with_reducible exact laws_eqIntS.mono _ _ _)
   | (with_reducible exact laws_heldImage.mono _ _ _ _ _ _)
   | (with_reducible exact laws_markImage.mono _ _ _ _ _ _)
   | (with_reducible exact laws_markIntS.mono _ _ _)
   | (with_reducible exact laws_toImage.mono _ _ _ _ _)
   | (with_reducible exact laws_toIntS.mono _ _)
   | (with_reducible exact spec_MapImage.mono _ _ _ _ _ _)
   | (with_reducible exact LeO.refl _)
   | (with_reducible exact LeO.none _)
   | (with_reducible refine LeO.ite ?_ ?_)
   | (with_reducible refine LeO.bind ?_ (fun _ => ?_))
   | exact ih0 _ _ _ _ _ _ _ _ _ _ _ _ _ _ _ _ _ _ _ _ _
   | exact ih1 _ _ _ _ _ _ _ _ _ _ _ _ _ _ _
   | exact ih2 _ _ _ _ _ _
   | exact laws_eqImage.mono _ _ _ _ _ _ _ _ _
   | exact laws_eqIntS.mono _ _ _
   | exact laws_heldImage.mono _ _ _ _ _ _
   | exact laws_markImage.mono _ _ _ _ _ _
   | exact laws_markIntS.mono _ _ _
   | exact laws_toImage.mono _ _ _ _ _
   | exact laws_toIntS.mono _ _
   | exact spec_MapImage.mono _ _ _ _ _ _
   | exact LeO.none _
   | refine LeO.ite ?_ ?_
   | refine LeO.bind ?_ (fun _ => ?_)
theorem laws_FnExactMapImage.mono : ∀ a0 a1 a2 a3 a4 k, LeO (laws_FnExactMapImage.f k a0 a1 a2 a3 a4) (laws_FnExactMapImage.f (k + 1) a0 a1 a2 a3 a4) := by
 intro a0 a1 a2 a3 a4 k
 obtain ⟨ih0, ih1, ih2⟩ := laws_FnExactMapImage.mono_l k
 unfold laws_FnExactMapImage.f
 repeat' first
   | (with_reducible exact ih0 _ _ _ _ _ _ _ _ _ _ _ _ _ _ _ _ _ _ _ _ _)
   | (with_reducible exact ih1 _ _ _ _ _ _ _ _ _ _ _ _ _ _ _)
   | (with_reducible exact ih2 _ _ _ _ _ _)
   | (with_reducible exact laws_eqImage.mono _ _ _ _ _ _ _ _ _)
   | (with_reducible exact laws_eqIntS.mono _ _ _)
   | (with_reducible exact laws_heldImage.mono _ _ _ _ _ _)
   | (with_reducible exact laws_markImage.mono _ _ _ _ _ _)
   | (with_reducible exact laws_markIntS.mono _ _ _)
   | (with_reducible exact laws_toImage.mono _ _ _ _ _)
   | (with_reducible exact laws_toIntS.mono _ _)
   | (with_reducible exact spec_MapImage.mono _ _ _ _ _ _)
   | (with_reducible exact LeO.refl _)
   | (with_reducible exact LeO.none _)
   | (with_reducible refine LeO.ite ?_ ?_)
   | (with_reducible refine LeO.bind ?_ (fun _ => ?_))
   | exact ih0 _ _ _ _ _ _ _ _ _ _ _ _ _ _ _ _ _ _ _ _ _
   | exact ih1 _ _ _ _ _ _ _ _ _ _ _ _ _ _ _
   | exact ih2 _ _ _ _ _ _
   | exact laws_eqImage.mono _ _ _ _ _ _ _ _ _
   | exact laws_eqIntS.mono _ _ _
   | exact laws_heldImage.mono _ _ _ _ _ _
   | exact laws_markImage.mono _ _ _ _ _ _
   | exact laws_markIntS.mono _ _ _
   | exact laws_toImage.mono _ _ _ _ _
   | exact laws_toIntS.mono _ _
   | exact spec_MapImage.mono _ _ _ _ _ _
   | exact LeO.none _
   | refine LeO.ite ?_ ?_
   | refine LeO.bind ?_ (fun _ => ?_)
set_option maxHeartbeats 8000000 in
set_option maxRecDepth 100000 in
theorem laws_FnExactMapImage.calls (k : Nat) (a0_0 : Int) (a0_1 : Int) (a0_2 : Int) (A0_3 : Option Addr) (c0_3 : Nat) (l0_3 : List Int) (A1 : Option Addr) (c1 : Nat) (l1 : List Int) (r : Bool) (w : World) (hr0_3 : Kd.C (Kd.int .i64) w A0_3 l0_3.length l0_3) (hc0_3 : l0_3.length ≤ c0_3) (hr1 : Kd.C (Kd.int .i64) w A1 l1.length l1) (hc1 : l1.length ≤ c1) (h : laws_FnExactMapImage.f k a0_0 a0_1 a0_2 l0_3 l1 = some r) :
  Calls Try.prog 7 #[.agg #[.int .i64 a0_0, .int .i64 a0_1, .int .i64 a0_2, .slice A0_3 l0_3.length c0_3], .slice A1 l1.length c1] w fun e w' => e = .returned (.bool r) ∧ Below w.heap.size w w' := by
 have hu24 := Try.underlying24
 have hu27 := Try.underlying27
 have HR0_3 := Aside0.mk hr0_3
 have HC0_3 := Aside0.mk hc0_3
 clear hr0_3 hc0_3
 have HR1 := Aside0.mk hr1
 have HC1 := Aside0.mk hc1
 clear hr1 hc1
 have HB := Aside0.mk (Below.refl w.heap.size w)
 have H : (if (l1.length : Int) > 1048576 then (some true) else ((laws_szImage.f a0_0 a0_1 a0_2 l0_3 1048576).bind fun t102 => (if t102 < 0 then (some true) else ((laws_toImage.f k a0_0 a0_1 a0_2 l0_3).bind fun bt103 => ((laws_toIntS.f k l1).bind fun t109 => ((spec_MapImage.f k bt103.1 bt103.2.1 bt103.2.2.1 bt103.2.2.2 t109).bind fun bt112 => ((laws_toImage.f k a0_0 a0_1 a0_2 l0_3).bind fun bt120 => ((laws_toIntS.f k l1).bind fun t127 => ((impl_MapImage.f bt120.1 bt120.2.1 bt120.2.2.1 bt120.2.2.2 t127).bind fun bt130 => ((laws_eqImage.f k bt130.1 bt130.2.1 bt130.2.2.1 bt130.2.2.2.1 bt112.1 bt112.2.1 bt112.2.2.1 bt112.2.2.2.1).bind fun t138 => (if t138 = true then (laws_FnExactMapImage.j0 k l1 bt112.2.2.2.2 t127 bt130.2.2.2.2 (bt130.2.2.2.2 != bt112.2.2.2.2) a0_0 a0_1 a0_2 l0_3 bt112.1 bt112.2.1 bt112.2.2.1 bt112.2.2.2.1 bt120.1 bt120.2.1 bt120.2.2.1 bt120.2.2.2 bt130.1 bt130.2.1 bt130.2.2.1 bt130.2.2.2.1) else (laws_FnExactMapImage.j0 k l1 bt112.2.2.2.2 t127 bt130.2.2.2.2 true a0_0 a0_1 a0_2 l0_3 bt112.1 bt112.2.1 bt112.2.2.1 bt112.2.2.2.1 bt120.1 bt120.2.1 bt120.2.2.1 bt120.2.2.2 bt130.1 bt130.2.1 bt130.2.2.1 bt130.2.2.2.1)))))))))))) = some r := h
 clear h
 by_cases c3 : (l1.length : Int) > 1048576
 ·
  rw [if_pos c3] at H
  have c3b0 : decide (1048576 < (l1.length : Int)) = true := decide_eq_true c3
  have c3b1 : decide (1048576 < l1.length) = true := decide_eq_true (by omega)
  clear c3
  obtain rfl := Option.some.inj H
  go_enter Try.func7, Try.ntmps7
  go_wp2_with (first | ((with_reducible refine gate_dst (N := 2) rfl ?_); refine box_event ?hg (N := 2) ?hd (cs := #[.int .i64 a0_0, .int .i64 a0_1, .int .i64 a0_2, .slice A0_3 l0_3.length c0_3]) (t := 24) ?hr ?_; (case hd => rfl); (case hg => rfl); (case hr => first | (go_simp; done) | (go_simp; rfl)); intro gb101 hg w4 hbox hb; have BK101 := am_ (hbox); have GW101 := am_ ((by rw [hg]; exact (below_size (by repeat (first | (with_reducible first | exact HB.out | apply below_alloc | apply pw_below_drewN | apply below_drew1) | exact HB.out))) : w.heap.size ≤ gb101)); have GE101 := GW101; replace HB := am_ (below_step (by repeat (first | (with_reducible first | exact HB.out | apply below_alloc | apply pw_below_drewN | apply below_drew1) | exact HB.out)) hb); clear hb hbox hg))
  go_ret
  exact ⟨by first | rfl | (simp [errW_none, errW_some] <;> rfl) | (simp [*, errW_none, errW_some] <;> rfl), by repeat (first | (with_reducible first | exact HB.out | apply below_alloc | apply pw_below_drewN | apply below_drew1 | refine below_set ?_ GE101.out) | exact HB.out)⟩
 ·
  rw [if_neg c3] at H
  have c3b0 : decide (1048576 < (l1.length : Int)) = false := decide_eq_false c3
  have c3b1 : decide (1048576 < l1.length) = false := decide_eq_false (by omega)
  clear c3
  replace H := Option.bind_eq_some_iff.mp H
  obtain ⟨t102, A50, H⟩ := H
  replace H : (if t102 < 0 then (some true) else ((laws_toImage.f k a0_0 a0_1 a0_2 l0_3).bind fun bt103 => ((laws_toIntS.f k l1).bind fun t109 => ((spec_MapImage.f k bt103.1 bt103.2.1 bt103.2.2.1 bt103.2.2.2 t109).bind fun bt112 => ((laws_toImage.f k a0_0 a0_1 a0_2 l0_3).bind fun bt120 => ((laws_toIntS.f k l1).bind fun t127 => ((impl_MapImage.f bt120.1 bt120.2.1 bt120.2.2.1 bt120.2.2.2 t127).bind fun bt130 => ((laws_eqImage.f k bt130.1 bt130.2.1 bt130.2.2.1 bt130.2.2.2.1 bt112.1 bt112.2.1 bt112.2.2.1 bt112.2.2.2.1).bind fun t138 => (if t138 = true then (laws_FnExactMapImage.j0 k l1 bt112.2.2.2.2 t127 bt130.2.2.2.2 (bt130.2.2.2.2 != bt112.2.2.2.2) a0_0 a0_1 a0_2 l0_3 bt112.1 bt112.2.1 bt112.2.2.1 bt112.2.2.2.1 bt120.1 bt120.2.1 bt120.2.2.1 bt120.2.2.2 bt130.1 bt130.2.1 bt130.2.2.1 bt130.2.2.2.1) else (laws_FnExactMapImage.j0 k l1 bt112.2.2.2.2 t127 bt130.2.2.2.2 true a0_0 a0_1 a0_2 l0_3 bt112.1 bt112.2.1 bt112.2.2.1 bt112.2.2.2.1 bt120.1 bt120.2.1 bt120.2.2.1 bt120.2.2.2 bt130.1 bt130.2.1 bt130.2.2.1 bt130.2.2.2.1)))))))))) = some r := H
  have A5 := Aside0.mk A50
  clear A50
  by_cases c6 : t102 < 0
  ·
   rw [if_pos c6] at H
   have c6b0 : decide (t102 < 0) = true := decide_eq_true c6
   clear c6
   obtain rfl := Option.some.inj H
   go_enter Try.func7, Try.ntmps7
   go_wp2_with (first | ((with_reducible refine gate_dst (N := 2) rfl ?_); refine box_event ?hg (N := 2) ?hd (cs := #[.int .i64 a0_0, .int .i64 a0_1, .int .i64 a0_2, .slice A0_3 l0_3.length c0_3]) (t := 24) ?hr ?_; (case hd => rfl); (case hg => rfl); (case hr => first | (go_simp; done) | (go_simp; rfl)); intro gb101 hg w7 hbox hb; have BK101 := am_ (hbox); have GW101 := am_ ((by rw [hg]; exact (below_size (by repeat (first | (with_reducible first | exact HB.out | apply below_alloc | apply pw_below_drewN | apply below_drew1) | exact HB.out))) : w.heap.size ≤ gb101)); have GE101 := GW101; replace HB := am_ (below_step (by repeat (first | (with_reducible first | exact HB.out | apply below_alloc | apply pw_below_drewN | apply below_drew1) | exact HB.out)) hb); clear hb hbox hg; obtain ⟨hcz8_0, hcz8_1, hcz8_2, hcz8_3, hfz8_0, hfz8_1, hfz8_2, hfz8_3⟩ := blk4_ BK101.out) | ((with_reducible refine gate_callee (f := 15) rfl ?_); refine goesL_ (some 22) rfl rfl Try.func15 (by kernel_rfl) rfl #[.agg #[.int .i64 a0_0, .int .i64 a0_1, .int .i64 a0_2, .slice A0_3 l0_3.length c0_3], .int .i64 1048576] rfl (by simp only [List.map_toArray, List.map_cons, List.map_nil]; rfl) ?_; (with_reducible refine (laws_szImage.calls a0_0 a0_1 a0_2 _ _ l0_3 1048576 t102 _ ?side1 ?side2 A5.out).mono ?_); (case side1 => repeat (first | exact (Kd.C_below HR0_3.out HB.out) | (with_reducible refine Kd.C_alloc ?_ _) | (with_reducible refine Kd.C_drewN ?_ _) | (with_reducible refine Kd.C_drew ?_))); (case side2 => exact HC0_3.out); rintro e w9 ⟨rfl, hb⟩; refine ⟨_, rfl, ?_⟩; replace BK101 := am_ (blk_below (by exact BK101.out) hb); replace HB := am_ (below_step (by repeat (first | (with_reducible first | exact HB.out | apply below_alloc | apply pw_below_drewN | apply below_drew1 | refine below_set ?_ GE101.out) | exact HB.out)) hb); (try clear hb); (try clear hb2); (try clear hk); (try clear hi)))
   go_ret
   exact ⟨by first | rfl | (simp [errW_none, errW_some] <;> rfl) | (simp [*, errW_none, errW_some] <;> rfl), by repeat (first | (with_reducible first | exact HB.out | apply below_alloc | apply pw_below_drewN | apply below_drew1 | refine below_set ?_ GE101.out) | exact HB.out)⟩
  ·
   rw [if_neg c6] at H
   have c6b0 : decide (t102 < 0) = false := decide_eq_false c6
   clear c6
   replace H := Option.bind_eq_some_iff.mp H
   obtain ⟨⟨t103, t104, t105, t106⟩, A100, H⟩ := H
   replace H : ((laws_toIntS.f k l1).bind fun t109 => ((spec_MapImage.f k t103 t104 t105 t106 t109).bind fun bt112 => ((laws_toImage.f k a0_0 a0_1 a0_2 l0_3).bind fun bt120 => ((laws_toIntS.f k l1).bind fun t127 => ((impl_MapImage.f bt120.1 bt120.2.1 bt120.2.2.1 bt120.2.2.2 t127).bind fun bt130 => ((laws_eqImage.f k bt130.1 bt130.2.1 bt130.2.2.1 bt130.2.2.2.1 bt112.1 bt112.2.1 bt112.2.2.1 bt112.2.2.2.1).bind fun t138 => (if t138 = true then (laws_FnExactMapImage.j0 k l1 bt112.2.2.2.2 t127 bt130.2.2.2.2 (bt130.2.2.2.2 != bt112.2.2.2.2) a0_0 a0_1 a0_2 l0_3 bt112.1 bt112.2.1 bt112.2.2.1 bt112.2.2.2.1 bt120.1 bt120.2.1 bt120.2.2.1 bt120.2.2.2 bt130.1 bt130.2.1 bt130.2.2.1 bt130.2.2.2.1) else (laws_FnExactMapImage.j0 k l1 bt112.2.2.2.2 t127 bt130.2.2.2.2 true a0_0 a0_1 a0_2 l0_3 bt112.1 bt112.2.1 bt112.2.2.1 bt112.2.2.2.1 bt120.1 bt120.2.1 bt120.2.2.1 bt120.2.2.2 bt130.1 bt130.2.1 bt130.2.2.1 bt130.2.2.2.1)))))))) = some r := H
   have A10 := Aside0.mk A100
   clear A100
   replace H := Option.bind_eq_some_iff.mp H
   obtain ⟨t109, A110, H⟩ := H
   replace H : ((spec_MapImage.f k t103 t104 t105 t106 t109).bind fun bt112 => ((laws_toImage.f k a0_0 a0_1 a0_2 l0_3).bind fun bt120 => ((laws_toIntS.f k l1).bind fun t127 => ((impl_MapImage.f bt120.1 bt120.2.1 bt120.2.2.1 bt120.2.2.2 t127).bind fun bt130 => ((laws_eqImage.f k bt130.1 bt130.2.1 bt130.2.2.1 bt130.2.2.2.1 bt112.1 bt112.2.1 bt112.2.2.1 bt112.2.2.2.1).bind fun t138 => (if t138 = true then (laws_FnExactMapImage.j0 k l1 bt112.2.2.2.2 t127 bt130.2.2.2.2 (bt130.2.2.2.2 != bt112.2.2.2.2) a0_0 a0_1 a0_2 l0_3 bt112.1 bt112.2.1 bt112.2.2.1 bt112.2.2.2.1 bt120.1 bt120.2.1 bt120.2.2.1 bt120.2.2.2 bt130.1 bt130.2.1 bt130.2.2.1 bt130.2.2.2.1) else (laws_FnExactMapImage.j0 k l1 bt112.2.2.2.2 t127 bt130.2.2.2.2 true a0_0 a0_1 a0_2 l0_3 bt112.1 bt112.2.1 bt112.2.2.1 bt112.2.2.2.1 bt120.1 bt120.2.1 bt120.2.2.1 bt120.2.2.2 bt130.1 bt130.2.1 bt130.2.2.1 bt130.2.2.2.1))))))) = some r := H
   have A11 := Aside0.mk A110
   clear A110
   replace H := Option.bind_eq_some_iff.mp H
   obtain ⟨⟨t112, t113, t114, t115, t118⟩, A120, H⟩ := H
   replace H : ((laws_toImage.f k a0_0 a0_1 a0_2 l0_3).bind fun bt120 => ((laws_toIntS.f k l1).bind fun t127 => ((impl_MapImage.f bt120.1 bt120.2.1 bt120.2.2.1 bt120.2.2.2 t127).bind fun bt130 => ((laws_eqImage.f k bt130.1 bt130.2.1 bt130.2.2.1 bt130.2.2.2.1 t112 t113 t114 t115).bind fun t138 => (if t138 = true then (laws_FnExactMapImage.j0 k l1 t118 t127 bt130.2.2.2.2 (bt130.2.2.2.2 != t118) a0_0 a0_1 a0_2 l0_3 t112 t113 t114 t115 bt120.1 bt120.2.1 bt120.2.2.1 bt120.2.2.2 bt130.1 bt130.2.1 bt130.2.2.1 bt130.2.2.2.1) else (laws_FnExactMapImage.j0 k l1 t118 t127 bt130.2.2.2.2 true a0_0 a0_1 a0_2 l0_3 t112 t113 t114 t115 bt120.1 bt120.2.1 bt120.2.2.1 bt120.2.2.2 bt130.1 bt130.2.1 bt130.2.2.1 bt130.2.2.2.1)))))) = some r := H
   have A12 := Aside0.mk A120
   clear A120
   replace H := Option.bind_eq_some_iff.mp H
   obtain ⟨⟨t120, t121, t122, t123⟩, A130, H⟩ := H
   replace H : ((laws_toIntS.f k l1).bind fun t127 => ((impl_MapImage.f t120 t121 t122 t123 t127).bind fun bt130 => ((laws_eqImage.f k bt130.1 bt130.2.1 bt130.2.2.1 bt130.2.2.2.1 t112 t113 t114 t115).bind fun t138 => (if t138 = true then (laws_FnExactMapImage.j0 k l1 t118 t127 bt130.2.2.2.2 (bt130.2.2.2.2 != t118) a0_0 a0_1 a0_2 l0_3 t112 t113 t114 t115 t120 t121 t122 t123 bt130.1 bt130.2.1 bt130.2.2.1 bt130.2.2.2.1) else (laws_FnExactMapImage.j0 k l1 t118 t127 bt130.2.2.2.2 true a0_0 a0_1 a0_2 l0_3 t112 t113 t114 t115 t120 t121 t122 t123 bt130.1 bt130.2.1 bt130.2.2.1 bt130.2.2.2.1))))) = some r := H
   have A13 := Aside0.mk A130
   clear A130
   replace H := Option.bind_eq_some_iff.mp H
   obtain ⟨t127, A140, H⟩ := H
   replace H : ((impl_MapImage.f t120 t121 t122 t123 t127).bind fun bt130 => ((laws_eqImage.f k bt130.1 bt130.2.1 bt130.2.2.1 bt130.2.2.2.1 t112 t113 t114 t115).bind fun t138 => (if t138 = true then (laws_FnExactMapImage.j0 k l1 t118 t127 bt130.2.2.2.2 (bt130.2.2.2.2 != t118) a0_0 a0_1 a0_2 l0_3 t112 t113 t114 t115 t120 t121 t122 t123 bt130.1 bt130.2.1 bt130.2.2.1 bt130.2.2.2.1) else (laws_FnExactMapImage.j0 k l1 t118 t127 bt130.2.2.2.2 true a0_0 a0_1 a0_2 l0_3 t112 t113 t114 t115 t120 t121 t122 t123 bt130.1 bt130.2.1 bt130.2.2.1 bt130.2.2.2.1)))) = some r := H
   have A14 := Aside0.mk A140
   clear A140
   replace H := Option.bind_eq_some_iff.mp H
   obtain ⟨⟨t130, t131, t132, t133, t136⟩, A150, H⟩ := H
   replace H : ((laws_eqImage.f k t130 t131 t132 t133 t112 t113 t114 t115).bind fun t138 => (if t138 = true then (laws_FnExactMapImage.j0 k l1 t118 t127 t136 (t136 != t118) a0_0 a0_1 a0_2 l0_3 t112 t113 t114 t115 t120 t121 t122 t123 t130 t131 t132 t133) else (laws_FnExactMapImage.j0 k l1 t118 t127 t136 true a0_0 a0_1 a0_2 l0_3 t112 t113 t114 t115 t120 t121 t122 t123 t130 t131 t132 t133))) = some r := H
   have A15 := Aside0.mk A150
   clear A150
   have HC16 := Aside0.mk H
   clear H
   go_enter Try.func7, Try.ntmps7
   go_upto_region 11 with (first | ((with_reducible refine gate_dst (N := 2) rfl ?_); refine box_event ?hg (N := 2) ?hd (cs := #[.int .i64 a0_0, .int .i64 a0_1, .int .i64 a0_2, .slice A0_3 l0_3.length c0_3]) (t := 24) ?hr ?_; (case hd => rfl); (case hg => rfl); (case hr => first | (go_simp; done) | (go_simp; rfl)); intro gb101 hg w17 hbox hb; have BK101 := am_ (hbox); have GW101 := am_ ((by rw [hg]; exact (below_size (by repeat (first | (with_reducible first | exact HB.out | apply below_alloc | apply pw_below_drewN | apply below_drew1) | exact HB.out))) : w.heap.size ≤ gb101)); have GE101 := GW101; replace HB := am_ (below_step (by repeat (first | (with_reducible first | exact HB.out | apply below_alloc | apply pw_below_drewN | apply below_drew1) | exact HB.out)) hb); clear hb hbox hg; obtain ⟨hcz18_0, hcz18_1, hcz18_2, hcz18_3, hfz18_0, hfz18_1, hfz18_2, hfz18_3⟩ := blk4_ BK101.out) | ((with_reducible refine gate_callee (f := 15) rfl ?_); refine goesL_ (some 22) rfl rfl Try.func15 (by kernel_rfl) rfl #[.agg #[.int .i64 a0_0, .int .i64 a0_1, .int .i64 a0_2, .slice A0_3 l0_3.length c0_3], .int .i64 1048576] rfl (by simp only [List.map_toArray, List.map_cons, List.map_nil]; rfl) ?_; (with_reducible refine (laws_szImage.calls a0_0 a0_1 a0_2 _ _ l0_3 1048576 t102 _ ?side1 ?side2 A5.out).mono ?_); (case side1 => repeat (first | exact (Kd.C_below HR0_3.out HB.out) | (with_reducible refine Kd.C_alloc ?_ _) | (with_reducible refine Kd.C_drewN ?_ _) | (with_reducible refine Kd.C_drew ?_))); (case side2 => exact HC0_3.out); rintro e w19 ⟨rfl, hb⟩; refine ⟨_, rfl, ?_⟩; replace BK101 := am_ (blk_below (by exact BK101.out) hb); replace HB := am_ (below_step (by repeat (first | (with_reducible first | exact HB.out | apply below_alloc | apply pw_below_drewN | apply below_drew1 | refine below_set ?_ GE101.out) | exact HB.out)) hb); (try clear hb); (try clear hb2); (try clear hk); (try clear hi); obtain ⟨hcz20_0, hcz20_1, hcz20_2, hcz20_3, hfz20_0, hfz20_1, hfz20_2, hfz20_3⟩ := blk4_ BK101.out) | ((with_reducible refine gate_callee (f := 17) rfl ?_); refine goesL_ (some 27) rfl rfl Try.func17 (by kernel_rfl) rfl #[.agg #[.int .i64 a0_0, .int .i64 a0_1, .int .i64 a0_2, .slice A0_3 l0_3.length c0_3]] rfl (by simp only [List.map_toArray, List.map_cons, List.map_nil]; rfl) ?_; (with_reducible refine (laws_toImage.calls k a0_0 a0_1 a0_2 _ _ l0_3 t103 t104 t105 t106 _ ?side1 ?side2 A10.out).mono ?_); (case side1 => repeat (first | exact (Kd.C_below HR0_3.out HB.out) | (with_reducible refine Kd.C_alloc ?_ _) | (with_reducible refine Kd.C_drewN ?_ _) | (with_reducible refine Kd.C_drew ?_))); (case side2 => exact HC0_3.out); rintro e w21 ⟨v107, rfl, ho0, hb⟩; refine ⟨_, rfl, ?_⟩; have HO108 := am_ (Kd.R_lower ho0 (below_size (by repeat (first | (with_reducible first | exact HB.out | apply below_alloc | apply pw_below_drewN | apply below_drew1 | refine below_set ?_ GE101.out) | exact HB.out)))); replace BK101 := am_ (blk_below (by exact BK101.out) hb); replace HB := am_ (below_step (by repeat (first | (with_reducible first | exact HB.out | apply below_alloc | apply pw_below_drewN | apply below_drew1 | refine below_set ?_ GE101.out) | exact HB.out)) hb); (try clear hb); (try clear hb2); (try clear hk); (try clear hi); (try clear ho0)) | ((with_reducible refine gate_callee (f := 35) rfl ?_); refine goesL_ (some 29) rfl rfl Try.func35 (by kernel_rfl) rfl #[.slice A1 l1.length c1] rfl (by simp only [List.map_toArray, List.map_cons, List.map_nil]; rfl) ?_; (with_reducible refine (laws_toIntS.calls k _ _ l1 t109 _ ?side1 ?side2 A11.out).mono ?_); (case side1 => repeat (first | exact (Kd.C_below HR1.out HB.out) | (with_reducible refine Kd.C_alloc ?_ _) | (with_reducible refine Kd.C_drewN ?_ _) | (with_reducible refine Kd.C_drew ?_))); (case side2 => exact HC1.out); rintro e w22 ⟨v110, rfl, ho0, hb⟩; refine ⟨_, rfl, ?_⟩; have HO111 := am_ (Kd.R_lower (Kd.R_new' ho0 (Kd.R_lt (by exact HO108.out))) (below_size (by repeat (first | (with_reducible first | exact HB.out | apply below_alloc | apply pw_below_drewN | apply below_drew1 | refine below_set ?_ GE101.out) | exact HB.out)))); replace HO108 := am_ (Kd.R_elder' (by exact HO108.out) (Kd.R_base ho0) hb); replace BK101 := am_ (blk_below (by exact BK101.out) hb); replace HB := am_ (below_step (by repeat (first | (with_reducible first | exact HB.out | apply below_alloc | apply pw_below_drewN | apply below_drew1 | refine below_set ?_ GE101.out) | exact HB.out)) hb); (try clear hb); (try clear hb2); (try clear hk); (try clear hi); (try clear ho0); obtain ⟨Ao23, co23, eo23⟩ := Kd.R_slice HO108.out; subst eo23; obtain ⟨Ao24, co24, eo24⟩ := Kd.R_slice HO111.out; subst eo24) | ((with_reducible refine gate_callee (f := 32) rfl ?_); refine goesL_ (some 30) rfl rfl Try.func32 (by kernel_rfl) rfl #[.agg #[.int .i64 t103, .int .i64 t104, .int .i64 t105, .slice Ao23 t106.length co23], .slice Ao24 t109.length co24] rfl (by simp only [List.map_toArray, List.map_cons, List.map_nil]; rfl) ?_; (with_reducible refine (spec_MapImage.calls k t103 t104 t105 _ _ t106 _ _ t109 t112 t113 t114 t115 t118 _ ?side1 ?side2 ?side3 ?side4 A12.out).mono ?_); (case side1 => repeat (first | exact (Kd.R_reads' HO108.out).2.2 | (with_reducible refine Kd.C_alloc ?_ _) | (with_reducible refine Kd.C_drewN ?_ _) | (with_reducible refine Kd.C_drew ?_))); (case side2 => exact (Kd.R_reads' HO108.out).2.1); (case side3 => repeat (first | exact (Kd.R_reads' HO111.out).2.2 | (with_reducible refine Kd.C_alloc ?_ _) | (with_reducible refine Kd.C_drewN ?_ _) | (with_reducible refine Kd.C_drew ?_))); (case side4 => exact (Kd.R_reads' HO111.out).2.1); rintro e w25 ⟨v116, rfl, ho0, hb⟩; refine ⟨_, rfl, ?_⟩; have HO117 := am_ (Kd.R_lower (Kd.R_new' (Kd.R_new' ho0 (Kd.R_lt (by exact HO108.out))) (Kd.R_lt (by exact HO111.out))) (below_size (by repeat (first | (with_reducible first | exact HB.out | apply below_alloc | apply pw_below_drewN | apply below_drew1 | refine below_set ?_ GE101.out) | exact HB.out)))); replace HO108 := am_ (Kd.R_elder' (by exact HO108.out) (Kd.R_base ho0) hb); replace HO111 := am_ (Kd.R_elder' (by exact HO111.out) (Kd.R_base ho0) hb); replace BK101 := am_ (blk_below (by exact BK101.out) hb); replace HB := am_ (below_step (by repeat (first | (with_reducible first | exact HB.out | apply below_alloc | apply pw_below_drewN | apply below_drew1 | refine below_set ?_ GE101.out) | exact HB.out)) hb); (try clear hb); (try clear hb2); (try clear hk); (try clear hi); (try clear ho0)) | ((with_reducible refine gate_dst (N := 6) rfl ?_); refine box_event ?hg (N := 6) ?hd (cs := #[.int .i64 0, .int .i64 0, .int .i64 0, .slice none 0 0]) (t := 27) ?hr ?_; (case hd => rfl); (case hg => rfl); (case hr => first | (go_simp; done) | (go_simp; rfl)); intro gb119 hg w26 hbox hb; replace HO108 := am_ (Kd.R_below (by exact HO108.out) hb); replace HO111 := am_ (Kd.R_below (by exact HO111.out) hb); replace HO117 := am_ (Kd.R_below (by exact HO117.out) hb); have BK119 := am_ (hbox); have GW119 := am_ ((by rw [hg]; exact (below_size (by repeat (first | (with_reducible first | exact HB.out | apply below_alloc | apply pw_below_drewN | apply below_drew1 | refine below_set ?_ GE101.out) | exact HB.out))) : w.heap.size ≤ gb119)); have GE119 := GW119; replace HB := am_ (below_step (by repeat (first | (with_reducible first | exact HB.out | apply below_alloc | apply pw_below_drewN | apply below_drew1 | refine below_set ?_ GE101.out) | exact HB.out)) hb); have NB101_119 := am_ ((by rw [hg]; exact Nat.ne_of_lt (blk_lt (by exact BK101.out)) : gb101 ≠ gb119)); have NB119_101 := am_ ((by rw [hg]; exact Nat.ne_of_gt (blk_lt (by exact BK101.out)) : gb119 ≠ gb101)); replace BK101 := am_ (blk_below (by exact BK101.out) hb); clear hb hbox hg; have hnb27 := NB119_101.out; have hnc27 := NB101_119.out; obtain ⟨hcz28_0, hcz28_1, hcz28_2, hcz28_3, hfz28_0, hfz28_1, hfz28_2, hfz28_3⟩ := blk4_ BK119.out; obtain ⟨Ao29, co29, eo29⟩ := Kd.R_slice HO117.out; subst eo29; obtain ⟨hcz30_0, hcz30_1, hcz30_2, hcz30_3, hfz30_0, hfz30_1, hfz30_2, hfz30_3⟩ := blk4_ BK101.out) | ((with_reducible refine gate_callee (f := 17) rfl ?_); refine goesL_ (some 34) rfl rfl Try.func17 (by kernel_rfl) rfl #[.agg #[.int .i64 a0_0, .int .i64 a0_1, .int .i64 a0_2, .slice A0_3 l0_3.length c0_3]] rfl (by simp only [List.map_toArray, List.map_cons, List.map_nil]; rfl) ?_; (with_reducible refine (laws_toImage.calls k a0_0 a0_1 a0_2 _ _ l0_3 t120 t121 t122 t123 _ ?side1 ?side2 A13.out).mono ?_); (case side1 => exact Kd.C_below HR0_3.out (by repeat (first | (with_reducible first | exact HB.out | apply below_alloc | apply pw_below_drewN | apply below_drew1 | refine below_set ?_ GE101.out | refine below_set ?_ GE119.out) | exact HB.out))); (case side2 => exact HC0_3.out); rintro e w31 ⟨v124, rfl, ho0, hb⟩; refine ⟨_, rfl, ?_⟩; have HO125 := am_ (Kd.R_lower (Kd.R_new' (Kd.R_new' (Kd.R_new' ho0 (Kd.R_lt (by exact (R4_ HO108.out BK119.out (by decide) _ _ _ _)))) (Kd.R_lt (by exact (R4_ HO111.out BK119.out (by decide) _ _ _ _)))) (Kd.R_lt (by exact (R4_ HO117.out BK119.out (by decide) _ _ _ _)))) (below_size (by repeat (first | (with_reducible first | exact HB.out | apply below_alloc | apply pw_below_drewN | apply below_drew1 | refine below_set ?_ GE101.out | refine below_set ?_ GE119.out) | exact HB.out)))); replace HO108 := am_ (Kd.R_elder' (by exact (R4_ HO108.out BK119.out (by decide) _ _ _ _)) (Kd.R_base ho0) hb); replace HO111 := am_ (Kd.R_elder' (by exact (R4_ HO111.out BK119.out (by decide) _ _ _ _)) (Kd.R_base ho0) hb); replace HO117 := am_ (Kd.R_elder' (by exact (R4_ HO117.out BK119.out (by decide) _ _ _ _)) (Kd.R_base ho0) hb); replace BK101 := am_ (blk_below (by exact far4_ BK101.out NB101_119.out _ _ _ _) hb); replace BK119 := am_ (blk_below (by exact put4_ BK119.out _ _ _ _) hb); replace HB := am_ (below_step (by repeat (first | (with_reducible first | exact HB.out | apply below_alloc | apply pw_below_drewN | apply below_drew1 | refine below_set ?_ GE101.out | refine below_set ?_ GE119.out) | exact HB.out)) hb); (try clear hb); (try clear hb2); (try clear hk); (try clear hi); (try clear ho0)) | ((with_reducible refine gate_dst (N := 8) rfl ?_); refine box_event ?hg (N := 8) ?hd (cs := #[.int .i64 0, .int .i64 0, .int .i64 0, .slice none 0 0]) (t := 27) ?hr ?_; (case hd => rfl); (case hg => rfl); (case hr => first | (go_simp; done) | (go_simp; rfl)); intro gb126 hg w32 hbox hb; replace HO108 := am_ (Kd.R_below (by exact HO108.out) hb); replace HO111 := am_ (Kd.R_below (by exact HO111.out) hb); replace HO117 := am_ (Kd.R_below (by exact HO117.out) hb); replace HO125 := am_ (Kd.R_below (by exact HO125.out) hb); have BK126 := am_ (hbox); have GW126 := am_ ((by rw [hg]; exact (below_size (by repeat (first | (with_reducible first | exact HB.out | apply below_alloc | apply pw_below_drewN | apply below_drew1 | refine below_set ?_ GE101.out | refine below_set ?_ GE119.out) | exact HB.out))) : w.heap.size ≤ gb126)); have GE126 := GW126; replace HB := am_ (below_step (by repeat (first | (with_reducible first | exact HB.out | apply below_alloc | apply pw_below_drewN | apply below_drew1 | refine below_set ?_ GE101.out | refine below_set ?_ GE119.out) | exact HB.out)) hb); have NB101_126 := am_ ((by rw [hg]; exact Nat.ne_of_lt (blk_lt (by exact BK101.out)) : gb101 ≠ gb126)); have NB126_101 := am_ ((by rw [hg]; exact Nat.ne_of_gt (blk_lt (by exact BK101.out)) : gb126 ≠ gb101)); replace BK101 := am_ (blk_below (by exact BK101.out) hb); have NB119_126 := am_ ((by rw [hg]; exact Nat.ne_of_lt (blk_lt (by exact BK119.out)) : gb119 ≠ gb126)); have NB126_119 := am_ ((by rw [hg]; exact Nat.ne_of_gt (blk_lt (by exact BK119.out)) : gb126 ≠ gb119)); replace BK119 := am_ (blk_below (by exact BK119.out) hb); clear hb hbox hg; have hnb33 := NB126_101.out; have hnc33 := NB101_126.out; have hnb34 := NB126_119.out; have hnc34 := NB119_126.out; obtain ⟨hcz35_0, hcz35_1, hcz35_2, hcz35_3, hfz35_0, hfz35_1, hfz35_2, hfz35_3⟩ := blk4_ BK126.out; obtain ⟨Ao36, co36, eo36⟩ := Kd.R_slice HO125.out; subst eo36) | ((with_reducible refine gate_callee (f := 35) rfl ?_); refine goesL_ (some 36) rfl rfl Try.func35 (by kernel_rfl) rfl #[.slice A1 l1.length c1] rfl (by simp only [List.map_toArray, List.map_cons, List.map_nil]; rfl) ?_; (with_reducible refine (laws_toIntS.calls k _ _ l1 t127 _ ?side1 ?side2 A14.out).mono ?_); (case side1 => exact Kd.C_below HR1.out (by repeat (first | (with_reducible first | exact HB.out | apply below_alloc | apply pw_below_drewN | apply below_drew1 | refine below_set ?_ GE101.out | refine below_set ?_ GE119.out | refine below_set ?_ GE126.out) | exact HB.out))); (case side2 => exact HC1.out); rintro e w37 ⟨v128, rfl, ho0, hb⟩; refine ⟨_, rfl, ?_⟩; have HO129 := am_ (Kd.R_lower (Kd.R_new' (Kd.R_new' (Kd.R_new' (Kd.R_new' ho0 (Kd.R_lt (by exact (R4_ HO108.out BK126.out (by decide) _ _ _ _)))) (Kd.R_lt (by exact (R4_ HO111.out BK126.out (by decide) _ _ _ _)))) (Kd.R_lt (by exact (R4_ HO117.out BK126.out (by decide) _ _ _ _)))) (Kd.R_lt (by exact (R4_ HO125.out BK126.out (by decide) _ _ _ _)))) (below_size (by repeat (first | (with_reducible first | exact HB.out | apply below_alloc | apply pw_below_drewN | apply below_drew1 | refine below_set ?_ GE101.out | refine below_set ?_ GE119.out | refine below_set ?_ GE126.out) | exact HB.out)))); replace HO108 := am_ (Kd.R_elder' (by exact (R4_ HO108.out BK126.out (by decide) _ _ _ _)) (Kd.R_base ho0) hb); replace HO111 := am_ (Kd.R_elder' (by exact (R4_ HO111.out BK126.out (by decide) _ _ _ _)) (Kd.R_base ho0) hb); replace HO117 := am_ (Kd.R_elder' (by exact (R4_ HO117.out BK126.out (by decide) _ _ _ _)) (Kd.R_base ho0) hb); replace HO125 := am_ (Kd.R_elder' (by exact (R4_ HO125.out BK126.out (by decide) _ _ _ _)) (Kd.R_base ho0) hb); replace BK101 := am_ (blk_below (by exact far4_ BK101.out NB101_126.out _ _ _ _) hb); replace BK119 := am_ (blk_below (by exact far4_ BK119.out NB119_126.out _ _ _ _) hb); replace BK126 := am_ (blk_below (by exact put4_ BK126.out _ _ _ _) hb); replace HB := am_ (below_step (by repeat (first | (with_reducible first | exact HB.out | apply below_alloc | apply pw_below_drewN | apply below_drew1 | refine below_set ?_ GE101.out | refine below_set ?_ GE119.out | refine below_set ?_ GE126.out) | exact HB.out)) hb); (try clear hb); (try clear hb2); (try clear hk); (try clear hi); (try clear ho0); obtain ⟨hcz38_0, hcz38_1, hcz38_2, hcz38_3, hfz38_0, hfz38_1, hfz38_2, hfz38_3⟩ := blk4_ BK126.out; obtain ⟨Ao39, co39, eo39⟩ := Kd.R_slice HO129.out; subst eo39) | ((with_reducible refine gate_callee (f := 31) rfl ?_); refine goesL_ (some 40) rfl rfl Try.func31 (by kernel_rfl) rfl #[.agg #[.int .i64 t120, .int .i64 t121, .int .i64 t122, .slice Ao36 t123.length co36], .slice Ao39 t127.length co39] rfl (by simp only [List.map_toArray, List.map_cons, List.map_nil]; rfl) ?_; (with_reducible refine (impl_MapImage.calls t120 t121 t122 _ _ t123 _ _ t127 t130 t131 t132 t133 t136 _ ?side1 ?side2 ?side3 ?side4 A15.out).mono ?_); (case side1 => repeat (first | exact (Kd.R_reads' HO125.out).2.2 | (with_reducible refine Kd.C_alloc ?_ _) | (with_reducible refine Kd.C_drewN ?_ _) | (with_reducible refine Kd.C_drew ?_))); (case side2 => exact (Kd.R_reads' HO125.out).2.1); (case side3 => repeat (first | exact (Kd.R_reads' HO129.out).2.2 | (with_reducible refine Kd.C_alloc ?_ _) | (with_reducible refine Kd.C_drewN ?_ _) | (with_reducible refine Kd.C_drew ?_))); (case side4 => exact (Kd.R_reads' HO129.out).2.1); rintro e w40 ⟨v134, rfl, ho0, hb⟩; refine ⟨_, rfl, ?_⟩; have HO135 := am_ (Kd.R_lower (Kd.R_new' (Kd.R_new' (Kd.R_new' (Kd.R_new' (Kd.R_new' ho0 (Kd.R_lt (by exact HO108.out))) (Kd.R_lt (by exact HO111.out))) (Kd.R_lt (by exact HO117.out))) (Kd.R_lt (by exact HO125.out))) (Kd.R_lt (by exact HO129.out))) (below_size (by repeat (first | (with_reducible first | exact HB.out | apply below_alloc | apply pw_below_drewN | apply below_drew1 | refine below_set ?_ GE101.out | refine below_set ?_ GE119.out | refine below_set ?_ GE126.out) | exact HB.out)))); replace HO108 := am_ (Kd.R_elder' (by exact HO108.out) (Kd.R_base ho0) hb); replace HO111 := am_ (Kd.R_elder' (by exact HO111.out) (Kd.R_base ho0) hb); replace HO117 := am_ (Kd.R_elder' (by exact HO117.out) (Kd.R_base ho0) hb); replace HO125 := am_ (Kd.R_elder' (by exact HO125.out) (Kd.R_base ho0) hb); replace HO129 := am_ (Kd.R_elder' (by exact HO129.out) (Kd.R_base ho0) hb); replace BK101 := am_ (blk_below (by exact BK101.out) hb); replace BK119 := am_ (blk_below (by exact BK119.out) hb); replace BK126 := am_ (blk_below (by exact BK126.out) hb); replace HB := am_ (below_step (by repeat (first | (with_reducible first | exact HB.out | apply below_alloc | apply pw_below_drewN | apply below_drew1 | refine below_set ?_ GE101.out | refine below_set ?_ GE119.out | refine below_set ?_ GE126.out) | exact HB.out)) hb); (try clear hb); (try clear hb2); (try clear hk); (try clear hi); (try clear ho0)) | ((with_reducible refine gate_dst (N := 10) rfl ?_); refine box_event ?hg (N := 10) ?hd (cs := #[.int .i64 0, .int .i64 0, .int .i64 0, .slice none 0 0]) (t := 27) ?hr ?_; (case hd => rfl); (case hg => rfl); (case hr => first | (go_simp; done) | (go_simp; rfl)); intro gb137 hg w41 hbox hb; replace HO108 := am_ (Kd.R_below (by exact HO108.out) hb); replace HO111 := am_ (Kd.R_below (by exact HO111.out) hb); replace HO117 := am_ (Kd.R_below (by exact HO117.out) hb); replace HO125 := am_ (Kd.R_below (by exact HO125.out) hb); replace HO129 := am_ (Kd.R_below (by exact HO129.out) hb); replace HO135 := am_ (Kd.R_below (by exact HO135.out) hb); have BK137 := am_ (hbox); have GW137 := am_ ((by rw [hg]; exact (below_size (by repeat (first | (with_reducible first | exact HB.out | apply below_alloc | apply pw_below_drewN | apply below_drew1 | refine below_set ?_ GE101.out | refine below_set ?_ GE119.out | refine below_set ?_ GE126.out) | exact HB.out))) : w.heap.size ≤ gb137)); have GE137 := GW137; replace HB := am_ (below_step (by repeat (first | (with_reducible first | exact HB.out | apply below_alloc | apply pw_below_drewN | apply below_drew1 | refine below_set ?_ GE101.out | refine below_set ?_ GE119.out | refine below_set ?_ GE126.out) | exact HB.out)) hb); have NB101_137 := am_ ((by rw [hg]; exact Nat.ne_of_lt (blk_lt (by exact BK101.out)) : gb101 ≠ gb137)); have NB137_101 := am_ ((by rw [hg]; exact Nat.ne_of_gt (blk_lt (by exact BK101.out)) : gb137 ≠ gb101)); replace BK101 := am_ (blk_below (by exact BK101.out) hb); have NB119_137 := am_ ((by rw [hg]; exact Nat.ne_of_lt (blk_lt (by exact BK119.out)) : gb119 ≠ gb137)); have NB137_119 := am_ ((by rw [hg]; exact Nat.ne_of_gt (blk_lt (by exact BK119.out)) : gb137 ≠ gb119)); replace BK119 := am_ (blk_below (by exact BK119.out) hb); have NB126_137 := am_ ((by rw [hg]; exact Nat.ne_of_lt (blk_lt (by exact BK126.out)) : gb126 ≠ gb137)); have NB137_126 := am_ ((by rw [hg]; exact Nat.ne_of_gt (blk_lt (by exact BK126.out)) : gb137 ≠ gb126)); replace BK126 := am_ (blk_below (by exact BK126.out) hb); clear hb hbox hg; have hnb42 := NB137_101.out; have hnc42 := NB101_137.out; have hnb43 := NB137_119.out; have hnc43 := NB119_137.out; have hnb44 := NB137_126.out; have hnc44 := NB126_137.out; obtain ⟨hcz45_0, hcz45_1, hcz45_2, hcz45_3, hfz45_0, hfz45_1, hfz45_2, hfz45_3⟩ := blk4_ BK137.out; obtain ⟨Ao46, co46, eo46⟩ := Kd.R_slice HO135.out; subst eo46))
   (try simp only [Act.put, List.setIfInBounds_toArray, List.set_cons_zero, List.set_cons_succ])
   go_cut [51] (fun v51 wc => ∃ (kq : Nat) (x51_15 : Bool), v51 = .bool x51_15 ∧ Aside0 (laws_FnExactMapImage.j0 kq l1 t118 t127 t136 x51_15 a0_0 a0_1 a0_2 l0_3 t112 t113 t114 t115 t120 t121 t122 t123 t130 t131 t132 t133 = some r) ∧ Aside0 (kq ≤ k) ∧ Aside0 (Kd.R (Kd.int .i64) 3 wc w.heap.size (fun k_ => some k_ ≠ ((.slice Ao29 t115.length co29) : Value).ownBlock ∧ some k_ ≠ ((.slice Ao36 t123.length co36) : Value).ownBlock ∧ some k_ ≠ ((.slice Ao46 t133.length co46) : Value).ownBlock) (.slice Ao39 t127.length co39) t127) ∧ Aside0 (Kd.R (Kd.int .i64) 3 wc w.heap.size (fun k_ => some k_ ≠ ((.slice Ao39 t127.length co39) : Value).ownBlock ∧ some k_ ≠ ((.slice Ao36 t123.length co36) : Value).ownBlock ∧ some k_ ≠ ((.slice Ao46 t133.length co46) : Value).ownBlock) (.slice Ao29 t115.length co29) t115) ∧ Aside0 (Kd.R (Kd.int .i64) 3 wc w.heap.size (fun k_ => some k_ ≠ ((.slice Ao39 t127.length co39) : Value).ownBlock ∧ some k_ ≠ ((.slice Ao29 t115.length co29) : Value).ownBlock ∧ some k_ ≠ ((.slice Ao46 t133.length co46) : Value).ownBlock) (.slice Ao36 t123.length co36) t123) ∧ Aside0 (Kd.R (Kd.int .i64) 3 wc w.heap.size (fun k_ => some k_ ≠ ((.slice Ao39 t127.length co39) : Value).ownBlock ∧ some k_ ≠ ((.slice Ao29 t115.length co29) : Value).ownBlock ∧ some k_ ≠ ((.slice Ao36 t123.length co36) : Value).ownBlock) (.slice Ao46 t133.length co46) t133) ∧ Aside0 (wc.heap[gb101]? = some (.cells #[.int .i64 a0_0, .int .i64 a0_1, .int .i64 a0_2, (.slice A0_3 l0_3.length c0_3)] 24 (0, 0))) ∧ Aside0 (wc.heap[gb119]? = some (.cells #[.int .i64 t112, .int .i64 t113, .int .i64 t114, (.slice Ao29 t115.length co29)] 27 (0, 0))) ∧ Aside0 (wc.heap[gb126]? = some (.cells #[.int .i64 t120, .int .i64 t121, .int .i64 t122, (.slice Ao36 t123.length co36)] 27 (0, 0))) ∧ Aside0 (wc.heap[gb137]? = some (.cells #[.int .i64 t130, .int .i64 t131, .int .i64 t132, (.slice Ao46 t133.length co46)] 27 (0, 0))) ∧ Aside0 (Below w.heap.size w wc))
   case first =>
    have H := HC16.out
    clear HC16
    replace H := Option.bind_eq_some_iff.mp H
    obtain ⟨t138, A470, H⟩ := H
    replace H : (if t138 = true then (laws_FnExactMapImage.j0 k l1 t118 t127 t136 (t136 != t118) a0_0 a0_1 a0_2 l0_3 t112 t113 t114 t115 t120 t121 t122 t123 t130 t131 t132 t133) else (laws_FnExactMapImage.j0 k l1 t118 t127 t136 true a0_0 a0_1 a0_2 l0_3 t112 t113 t114 t115 t120 t121 t122 t123 t130 t131 t132 t133)) = some r := H
    have A47 := Aside0.mk A470
    clear A470
    by_cases c48 : t138 = true
    ·
     subst c48
     have H1 : (laws_FnExactMapImage.j0 k l1 t118 t127 t136 (t136 != t118) a0_0 a0_1 a0_2 l0_3 t112 t113 t114 t115 t120 t121 t122 t123 t130 t131 t132 t133) = some r := by rw [if_pos rfl] at H; exact H
     clear H
     have H := H1
     clear H1
     have H' := Aside0.mk H
     clear H
     have hnb49 := NB137_101.out
     have hnc49 := NB101_137.out
     have hnb50 := NB137_119.out
     have hnc50 := NB119_137.out
     have hnb51 := NB137_126.out
     have hnc51 := NB126_137.out
     obtain ⟨hcz52_0, hcz52_1, hcz52_2, hcz52_3, hfz52_0, hfz52_1, hfz52_2, hfz52_3⟩ := blk4_ BK137.out
     have hnb53 := NB119_101.out
     have hnc53 := NB101_119.out
     have hnb54 := NB119_126.out
     have hnc54 := NB126_119.out
     obtain ⟨hcz55_0, hcz55_1, hcz55_2, hcz55_3, hfz55_0, hfz55_1, hfz55_2, hfz55_3⟩ := blk4_ BK119.out
     go_wp2_with (first | ((with_reducible refine gate_callee (f := 20) rfl ?_); refine goesL_ (some 45) rfl rfl Try.func20 (by kernel_rfl) rfl #[.agg #[.int .i64 t130, .int .i64 t131, .int .i64 t132, .slice Ao46 t133.length co46], .agg #[.int .i64 t112, .int .i64 t113, .int .i64 t114, .slice Ao29 t115.length co29]] rfl (by simp only [List.map_toArray, List.map_cons, List.map_nil]; rfl) ?_; (with_reducible refine (laws_eqImage.calls k t130 t131 t132 _ _ t133 t112 t113 t114 _ _ t115 true _ ?side1 ?side2 ?side3 ?side4 A47.out).mono ?_); (case side1 => refine (Kd.R_reads' (e := 3) (base := w.heap.size) (ok := fun k_ => (((((True ∧ some k_ ≠ (.slice Ao23 t106.length co23 : Value).ownBlock) ∧ some k_ ≠ (.slice Ao24 t109.length co24 : Value).ownBlock) ∧ some k_ ≠ (.slice Ao29 t115.length co29 : Value).ownBlock) ∧ some k_ ≠ (.slice Ao36 t123.length co36 : Value).ownBlock) ∧ some k_ ≠ (.slice Ao39 t127.length co39 : Value).ownBlock)) (n := t133.length) (c := co46) ?_).2.2; exact (by exact (R4_ HO135.out BK137.out (by decide) _ _ _ _))); (case side2 => exact (Kd.R_reads' HO135.out).2.1); (case side3 => refine (Kd.R_reads' (e := 3) (base := w.heap.size) (ok := fun k_ => (((((True ∧ some k_ ≠ (.slice Ao23 t106.length co23 : Value).ownBlock) ∧ some k_ ≠ (.slice Ao24 t109.length co24 : Value).ownBlock) ∧ some k_ ≠ (.slice Ao36 t123.length co36 : Value).ownBlock) ∧ some k_ ≠ (.slice Ao39 t127.length co39 : Value).ownBlock) ∧ some k_ ≠ (.slice Ao46 t133.length co46 : Value).ownBlock)) (n := t115.length) (c := co29) ?_).2.2; exact (by exact (R4_ HO117.out BK137.out (by decide) _ _ _ _))); (case side4 => exact (Kd.R_reads' HO117.out).2.1); rintro e w56 ⟨rfl, hb⟩; refine ⟨_, rfl, ?_⟩; replace HO108 := am_ (Kd.R_below (by exact (R4_ HO108.out BK137.out (by decide) _ _ _ _)) hb); replace HO111 := am_ (Kd.R_below (by exact (R4_ HO111.out BK137.out (by decide) _ _ _ _)) hb); replace HO117 := am_ (Kd.R_below (by exact (R4_ HO117.out BK137.out (by decide) _ _ _ _)) hb); replace HO125 := am_ (Kd.R_below (by exact (R4_ HO125.out BK137.out (by decide) _ _ _ _)) hb); replace HO129 := am_ (Kd.R_below (by exact (R4_ HO129.out BK137.out (by decide) _ _ _ _)) hb); replace HO135 := am_ (Kd.R_below (by exact (R4_ HO135.out BK137.out (by decide) _ _ _ _)) hb); replace BK101 := am_ (blk_below (by exact far4_ BK101.out NB101_137.out _ _ _ _) hb); replace BK119 := am_ (blk_below (by exact far4_ BK119.out NB119_137.out _ _ _ _) hb); replace BK126 := am_ (blk_below (by exact far4_ BK126.out NB126_137.out _ _ _ _) hb); replace BK137 := am_ (blk_below (by exact put4_ BK137.out _ _ _ _) hb); replace HB := am_ (below_step (by repeat (first | (with_reducible first | exact HB.out | apply below_alloc | apply pw_below_drewN | apply below_drew1 | refine below_set ?_ GE101.out | refine below_set ?_ GE119.out | refine below_set ?_ GE126.out | refine below_set ?_ GE137.out) | exact HB.out)) hb); (try clear hb); (try clear hb2); (try clear hk); (try clear hi)))
     go_meet
     case rel => exact ⟨_, ((t136 != t118)), (by first | rfl | (simp; done) | (simp [*]; done)), H', ⟨by first | omega | exact Nat.le_refl _⟩, ⟨by exact Kd.R_mono HO129.out (fun _ hk => ⟨hk.1.1.2, ⟨hk.1.2, hk.2⟩⟩)⟩, ⟨by exact Kd.R_mono HO117.out (fun _ hk => ⟨hk.1.2, ⟨hk.1.1.2, hk.2⟩⟩)⟩, ⟨by exact Kd.R_mono HO125.out (fun _ hk => ⟨hk.1.2, ⟨hk.1.1.2, hk.2⟩⟩)⟩, ⟨by exact Kd.R_mono HO135.out (fun _ hk => ⟨hk.2, ⟨hk.1.1.2, hk.1.2⟩⟩)⟩, ⟨by exact BK101.out⟩, ⟨by exact BK119.out⟩, ⟨by exact BK126.out⟩, ⟨by exact BK137.out⟩, ⟨by repeat (first | (with_reducible first | exact HB.out | apply below_alloc | apply pw_below_drewN | apply below_drew1 | refine below_set ?_ GE101.out | refine below_set ?_ GE119.out | refine below_set ?_ GE126.out | refine below_set ?_ GE137.out) | exact HB.out)⟩⟩
    ·
     replace c48 := Bool.eq_false_iff.mpr c48
     subst c48
     have H1 : (laws_FnExactMapImage.j0 k l1 t118 t127 t136 true a0_0 a0_1 a0_2 l0_3 t112 t113 t114 t115 t120 t121 t122 t123 t130 t131 t132 t133) = some r := by rw [if_neg (show ¬ (false = true) by decide)] at H; exact H
     clear H
     have H := H1
     clear H1
     have H' := Aside0.mk H
     clear H
     have hnb57 := NB137_101.out
     have hnc57 := NB101_137.out
     have hnb58 := NB137_119.out
     have hnc58 := NB119_137.out
     have hnb59 := NB137_126.out
     have hnc59 := NB126_137.out
     obtain ⟨hcz60_0, hcz60_1, hcz60_2, hcz60_3, hfz60_0, hfz60_1, hfz60_2, hfz60_3⟩ := blk4_ BK137.out
     have hnb61 := NB119_101.out
     have hnc61 := NB101_119.out
     have hnb62 := NB119_126.out
     have hnc62 := NB126_119.out
     obtain ⟨hcz63_0, hcz63_1, hcz63_2, hcz63_3, hfz63_0, hfz63_1, hfz63_2, hfz63_3⟩ := blk4_ BK119.out
     go_wp2_with (first | ((with_reducible refine gate_callee (f := 20) rfl ?_); refine goesL_ (some 45) rfl rfl Try.func20 (by kernel_rfl) rfl #[.agg #[.int .i64 t130, .int .i64 t131, .int .i64 t132, .slice Ao46 t133.length co46], .agg #[.int .i64 t112, .int .i64 t113, .int .i64 t114, .slice Ao29 t115.length co29]] rfl (by simp only [List.map_toArray, List.map_cons, List.map_nil]; rfl) ?_; (with_reducible refine (laws_eqImage.calls k t130 t131 t132 _ _ t133 t112 t113 t114 _ _ t115 false _ ?side1 ?side2 ?side3 ?side4 A47.out).mono ?_); (case side1 => refine (Kd.R_reads' (e := 3) (base := w.heap.size) (ok := fun k_ => (((((True ∧ some k_ ≠ (.slice Ao23 t106.length co23 : Value).ownBlock) ∧ some k_ ≠ (.slice Ao24 t109.length co24 : Value).ownBlock) ∧ some k_ ≠ (.slice Ao29 t115.length co29 : Value).ownBlock) ∧ some k_ ≠ (.slice Ao36 t123.length co36 : Value).ownBlock) ∧ some k_ ≠ (.slice Ao39 t127.length co39 : Value).ownBlock)) (n := t133.length) (c := co46) ?_).2.2; exact (by exact (R4_ HO135.out BK137.out (by decide) _ _ _ _))); (case side2 => exact (Kd.R_reads' HO135.out).2.1); (case side3 => refine (Kd.R_reads' (e := 3) (base := w.heap.size) (ok := fun k_ => (((((True ∧ some k_ ≠ (.slice Ao23 t106.length co23 : Value).ownBlock) ∧ some k_ ≠ (.slice Ao24 t109.length co24 : Value).ownBlock) ∧ some k_ ≠ (.slice Ao36 t123.length co36 : Value).ownBlock) ∧ some k_ ≠ (.slice Ao39 t127.length co39 : Value).ownBlock) ∧ some k_ ≠ (.slice Ao46 t133.length co46 : Value).ownBlock)) (n := t115.length) (c := co29) ?_).2.2; exact (by exact (R4_ HO117.out BK137.out (by decide) _ _ _ _))); (case side4 => exact (Kd.R_reads' HO117.out).2.1); rintro e w64 ⟨rfl, hb⟩; refine ⟨_, rfl, ?_⟩; replace HO108 := am_ (Kd.R_below (by exact (R4_ HO108.out BK137.out (by decide) _ _ _ _)) hb); replace HO111 := am_ (Kd.R_below (by exact (R4_ HO111.out BK137.out (by decide) _ _ _ _)) hb); replace HO117 := am_ (Kd.R_below (by exact (R4_ HO117.out BK137.out (by decide) _ _ _ _)) hb); replace HO125 := am_ (Kd.R_below (by exact (R4_ HO125.out BK137.out (by decide) _ _ _ _)) hb); replace HO129 := am_ (Kd.R_below (by exact (R4_ HO129.out BK137.out (by decide) _ _ _ _)) hb); replace HO135 := am_ (Kd.R_below (by exact (R4_ HO135.out BK137.out (by decide) _ _ _ _)) hb); replace BK101 := am_ (blk_below (by exact far4_ BK101.out NB101_137.out _ _ _ _) hb); replace BK119 := am_ (blk_below (by exact far4_ BK119.out NB119_137.out _ _ _ _) hb); replace BK126 := am_ (blk_below (by exact far4_ BK126.out NB126_137.out _ _ _ _) hb); replace BK137 := am_ (blk_below (by exact put4_ BK137.out _ _ _ _) hb); replace HB := am_ (below_step (by repeat (first | (with_reducible first | exact HB.out | apply below_alloc | apply pw_below_drewN | apply below_drew1 | refine below_set ?_ GE101.out | refine below_set ?_ GE119.out | refine below_set ?_ GE126.out | refine below_set ?_ GE137.out) | exact HB.out)) hb); (try clear hb); (try clear hb2); (try clear hk); (try clear hi)))
     go_meet
     case rel => exact ⟨_, (true), (by first | rfl | (simp; done) | (simp [*]; done)), H', ⟨by first | omega | exact Nat.le_refl _⟩, ⟨by exact Kd.R_mono HO129.out (fun _ hk => ⟨hk.1.1.2, ⟨hk.1.2, hk.2⟩⟩)⟩, ⟨by exact Kd.R_mono HO117.out (fun _ hk => ⟨hk.1.2, ⟨hk.1.1.2, hk.2⟩⟩)⟩, ⟨by exact Kd.R_mono HO125.out (fun _ hk => ⟨hk.1.2, ⟨hk.1.1.2, hk.2⟩⟩)⟩, ⟨by exact Kd.R_mono HO135.out (fun _ hk => ⟨hk.2, ⟨hk.1.1.2, hk.1.2⟩⟩)⟩, ⟨by exact BK101.out⟩, ⟨by exact BK119.out⟩, ⟨by exact BK126.out⟩, ⟨by exact BK137.out⟩, ⟨by repeat (first | (with_reducible first | exact HB.out | apply below_alloc | apply pw_below_drewN | apply below_drew1 | refine below_set ?_ GE101.out | refine below_set ?_ GE119.out | refine below_set ?_ GE126.out | refine below_set ?_ GE137.out) | exact HB.out)⟩⟩
   case rest =>
    clear HC16
    try clear c1
    try clear c2
    try clear p2
    try clear c3
    try clear c3b0
    try clear c3b1
    try clear c4
    try clear c5
    try clear c6
    try clear c6b0
    try clear c7
    try clear c15
    try clear c17
    try clear c20
    try clear c27
    try clear c31
    try clear c32
    try clear c33
    try clear c34
    try clear c35
    try clear c42
    try clear c43
    try clear c44
    try clear c48
    try clear c49
    try clear c50
    try clear c51
    try clear c53
    try clear c54
    try clear c57
    try clear c58
    try clear c59
    try clear c61
    try clear c62
    try clear hcz18_0
    try clear hcz18_1
    try clear hcz18_2
    try clear hcz18_3
    try clear hcz20_0
    try clear hcz20_1
    try clear hcz20_2
    try clear hcz20_3
    try clear hcz28_0
    try clear hcz28_1
    try clear hcz28_2
    try clear hcz28_3
    try clear hcz30_0
    try clear hcz30_1
    try clear hcz30_2
    try clear hcz30_3
    try clear hcz35_0
    try clear hcz35_1
    try clear hcz35_2
    try clear hcz35_3
    try clear hcz38_0
    try clear hcz38_1
    try clear hcz38_2
    try clear hcz38_3
    try clear hcz45_0
    try clear hcz45_1
    try clear hcz45_2
    try clear hcz45_3
    try clear hcz52_0
    try clear hcz52_1
    try clear hcz52_2
    try clear hcz52_3
    try clear hcz55_0
    try clear hcz55_1
    try clear hcz55_2
    try clear hcz55_3
    try clear hcz60_0
    try clear hcz60_1
    try clear hcz60_2
    try clear hcz60_3
    try clear hcz63_0
    try clear hcz63_1
    try clear hcz63_2
    try clear hcz63_3
    try clear hcz8_0
    try clear hcz8_1
    try clear hcz8_2
    try clear hcz8_3
    try clear hfz18_0
    try clear hfz18_1
    try clear hfz18_2
    try clear hfz18_3
    try clear hfz20_0
    try clear hfz20_1
    try clear hfz20_2
    try clear hfz20_3
    try clear hfz28_0
    try clear hfz28_1
    try clear hfz28_2
    try clear hfz28_3
    try clear hfz30_0
    try clear hfz30_1
    try clear hfz30_2
    try clear hfz30_3
    try clear hfz35_0
    try clear hfz35_1
    try clear hfz35_2
    try clear hfz35_3
    try clear hfz38_0
    try clear hfz38_1
    try clear hfz38_2
    try clear hfz38_3
    try clear hfz45_0
    try clear hfz45_1
    try clear hfz45_2
    try clear hfz45_3
    try clear hfz52_0
    try clear hfz52_1
    try clear hfz52_2
    try clear hfz52_3
    try clear hfz55_0
    try clear hfz55_1
    try clear hfz55_2
    try clear hfz55_3
    try clear hfz60_0
    try clear hfz60_1
    try clear hfz60_2
    try clear hfz60_3
    try clear hfz63_0
    try clear hfz63_1
    try clear hfz63_2
    try clear hfz63_3
    try clear hfz8_0
    try clear hfz8_1
    try clear hfz8_2
    try clear hfz8_3
    obtain ⟨kq, x51_15, rfl, HA, HJ15, HO_9, HO_120003, HO_127003, HO_138003, BK101, BK119, BK126, BK137, HB⟩ := hcut
    cases kq with
    | zero => exact absurd HA.out (by simp [laws_FnExactMapImage.j0])
    | succ kj15 =>
     have H := HA.out
     clear HA
     simp only [laws_FnExactMapImage.j0] at H
     by_cases c65 : x51_15 = true
     ·
      subst c65
      have H1 : (some false) = some r := by rw [if_pos rfl] at H; exact H
      clear H
      have H := H1
      clear H1
      obtain rfl := Option.some.inj H
      go_wp2
      go_ret
      exact ⟨by first | rfl | (simp [errW_none, errW_some] <;> rfl) | (simp [*, errW_none, errW_some] <;> rfl), by repeat (first | (with_reducible first | exact HB.out | apply below_alloc | apply pw_below_drewN | apply below_drew1 | refine below_set ?_ GE101.out | refine below_set ?_ GE119.out | refine below_set ?_ GE126.out | refine below_set ?_ GE137.out) | exact HB.out)⟩
     ·
      replace c65 := Bool.eq_false_iff.mpr c65
      subst c65
      have H1 : ((laws_toImage.f kj15 a0_0 a0_1 a0_2 l0_3).bind fun bt139 => ((laws_eqImage.f kj15 t120 t121 t122 t123 bt139.1 bt139.2.1 bt139.2.2.1 bt139.2.2.2).bind fun t145 => (if t145 = true then ((laws_toIntS.f kj15 l1).bind fun t146 => ((laws_eqIntS.f kj15 t127 t146).bind fun t149 => (if t149 = true then ((laws_markImage.f kj15 t120 t121 t122 t123 1).bind fun bt150 => ((laws_markIntS.f kj15 t127 bt150.1).bind fun bt152 => (if bt152.1 < 0 then (laws_FnExactMapImage.j1 kj15 l1 t118 true a0_0 a0_1 a0_2 l0_3 t112 t113 t114 t115 t130 t131 t132 t133) else ((laws_eqImage.f kj15 t130 t131 t132 t133 t112 t113 t114 t115).bind fun t154 => (if t154 = true then (laws_FnExactMapImage.j1 kj15 l1 t118 (t136 != t118) a0_0 a0_1 a0_2 l0_3 t112 t113 t114 t115 t130 t131 t132 t133) else (laws_FnExactMapImage.j1 kj15 l1 t118 true a0_0 a0_1 a0_2 l0_3 t112 t113 t114 t115 t130 t131 t132 t133)))))) else (some false)))) else (some false)))) = some r := by rw [if_neg (show ¬ (false = true) by decide)] at H; exact H
      clear H
      have H := H1
      clear H1
      replace H := Option.bind_eq_some_iff.mp H
      obtain ⟨⟨t139, t140, t141, t142⟩, A660, H⟩ := H
      replace H : ((laws_eqImage.f kj15 t120 t121 t122 t123 t139 t140 t141 t142).bind fun t145 => (if t145 = true then ((laws_toIntS.f kj15 l1).bind fun t146 => ((laws_eqIntS.f kj15 t127 t146).bind fun t149 => (if t149 = true then ((laws_markImage.f kj15 t120 t121 t122 t123 1).bind fun bt150 => ((laws_markIntS.f kj15 t127 bt150.1).bind fun bt152 => (if bt152.1 < 0 then (laws_FnExactMapImage.j1 kj15 l1 t118 true a0_0 a0_1 a0_2 l0_3 t112 t113 t114 t115 t130 t131 t132 t133) else ((laws_eqImage.f kj15 t130 t131 t132 t133 t112 t113 t114 t115).bind fun t154 => (if t154 = true then (laws_FnExactMapImage.j1 kj15 l1 t118 (t136 != t118) a0_0 a0_1 a0_2 l0_3 t112 t113 t114 t115 t130 t131 t132 t133) else (laws_FnExactMapImage.j1 kj15 l1 t118 true a0_0 a0_1 a0_2 l0_3 t112 t113 t114 t115 t130 t131 t132 t133)))))) else (some false)))) else (some false))) = some r := H
      have A66 := Aside0.mk A660
      clear A660
      replace H := Option.bind_eq_some_iff.mp H
      obtain ⟨t145, A670, H⟩ := H
      replace H : (if t145 = true then ((laws_toIntS.f kj15 l1).bind fun t146 => ((laws_eqIntS.f kj15 t127 t146).bind fun t149 => (if t149 = true then ((laws_markImage.f kj15 t120 t121 t122 t123 1).bind fun bt150 => ((laws_markIntS.f kj15 t127 bt150.1).bind fun bt152 => (if bt152.1 < 0 then (laws_FnExactMapImage.j1 kj15 l1 t118 true a0_0 a0_1 a0_2 l0_3 t112 t113 t114 t115 t130 t131 t132 t133) else ((laws_eqImage.f kj15 t130 t131 t132 t133 t112 t113 t114 t115).bind fun t154 => (if t154 = true then (laws_FnExactMapImage.j1 kj15 l1 t118 (t136 != t118) a0_0 a0_1 a0_2 l0_3 t112 t113 t114 t115 t130 t131 t132 t133) else (laws_FnExactMapImage.j1 kj15 l1 t118 true a0_0 a0_1 a0_2 l0_3 t112 t113 t114 t115 t130 t131 t132 t133)))))) else (some false)))) else (some false)) = some r := H
      have A67 := Aside0.mk A670
      clear A670
      by_cases c68 : t145 = true
      ·
       subst c68
       have H1 : ((laws_toIntS.f kj15 l1).bind fun t146 => ((laws_eqIntS.f kj15 t127 t146).bind fun t149 => (if t149 = true then ((laws_markImage.f kj15 t120 t121 t122 t123 1).bind fun bt150 => ((laws_markIntS.f kj15 t127 bt150.1).bind fun bt152 => (if bt152.1 < 0 then (laws_FnExactMapImage.j1 kj15 l1 t118 true a0_0 a0_1 a0_2 l0_3 t112 t113 t114 t115 t130 t131 t132 t133) else ((laws_eqImage.f kj15 t130 t131 t132 t133 t112 t113 t114 t115).bind fun t154 => (if t154 = true then (laws_FnExactMapImage.j1 kj15 l1 t118 (t136 != t118) a0_0 a0_1 a0_2 l0_3 t112 t113 t114 t115 t130 t131 t132 t133) else (laws_FnExactMapImage.j1 kj15 l1 t118 true a0_0 a0_1 a0_2 l0_3 t112 t113 t114 t115 t130 t131 t132 t133)))))) else (some false)))) = some r := by rw [if_pos rfl] at H; exact H
       clear H
       have H := H1
       clear H1
       replace H := Option.bind_eq_some_iff.mp H
       obtain ⟨t146, A690, H⟩ := H
       replace H : ((laws_eqIntS.f kj15 t127 t146).bind fun t149 => (if t149 = true then ((laws_markImage.f kj15 t120 t121 t122 t123 1).bind fun bt150 => ((laws_markIntS.f kj15 t127 bt150.1).bind fun bt152 => (if bt152.1 < 0 then (laws_FnExactMapImage.j1 kj15 l1 t118 true a0_0 a0_1 a0_2 l0_3 t112 t113 t114 t115 t130 t131 t132 t133) else ((laws_eqImage.f kj15 t130 t131 t132 t133 t112 t113 t114 t115).bind fun t154 => (if t154 = true then (laws_FnExactMapImage.j1 kj15 l1 t118 (t136 != t118) a0_0 a0_1 a0_2 l0_3 t112 t113 t114 t115 t130 t131 t132 t133) else (laws_FnExactMapImage.j1 kj15 l1 t118 true a0_0 a0_1 a0_2 l0_3 t112 t113 t114 t115 t130 t131 t132 t133)))))) else (some false))) = some r := H
       have A69 := Aside0.mk A690
       clear A690
       replace H := Option.bind_eq_some_iff.mp H
       obtain ⟨t149, A700, H⟩ := H
       replace H : (if t149 = true then ((laws_markImage.f kj15 t120 t121 t122 t123 1).bind fun bt150 => ((laws_markIntS.f kj15 t127 bt150.1).bind fun bt152 => (if bt152.1 < 0 then (laws_FnExactMapImage.j1 kj15 l1 t118 true a0_0 a0_1 a0_2 l0_3 t112 t113 t114 t115 t130 t131 t132 t133) else ((laws_eqImage.f kj15 t130 t131 t132 t133 t112 t113 t114 t115).bind fun t154 => (if t154 = true then (laws_FnExactMapImage.j1 kj15 l1 t118 (t136 != t118) a0_0 a0_1 a0_2 l0_3 t112 t113 t114 t115 t130 t131 t132 t133) else (laws_FnExactMapImage.j1 kj15 l1 t118 true a0_0 a0_1 a0_2 l0_3 t112 t113 t114 t115 t130 t131 t132 t133)))))) else (some false)) = some r := H
       have A70 := Aside0.mk A700
       clear A700
       by_cases c71 : t149 = true
       ·
        subst c71
        have H1 : ((laws_markImage.f kj15 t120 t121 t122 t123 1).bind fun bt150 => ((laws_markIntS.f kj15 t127 bt150.1).bind fun bt152 => (if bt152.1 < 0 then (laws_FnExactMapImage.j1 kj15 l1 t118 true a0_0 a0_1 a0_2 l0_3 t112 t113 t114 t115 t130 t131 t132 t133) else ((laws_eqImage.f kj15 t130 t131 t132 t133 t112 t113 t114 t115).bind fun t154 => (if t154 = true then (laws_FnExactMapImage.j1 kj15 l1 t118 (t136 != t118) a0_0 a0_1 a0_2 l0_3 t112 t113 t114 t115 t130 t131 t132 t133) else (laws_FnExactMapImage.j1 kj15 l1 t118 true a0_0 a0_1 a0_2 l0_3 t112 t113 t114 t115 t130 t131 t132 t133)))))) = some r := by rw [if_pos rfl] at H; exact H
        clear H
        have H := H1
        clear H1
        replace H := Option.bind_eq_some_iff.mp H
        obtain ⟨⟨t150, t151⟩, A720, H⟩ := H
        replace H : ((laws_markIntS.f kj15 t127 t150).bind fun bt152 => (if bt152.1 < 0 then (laws_FnExactMapImage.j1 kj15 l1 t118 true a0_0 a0_1 a0_2 l0_3 t112 t113 t114 t115 t130 t131 t132 t133) else ((laws_eqImage.f kj15 t130 t131 t132 t133 t112 t113 t114 t115).bind fun t154 => (if t154 = true then (laws_FnExactMapImage.j1 kj15 l1 t118 (t136 != t118) a0_0 a0_1 a0_2 l0_3 t112 t113 t114 t115 t130 t131 t132 t133) else (laws_FnExactMapImage.j1 kj15 l1 t118 true a0_0 a0_1 a0_2 l0_3 t112 t113 t114 t115 t130 t131 t132 t133))))) = some r := H
        have A72 := Aside0.mk A720
        clear A720
        replace H := Option.bind_eq_some_iff.mp H
        obtain ⟨⟨t152, t153⟩, A730, H⟩ := H
        replace H : (if t152 < 0 then (laws_FnExactMapImage.j1 kj15 l1 t118 true a0_0 a0_1 a0_2 l0_3 t112 t113 t114 t115 t130 t131 t132 t133) else ((laws_eqImage.f kj15 t130 t131 t132 t133 t112 t113 t114 t115).bind fun t154 => (if t154 = true then (laws_FnExactMapImage.j1 kj15 l1 t118 (t136 != t118) a0_0 a0_1 a0_2 l0_3 t112 t113 t114 t115 t130 t131 t132 t133) else (laws_FnExactMapImage.j1 kj15 l1 t118 true a0_0 a0_1 a0_2 l0_3 t112 t113 t114 t115 t130 t131 t132 t133)))) = some r := H
        have A73 := Aside0.mk A730
        clear A730
        have HC74 := Aside0.mk H
        clear H
        try go_wp2
        replace HO_9 := am_ (Kd.R_drew HO_9.out)
        replace HO_120003 := am_ (Kd.R_drew HO_120003.out)
        replace HO_127003 := am_ (Kd.R_drew HO_127003.out)
        replace HO_138003 := am_ (Kd.R_drew HO_138003.out)
        replace BK101 := am_ (blk_drew BK101.out)
        replace BK119 := am_ (blk_drew BK119.out)
        replace BK126 := am_ (blk_drew BK126.out)
        replace BK137 := am_ (blk_drew BK137.out)
        replace HB := am_ (below_drew1 HB.out)
        refine start_ (n := 5) (S := fun w' => w'.cell? ⟨gb126, 0, none⟩ = some (.int .i64 t120) ∧ w'.cell? ⟨gb126, 1, none⟩ = some (.int .i64 t121) ∧ w'.cell? ⟨gb126, 2, none⟩ = some (.int .i64 t122) ∧ w'.cell? ⟨gb126, 3, none⟩ = some (.slice Ao36 t123.length co36) ∧ w'.cell? ⟨gb101, 0, none⟩ = some (.int .i64 a0_0) ∧ w'.cell? ⟨gb101, 1, none⟩ = some (.int .i64 a0_1) ∧ w'.cell? ⟨gb101, 2, none⟩ = some (.int .i64 a0_2) ∧ w'.cell? ⟨gb101, 3, none⟩ = some (.slice A0_3 l0_3.length c0_3)) (ds := []) #[false, false, false, false, false] (by kernel_rfl) rfl rfl ⟨(blk_cell BK126.out 0).trans rfl, (blk_cell BK126.out 1).trans rfl, (blk_cell BK126.out 2).trans rfl, (blk_cell BK126.out 3).trans rfl, (blk_cell BK101.out 0).trans rfl, (blk_cell BK101.out 1).trans rfl, (blk_cell BK101.out 2).trans rfl, (blk_cell BK101.out 3).trans rfl⟩ (fun hHeld => ?_)
        generalize wc.drew = w75 at HO_9 HO_120003 HO_127003 HO_138003 BK101 BK119 BK126 BK137 HB hHeld ⊢
        refine take_ (i := 0) (N := some 52) (v := ?_) (a' := ?_) #[true, false, false, false, false] rfl rfl (by kernel_rfl) (fun _ _ _ h => h) (Or.inl ⟨by rfl, ?_⟩) hHeld ?_ ?_
        rotate_left
        ·
         rintro w' ⟨s0, s1, s2, s3, s4, s5, s6, s7⟩
         go_simp
         with_reducible rfl
        rotate_left
        ·
         simp only [Act.put, List.setIfInBounds_toArray, List.set_cons_zero, List.set_cons_succ, i64_w, i32_w]
         rfl
        refine take_ (i := 1) (N := some 53) (v := ?_) (a' := ?_) #[true, true, false, false, false] rfl rfl (by kernel_rfl) (fun _ _ _ h => h) (Or.inl ⟨by rfl, ?_⟩) hHeld ?_ ?_
        rotate_left
        ·
         rintro w' ⟨s0, s1, s2, s3, s4, s5, s6, s7⟩
         go_simp
         with_reducible rfl
        rotate_left
        ·
         simp only [Act.put, List.setIfInBounds_toArray, List.set_cons_zero, List.set_cons_succ, i64_w, i32_w]
         rfl
        refine one_ (i := 2) (N := some 54) #[true, true, true, false, false] rfl rfl (by kernel_rfl) (by decide) (fun K hK => ?_)
        refine goes_ Try.func17 (by kernel_rfl) rfl #[.agg #[.int .i64 a0_0, .int .i64 a0_1, .int .i64 a0_2, .slice A0_3 l0_3.length c0_3]] (by rfl) rfl rfl (by simp only [List.map_toArray, List.map_cons, List.map_nil]; rfl) ?_
        with_reducible refine (laws_toImage.calls kj15 a0_0 a0_1 a0_2 _ _ l0_3 t139 t140 t141 t142 _ ?side1 ?side2 A66.out).mono ?_
        (case side1 => repeat (first | exact (Kd.C_below HR0_3.out HB.out) | (with_reducible refine Kd.C_alloc ?_ _) | (with_reducible refine Kd.C_drewN ?_ _) | (with_reducible refine Kd.C_drew ?_)))
        (case side2 => exact HC0_3.out)
        rintro e w76 ⟨v143, rfl, ho0, hb⟩
        refine ⟨_, rfl, ?_⟩
        have HO144 := am_ (Kd.R_lower (Kd.R_new' (Kd.R_new' (Kd.R_new' (Kd.R_new' ho0 (Kd.R_lt (by exact HO_9.out))) (Kd.R_lt (by exact HO_120003.out))) (Kd.R_lt (by exact HO_127003.out))) (Kd.R_lt (by exact HO_138003.out))) (below_size (by repeat (first | (with_reducible first | exact HB.out | apply below_alloc | apply pw_below_drewN | apply below_drew1 | refine below_set ?_ GE101.out | refine below_set ?_ GE119.out | refine below_set ?_ GE126.out | refine below_set ?_ GE137.out) | exact HB.out))))
        replace HO_9 := am_ (Kd.R_elder' (by exact HO_9.out) (Kd.R_base ho0) hb)
        replace HO_120003 := am_ (Kd.R_elder' (by exact HO_120003.out) (Kd.R_base ho0) hb)
        replace HO_127003 := am_ (Kd.R_elder' (by exact HO_127003.out) (Kd.R_base ho0) hb)
        replace HO_138003 := am_ (Kd.R_elder' (by exact HO_138003.out) (Kd.R_base ho0) hb)
        replace BK101 := am_ (blk_below (by exact BK101.out) hb)
        replace BK119 := am_ (blk_below (by exact BK119.out) hb)
        replace BK126 := am_ (blk_below (by exact BK126.out) hb)
        replace BK137 := am_ (blk_below (by exact BK137.out) hb)
        replace HB := am_ (below_step (by repeat (first | (with_reducible first | exact HB.out | apply below_alloc | apply pw_below_drewN | apply below_drew1 | refine below_set ?_ GE101.out | refine below_set ?_ GE119.out | refine below_set ?_ GE126.out | refine below_set ?_ GE137.out) | exact HB.out)) hb)
        (try clear hb)
        (try clear hb2)
        (try clear hk)
        (try clear hi)
        (try clear ho0)
        obtain ⟨Ao77, co77, eo77⟩ := Kd.R_slice HO144.out
        (first | subst eo77 | (injection eo77 with f1_ f2_ f3_; have f4_ := f1_.symm; have f5_ := f3_.symm; clear f1_ f2_ f3_; subst f4_; subst f5_))
        refine hK.out _ _ ⟨(blk_cell BK126.out 0).trans rfl, (blk_cell BK126.out 1).trans rfl, (blk_cell BK126.out 2).trans rfl, (blk_cell BK126.out 3).trans rfl, (blk_cell BK101.out 0).trans rfl, (blk_cell BK101.out 1).trans rfl, (blk_cell BK101.out 2).trans rfl, (blk_cell BK101.out 3).trans rfl⟩ (fun hHeld => ?_)
        clear hK K
        refine norm_ (a' := ?_) ?_ ?_
        rotate_left
        ·
         show Act.put _ (some 54) _ = _
         simp only [Act.put, List.setIfInBounds_toArray, List.set_cons_zero, List.set_cons_succ, i64_w, i32_w]
         rfl
        refine one_ (i := 3) (N := some 55) #[true, true, true, true, false] rfl rfl (by kernel_rfl) (by decide) (fun K hK => ?_)
        refine goes_ Try.func20 (by kernel_rfl) rfl #[.agg #[.int .i64 t120, .int .i64 t121, .int .i64 t122, .slice Ao36 t123.length co36], .agg #[.int .i64 t139, .int .i64 t140, .int .i64 t141, .slice Ao77 t142.length co77]] (by rfl) rfl rfl (by simp only [List.map_toArray, List.map_cons, List.map_nil]; rfl) ?_
        with_reducible refine (laws_eqImage.calls kj15 t120 t121 t122 _ _ t123 t139 t140 t141 _ _ t142 true _ ?side1 ?side2 ?side3 ?side4 A67.out).mono ?_
        (case side1 => repeat (first | exact (Kd.R_reads' HO_127003.out).2.2 | (with_reducible refine Kd.C_alloc ?_ _) | (with_reducible refine Kd.C_drewN ?_ _) | (with_reducible refine Kd.C_drew ?_)))
        (case side2 => exact (Kd.R_reads' HO_127003.out).2.1)
        (case side3 => repeat (first | exact (Kd.R_reads' HO144.out).2.2 | (with_reducible refine Kd.C_alloc ?_ _) | (with_reducible refine Kd.C_drewN ?_ _) | (with_reducible refine Kd.C_drew ?_)))
        (case side4 => exact (Kd.R_reads' HO144.out).2.1)
        rintro e w78 ⟨rfl, hb⟩
        refine ⟨_, rfl, ?_⟩
        replace HO_9 := am_ (Kd.R_below (by exact HO_9.out) hb)
        replace HO_120003 := am_ (Kd.R_below (by exact HO_120003.out) hb)
        replace HO_127003 := am_ (Kd.R_below (by exact HO_127003.out) hb)
        replace HO_138003 := am_ (Kd.R_below (by exact HO_138003.out) hb)
        replace HO144 := am_ (Kd.R_below (by exact HO144.out) hb)
        replace BK101 := am_ (blk_below (by exact BK101.out) hb)
        replace BK119 := am_ (blk_below (by exact BK119.out) hb)
        replace BK126 := am_ (blk_below (by exact BK126.out) hb)
        replace BK137 := am_ (blk_below (by exact BK137.out) hb)
        replace HB := am_ (below_step (by repeat (first | (with_reducible first | exact HB.out | apply below_alloc | apply pw_below_drewN | apply below_drew1 | refine below_set ?_ GE101.out | refine below_set ?_ GE119.out | refine below_set ?_ GE126.out | refine below_set ?_ GE137.out) | exact HB.out)) hb)
        (try clear hb)
        (try clear hb2)
        (try clear hk)
        (try clear hi)
        refine hK.out _ _ ⟨(blk_cell BK126.out 0).trans rfl, (blk_cell BK126.out 1).trans rfl, (blk_cell BK126.out 2).trans rfl, (blk_cell BK126.out 3).trans rfl, (blk_cell BK101.out 0).trans rfl, (blk_cell BK101.out 1).trans rfl, (blk_cell BK101.out 2).trans rfl, (blk_cell BK101.out 3).trans rfl⟩ (fun hHeld => ?_)
        clear hK K
        refine norm_ (a' := ?_) ?_ ?_
        rotate_left
        ·
         show Act.put _ (some 55) _ = _
         simp only [Act.put, List.setIfInBounds_toArray, List.set_cons_zero, List.set_cons_succ, i64_w, i32_w]
         rfl
        refine pure_ (i := 4) (N := some 56) (v := ?_) (a' := ?_) #[true, true, true, true, true] rfl rfl (by kernel_rfl) (fun _ _ _ h => h) (Or.inl ⟨by rfl, ?_⟩) ?_ ?_
        rotate_left
        ·
         intro w'
         go_simp
         with_reducible rfl
        rotate_left
        ·
         simp only [Act.put, List.setIfInBounds_toArray, List.set_cons_zero, List.set_cons_succ, i64_w, i32_w]
         rfl
        refine done_ (by kernel_rfl) ?_
        go_upto_region 20 with (first | ((with_reducible refine gate_callee (f := 35) rfl ?_); refine goesL_ (some 59) rfl rfl Try.func35 (by kernel_rfl) rfl #[.slice A1 l1.length c1] rfl (by simp only [List.map_toArray, List.map_cons, List.map_nil]; rfl) ?_; (with_reducible refine (laws_toIntS.calls kj15 _ _ l1 t146 _ ?side1 ?side2 A69.out).mono ?_); (case side1 => repeat (first | exact (Kd.C_below HR1.out HB.out) | (with_reducible refine Kd.C_alloc ?_ _) | (with_reducible refine Kd.C_drewN ?_ _) | (with_reducible refine Kd.C_drew ?_))); (case side2 => exact HC1.out); rintro e w79 ⟨v147, rfl, ho0, hb⟩; refine ⟨_, rfl, ?_⟩; have HO148 := am_ (Kd.R_lower (Kd.R_new' (Kd.R_new' (Kd.R_new' (Kd.R_new' (Kd.R_new' ho0 (Kd.R_lt (by exact HO_9.out))) (Kd.R_lt (by exact HO_120003.out))) (Kd.R_lt (by exact HO_127003.out))) (Kd.R_lt (by exact HO_138003.out))) (Kd.R_lt (by exact HO144.out))) (below_size (by repeat (first | (with_reducible first | exact HB.out | apply below_alloc | apply pw_below_drewN | apply below_drew1 | refine below_set ?_ GE101.out | refine below_set ?_ GE119.out | refine below_set ?_ GE126.out | refine below_set ?_ GE137.out) | exact HB.out)))); replace HO_9 := am_ (Kd.R_elder' (by exact HO_9.out) (Kd.R_base ho0) hb); replace HO_120003 := am_ (Kd.R_elder' (by exact HO_120003.out) (Kd.R_base ho0) hb); replace HO_127003 := am_ (Kd.R_elder' (by exact HO_127003.out) (Kd.R_base ho0) hb); replace HO_138003 := am_ (Kd.R_elder' (by exact HO_138003.out) (Kd.R_base ho0) hb); replace HO144 := am_ (Kd.R_elder' (by exact HO144.out) (Kd.R_base ho0) hb); replace BK101 := am_ (blk_below (by exact BK101.out) hb); replace BK119 := am_ (blk_below (by exact BK119.out) hb); replace BK126 := am_ (blk_below (by exact BK126.out) hb); replace BK137 := am_ (blk_below (by exact BK137.out) hb); replace HB := am_ (below_step (by repeat (first | (with_reducible first | exact HB.out | apply below_alloc | apply pw_below_drewN | apply below_drew1 | refine below_set ?_ GE101.out | refine below_set ?_ GE119.out | refine below_set ?_ GE126.out | refine below_set ?_ GE137.out) | exact HB.out)) hb); (try clear hb); (try clear hb2); (try clear hk); (try clear hi); (try clear ho0); obtain ⟨Ao80, co80, eo80⟩ := Kd.R_slice HO148.out; subst eo80) | ((with_reducible refine gate_callee (f := 19) rfl ?_); refine goesL_ (some 60) rfl rfl Try.func19 (by kernel_rfl) rfl #[.slice Ao39 t127.length co39, .slice Ao80 t146.length co80] rfl (by simp only [List.map_toArray, List.map_cons, List.map_nil]; rfl) ?_; (with_reducible refine (laws_eqIntS.calls kj15 _ _ t127 _ _ t146 true _ ?side1 ?side2 ?side3 ?side4 A70.out).mono ?_); (case side1 => repeat (first | exact (Kd.R_reads' HO_9.out).2.2 | (with_reducible refine Kd.C_alloc ?_ _) | (with_reducible refine Kd.C_drewN ?_ _) | (with_reducible refine Kd.C_drew ?_))); (case side2 => exact (Kd.R_reads' HO_9.out).2.1); (case side3 => repeat (first | exact (Kd.R_reads' HO148.out).2.2 | (with_reducible refine Kd.C_alloc ?_ _) | (with_reducible refine Kd.C_drewN ?_ _) | (with_reducible refine Kd.C_drew ?_))); (case side4 => exact (Kd.R_reads' HO148.out).2.1); rintro e w' ⟨rfl, ⟨nd, rfl⟩⟩; refine ⟨_, rfl, ?_⟩; have hnb81 := NB126_101.out; have hnc81 := NB101_126.out; have hnb82 := NB126_119.out; have hnc82 := NB119_126.out; have hnb83 := NB126_137.out; have hnc83 := NB137_126.out; obtain ⟨hcz84_0, hcz84_1, hcz84_2, hcz84_3, hfz84_0, hfz84_1, hfz84_2, hfz84_3⟩ := blk4_ BK126.out) | ((with_reducible refine gate_callee (f := 21) rfl ?_); refine goesL_ (some 64) rfl rfl Try.func21 (by kernel_rfl) rfl #[.agg #[.int .i64 t120, .int .i64 t121, .int .i64 t122, .slice Ao36 t123.length co36], .int .i64 1] rfl (by simp only [List.map_toArray, List.map_cons, List.map_nil]; rfl) ?_; (with_reducible refine (laws_markImage.calls kj15 t120 t121 t122 (fun k_ => some k_ = (.slice Ao36 t123.length co36 : Value).ownBlock) (.slice Ao36 t123.length co36) t123 1 t150 t151 w _ ?side1 ?side2 A72.out).mono ?_); (case side1 => repeat (first | (with_reducible first | exact HB.out | apply below_alloc | apply pw_below_drewN | apply below_drew1 | refine below_set ?_ GE101.out | refine below_set ?_ GE119.out | refine below_set ?_ GE126.out | refine below_set ?_ GE137.out) | exact HB.out)); (case side2 => exact Kd.R_tight rfl HO_127003.out); rintro e w85 ⟨rfl, hy0, hb, hkp⟩; refine ⟨_, rfl, ?_⟩; replace HO_9 := am_ (Kd.R_mono (ok' := fun k_ => some k_ ≠ (.slice Ao29 t115.length co29 : Value).ownBlock ∧ some k_ ≠ (.slice Ao36 t123.length co36 : Value).ownBlock ∧ some k_ ≠ (.slice Ao46 t133.length co46 : Value).ownBlock ∧ some k_ ≠ (.slice Ao77 t142.length co77 : Value).ownBlock ∧ some k_ ≠ (.slice Ao80 t146.length co80 : Value).ownBlock) (Kd.R_keptB (HO_9.out) hkp (fun k_ hk_ hs_ => by simp only [hk_, ne_eq, not_false_eq_true] at hs_)) (fun k_ hk_ => by simp only [hk_, ne_eq, not_false_eq_true, and_self])); replace HO_120003 := am_ (Kd.R_mono (ok' := fun k_ => some k_ ≠ (.slice Ao39 t127.length co39 : Value).ownBlock ∧ some k_ ≠ (.slice Ao36 t123.length co36 : Value).ownBlock ∧ some k_ ≠ (.slice Ao46 t133.length co46 : Value).ownBlock ∧ some k_ ≠ (.slice Ao77 t142.length co77 : Value).ownBlock ∧ some k_ ≠ (.slice Ao80 t146.length co80 : Value).ownBlock) (Kd.R_keptB (HO_120003.out) hkp (fun k_ hk_ hs_ => by simp only [hk_, ne_eq, not_false_eq_true] at hs_)) (fun k_ hk_ => by simp only [hk_, ne_eq, not_false_eq_true, and_self])); replace HO_138003 := am_ (Kd.R_mono (ok' := fun k_ => some k_ ≠ (.slice Ao39 t127.length co39 : Value).ownBlock ∧ some k_ ≠ (.slice Ao29 t115.length co29 : Value).ownBlock ∧ some k_ ≠ (.slice Ao36 t123.length co36 : Value).ownBlock ∧ some k_ ≠ (.slice Ao77 t142.length co77 : Value).ownBlock ∧ some k_ ≠ (.slice Ao80 t146.length co80 : Value).ownBlock) (Kd.R_keptB (HO_138003.out) hkp (fun k_ hk_ hs_ => by simp only [hk_, ne_eq, not_false_eq_true] at hs_)) (fun k_ hk_ => by simp only [hk_, ne_eq, not_false_eq_true, and_self])); replace BK101 := am_ (blk_kept (by exact BK101.out) hkp (fun hs_ => (fun e_ => (Kd.R_ne HO_127003.out BK101.out (by decide)) e_) hs_)); replace BK119 := am_ (blk_kept (by exact BK119.out) hkp (fun hs_ => (fun e_ => (Kd.R_ne HO_127003.out BK119.out (by decide)) e_) hs_)); replace BK126 := am_ (blk_kept (by exact BK126.out) hkp (fun hs_ => (fun e_ => (Kd.R_ne HO_127003.out BK126.out (by decide)) e_) hs_)); replace BK137 := am_ (blk_kept (by exact BK137.out) hkp (fun hs_ => (fun e_ => (Kd.R_ne HO_127003.out BK137.out (by decide)) e_) hs_)); replace HO_127003 := am_ (Kd.R_reok rfl hy0 (fun k_ e_ => HO_127003.out.1 k_ e_)); replace HO144 := am_ (Kd.R_mono (ok' := fun k_ => some k_ ≠ (.slice Ao39 t127.length co39 : Value).ownBlock ∧ some k_ ≠ (.slice Ao29 t115.length co29 : Value).ownBlock ∧ some k_ ≠ (.slice Ao36 t123.length co36 : Value).ownBlock ∧ some k_ ≠ (.slice Ao46 t133.length co46 : Value).ownBlock ∧ some k_ ≠ (.slice Ao80 t146.length co80 : Value).ownBlock) (Kd.R_keptB (HO144.out) hkp (fun k_ hk_ hs_ => by simp only [hk_, ne_eq, not_false_eq_true] at hs_)) (fun k_ hk_ => by simp only [hk_, ne_eq, not_false_eq_true, and_self])); replace HO148 := am_ (Kd.R_mono (ok' := fun k_ => some k_ ≠ (.slice Ao39 t127.length co39 : Value).ownBlock ∧ some k_ ≠ (.slice Ao29 t115.length co29 : Value).ownBlock ∧ some k_ ≠ (.slice Ao36 t123.length co36 : Value).ownBlock ∧ some k_ ≠ (.slice Ao46 t133.length co46 : Value).ownBlock ∧ some k_ ≠ (.slice Ao77 t142.length co77 : Value).ownBlock) (Kd.R_keptB (HO148.out) hkp (fun k_ hk_ hs_ => by simp only [hk_, ne_eq, not_false_eq_true] at hs_)) (fun k_ hk_ => by simp only [hk_, ne_eq, not_false_eq_true, and_self])); replace HB := am_ (hb); (try clear hb); (try clear hkp); (try clear hy0)) | ((with_reducible refine gate_callee (f := 22) rfl ?_); refine goesL_ (some 67) rfl rfl Try.func22 (by kernel_rfl) rfl #[.slice Ao39 t127.length co39, .int .i64 t150] rfl (by simp only [List.map_toArray, List.map_cons, List.map_nil]; rfl) ?_; (with_reducible refine (laws_markIntS.calls kj15 (fun k_ => some k_ = (.slice Ao39 t127.length co39 : Value).ownBlock) (.slice Ao39 t127.length co39) t127 t150 t152 t153 w _ ?side1 ?side2 A73.out).mono ?_); (case side1 => repeat (first | (with_reducible first | exact HB.out | apply below_alloc | apply pw_below_drewN | apply below_drew1 | refine below_set ?_ GE101.out | refine below_set ?_ GE119.out | refine below_set ?_ GE126.out | refine below_set ?_ GE137.out) | exact HB.out)); (case side2 => exact Kd.R_tight rfl HO_9.out); rintro e w86 ⟨rfl, hy0, hb, hkp⟩; refine ⟨_, rfl, ?_⟩; replace HO_120003 := am_ (Kd.R_mono (ok' := fun k_ => some k_ ≠ (.slice Ao39 t127.length co39 : Value).ownBlock ∧ some k_ ≠ (.slice Ao36 t123.length co36 : Value).ownBlock ∧ some k_ ≠ (.slice Ao46 t133.length co46 : Value).ownBlock ∧ some k_ ≠ (.slice Ao77 t142.length co77 : Value).ownBlock ∧ some k_ ≠ (.slice Ao80 t146.length co80 : Value).ownBlock) (Kd.R_keptB (HO_120003.out) hkp (fun k_ hk_ hs_ => by simp only [hk_, ne_eq, not_false_eq_true] at hs_)) (fun k_ hk_ => by simp only [hk_, ne_eq, not_false_eq_true, and_self])); replace HO_127003 := am_ (Kd.R_mono (ok' := fun k_ => some k_ ≠ (.slice Ao39 t127.length co39 : Value).ownBlock ∧ some k_ ≠ (.slice Ao29 t115.length co29 : Value).ownBlock ∧ some k_ ≠ (.slice Ao46 t133.length co46 : Value).ownBlock ∧ some k_ ≠ (.slice Ao77 t142.length co77 : Value).ownBlock ∧ some k_ ≠ (.slice Ao80 t146.length co80 : Value).ownBlock) (Kd.R_keptB (HO_127003.out) hkp (fun k_ hk_ hs_ => by simp only [hk_, ne_eq, not_false_eq_true] at hs_)) (fun k_ hk_ => by simp only [hk_, ne_eq, not_false_eq_true, and_self])); replace HO_138003 := am_ (Kd.R_mono (ok' := fun k_ => some k_ ≠ (.slice Ao39 t127.length co39 : Value).ownBlock ∧ some k_ ≠ (.slice Ao29 t115.length co29 : Value).ownBlock ∧ some k_ ≠ (.slice Ao36 t123.length co36 : Value).ownBlock ∧ some k_ ≠ (.slice Ao77 t142.length co77 : Value).ownBlock ∧ some k_ ≠ (.slice Ao80 t146.length co80 : Value).ownBlock) (Kd.R_keptB (HO_138003.out) hkp (fun k_ hk_ hs_ => by simp only [hk_, ne_eq, not_false_eq_true] at hs_)) (fun k_ hk_ => by simp only [hk_, ne_eq, not_false_eq_true, and_self])); replace BK101 := am_ (blk_kept (by exact BK101.out) hkp (fun hs_ => (fun e_ => (Kd.R_ne HO_9.out BK101.out (by decide)) e_) hs_)); replace BK119 := am_ (blk_kept (by exact BK119.out) hkp (fun hs_ => (fun e_ => (Kd.R_ne HO_9.out BK119.out (by decide)) e_) hs_)); replace BK126 := am_ (blk_kept (by exact BK126.out) hkp (fun hs_ => (fun e_ => (Kd.R_ne HO_9.out BK126.out (by decide)) e_) hs_)); replace BK137 := am_ (blk_kept (by exact BK137.out) hkp (fun hs_ => (fun e_ => (Kd.R_ne HO_9.out BK137.out (by decide)) e_) hs_)); replace HO_9 := am_ (Kd.R_reok rfl hy0 (fun k_ e_ => HO_9.out.1 k_ e_)); replace HO144 := am_ (Kd.R_mono (ok' := fun k_ => some k_ ≠ (.slice Ao39 t127.length co39 : Value).ownBlock ∧ some k_ ≠ (.slice Ao29 t115.length co29 : Value).ownBlock ∧ some k_ ≠ (.slice Ao36 t123.length co36 : Value).ownBlock ∧ some k_ ≠ (.slice Ao46 t133.length co46 : Value).ownBlock ∧ some k_ ≠ (.slice Ao80 t146.length co80 : Value).ownBlock) (Kd.R_keptB (HO144.out) hkp (fun k_ hk_ hs_ => by simp only [hk_, ne_eq, not_false_eq_true] at hs_)) (fun k_ hk_ => by simp only [hk_, ne_eq, not_false_eq_true, and_self])); replace HO148 := am_ (Kd.R_mono (ok' := fun k_ => some k_ ≠ (.slice Ao39 t127.length co39 : Value).ownBlock ∧ some k_ ≠ (.slice Ao29 t115.length co29 : Value).ownBlock ∧ some k_ ≠ (.slice Ao36 t123.length co36 : Value).ownBlock ∧ some k_ ≠ (.slice Ao46 t133.length co46 : Value).ownBlock ∧ some k_ ≠ (.slice Ao77 t142.length co77 : Value).ownBlock) (Kd.R_keptB (HO148.out) hkp (fun k_ hk_ hs_ => by simp only [hk_, ne_eq, not_false_eq_true] at hs_)) (fun k_ hk_ => by simp only [hk_, ne_eq, not_false_eq_true, and_self])); replace HB := am_ (hb); (try clear hb); (try clear hkp); (try clear hy0)))
        (try simp only [Act.put, List.setIfInBounds_toArray, List.set_cons_zero, List.set_cons_succ])
        go_cut [80] (fun v80 wc => ∃ (kq : Nat) (x80_73 : Bool), v80 = .bool x80_73 ∧ Aside0 (laws_FnExactMapImage.j1 kq l1 t118 x80_73 a0_0 a0_1 a0_2 l0_3 t112 t113 t114 t115 t130 t131 t132 t133 = some r) ∧ Aside0 (kq ≤ kj15) ∧ Aside0 (Kd.R (Kd.int .i64) 3 wc w.heap.size (fun k_ => some k_ ≠ ((.slice Ao36 t123.length co36) : Value).ownBlock ∧ some k_ ≠ ((.slice Ao46 t133.length co46) : Value).ownBlock) (.slice Ao29 t115.length co29) t115) ∧ Aside0 (Kd.R (Kd.int .i64) 3 wc w.heap.size (fun k_ => some k_ ≠ ((.slice Ao29 t115.length co29) : Value).ownBlock ∧ some k_ ≠ ((.slice Ao46 t133.length co46) : Value).ownBlock) (.slice Ao36 t123.length co36) t151) ∧ Aside0 (Kd.R (Kd.int .i64) 3 wc w.heap.size (fun k_ => some k_ ≠ ((.slice Ao29 t115.length co29) : Value).ownBlock ∧ some k_ ≠ ((.slice Ao36 t123.length co36) : Value).ownBlock) (.slice Ao46 t133.length co46) t133) ∧ Aside0 (wc.heap[gb101]? = some (.cells #[.int .i64 a0_0, .int .i64 a0_1, .int .i64 a0_2, (.slice A0_3 l0_3.length c0_3)] 24 (0, 0))) ∧ Aside0 (wc.heap[gb119]? = some (.cells #[.int .i64 t112, .int .i64 t113, .int .i64 t114, (.slice Ao29 t115.length co29)] 27 (0, 0))) ∧ Aside0 (wc.heap[gb126]? = some (.cells #[.int .i64 t120, .int .i64 t121, .int .i64 t122, (.slice Ao36 t123.length co36)] 27 (0, 0))) ∧ Aside0 (wc.heap[gb137]? = some (.cells #[.int .i64 t130, .int .i64 t131, .int .i64 t132, (.slice Ao46 t133.length co46)] 27 (0, 0))) ∧ Aside0 (Below w.heap.size w wc))
        case first =>
         have H := HC74.out
         clear HC74
         by_cases c87 : t152 < 0
         ·
          rw [if_pos c87] at H
          have c87b0 : decide (t152 < 0) = true := decide_eq_true c87
          clear c87
          (first | rw [c87b0] | (simp only [i64_w, i32_w]; rw [c87b0]) | skip)
          have H' := Aside0.mk H
          clear H
          go_wp2
          go_meet
          case rel => exact ⟨_, (true), (by first | rfl | (simp; done) | (simp [*]; done)), H', ⟨by have := HJ15.out; first | omega | exact Nat.le_refl _⟩, ⟨by exact Kd.R_mono HO_120003.out (fun _ hk => by first | exact ⟨hk.2.1, hk.2.2.1⟩ | simp only [hk, ne_eq, not_false_eq_true, and_self])⟩, ⟨by exact Kd.R_mono HO_127003.out (fun _ hk => by first | exact ⟨hk.2.1, hk.2.2.1⟩ | simp only [hk, ne_eq, not_false_eq_true, and_self])⟩, ⟨by exact Kd.R_mono HO_138003.out (fun _ hk => by first | exact ⟨hk.2.1, hk.2.2.1⟩ | simp only [hk, ne_eq, not_false_eq_true, and_self])⟩, ⟨by exact BK101.out⟩, ⟨by exact BK119.out⟩, ⟨by exact BK126.out⟩, ⟨by exact BK137.out⟩, ⟨by repeat (first | (with_reducible first | exact HB.out | apply below_alloc | apply pw_below_drewN | apply below_drew1 | refine below_set ?_ GE101.out | refine below_set ?_ GE119.out | refine below_set ?_ GE126.out | refine below_set ?_ GE137.out) | exact HB.out)⟩⟩
         ·
          rw [if_neg c87] at H
          have c87b0 : decide (t152 < 0) = false := decide_eq_false c87
          clear c87
          (first | rw [c87b0] | (simp only [i64_w, i32_w]; rw [c87b0]) | skip)
          replace H := Option.bind_eq_some_iff.mp H
          obtain ⟨t154, A880, H⟩ := H
          replace H : (if t154 = true then (laws_FnExactMapImage.j1 kj15 l1 t118 (t136 != t118) a0_0 a0_1 a0_2 l0_3 t112 t113 t114 t115 t130 t131 t132 t133) else (laws_FnExactMapImage.j1 kj15 l1 t118 true a0_0 a0_1 a0_2 l0_3 t112 t113 t114 t115 t130 t131 t132 t133)) = some r := H
          have A88 := Aside0.mk A880
          clear A880
          by_cases c89 : t154 = true
          ·
           subst c89
           have H1 : (laws_FnExactMapImage.j1 kj15 l1 t118 (t136 != t118) a0_0 a0_1 a0_2 l0_3 t112 t113 t114 t115 t130 t131 t132 t133) = some r := by rw [if_pos rfl] at H; exact H
           clear H
           have H := H1
           clear H1
           have H' := Aside0.mk H
           clear H
           have hnb90 := NB137_101.out
           have hnc90 := NB101_137.out
           have hnb91 := NB137_119.out
           have hnc91 := NB119_137.out
           have hnb92 := NB137_126.out
           have hnc92 := NB126_137.out
           obtain ⟨hcz93_0, hcz93_1, hcz93_2, hcz93_3, hfz93_0, hfz93_1, hfz93_2, hfz93_3⟩ := blk4_ BK137.out
           have hnb94 := NB119_101.out
           have hnc94 := NB101_119.out
           have hnb95 := NB119_126.out
           have hnc95 := NB126_119.out
           obtain ⟨hcz96_0, hcz96_1, hcz96_2, hcz96_3, hfz96_0, hfz96_1, hfz96_2, hfz96_3⟩ := blk4_ BK119.out
           go_wp2_with (first | (go_at_call 20; (with_reducible refine (laws_eqImage.calls kj15 t130 t131 t132 _ _ t133 t112 t113 t114 _ _ t115 true _ ?side1 ?side2 ?side3 ?side4 A88.out).mono ?_); (case side1 => repeat (first | exact (Kd.R_reads' HO_138003.out).2.2 | (with_reducible refine Kd.C_alloc ?_ _) | (with_reducible refine Kd.C_drewN ?_ _) | (with_reducible refine Kd.C_drew ?_))); (case side2 => exact (Kd.R_reads' HO_138003.out).2.1); (case side3 => repeat (first | exact (Kd.R_reads' HO_120003.out).2.2 | (with_reducible refine Kd.C_alloc ?_ _) | (with_reducible refine Kd.C_drewN ?_ _) | (with_reducible refine Kd.C_drew ?_))); (case side4 => exact (Kd.R_reads' HO_120003.out).2.1); rintro e w97 ⟨rfl, hb⟩; replace HO_9 := am_ (Kd.R_below (by exact HO_9.out) hb); replace HO_120003 := am_ (Kd.R_below (by exact HO_120003.out) hb); replace HO_127003 := am_ (Kd.R_below (by exact HO_127003.out) hb); replace HO_138003 := am_ (Kd.R_below (by exact HO_138003.out) hb); replace HO144 := am_ (Kd.R_below (by exact HO144.out) hb); replace HO148 := am_ (Kd.R_below (by exact HO148.out) hb); replace BK101 := am_ (blk_below (by exact BK101.out) hb); replace BK119 := am_ (blk_below (by exact BK119.out) hb); replace BK126 := am_ (blk_below (by exact BK126.out) hb); replace BK137 := am_ (blk_below (by exact BK137.out) hb); replace HB := am_ (below_step (by repeat (first | (with_reducible first | exact HB.out | apply below_alloc | apply pw_below_drewN | apply below_drew1 | refine below_set ?_ GE101.out | refine below_set ?_ GE119.out | refine below_set ?_ GE126.out | refine below_set ?_ GE137.out) | exact HB.out)) hb); (try clear hb); (try clear hb2); (try clear hk); (try clear hi)))
           go_meet
           case rel => exact ⟨_, ((t136 != t118)), (by first | rfl | (simp; done) | (simp [*]; done)), H', ⟨by have := HJ15.out; first | omega | exact Nat.le_refl _⟩, ⟨by exact Kd.R_mono HO_120003.out (fun _ hk => by first | exact ⟨hk.2.1, hk.2.2.1⟩ | simp only [hk, ne_eq, not_false_eq_true, and_self])⟩, ⟨by exact Kd.R_mono HO_127003.out (fun _ hk => by first | exact ⟨hk.2.1, hk.2.2.1⟩ | simp only [hk, ne_eq, not_false_eq_true, and_self])⟩, ⟨by exact Kd.R_mono HO_138003.out (fun _ hk => by first | exact ⟨hk.2.1, hk.2.2.1⟩ | simp only [hk, ne_eq, not_false_eq_true, and_self])⟩, ⟨by exact BK101.out⟩, ⟨by exact BK119.out⟩, ⟨by exact BK126.out⟩, ⟨by exact BK137.out⟩, ⟨by repeat (first | (with_reducible first | exact HB.out | apply below_alloc | apply pw_below_drewN | apply below_drew1 | refine below_set ?_ GE101.out | refine below_set ?_ GE119.out | refine below_set ?_ GE126.out | refine below_set ?_ GE137.out) | exact HB.out)⟩⟩
          ·
           replace c89 := Bool.eq_false_iff.mpr c89
           subst c89
           have H1 : (laws_FnExactMapImage.j1 kj15 l1 t118 true a0_0 a0_1 a0_2 l0_3 t112 t113 t114 t115 t130 t131 t132 t133) = some r := by rw [if_neg (show ¬ (false = true) by decide)] at H; exact H
           clear H
           have H := H1
           clear H1
           have H' := Aside0.mk H
           clear H
           have hnb98 := NB137_101.out
           have hnc98 := NB101_137.out
           have hnb99 := NB137_119.out
           have hnc99 := NB119_137.out
           have hnb100 := NB137_126.out
           have hnc100 := NB126_137.out
           obtain ⟨hcz101_0, hcz101_1, hcz101_2, hcz101_3, hfz101_0, hfz101_1, hfz101_2, hfz101_3⟩ := blk4_ BK137.out
           have hnb102 := NB119_101.out
           have hnc102 := NB101_119.out
           have hnb103 := NB119_126.out
           have hnc103 := NB126_119.out
           obtain ⟨hcz104_0, hcz104_1, hcz104_2, hcz104_3, hfz104_0, hfz104_1, hfz104_2, hfz104_3⟩ := blk4_ BK119.out
           go_wp2_with (first | (go_at_call 20; (with_reducible refine (laws_eqImage.calls kj15 t130 t131 t132 _ _ t133 t112 t113 t114 _ _ t115 false _ ?side1 ?side2 ?side3 ?side4 A88.out).mono ?_); (case side1 => repeat (first | exact (Kd.R_reads' HO_138003.out).2.2 | (with_reducible refine Kd.C_alloc ?_ _) | (with_reducible refine Kd.C_drewN ?_ _) | (with_reducible refine Kd.C_drew ?_))); (case side2 => exact (Kd.R_reads' HO_138003.out).2.1); (case side3 => repeat (first | exact (Kd.R_reads' HO_120003.out).2.2 | (with_reducible refine Kd.C_alloc ?_ _) | (with_reducible refine Kd.C_drewN ?_ _) | (with_reducible refine Kd.C_drew ?_))); (case side4 => exact (Kd.R_reads' HO_120003.out).2.1); rintro e w105 ⟨rfl, hb⟩; replace HO_9 := am_ (Kd.R_below (by exact HO_9.out) hb); replace HO_120003 := am_ (Kd.R_below (by exact HO_120003.out) hb); replace HO_127003 := am_ (Kd.R_below (by exact HO_127003.out) hb); replace HO_138003 := am_ (Kd.R_below (by exact HO_138003.out) hb); replace HO144 := am_ (Kd.R_below (by exact HO144.out) hb); replace HO148 := am_ (Kd.R_below (by exact HO148.out) hb); replace BK101 := am_ (blk_below (by exact BK101.out) hb); replace BK119 := am_ (blk_below (by exact BK119.out) hb); replace BK126 := am_ (blk_below (by exact BK126.out) hb); replace BK137 := am_ (blk_below (by exact BK137.out) hb); replace HB := am_ (below_step (by repeat (first | (with_reducible first | exact HB.out | apply below_alloc | apply pw_below_drewN | apply below_drew1 | refine below_set ?_ GE101.out | refine below_set ?_ GE119.out | refine below_set ?_ GE126.out | refine below_set ?_ GE137.out) | exact HB.out)) hb); (try clear hb); (try clear hb2); (try clear hk); (try clear hi)))
           go_meet
           case rel => exact ⟨_, (true), (by first | rfl | (simp; done) | (simp [*]; done)), H', ⟨by have := HJ15.out; first | omega | exact Nat.le_refl _⟩, ⟨by exact Kd.R_mono HO_120003.out (fun _ hk => by first | exact ⟨hk.2.1, hk.2.2.1⟩ | simp only [hk, ne_eq, not_false_eq_true, and_self])⟩, ⟨by exact Kd.R_mono HO_127003.out (fun _ hk => by first | exact ⟨hk.2.1, hk.2.2.1⟩ | simp only [hk, ne_eq, not_false_eq_true, and_self])⟩, ⟨by exact Kd.R_mono HO_138003.out (fun _ hk => by first | exact ⟨hk.2.1, hk.2.2.1⟩ | simp only [hk, ne_eq, not_false_eq_true, and_self])⟩, ⟨by exact BK101.out⟩, ⟨by exact BK119.out⟩, ⟨by exact BK126.out⟩, ⟨by exact BK137.out⟩, ⟨by repeat (first | (with_reducible first | exact HB.out | apply below_alloc | apply pw_below_drewN | apply below_drew1 | refine below_set ?_ GE101.out | refine below_set ?_ GE119.out | refine below_set ?_ GE126.out | refine below_set ?_ GE137.out) | exact HB.out)⟩⟩
        case rest =>
         clear HC74
         try clear c1
         try clear c2
         try clear p2
         try clear c3
         try clear c3b0
         try clear c3b1
         try clear c4
         try clear c5
         try clear c6
         try clear c6b0
         try clear c7
         try clear c8
         try clear c9
         try clear c10
         try clear c15
         try clear c17
         try clear c19
         try clear c20
         try clear c21
         try clear c22
         try clear c27
         try clear c31
         try clear c32
         try clear c33
         try clear c34
         try clear c35
         try clear c42
         try clear c43
         try clear c44
         try clear c48
         try clear c49
         try clear c50
         try clear c51
         try clear c53
         try clear c54
         try clear c57
         try clear c58
         try clear c59
         try clear c61
         try clear c62
         try clear c65
         try clear c68
         try clear c71
         try clear c81
         try clear c82
         try clear c83
         try clear c87
         try clear c87b0
         try clear c89
         try clear c90
         try clear c91
         try clear c92
         try clear c94
         try clear c95
         try clear c98
         try clear c99
         try clear c100
         try clear c102
         try clear c103
         try clear hcz101_0
         try clear hcz101_1
         try clear hcz101_2
         try clear hcz101_3
         try clear hcz104_0
         try clear hcz104_1
         try clear hcz104_2
         try clear hcz104_3
         try clear hcz18_0
         try clear hcz18_1
         try clear hcz18_2
         try clear hcz18_3
         try clear hcz20_0
         try clear hcz20_1
         try clear hcz20_2
         try clear hcz20_3
         try clear hcz28_0
         try clear hcz28_1
         try clear hcz28_2
         try clear hcz28_3
         try clear hcz30_0
         try clear hcz30_1
         try clear hcz30_2
         try clear hcz30_3
         try clear hcz35_0
         try clear hcz35_1
         try clear hcz35_2
         try clear hcz35_3
         try clear hcz38_0
         try clear hcz38_1
         try clear hcz38_2
         try clear hcz38_3
         try clear hcz45_0
         try clear hcz45_1
         try clear hcz45_2
         try clear hcz45_3
         try clear hcz52_0
         try clear hcz52_1
         try clear hcz52_2
         try clear hcz52_3
         try clear hcz55_0
         try clear hcz55_1
         try clear hcz55_2
         try clear hcz55_3
         try clear hcz60_0
         try clear hcz60_1
         try clear hcz60_2
         try clear hcz60_3
         try clear hcz63_0
         try clear hcz63_1
         try clear hcz63_2
         try clear hcz63_3
         try clear hcz84_0
         try clear hcz84_1
         try clear hcz84_2
         try clear hcz84_3
         try clear hcz8_0
         try clear hcz8_1
         try clear hcz8_2
         try clear hcz8_3
         try clear hcz93_0
         try clear hcz93_1
         try clear hcz93_2
         try clear hcz93_3
         try clear hcz96_0
         try clear hcz96_1
         try clear hcz96_2
         try clear hcz96_3
         try clear hfz101_0
         try clear hfz101_1
         try clear hfz101_2
         try clear hfz101_3
         try clear hfz104_0
         try clear hfz104_1
         try clear hfz104_2
         try clear hfz104_3
         try clear hfz18_0
         try clear hfz18_1
         try clear hfz18_2
         try clear hfz18_3
         try clear hfz20_0
         try clear hfz20_1
         try clear hfz20_2
         try clear hfz20_3
         try clear hfz28_0
         try clear hfz28_1
         try clear hfz28_2
         try clear hfz28_3
         try clear hfz30_0
         try clear hfz30_1
         try clear hfz30_2
         try clear hfz30_3
         try clear hfz35_0
         try clear hfz35_1
         try clear hfz35_2
         try clear hfz35_3
         try clear hfz38_0
         try clear hfz38_1
         try clear hfz38_2
         try clear hfz38_3
         try clear hfz45_0
         try clear hfz45_1
         try clear hfz45_2
         try clear hfz45_3
         try clear hfz52_0
         try clear hfz52_1
         try clear hfz52_2
         try clear hfz52_3
         try clear hfz55_0
         try clear hfz55_1
         try clear hfz55_2
         try clear hfz55_3
         try clear hfz60_0
         try clear hfz60_1
         try clear hfz60_2
         try clear hfz60_3
         try clear hfz63_0
         try clear hfz63_1
         try clear hfz63_2
         try clear hfz63_3
         try clear hfz84_0
         try clear hfz84_1
         try clear hfz84_2
         try clear hfz84_3
         try clear hfz8_0
         try clear hfz8_1
         try clear hfz8_2
         try clear hfz8_3
         try clear hfz93_0
         try clear hfz93_1
         try clear hfz93_2
         try clear hfz93_3
         try clear hfz96_0
         try clear hfz96_1
         try clear hfz96_2
         try clear hfz96_3
         try clear p2
         obtain ⟨kq, x80_73, rfl, HA, HJ73, HO_120003, HO_127003, HO_138003, BK101, BK119, BK126, BK137, HB⟩ := hcut
         have hl127003_73 := (Kd.R_reads' HO_127003.out).1
         rw [hl127003_73] at HO_127003
         (try simp only [hl127003_73])
         (try simp only [hl127003_73] at BK101)
         (try simp only [hl127003_73] at BK119)
         (try simp only [hl127003_73] at BK126)
         (try simp only [hl127003_73] at BK137)
         (try simp only [hl127003_73] at HO_120003)
         (try simp only [hl127003_73] at HO_138003)
         cases kq with
         | zero => exact absurd HA.out (by simp [laws_FnExactMapImage.j1])
         | succ kj73 =>
          have H := HA.out
          clear HA
          simp only [laws_FnExactMapImage.j1] at H
          by_cases c106 : x80_73 = true
          ·
           subst c106
           have H1 : (some false) = some r := by rw [if_pos rfl] at H; exact H
           clear H
           have H := H1
           clear H1
           obtain rfl := Option.some.inj H
           go_wp2
           go_ret
           exact ⟨by first | rfl | (simp [errW_none, errW_some] <;> rfl) | (simp [*, errW_none, errW_some] <;> rfl), by repeat (first | (with_reducible first | exact HB.out | apply below_alloc | apply pw_below_drewN | apply below_drew1 | refine below_set ?_ GE101.out | refine below_set ?_ GE119.out | refine below_set ?_ GE126.out | refine below_set ?_ GE137.out) | exact HB.out)⟩
          ·
           replace c106 := Bool.eq_false_iff.mpr c106
           subst c106
           have H1 : ((laws_markImage.f kj73 t130 t131 t132 t133 1).bind fun bt155 => ((laws_heldImage.f kj73 t130 t131 t132 bt155.2 1).bind fun t157 => (if t157 < 0 then (some false) else (if t157 = bt155.1 then ((laws_toImage.f kj73 a0_0 a0_1 a0_2 l0_3).bind fun bt158 => ((laws_toIntS.f kj73 l1).bind fun t164 => ((impl_MapImage.f bt158.1 bt158.2.1 bt158.2.2.1 bt158.2.2.2 t164).bind fun bt167 => ((laws_eqImage.f kj73 bt167.1 bt167.2.1 bt167.2.2.1 bt167.2.2.2.1 t112 t113 t114 t115).bind fun t175 => (if t175 = true then (laws_FnExactMapImage.j2 kj73 bt155.1 (bt167.2.2.2.2 != t118) t130 t131 t132 bt155.2) else (laws_FnExactMapImage.j2 kj73 bt155.1 true t130 t131 t132 bt155.2)))))) else (some false))))) = some r := by rw [if_neg (show ¬ (false = true) by decide)] at H; exact H
           clear H
           have H := H1
           clear H1
           replace H := Option.bind_eq_some_iff.mp H
           obtain ⟨⟨t155, t156⟩, A1070, H⟩ := H
           replace H : ((laws_heldImage.f kj73 t130 t131 t132 t156 1).bind fun t157 => (if t157 < 0 then (some false) else (if t157 = t155 then ((laws_toImage.f kj73 a0_0 a0_1 a0_2 l0_3).bind fun bt158 => ((laws_toIntS.f kj73 l1).bind fun t164 => ((impl_MapImage.f bt158.1 bt158.2.1 bt158.2.2.1 bt158.2.2.2 t164).bind fun bt167 => ((laws_eqImage.f kj73 bt167.1 bt167.2.1 bt167.2.2.1 bt167.2.2.2.1 t112 t113 t114 t115).bind fun t175 => (if t175 = true then (laws_FnExactMapImage.j2 kj73 t155 (bt167.2.2.2.2 != t118) t130 t131 t132 t156) else (laws_FnExactMapImage.j2 kj73 t155 true t130 t131 t132 t156)))))) else (some false)))) = some r := H
           have A107 := Aside0.mk A1070
           clear A1070
           replace H := Option.bind_eq_some_iff.mp H
           obtain ⟨t157, A1080, H⟩ := H
           replace H : (if t157 < 0 then (some false) else (if t157 = t155 then ((laws_toImage.f kj73 a0_0 a0_1 a0_2 l0_3).bind fun bt158 => ((laws_toIntS.f kj73 l1).bind fun t164 => ((impl_MapImage.f bt158.1 bt158.2.1 bt158.2.2.1 bt158.2.2.2 t164).bind fun bt167 => ((laws_eqImage.f kj73 bt167.1 bt167.2.1 bt167.2.2.1 bt167.2.2.2.1 t112 t113 t114 t115).bind fun t175 => (if t175 = true then (laws_FnExactMapImage.j2 kj73 t155 (bt167.2.2.2.2 != t118) t130 t131 t132 t156) else (laws_FnExactMapImage.j2 kj73 t155 true t130 t131 t132 t156)))))) else (some false))) = some r := H
           have A108 := Aside0.mk A1080
           clear A1080
           by_cases c109 : t157 < 0
           ·
            rw [if_pos c109] at H
            have c109b0 : decide (t157 < 0) = true := decide_eq_true c109
            clear c109
            obtain rfl := Option.some.inj H
            have hnb110 := NB137_101.out
            have hnc110 := NB101_137.out
            have hnb111 := NB137_119.out
            have hnc111 := NB119_137.out
            have hnb112 := NB137_126.out
            have hnc112 := NB126_137.out
            obtain ⟨hcz113_0, hcz113_1, hcz113_2, hcz113_3, hfz113_0, hfz113_1, hfz113_2, hfz113_3⟩ := blk4_ BK137.out
            go_wp2_with (first | ((with_reducible refine gate_callee (f := 21) rfl ?_); refine goesL_ (some 83) rfl rfl Try.func21 (by kernel_rfl) rfl #[.agg #[.int .i64 t130, .int .i64 t131, .int .i64 t132, .slice Ao46 t133.length co46], .int .i64 1] rfl (by simp only [List.map_toArray, List.map_cons, List.map_nil]; rfl) ?_; (with_reducible refine (laws_markImage.calls kj73 t130 t131 t132 (fun k_ => some k_ = (.slice Ao46 t133.length co46 : Value).ownBlock) (.slice Ao46 t133.length co46) t133 1 t155 t156 w _ ?side1 ?side2 A107.out).mono ?_); (case side1 => repeat (first | (with_reducible first | exact HB.out | apply below_alloc | apply pw_below_drewN | apply below_drew1 | refine below_set ?_ GE101.out | refine below_set ?_ GE119.out | refine below_set ?_ GE126.out | refine below_set ?_ GE137.out) | exact HB.out)); (case side2 => exact Kd.R_tight rfl HO_138003.out); rintro e w114 ⟨rfl, hy0, hb, hkp⟩; refine ⟨_, rfl, ?_⟩; replace HO_120003 := am_ (Kd.R_mono (ok' := fun k_ => some k_ ≠ (.slice Ao36 t151.length co36 : Value).ownBlock ∧ some k_ ≠ (.slice Ao46 t133.length co46 : Value).ownBlock) (Kd.R_keptB (HO_120003.out) hkp (fun k_ hk_ hs_ => by simp only [hk_, ne_eq, not_false_eq_true] at hs_)) (fun k_ hk_ => by simp only [hk_, ne_eq, not_false_eq_true, and_self])); replace HO_127003 := am_ (Kd.R_mono (ok' := fun k_ => some k_ ≠ (.slice Ao29 t115.length co29 : Value).ownBlock ∧ some k_ ≠ (.slice Ao46 t133.length co46 : Value).ownBlock) (Kd.R_keptB (HO_127003.out) hkp (fun k_ hk_ hs_ => by simp only [hk_, ne_eq, not_false_eq_true] at hs_)) (fun k_ hk_ => by simp only [hk_, ne_eq, not_false_eq_true, and_self])); replace BK101 := am_ (blk_kept (by exact BK101.out) hkp (fun hs_ => (fun e_ => (Kd.R_ne HO_138003.out BK101.out (by decide)) e_) hs_)); replace BK119 := am_ (blk_kept (by exact BK119.out) hkp (fun hs_ => (fun e_ => (Kd.R_ne HO_138003.out BK119.out (by decide)) e_) hs_)); replace BK126 := am_ (blk_kept (by exact BK126.out) hkp (fun hs_ => (fun e_ => (Kd.R_ne HO_138003.out BK126.out (by decide)) e_) hs_)); replace BK137 := am_ (blk_kept (by exact BK137.out) hkp (fun hs_ => (fun e_ => (Kd.R_ne HO_138003.out BK137.out (by decide)) e_) hs_)); replace HO_138003 := am_ (Kd.R_reok rfl hy0 (fun k_ e_ => HO_138003.out.1 k_ e_)); replace HB := am_ (hb); (try clear hb); (try clear hkp); (try clear hy0); obtain ⟨hcz115_0, hcz115_1, hcz115_2, hcz115_3, hfz115_0, hfz115_1, hfz115_2, hfz115_3⟩ := blk4_ BK137.out) | ((with_reducible refine gate_callee (f := 36) rfl ?_); refine goesL_ (some 86) rfl rfl Try.func36 (by kernel_rfl) rfl #[.agg #[.int .i64 t130, .int .i64 t131, .int .i64 t132, .slice Ao46 t156.length co46], .int .i64 1] rfl (by (try simp only [List.map_toArray, List.map_cons, List.map_nil]); first | done | (rw [show t156.length = t133.length from (Kd.R_reads' HO_138003.out).1.symm] <;> rfl) | rfl | (simp only [List.length_drop, List.length_take]; rfl)) ?_; (with_reducible refine (laws_heldImage.calls kj73 t130 t131 t132 _ _ t156 1 t157 _ ?side1 ?side2 A108.out).mono ?_); (case side1 => repeat (first | exact (Kd.R_reads' HO_138003.out).2.2 | (with_reducible refine Kd.C_alloc ?_ _) | (with_reducible refine Kd.C_drewN ?_ _) | (with_reducible refine Kd.C_drew ?_))); (case side2 => rw [show t156.length = t133.length from (Kd.R_reads' HO_138003.out).1.symm]; exact (Kd.R_reads' HO_138003.out).2.1); rintro e w116 ⟨rfl, hb⟩; refine ⟨_, rfl, ?_⟩; replace HO_120003 := am_ (Kd.R_below (by exact HO_120003.out) hb); replace HO_127003 := am_ (Kd.R_below (by exact HO_127003.out) hb); replace HO_138003 := am_ (Kd.R_below (by exact HO_138003.out) hb); replace BK101 := am_ (blk_below (by exact BK101.out) hb); replace BK119 := am_ (blk_below (by exact BK119.out) hb); replace BK126 := am_ (blk_below (by exact BK126.out) hb); replace BK137 := am_ (blk_below (by exact BK137.out) hb); replace HB := am_ (below_step (by repeat (first | (with_reducible first | exact HB.out | apply below_alloc | apply pw_below_drewN | apply below_drew1 | refine below_set ?_ GE101.out | refine below_set ?_ GE119.out | refine below_set ?_ GE126.out | refine below_set ?_ GE137.out) | exact HB.out)) hb); (try clear hb); (try clear hb2); (try clear hk); (try clear hi)))
            go_ret
            exact ⟨by first | rfl | (simp [errW_none, errW_some] <;> rfl) | (simp [*, errW_none, errW_some] <;> rfl), by repeat (first | (with_reducible first | exact HB.out | apply below_alloc | apply pw_below_drewN | apply below_drew1 | refine below_set ?_ GE101.out | refine below_set ?_ GE119.out | refine below_set ?_ GE126.out | refine below_set ?_ GE137.out) | exact HB.out)⟩
           ·
            rw [if_neg c109] at H
            have c109b0 : decide (t157 < 0) = false := decide_eq_false c109
            clear c109
            by_cases c117 : t157 = t155
            ·
             rw [if_pos c117] at H
             have c117b0 : (t157 == t155) = true := beq_iff_eq.mpr c117
             have c117b1 : (t157 != t155) = false := bne_eq_false_iff_eq.mpr c117
             clear c117
             replace H := Option.bind_eq_some_iff.mp H
             obtain ⟨⟨t158, t159, t160, t161⟩, A1180, H⟩ := H
             replace H : ((laws_toIntS.f kj73 l1).bind fun t164 => ((impl_MapImage.f t158 t159 t160 t161 t164).bind fun bt167 => ((laws_eqImage.f kj73 bt167.1 bt167.2.1 bt167.2.2.1 bt167.2.2.2.1 t112 t113 t114 t115).bind fun t175 => (if t175 = true then (laws_FnExactMapImage.j2 kj73 t155 (bt167.2.2.2.2 != t118) t130 t131 t132 t156) else (laws_FnExactMapImage.j2 kj73 t155 true t130 t131 t132 t156))))) = some r := H
             have A118 := Aside0.mk A1180
             clear A1180
             replace H := Option.bind_eq_some_iff.mp H
             obtain ⟨t164, A1190, H⟩ := H
             replace H : ((impl_MapImage.f t158 t159 t160 t161 t164).bind fun bt167 => ((laws_eqImage.f kj73 bt167.1 bt167.2.1 bt167.2.2.1 bt167.2.2.2.1 t112 t113 t114 t115).bind fun t175 => (if t175 = true then (laws_FnExactMapImage.j2 kj73 t155 (bt167.2.2.2.2 != t118) t130 t131 t132 t156) else (laws_FnExactMapImage.j2 kj73 t155 true t130 t131 t132 t156)))) = some r := H
             have A119 := Aside0.mk A1190
             clear A1190
             replace H := Option.bind_eq_some_iff.mp H
             obtain ⟨⟨t167, t168, t169, t170, t173⟩, A1200, H⟩ := H
             replace H : ((laws_eqImage.f kj73 t167 t168 t169 t170 t112 t113 t114 t115).bind fun t175 => (if t175 = true then (laws_FnExactMapImage.j2 kj73 t155 (t173 != t118) t130 t131 t132 t156) else (laws_FnExactMapImage.j2 kj73 t155 true t130 t131 t132 t156))) = some r := H
             have A120 := Aside0.mk A1200
             clear A1200
             have HC121 := Aside0.mk H
             clear H
             have hnb122 := NB137_101.out
             have hnc122 := NB101_137.out
             have hnb123 := NB137_119.out
             have hnc123 := NB119_137.out
             have hnb124 := NB137_126.out
             have hnc124 := NB126_137.out
             obtain ⟨hcz125_0, hcz125_1, hcz125_2, hcz125_3, hfz125_0, hfz125_1, hfz125_2, hfz125_3⟩ := blk4_ BK137.out
             go_upto_region 31 with (first | ((with_reducible refine gate_callee (f := 21) rfl ?_); refine goesL_ (some 83) rfl rfl Try.func21 (by kernel_rfl) rfl #[.agg #[.int .i64 t130, .int .i64 t131, .int .i64 t132, .slice Ao46 t133.length co46], .int .i64 1] rfl (by simp only [List.map_toArray, List.map_cons, List.map_nil]; rfl) ?_; (with_reducible refine (laws_markImage.calls kj73 t130 t131 t132 (fun k_ => some k_ = (.slice Ao46 t133.length co46 : Value).ownBlock) (.slice Ao46 t133.length co46) t133 1 t155 t156 w _ ?side1 ?side2 A107.out).mono ?_); (case side1 => repeat (first | (with_reducible first | exact HB.out | apply below_alloc | apply pw_below_drewN | apply below_drew1 | refine below_set ?_ GE101.out | refine below_set ?_ GE119.out | refine below_set ?_ GE126.out | refine below_set ?_ GE137.out) | exact HB.out)); (case side2 => exact Kd.R_tight rfl HO_138003.out); rintro e w126 ⟨rfl, hy0, hb, hkp⟩; refine ⟨_, rfl, ?_⟩; replace HO_120003 := am_ (Kd.R_mono (ok' := fun k_ => some k_ ≠ (.slice Ao36 t151.length co36 : Value).ownBlock ∧ some k_ ≠ (.slice Ao46 t133.length co46 : Value).ownBlock) (Kd.R_keptB (HO_120003.out) hkp (fun k_ hk_ hs_ => by simp only [hk_, ne_eq, not_false_eq_true] at hs_)) (fun k_ hk_ => by simp only [hk_, ne_eq, not_false_eq_true, and_self])); replace HO_127003 := am_ (Kd.R_mono (ok' := fun k_ => some k_ ≠ (.slice Ao29 t115.length co29 : Value).ownBlock ∧ some k_ ≠ (.slice Ao46 t133.length co46 : Value).ownBlock) (Kd.R_keptB (HO_127003.out) hkp (fun k_ hk_ hs_ => by simp only [hk_, ne_eq, not_false_eq_true] at hs_)) (fun k_ hk_ => by simp only [hk_, ne_eq, not_false_eq_true, and_self])); replace BK101 := am_ (blk_kept (by exact BK101.out) hkp (fun hs_ => (fun e_ => (Kd.R_ne HO_138003.out BK101.out (by decide)) e_) hs_)); replace BK119 := am_ (blk_kept (by exact BK119.out) hkp (fun hs_ => (fun e_ => (Kd.R_ne HO_138003.out BK119.out (by decide)) e_) hs_)); replace BK126 := am_ (blk_kept (by exact BK126.out) hkp (fun hs_ => (fun e_ => (Kd.R_ne HO_138003.out BK126.out (by decide)) e_) hs_)); replace BK137 := am_ (blk_kept (by exact BK137.out) hkp (fun hs_ => (fun e_ => (Kd.R_ne HO_138003.out BK137.out (by decide)) e_) hs_)); replace HO_138003 := am_ (Kd.R_reok rfl hy0 (fun k_ e_ => HO_138003.out.1 k_ e_)); replace HB := am_ (hb); (try clear hb); (try clear hkp); (try clear hy0); obtain ⟨hcz127_0, hcz127_1, hcz127_2, hcz127_3, hfz127_0, hfz127_1, hfz127_2, hfz127_3⟩ := blk4_ BK137.out) | ((with_reducible refine gate_callee (f := 36) rfl ?_); refine goesL_ (some 86) rfl rfl Try.func36 (by kernel_rfl) rfl #[.agg #[.int .i64 t130, .int .i64 t131, .int .i64 t132, .slice Ao46 t156.length co46], .int .i64 1] rfl (by (try simp only [List.map_toArray, List.map_cons, List.map_nil]); first | done | (rw [show t156.length = t133.length from (Kd.R_reads' HO_138003.out).1.symm] <;> rfl) | rfl | (simp only [List.length_drop, List.length_take]; rfl)) ?_; (with_reducible refine (laws_heldImage.calls kj73 t130 t131 t132 _ _ t156 1 t157 _ ?side1 ?side2 A108.out).mono ?_); (case side1 => repeat (first | exact (Kd.R_reads' HO_138003.out).2.2 | (with_reducible refine Kd.C_alloc ?_ _) | (with_reducible refine Kd.C_drewN ?_ _) | (with_reducible refine Kd.C_drew ?_))); (case side2 => rw [show t156.length = t133.length from (Kd.R_reads' HO_138003.out).1.symm]; exact (Kd.R_reads' HO_138003.out).2.1); rintro e w128 ⟨rfl, hb⟩; refine ⟨_, rfl, ?_⟩; replace HO_120003 := am_ (Kd.R_below (by exact HO_120003.out) hb); replace HO_127003 := am_ (Kd.R_below (by exact HO_127003.out) hb); replace HO_138003 := am_ (Kd.R_below (by exact HO_138003.out) hb); replace BK101 := am_ (blk_below (by exact BK101.out) hb); replace BK119 := am_ (blk_below (by exact BK119.out) hb); replace BK126 := am_ (blk_below (by exact BK126.out) hb); replace BK137 := am_ (blk_below (by exact BK137.out) hb); replace HB := am_ (below_step (by repeat (first | (with_reducible first | exact HB.out | apply below_alloc | apply pw_below_drewN | apply below_drew1 | refine below_set ?_ GE101.out | refine below_set ?_ GE119.out | refine below_set ?_ GE126.out | refine below_set ?_ GE137.out) | exact HB.out)) hb); (try clear hb); (try clear hb2); (try clear hk); (try clear hi); have hnb129 := NB101_119.out; have hnc129 := NB119_101.out; have hnb130 := NB101_126.out; have hnc130 := NB126_101.out; obtain ⟨hcz131_0, hcz131_1, hcz131_2, hcz131_3, hfz131_0, hfz131_1, hfz131_2, hfz131_3⟩ := blk4_ BK101.out) | ((with_reducible refine gate_callee (f := 17) rfl ?_); refine goesL_ (some 94) rfl rfl Try.func17 (by kernel_rfl) rfl #[.agg #[.int .i64 a0_0, .int .i64 a0_1, .int .i64 a0_2, .slice A0_3 l0_3.length c0_3]] rfl (by simp only [List.map_toArray, List.map_cons, List.map_nil]; rfl) ?_; (with_reducible refine (laws_toImage.calls kj73 a0_0 a0_1 a0_2 _ _ l0_3 t158 t159 t160 t161 _ ?side1 ?side2 A118.out).mono ?_); (case side1 => repeat (first | exact (Kd.C_below HR0_3.out HB.out) | (with_reducible refine Kd.C_alloc ?_ _) | (with_reducible refine Kd.C_drewN ?_ _) | (with_reducible refine Kd.C_drew ?_))); (case side2 => exact HC0_3.out); rintro e w132 ⟨v162, rfl, ho0, hb⟩; refine ⟨_, rfl, ?_⟩; have HO163 := am_ (Kd.R_lower (Kd.R_new' (Kd.R_new' (Kd.R_new' ho0 (Kd.R_lt (by exact HO_120003.out))) (Kd.R_lt (by exact HO_127003.out))) (Kd.R_lt (by exact HO_138003.out))) (below_size (by repeat (first | (with_reducible first | exact HB.out | apply below_alloc | apply pw_below_drewN | apply below_drew1 | refine below_set ?_ GE101.out | refine below_set ?_ GE119.out | refine below_set ?_ GE126.out | refine below_set ?_ GE137.out) | exact HB.out)))); replace HO_120003 := am_ (Kd.R_elder' (by exact HO_120003.out) (Kd.R_base ho0) hb); replace HO_127003 := am_ (Kd.R_elder' (by exact HO_127003.out) (Kd.R_base ho0) hb); replace HO_138003 := am_ (Kd.R_elder' (by exact HO_138003.out) (Kd.R_base ho0) hb); replace BK101 := am_ (blk_below (by exact BK101.out) hb); replace BK119 := am_ (blk_below (by exact BK119.out) hb); replace BK126 := am_ (blk_below (by exact BK126.out) hb); replace BK137 := am_ (blk_below (by exact BK137.out) hb); replace HB := am_ (below_step (by repeat (first | (with_reducible first | exact HB.out | apply below_alloc | apply pw_below_drewN | apply below_drew1 | refine below_set ?_ GE101.out | refine below_set ?_ GE119.out | refine below_set ?_ GE126.out | refine below_set ?_ GE137.out) | exact HB.out)) hb); (try clear hb); (try clear hb2); (try clear hk); (try clear hi); (try clear ho0)) | ((with_reducible refine gate_callee (f := 35) rfl ?_); refine goesL_ (some 96) rfl rfl Try.func35 (by kernel_rfl) rfl #[.slice A1 l1.length c1] rfl (by simp only [List.map_toArray, List.map_cons, List.map_nil]; rfl) ?_; (with_reducible refine (laws_toIntS.calls kj73 _ _ l1 t164 _ ?side1 ?side2 A119.out).mono ?_); (case side1 => repeat (first | exact (Kd.C_below HR1.out HB.out) | (with_reducible refine Kd.C_alloc ?_ _) | (with_reducible refine Kd.C_drewN ?_ _) | (with_reducible refine Kd.C_drew ?_))); (case side2 => exact HC1.out); rintro e w133 ⟨v165, rfl, ho0, hb⟩; refine ⟨_, rfl, ?_⟩; have HO166 := am_ (Kd.R_lower (Kd.R_new' (Kd.R_new' (Kd.R_new' (Kd.R_new' ho0 (Kd.R_lt (by exact HO_120003.out))) (Kd.R_lt (by exact HO_127003.out))) (Kd.R_lt (by exact HO_138003.out))) (Kd.R_lt (by exact HO163.out))) (below_size (by repeat (first | (with_reducible first | exact HB.out | apply below_alloc | apply pw_below_drewN | apply below_drew1 | refine below_set ?_ GE101.out | refine below_set ?_ GE119.out | refine below_set ?_ GE126.out | refine below_set ?_ GE137.out) | exact HB.out)))); replace HO_120003 := am_ (Kd.R_elder' (by exact HO_120003.out) (Kd.R_base ho0) hb); replace HO_127003 := am_ (Kd.R_elder' (by exact HO_127003.out) (Kd.R_base ho0) hb); replace HO_138003 := am_ (Kd.R_elder' (by exact HO_138003.out) (Kd.R_base ho0) hb); replace HO163 := am_ (Kd.R_elder' (by exact HO163.out) (Kd.R_base ho0) hb); replace BK101 := am_ (blk_below (by exact BK101.out) hb); replace BK119 := am_ (blk_below (by exact BK119.out) hb); replace BK126 := am_ (blk_below (by exact BK126.out) hb); replace BK137 := am_ (blk_below (by exact BK137.out) hb); replace HB := am_ (below_step (by repeat (first | (with_reducible first | exact HB.out | apply below_alloc | apply pw_below_drewN | apply below_drew1 | refine below_set ?_ GE101.out | refine below_set ?_ GE119.out | refine below_set ?_ GE126.out | refine below_set ?_ GE137.out) | exact HB.out)) hb); (try clear hb); (try clear hb2); (try clear hk); (try clear hi); (try clear ho0); obtain ⟨Ao134, co134, eo134⟩ := Kd.R_slice HO163.out; subst eo134; obtain ⟨Ao135, co135, eo135⟩ := Kd.R_slice HO166.out; subst eo135) | ((with_reducible refine gate_callee (f := 31) rfl ?_); refine goesL_ (some 97) rfl rfl Try.func31 (by kernel_rfl) rfl #[.agg #[.int .i64 t158, .int .i64 t159, .int .i64 t160, .slice Ao134 t161.length co134], .slice Ao135 t164.length co135] rfl (by simp only [List.map_toArray, List.map_cons, List.map_nil]; rfl) ?_; (with_reducible refine (impl_MapImage.calls t158 t159 t160 _ _ t161 _ _ t164 t167 t168 t169 t170 t173 _ ?side1 ?side2 ?side3 ?side4 A120.out).mono ?_); (case side1 => repeat (first | exact (Kd.R_reads' HO163.out).2.2 | (with_reducible refine Kd.C_alloc ?_ _) | (with_reducible refine Kd.C_drewN ?_ _) | (with_reducible refine Kd.C_drew ?_))); (case side2 => exact (Kd.R_reads' HO163.out).2.1); (case side3 => repeat (first | exact (Kd.R_reads' HO166.out).2.2 | (with_reducible refine Kd.C_alloc ?_ _) | (with_reducible refine Kd.C_drewN ?_ _) | (with_reducible refine Kd.C_drew ?_))); (case side4 => exact (Kd.R_reads' HO166.out).2.1); rintro e w136 ⟨v171, rfl, ho0, hb⟩; refine ⟨_, rfl, ?_⟩; have HO172 := am_ (Kd.R_lower (Kd.R_new' (Kd.R_new' (Kd.R_new' (Kd.R_new' (Kd.R_new' ho0 (Kd.R_lt (by exact HO_120003.out))) (Kd.R_lt (by exact HO_127003.out))) (Kd.R_lt (by exact HO_138003.out))) (Kd.R_lt (by exact HO163.out))) (Kd.R_lt (by exact HO166.out))) (below_size (by repeat (first | (with_reducible first | exact HB.out | apply below_alloc | apply pw_below_drewN | apply below_drew1 | refine below_set ?_ GE101.out | refine below_set ?_ GE119.out | refine below_set ?_ GE126.out | refine below_set ?_ GE137.out) | exact HB.out)))); replace HO_120003 := am_ (Kd.R_elder' (by exact HO_120003.out) (Kd.R_base ho0) hb); replace HO_127003 := am_ (Kd.R_elder' (by exact HO_127003.out) (Kd.R_base ho0) hb); replace HO_138003 := am_ (Kd.R_elder' (by exact HO_138003.out) (Kd.R_base ho0) hb); replace HO163 := am_ (Kd.R_elder' (by exact HO163.out) (Kd.R_base ho0) hb); replace HO166 := am_ (Kd.R_elder' (by exact HO166.out) (Kd.R_base ho0) hb); replace BK101 := am_ (blk_below (by exact BK101.out) hb); replace BK119 := am_ (blk_below (by exact BK119.out) hb); replace BK126 := am_ (blk_below (by exact BK126.out) hb); replace BK137 := am_ (blk_below (by exact BK137.out) hb); replace HB := am_ (below_step (by repeat (first | (with_reducible first | exact HB.out | apply below_alloc | apply pw_below_drewN | apply below_drew1 | refine below_set ?_ GE101.out | refine below_set ?_ GE119.out | refine below_set ?_ GE126.out | refine below_set ?_ GE137.out) | exact HB.out)) hb); (try clear hb); (try clear hb2); (try clear hk); (try clear hi); (try clear ho0)) | ((with_reducible refine gate_dst (N := 15) rfl ?_); refine box_event ?hg (N := 15) ?hd (cs := #[.int .i64 0, .int .i64 0, .int .i64 0, .slice none 0 0]) (t := 27) ?hr ?_; (case hd => rfl); (case hg => rfl); (case hr => first | (go_simp; done) | (go_simp; rfl)); intro gb174 hg w137 hbox hb; replace HO_120003 := am_ (Kd.R_below (by exact HO_120003.out) hb); replace HO_127003 := am_ (Kd.R_below (by exact HO_127003.out) hb); replace HO_138003 := am_ (Kd.R_below (by exact HO_138003.out) hb); replace HO163 := am_ (Kd.R_below (by exact HO163.out) hb); replace HO166 := am_ (Kd.R_below (by exact HO166.out) hb); replace HO172 := am_ (Kd.R_below (by exact HO172.out) hb); have BK174 := am_ (hbox); have GW174 := am_ ((by rw [hg]; exact (below_size (by repeat (first | (with_reducible first | exact HB.out | apply below_alloc | apply pw_below_drewN | apply below_drew1 | refine below_set ?_ GE101.out | refine below_set ?_ GE119.out | refine below_set ?_ GE126.out | refine below_set ?_ GE137.out) | exact HB.out))) : w.heap.size ≤ gb174)); have GE174 := GW174; replace HB := am_ (below_step (by repeat (first | (with_reducible first | exact HB.out | apply below_alloc | apply pw_below_drewN | apply below_drew1 | refine below_set ?_ GE101.out | refine below_set ?_ GE119.out | refine below_set ?_ GE126.out | refine below_set ?_ GE137.out) | exact HB.out)) hb); have NB101_174 := am_ ((by rw [hg]; exact Nat.ne_of_lt (blk_lt (by exact BK101.out)) : gb101 ≠ gb174)); have NB174_101 := am_ ((by rw [hg]; exact Nat.ne_of_gt (blk_lt (by exact BK101.out)) : gb174 ≠ gb101)); replace BK101 := am_ (blk_below (by exact BK101.out) hb); have NB119_174 := am_ ((by rw [hg]; exact Nat.ne_of_lt (blk_lt (by exact BK119.out)) : gb119 ≠ gb174)); have NB174_119 := am_ ((by rw [hg]; exact Nat.ne_of_gt (blk_lt (by exact BK119.out)) : gb174 ≠ gb119)); replace BK119 := am_ (blk_below (by exact BK119.out) hb); have NB126_174 := am_ ((by rw [hg]; exact Nat.ne_of_lt (blk_lt (by exact BK126.out)) : gb126 ≠ gb174)); have NB174_126 := am_ ((by rw [hg]; exact Nat.ne_of_gt (blk_lt (by exact BK126.out)) : gb174 ≠ gb126)); replace BK126 := am_ (blk_below (by exact BK126.out) hb); have NB137_174 := am_ ((by rw [hg]; exact Nat.ne_of_lt (blk_lt (by exact BK137.out)) : gb137 ≠ gb174)); have NB174_137 := am_ ((by rw [hg]; exact Nat.ne_of_gt (blk_lt (by exact BK137.out)) : gb174 ≠ gb137)); replace BK137 := am_ (blk_below (by exact BK137.out) hb); clear hb hbox hg; have hnb138 := NB174_101.out; have hnc138 := NB101_174.out; have hnb139 := NB174_119.out; have hnc139 := NB119_174.out; have hnb140 := NB174_126.out; have hnc140 := NB126_174.out; have hnb141 := NB174_137.out; have hnc141 := NB137_174.out; obtain ⟨hcz142_0, hcz142_1, hcz142_2, hcz142_3, hfz142_0, hfz142_1, hfz142_2, hfz142_3⟩ := blk4_ BK174.out; obtain ⟨Ao143, co143, eo143⟩ := Kd.R_slice HO172.out; subst eo143))
             (try simp only [Act.put, List.setIfInBounds_toArray, List.set_cons_zero, List.set_cons_succ])
             go_cut [108] (fun v108 wc => ∃ (kq : Nat) (x108_120 : Bool), v108 = .bool x108_120 ∧ Aside0 (laws_FnExactMapImage.j2 kq t155 x108_120 t130 t131 t132 t156 = some r) ∧ Aside0 (kq ≤ kj73) ∧ Aside0 (Kd.R (Kd.int .i64) 3 wc w.heap.size (fun k_ => some k_ ≠ ((.slice Ao36 t151.length co36) : Value).ownBlock ∧ some k_ ≠ ((.slice Ao46 t133.length co46) : Value).ownBlock ∧ some k_ ≠ ((.slice Ao143 t170.length co143) : Value).ownBlock) (.slice Ao29 t115.length co29) t115) ∧ Aside0 (Kd.R (Kd.int .i64) 3 wc w.heap.size (fun k_ => some k_ ≠ ((.slice Ao29 t115.length co29) : Value).ownBlock ∧ some k_ ≠ ((.slice Ao46 t133.length co46) : Value).ownBlock ∧ some k_ ≠ ((.slice Ao143 t170.length co143) : Value).ownBlock) (.slice Ao36 t151.length co36) t151) ∧ Aside0 (Kd.R (Kd.int .i64) 3 wc w.heap.size (fun k_ => some k_ ≠ ((.slice Ao29 t115.length co29) : Value).ownBlock ∧ some k_ ≠ ((.slice Ao36 t151.length co36) : Value).ownBlock ∧ some k_ ≠ ((.slice Ao143 t170.length co143) : Value).ownBlock) (.slice Ao46 t133.length co46) t156) ∧ Aside0 (Kd.R (Kd.int .i64) 3 wc w.heap.size (fun k_ => some k_ ≠ ((.slice Ao29 t115.length co29) : Value).ownBlock ∧ some k_ ≠ ((.slice Ao36 t151.length co36) : Value).ownBlock ∧ some k_ ≠ ((.slice Ao46 t133.length co46) : Value).ownBlock) (.slice Ao143 t170.length co143) t170) ∧ Aside0 (wc.heap[gb101]? = some (.cells #[.int .i64 a0_0, .int .i64 a0_1, .int .i64 a0_2, (.slice A0_3 l0_3.length c0_3)] 24 (0, 0))) ∧ Aside0 (wc.heap[gb119]? = some (.cells #[.int .i64 t112, .int .i64 t113, .int .i64 t114, (.slice Ao29 t115.length co29)] 27 (0, 0))) ∧ Aside0 (wc.heap[gb126]? = some (.cells #[.int .i64 t120, .int .i64 t121, .int .i64 t122, (.slice Ao36 t151.length co36)] 27 (0, 0))) ∧ Aside0 (wc.heap[gb137]? = some (.cells #[.int .i64 t130, .int .i64 t131, .int .i64 t132, (.slice Ao46 t133.length co46)] 27 (0, 0))) ∧ Aside0 (wc.heap[gb174]? = some (.cells #[.int .i64 t167, .int .i64 t168, .int .i64 t169, (.slice Ao143 t170.length co143)] 27 (0, 0))) ∧ Aside0 (Below w.heap.size w wc))
             case first =>
              have H := HC121.out
              clear HC121
              replace H := Option.bind_eq_some_iff.mp H
              obtain ⟨t175, A1440, H⟩ := H
              replace H : (if t175 = true then (laws_FnExactMapImage.j2 kj73 t155 (t173 != t118) t130 t131 t132 t156) else (laws_FnExactMapImage.j2 kj73 t155 true t130 t131 t132 t156)) = some r := H
              have A144 := Aside0.mk A1440
              clear A1440
              by_cases c145 : t175 = true
              ·
               subst c145
               have H1 : (laws_FnExactMapImage.j2 kj73 t155 (t173 != t118) t130 t131 t132 t156) = some r := by rw [if_pos rfl] at H; exact H
               clear H
               have H := H1
               clear H1
               have H' := Aside0.mk H
               clear H
               have hnb146 := NB174_101.out
               have hnc146 := NB101_174.out
               have hnb147 := NB174_119.out
               have hnc147 := NB119_174.out
               have hnb148 := NB174_126.out
               have hnc148 := NB126_174.out
               have hnb149 := NB174_137.out
               have hnc149 := NB137_174.out
               obtain ⟨hcz150_0, hcz150_1, hcz150_2, hcz150_3, hfz150_0, hfz150_1, hfz150_2, hfz150_3⟩ := blk4_ BK174.out
               have hnb151 := NB119_101.out
               have hnc151 := NB101_119.out
               have hnb152 := NB119_126.out
               have hnc152 := NB126_119.out
               have hnb153 := NB119_137.out
               have hnc153 := NB137_119.out
               obtain ⟨hcz154_0, hcz154_1, hcz154_2, hcz154_3, hfz154_0, hfz154_1, hfz154_2, hfz154_3⟩ := blk4_ BK119.out
               go_wp2_with (first | ((with_reducible refine gate_callee (f := 20) rfl ?_); refine goesL_ (some 102) rfl rfl Try.func20 (by kernel_rfl) rfl #[.agg #[.int .i64 t167, .int .i64 t168, .int .i64 t169, .slice Ao143 t170.length co143], .agg #[.int .i64 t112, .int .i64 t113, .int .i64 t114, .slice Ao29 t115.length co29]] rfl (by simp only [List.map_toArray, List.map_cons, List.map_nil]; rfl) ?_; (with_reducible refine (laws_eqImage.calls kj73 t167 t168 t169 _ _ t170 t112 t113 t114 _ _ t115 true _ ?side1 ?side2 ?side3 ?side4 A144.out).mono ?_); (case side1 => refine (Kd.R_reads' (e := 3) (base := w.heap.size) (ok := fun k_ => (((((True ∧ some k_ ≠ (.slice Ao29 t115.length co29 : Value).ownBlock) ∧ some k_ ≠ (.slice Ao36 t151.length co36 : Value).ownBlock) ∧ some k_ ≠ (.slice Ao46 t133.length co46 : Value).ownBlock) ∧ some k_ ≠ (.slice Ao134 t161.length co134 : Value).ownBlock) ∧ some k_ ≠ (.slice Ao135 t164.length co135 : Value).ownBlock)) (n := t170.length) (c := co143) ?_).2.2; exact (by exact (R4_ HO172.out BK174.out (by decide) _ _ _ _))); (case side2 => exact (Kd.R_reads' HO172.out).2.1); (case side3 => refine (Kd.R_reads' (e := 3) (base := w.heap.size) (ok := fun k_ => ((((some k_ ≠ (.slice Ao36 t151.length co36 : Value).ownBlock ∧ some k_ ≠ (.slice Ao46 t133.length co46 : Value).ownBlock) ∧ some k_ ≠ (.slice Ao134 t161.length co134 : Value).ownBlock) ∧ some k_ ≠ (.slice Ao135 t164.length co135 : Value).ownBlock) ∧ some k_ ≠ (.slice Ao143 t170.length co143 : Value).ownBlock)) (n := t115.length) (c := co29) ?_).2.2; exact (by exact (R4_ HO_120003.out BK174.out (by decide) _ _ _ _))); (case side4 => exact (Kd.R_reads' HO_120003.out).2.1); rintro e w155 ⟨rfl, hb⟩; refine ⟨_, rfl, ?_⟩; replace HO_120003 := am_ (Kd.R_below (by exact (R4_ HO_120003.out BK174.out (by decide) _ _ _ _)) hb); replace HO_127003 := am_ (Kd.R_below (by exact (R4_ HO_127003.out BK174.out (by decide) _ _ _ _)) hb); replace HO_138003 := am_ (Kd.R_below (by exact (R4_ HO_138003.out BK174.out (by decide) _ _ _ _)) hb); replace HO163 := am_ (Kd.R_below (by exact (R4_ HO163.out BK174.out (by decide) _ _ _ _)) hb); replace HO166 := am_ (Kd.R_below (by exact (R4_ HO166.out BK174.out (by decide) _ _ _ _)) hb); replace HO172 := am_ (Kd.R_below (by exact (R4_ HO172.out BK174.out (by decide) _ _ _ _)) hb); replace BK101 := am_ (blk_below (by exact far4_ BK101.out NB101_174.out _ _ _ _) hb); replace BK119 := am_ (blk_below (by exact far4_ BK119.out NB119_174.out _ _ _ _) hb); replace BK126 := am_ (blk_below (by exact far4_ BK126.out NB126_174.out _ _ _ _) hb); replace BK137 := am_ (blk_below (by exact far4_ BK137.out NB137_174.out _ _ _ _) hb); replace BK174 := am_ (blk_below (by exact put4_ BK174.out _ _ _ _) hb); replace HB := am_ (below_step (by repeat (first | (with_reducible first | exact HB.out | apply below_alloc | apply pw_below_drewN | apply below_drew1 | refine below_set ?_ GE101.out | refine below_set ?_ GE119.out | refine below_set ?_ GE126.out | refine below_set ?_ GE137.out | refine below_set ?_ GE174.out) | exact HB.out)) hb); (try clear hb); (try clear hb2); (try clear hk); (try clear hi)))
               go_meet
               case rel => exact ⟨_, ((t173 != t118)), (by first | rfl | (simp; done) | (simp [*]; done)), H', ⟨by have := HJ15.out; have := HJ73.out; first | omega | exact Nat.le_refl _⟩, ⟨by (try simp only [hl127003_73]); (with_reducible repeat (first | apply Kd.R_alloc | apply Kd.R_drewN | apply Kd.R_drew)); exact Kd.R_mono HO_120003.out (fun _ hk => ⟨hk.1.1.1.1, ⟨hk.1.1.1.2, hk.2⟩⟩)⟩, ⟨by (try simp only [hl127003_73]); (with_reducible repeat (first | apply Kd.R_alloc | apply Kd.R_drewN | apply Kd.R_drew)); exact Kd.R_mono HO_127003.out (fun _ hk => ⟨hk.1.1.1.1, ⟨hk.1.1.1.2, hk.2⟩⟩)⟩, ⟨by (try simp only [hl127003_73]); (with_reducible repeat (first | apply Kd.R_alloc | apply Kd.R_drewN | apply Kd.R_drew)); exact Kd.R_mono HO_138003.out (fun _ hk => ⟨hk.1.1.1.1, ⟨hk.1.1.1.2, hk.2⟩⟩)⟩, ⟨by (try simp only [hl127003_73]); (with_reducible repeat (first | apply Kd.R_alloc | apply Kd.R_drewN | apply Kd.R_drew)); exact Kd.R_mono HO172.out (fun _ hk => ⟨hk.1.1.1.1.2, ⟨hk.1.1.1.2, hk.1.1.2⟩⟩)⟩, ⟨by (try simp only [hl127003_73]); (with_reducible repeat (first | refine blk_drewN ?_ _ | refine blk_drew ?_ | refine blk_alloc ?_ _)); exact BK101.out⟩, ⟨by (try simp only [hl127003_73]); (with_reducible repeat (first | refine blk_drewN ?_ _ | refine blk_drew ?_ | refine blk_alloc ?_ _)); exact BK119.out⟩, ⟨by (try simp only [hl127003_73]); (with_reducible repeat (first | refine blk_drewN ?_ _ | refine blk_drew ?_ | refine blk_alloc ?_ _)); exact BK126.out⟩, ⟨by (try simp only [hl127003_73]); (with_reducible repeat (first | refine blk_drewN ?_ _ | refine blk_drew ?_ | refine blk_alloc ?_ _)); exact BK137.out⟩, ⟨by (try simp only [hl127003_73]); (with_reducible repeat (first | refine blk_drewN ?_ _ | refine blk_drew ?_ | refine blk_alloc ?_ _)); exact BK174.out⟩, ⟨by repeat (first | (with_reducible first | exact HB.out | apply below_alloc | apply pw_below_drewN | apply below_drew1 | refine below_set ?_ GE101.out | refine below_set ?_ GE119.out | refine below_set ?_ GE126.out | refine below_set ?_ GE137.out | refine below_set ?_ GE174.out) | exact HB.out)⟩⟩
              ·
               replace c145 := Bool.eq_false_iff.mpr c145
               subst c145
               have H1 : (laws_FnExactMapImage.j2 kj73 t155 true t130 t131 t132 t156) = some r := by rw [if_neg (show ¬ (false = true) by decide)] at H; exact H
               clear H
               have H := H1
               clear H1
               have H' := Aside0.mk H
               clear H
               have hnb156 := NB174_101.out
               have hnc156 := NB101_174.out
               have hnb157 := NB174_119.out
               have hnc157 := NB119_174.out
               have hnb158 := NB174_126.out
               have hnc158 := NB126_174.out
               have hnb159 := NB174_137.out
               have hnc159 := NB137_174.out
               obtain ⟨hcz160_0, hcz160_1, hcz160_2, hcz160_3, hfz160_0, hfz160_1, hfz160_2, hfz160_3⟩ := blk4_ BK174.out
               have hnb161 := NB119_101.out
               have hnc161 := NB101_119.out
               have hnb162 := NB119_126.out
               have hnc162 := NB126_119.out
               have hnb163 := NB119_137.out
               have hnc163 := NB137_119.out
               obtain ⟨hcz164_0, hcz164_1, hcz164_2, hcz164_3, hfz164_0, hfz164_1, hfz164_2, hfz164_3⟩ := blk4_ BK119.out
               go_wp2_with (first | ((with_reducible refine gate_callee (f := 20) rfl ?_); refine goesL_ (some 102) rfl rfl Try.func20 (by kernel_rfl) rfl #[.agg #[.int .i64 t167, .int .i64 t168, .int .i64 t169, .slice Ao143 t170.length co143], .agg #[.int .i64 t112, .int .i64 t113, .int .i64 t114, .slice Ao29 t115.length co29]] rfl (by simp only [List.map_toArray, List.map_cons, List.map_nil]; rfl) ?_; (with_reducible refine (laws_eqImage.calls kj73 t167 t168 t169 _ _ t170 t112 t113 t114 _ _ t115 false _ ?side1 ?side2 ?side3 ?side4 A144.out).mono ?_); (case side1 => refine (Kd.R_reads' (e := 3) (base := w.heap.size) (ok := fun k_ => (((((True ∧ some k_ ≠ (.slice Ao29 t115.length co29 : Value).ownBlock) ∧ some k_ ≠ (.slice Ao36 t151.length co36 : Value).ownBlock) ∧ some k_ ≠ (.slice Ao46 t133.length co46 : Value).ownBlock) ∧ some k_ ≠ (.slice Ao134 t161.length co134 : Value).ownBlock) ∧ some k_ ≠ (.slice Ao135 t164.length co135 : Value).ownBlock)) (n := t170.length) (c := co143) ?_).2.2; exact (by exact (R4_ HO172.out BK174.out (by decide) _ _ _ _))); (case side2 => exact (Kd.R_reads' HO172.out).2.1); (case side3 => refine (Kd.R_reads' (e := 3) (base := w.heap.size) (ok := fun k_ => ((((some k_ ≠ (.slice Ao36 t151.length co36 : Value).ownBlock ∧ some k_ ≠ (.slice Ao46 t133.length co46 : Value).ownBlock) ∧ some k_ ≠ (.slice Ao134 t161.length co134 : Value).ownBlock) ∧ some k_ ≠ (.slice Ao135 t164.length co135 : Value).ownBlock) ∧ some k_ ≠ (.slice Ao143 t170.length co143 : Value).ownBlock)) (n := t115.length) (c := co29) ?_).2.2; exact (by exact (R4_ HO_120003.out BK174.out (by decide) _ _ _ _))); (case side4 => exact (Kd.R_reads' HO_120003.out).2.1); rintro e w165 ⟨rfl, hb⟩; refine ⟨_, rfl, ?_⟩; replace HO_120003 := am_ (Kd.R_below (by exact (R4_ HO_120003.out BK174.out (by decide) _ _ _ _)) hb); replace HO_127003 := am_ (Kd.R_below (by exact (R4_ HO_127003.out BK174.out (by decide) _ _ _ _)) hb); replace HO_138003 := am_ (Kd.R_below (by exact (R4_ HO_138003.out BK174.out (by decide) _ _ _ _)) hb); replace HO163 := am_ (Kd.R_below (by exact (R4_ HO163.out BK174.out (by decide) _ _ _ _)) hb); replace HO166 := am_ (Kd.R_below (by exact (R4_ HO166.out BK174.out (by decide) _ _ _ _)) hb); replace HO172 := am_ (Kd.R_below (by exact (R4_ HO172.out BK174.out (by decide) _ _ _ _)) hb); replace BK101 := am_ (blk_below (by exact far4_ BK101.out NB101_174.out _ _ _ _) hb); replace BK119 := am_ (blk_below (by exact far4_ BK119.out NB119_174.out _ _ _ _) hb); replace BK126 := am_ (blk_below (by exact far4_ BK126.out NB126_174.out _ _ _ _) hb); replace BK137 := am_ (blk_below (by exact far4_ BK137.out NB137_174.out _ _ _ _) hb); replace BK174 := am_ (blk_below (by exact put4_ BK174.out _ _ _ _) hb); replace HB := am_ (below_step (by repeat (first | (with_reducible first | exact HB.out | apply below_alloc | apply pw_below_drewN | apply below_drew1 | refine below_set ?_ GE101.out | refine below_set ?_ GE119.out | refine below_set ?_ GE126.out | refine below_set ?_ GE137.out | refine below_set ?_ GE174.out) | exact HB.out)) hb); (try clear hb); (try clear hb2); (try clear hk); (try clear hi)))
               go_meet
               case rel => exact ⟨_, (true), (by first | rfl | (simp; done) | (simp [*]; done)), H', ⟨by have := HJ15.out; have := HJ73.out; first | omega | exact Nat.le_refl _⟩, ⟨by (try simp only [hl127003_73]); (with_reducible repeat (first | apply Kd.R_alloc | apply Kd.R_drewN | apply Kd.R_drew)); exact Kd.R_mono HO_120003.out (fun _ hk => ⟨hk.1.1.1.1, ⟨hk.1.1.1.2, hk.2⟩⟩)⟩, ⟨by (try simp only [hl127003_73]); (with_reducible repeat (first | apply Kd.R_alloc | apply Kd.R_drewN | apply Kd.R_drew)); exact Kd.R_mono HO_127003.out (fun _ hk => ⟨hk.1.1.1.1, ⟨hk.1.1.1.2, hk.2⟩⟩)⟩, ⟨by (try simp only [hl127003_73]); (with_reducible repeat (first | apply Kd.R_alloc | apply Kd.R_drewN | apply Kd.R_drew)); exact Kd.R_mono HO_138003.out (fun _ hk => ⟨hk.1.1.1.1, ⟨hk.1.1.1.2, hk.2⟩⟩)⟩, ⟨by (try simp only [hl127003_73]); (with_reducible repeat (first | apply Kd.R_alloc | apply Kd.R_drewN | apply Kd.R_drew)); exact Kd.R_mono HO172.out (fun _ hk => ⟨hk.1.1.1.1.2, ⟨hk.1.1.1.2, hk.1.1.2⟩⟩)⟩, ⟨by (try simp only [hl127003_73]); (with_reducible repeat (first | refine blk_drewN ?_ _ | refine blk_drew ?_ | refine blk_alloc ?_ _)); exact BK101.out⟩, ⟨by (try simp only [hl127003_73]); (with_reducible repeat (first | refine blk_drewN ?_ _ | refine blk_drew ?_ | refine blk_alloc ?_ _)); exact BK119.out⟩, ⟨by (try simp only [hl127003_73]); (with_reducible repeat (first | refine blk_drewN ?_ _ | refine blk_drew ?_ | refine blk_alloc ?_ _)); exact BK126.out⟩, ⟨by (try simp only [hl127003_73]); (with_reducible repeat (first | refine blk_drewN ?_ _ | refine blk_drew ?_ | refine blk_alloc ?_ _)); exact BK137.out⟩, ⟨by (try simp only [hl127003_73]); (with_reducible repeat (first | refine blk_drewN ?_ _ | refine blk_drew ?_ | refine blk_alloc ?_ _)); exact BK174.out⟩, ⟨by repeat (first | (with_reducible first | exact HB.out | apply below_alloc | apply pw_below_drewN | apply below_drew1 | refine below_set ?_ GE101.out | refine below_set ?_ GE119.out | refine below_set ?_ GE126.out | refine below_set ?_ GE137.out | refine below_set ?_ GE174.out) | exact HB.out)⟩⟩
             case rest =>
              clear HC121
              try clear c1
              try clear c2
              try clear p2
              try clear c3
              try clear c3b0
              try clear c3b1
              try clear c4
              try clear c5
              try clear c6
              try clear c6b0
              try clear c7
              try clear c8
              try clear c9
              try clear c10
              try clear c11
              try clear c12
              try clear c13
              try clear c14
              try clear c15
              try clear c16
              try clear c17
              try clear c19
              try clear c20
              try clear c21
              try clear c22
              try clear c27
              try clear c31
              try clear c32
              try clear c33
              try clear c34
              try clear c35
              try clear c36
              try clear c42
              try clear c43
              try clear c44
              try clear c48
              try clear c49
              try clear c50
              try clear c51
              try clear c53
              try clear c54
              try clear c57
              try clear c58
              try clear c59
              try clear c61
              try clear c62
              try clear c65
              try clear c68
              try clear c71
              try clear c81
              try clear c82
              try clear c83
              try clear c87
              try clear c87b0
              try clear c89
              try clear c90
              try clear c91
              try clear c92
              try clear c94
              try clear c95
              try clear c98
              try clear c99
              try clear c100
              try clear c102
              try clear c103
              try clear c106
              try clear c109
              try clear c109b0
              try clear c110
              try clear c111
              try clear c112
              try clear c117
              try clear c117b0
              try clear c117b1
              try clear c122
              try clear c123
              try clear c124
              try clear c129
              try clear c130
              try clear c138
              try clear c139
              try clear c140
              try clear c141
              try clear c145
              try clear c146
              try clear c147
              try clear c148
              try clear c149
              try clear c151
              try clear c152
              try clear c153
              try clear c156
              try clear c157
              try clear c158
              try clear c159
              try clear c161
              try clear c162
              try clear c163
              try clear hcz101_0
              try clear hcz101_1
              try clear hcz101_2
              try clear hcz101_3
              try clear hcz104_0
              try clear hcz104_1
              try clear hcz104_2
              try clear hcz104_3
              try clear hcz113_0
              try clear hcz113_1
              try clear hcz113_2
              try clear hcz113_3
              try clear hcz115_0
              try clear hcz115_1
              try clear hcz115_2
              try clear hcz115_3
              try clear hcz125_0
              try clear hcz125_1
              try clear hcz125_2
              try clear hcz125_3
              try clear hcz127_0
              try clear hcz127_1
              try clear hcz127_2
              try clear hcz127_3
              try clear hcz131_0
              try clear hcz131_1
              try clear hcz131_2
              try clear hcz131_3
              try clear hcz142_0
              try clear hcz142_1
              try clear hcz142_2
              try clear hcz142_3
              try clear hcz150_0
              try clear hcz150_1
              try clear hcz150_2
              try clear hcz150_3
              try clear hcz154_0
              try clear hcz154_1
              try clear hcz154_2
              try clear hcz154_3
              try clear hcz160_0
              try clear hcz160_1
              try clear hcz160_2
              try clear hcz160_3
              try clear hcz164_0
              try clear hcz164_1
              try clear hcz164_2
              try clear hcz164_3
              try clear hcz18_0
              try clear hcz18_1
              try clear hcz18_2
              try clear hcz18_3
              try clear hcz20_0
              try clear hcz20_1
              try clear hcz20_2
              try clear hcz20_3
              try clear hcz28_0
              try clear hcz28_1
              try clear hcz28_2
              try clear hcz28_3
              try clear hcz30_0
              try clear hcz30_1
              try clear hcz30_2
              try clear hcz30_3
              try clear hcz35_0
              try clear hcz35_1
              try clear hcz35_2
              try clear hcz35_3
              try clear hcz38_0
              try clear hcz38_1
              try clear hcz38_2
              try clear hcz38_3
              try clear hcz45_0
              try clear hcz45_1
              try clear hcz45_2
              try clear hcz45_3
              try clear hcz52_0
              try clear hcz52_1
              try clear hcz52_2
              try clear hcz52_3
              try clear hcz55_0
              try clear hcz55_1
              try clear hcz55_2
              try clear hcz55_3
              try clear hcz60_0
              try clear hcz60_1
              try clear hcz60_2
              try clear hcz60_3
              try clear hcz63_0
              try clear hcz63_1
              try clear hcz63_2
              try clear hcz63_3
              try clear hcz84_0
              try clear hcz84_1
              try clear hcz84_2
              try clear hcz84_3
              try clear hcz8_0
              try clear hcz8_1
              try clear hcz8_2
              try clear hcz8_3
              try clear hcz93_0
              try clear hcz93_1
              try clear hcz93_2
              try clear hcz93_3
              try clear hcz96_0
              try clear hcz96_1
              try clear hcz96_2
              try clear hcz96_3
              try clear hfz101_0
              try clear hfz101_1
              try clear hfz101_2
              try clear hfz101_3
              try clear hfz104_0
              try clear hfz104_1
              try clear hfz104_2
              try clear hfz104_3
              try clear hfz113_0
              try clear hfz113_1
              try clear hfz113_2
              try clear hfz113_3
              try clear hfz115_0
              try clear hfz115_1
              try clear hfz115_2
              try clear hfz115_3
              try clear hfz125_0
              try clear hfz125_1
              try clear hfz125_2
              try clear hfz125_3
              try clear hfz127_0
              try clear hfz127_1
              try clear hfz127_2
              try clear hfz127_3
              try clear hfz131_0
              try clear hfz131_1
              try clear hfz131_2
              try clear hfz131_3
              try clear hfz142_0
              try clear hfz142_1
              try clear hfz142_2
              try clear hfz142_3
              try clear hfz150_0
              try clear hfz150_1
              try clear hfz150_2
              try clear hfz150_3
              try clear hfz154_0
              try clear hfz154_1
              try clear hfz154_2
              try clear hfz154_3
              try clear hfz160_0
              try clear hfz160_1
              try clear hfz160_2
              try clear hfz160_3
              try clear hfz164_0
              try clear hfz164_1
              try clear hfz164_2
              try clear hfz164_3
              try clear hfz18_0
              try clear hfz18_1
              try clear hfz18_2
              try clear hfz18_3
              try clear hfz20_0
              try clear hfz20_1
              try clear hfz20_2
              try clear hfz20_3
              try clear hfz28_0
              try clear hfz28_1
              try clear hfz28_2
              try clear hfz28_3
              try clear hfz30_0
              try clear hfz30_1
              try clear hfz30_2
              try clear hfz30_3
              try clear hfz35_0
              try clear hfz35_1
              try clear hfz35_2
              try clear hfz35_3
              try clear hfz38_0
              try clear hfz38_1
              try clear hfz38_2
              try clear hfz38_3
              try clear hfz45_0
              try clear hfz45_1
              try clear hfz45_2
              try clear hfz45_3
              try clear hfz52_0
              try clear hfz52_1
              try clear hfz52_2
              try clear hfz52_3
              try clear hfz55_0
              try clear hfz55_1
              try clear hfz55_2
              try clear hfz55_3
              try clear hfz60_0
              try clear hfz60_1
              try clear hfz60_2
              try clear hfz60_3
              try clear hfz63_0
              try clear hfz63_1
              try clear hfz63_2
              try clear hfz63_3
              try clear hfz84_0
              try clear hfz84_1
              try clear hfz84_2
              try clear hfz84_3
              try clear hfz8_0
              try clear hfz8_1
              try clear hfz8_2
              try clear hfz8_3
              try clear hfz93_0
              try clear hfz93_1
              try clear hfz93_2
              try clear hfz93_3
              try clear hfz96_0
              try clear hfz96_1
              try clear hfz96_2
              try clear hfz96_3
              try clear p2
              obtain ⟨kq, x108_120, rfl, HA, HJ120, HO_120003, HO_127003, HO_138003, HO_175003, BK101, BK119, BK126, BK137, BK174, HB⟩ := hcut
              have hl138003_120 := (Kd.R_reads' HO_138003.out).1
              rw [hl138003_120] at HO_138003
              (try simp only [hl138003_120])
              (try simp only [hl138003_120] at BK101)
              (try simp only [hl138003_120] at BK119)
              (try simp only [hl138003_120] at BK126)
              (try simp only [hl138003_120] at BK137)
              (try simp only [hl138003_120] at BK174)
              (try simp only [hl138003_120] at HO_120003)
              (try simp only [hl138003_120] at HO_127003)
              (try simp only [hl138003_120] at HO_175003)
              cases kq with
              | zero => exact absurd HA.out (by simp [laws_FnExactMapImage.j2])
              | succ kj120 =>
               have H := HA.out
               clear HA
               simp only [laws_FnExactMapImage.j2] at H
               by_cases c166 : x108_120 = true
               ·
                subst c166
                have H1 : (some false) = some r := by rw [if_pos rfl] at H; exact H
                clear H
                have H := H1
                clear H1
                obtain rfl := Option.some.inj H
                go_wp2
                go_ret
                exact ⟨by first | rfl | (simp [errW_none, errW_some] <;> rfl) | (simp [*, errW_none, errW_some] <;> rfl), by repeat (first | (with_reducible first | exact HB.out | apply below_alloc | apply pw_below_drewN | apply below_drew1 | refine below_set ?_ GE101.out | refine below_set ?_ GE119.out | refine below_set ?_ GE126.out | refine below_set ?_ GE137.out | refine below_set ?_ GE174.out) | exact HB.out)⟩
               ·
                replace c166 := Bool.eq_false_iff.mpr c166
                subst c166
                have H1 : ((laws_heldImage.f kj120 t130 t131 t132 t156 1).bind fun t176 => (if t176 < 0 then (some false) else (if t176 = t155 then (some true) else (some false)))) = some r := by rw [if_neg (show ¬ (false = true) by decide)] at H; exact H
                clear H
                have H := H1
                clear H1
                replace H := Option.bind_eq_some_iff.mp H
                obtain ⟨t176, A1670, H⟩ := H
                replace H : (if t176 < 0 then (some false) else (if t176 = t155 then (some true) else (some false))) = some r := H
                have A167 := Aside0.mk A1670
                clear A1670
                by_cases c168 : t176 < 0
                ·
                 rw [if_pos c168] at H
                 have c168b0 : decide (t176 < 0) = true := decide_eq_true c168
                 clear c168
                 obtain rfl := Option.some.inj H
                 have hnb169 := NB137_101.out
                 have hnc169 := NB101_137.out
                 have hnb170 := NB137_119.out
                 have hnc170 := NB119_137.out
                 have hnb171 := NB137_126.out
                 have hnc171 := NB126_137.out
                 have hnb172 := NB137_174.out
                 have hnc172 := NB174_137.out
                 obtain ⟨hcz173_0, hcz173_1, hcz173_2, hcz173_3, hfz173_0, hfz173_1, hfz173_2, hfz173_3⟩ := blk4_ BK137.out
                 go_wp2_with (first | ((with_reducible refine gate_callee (f := 36) rfl ?_); refine goesL_ (some 111) rfl rfl Try.func36 (by kernel_rfl) rfl #[.agg #[.int .i64 t130, .int .i64 t131, .int .i64 t132, .slice Ao46 t156.length co46], .int .i64 1] rfl (by simp only [List.map_toArray, List.map_cons, List.map_nil]; rfl) ?_; (with_reducible refine (laws_heldImage.calls kj120 t130 t131 t132 _ _ t156 1 t176 _ ?side1 ?side2 A167.out).mono ?_); (case side1 => repeat (first | exact (Kd.R_reads' HO_138003.out).2.2 | (with_reducible refine Kd.C_alloc ?_ _) | (with_reducible refine Kd.C_drewN ?_ _) | (with_reducible refine Kd.C_drew ?_))); (case side2 => exact (Kd.R_reads' HO_138003.out).2.1); rintro e w174 ⟨rfl, hb⟩; refine ⟨_, rfl, ?_⟩; replace HO_120003 := am_ (Kd.R_below (by exact HO_120003.out) hb); replace HO_127003 := am_ (Kd.R_below (by exact HO_127003.out) hb); replace HO_138003 := am_ (Kd.R_below (by exact HO_138003.out) hb); replace HO_175003 := am_ (Kd.R_below (by exact HO_175003.out) hb); replace BK101 := am_ (blk_below (by exact BK101.out) hb); replace BK119 := am_ (blk_below (by exact BK119.out) hb); replace BK126 := am_ (blk_below (by exact BK126.out) hb); replace BK137 := am_ (blk_below (by exact BK137.out) hb); replace BK174 := am_ (blk_below (by exact BK174.out) hb); replace HB := am_ (below_step (by repeat (first | (with_reducible first | exact HB.out | apply below_alloc | apply pw_below_drewN | apply below_drew1 | refine below_set ?_ GE101.out | refine below_set ?_ GE119.out | refine below_set ?_ GE126.out | refine below_set ?_ GE137.out | refine below_set ?_ GE174.out) | exact HB.out)) hb); (try clear hb); (try clear hb2); (try clear hk); (try clear hi)))
                 go_ret
                 exact ⟨by first | rfl | (simp [errW_none, errW_some] <;> rfl) | (simp [*, errW_none, errW_some] <;> rfl), by repeat (first | (with_reducible first | exact HB.out | apply below_alloc | apply pw_below_drewN | apply below_drew1 | refine below_set ?_ GE101.out | refine below_set ?_ GE119.out | refine below_set ?_ GE126.out | refine below_set ?_ GE137.out | refine below_set ?_ GE174.out) | exact HB.out)⟩
                ·
                 rw [if_neg c168] at H
                 have c168b0 : decide (t176 < 0) = false := decide_eq_false c168
                 clear c168
                 by_cases c175 : t176 = t155
                 ·
                  rw [if_pos c175] at H
                  have c175b0 : (t176 == t155) = true := beq_iff_eq.mpr c175
                  have c175b1 : (t176 != t155) = false := bne_eq_false_iff_eq.mpr c175
                  clear c175
                  obtain rfl := Option.some.inj H
                  have hnb176 := NB137_101.out
                  have hnc176 := NB101_137.out
                  have hnb177 := NB137_119.out
                  have hnc177 := NB119_137.out
                  have hnb178 := NB137_126.out
                  have hnc178 := NB126_137.out
                  have hnb179 := NB137_174.out
                  have hnc179 := NB174_137.out
                  obtain ⟨hcz180_0, hcz180_1, hcz180_2, hcz180_3, hfz180_0, hfz180_1, hfz180_2, hfz180_3⟩ := blk4_ BK137.out
                  go_wp2_with (first | ((with_reducible refine gate_callee (f := 36) rfl ?_); refine goesL_ (some 111) rfl rfl Try.func36 (by kernel_rfl) rfl #[.agg #[.int .i64 t130, .int .i64 t131, .int .i64 t132, .slice Ao46 t156.length co46], .int .i64 1] rfl (by simp only [List.map_toArray, List.map_cons, List.map_nil]; rfl) ?_; (with_reducible refine (laws_heldImage.calls kj120 t130 t131 t132 _ _ t156 1 t176 _ ?side1 ?side2 A167.out).mono ?_); (case side1 => repeat (first | exact (Kd.R_reads' HO_138003.out).2.2 | (with_reducible refine Kd.C_alloc ?_ _) | (with_reducible refine Kd.C_drewN ?_ _) | (with_reducible refine Kd.C_drew ?_))); (case side2 => exact (Kd.R_reads' HO_138003.out).2.1); rintro e w181 ⟨rfl, hb⟩; refine ⟨_, rfl, ?_⟩; replace HO_120003 := am_ (Kd.R_below (by exact HO_120003.out) hb); replace HO_127003 := am_ (Kd.R_below (by exact HO_127003.out) hb); replace HO_138003 := am_ (Kd.R_below (by exact HO_138003.out) hb); replace HO_175003 := am_ (Kd.R_below (by exact HO_175003.out) hb); replace BK101 := am_ (blk_below (by exact BK101.out) hb); replace BK119 := am_ (blk_below (by exact BK119.out) hb); replace BK126 := am_ (blk_below (by exact BK126.out) hb); replace BK137 := am_ (blk_below (by exact BK137.out) hb); replace BK174 := am_ (blk_below (by exact BK174.out) hb); replace HB := am_ (below_step (by repeat (first | (with_reducible first | exact HB.out | apply below_alloc | apply pw_below_drewN | apply below_drew1 | refine below_set ?_ GE101.out | refine below_set ?_ GE119.out | refine below_set ?_ GE126.out | refine below_set ?_ GE137.out | refine below_set ?_ GE174.out) | exact HB.out)) hb); (try clear hb); (try clear hb2); (try clear hk); (try clear hi)))
                  go_ret
                  exact ⟨by first | rfl | (simp [errW_none, errW_some] <;> rfl) | (simp [*, errW_none, errW_some] <;> rfl), by repeat (first | (with_reducible first | exact HB.out | apply below_alloc | apply pw_below_drewN | apply below_drew1 | refine below_set ?_ GE101.out | refine below_set ?_ GE119.out | refine below_set ?_ GE126.out | refine below_set ?_ GE137.out | refine below_set ?_ GE174.out) | exact HB.out)⟩
                 ·
                  rw [if_neg c175] at H
                  have c175b0 : (t176 == t155) = false := beq_eq_false_iff_ne.mpr c175
                  have c175b1 : (t176 != t155) = true := bne_iff_ne.mpr c175
                  obtain rfl := Option.some.inj H
                  have hnb182 := NB137_101.out
                  have hnc182 := NB101_137.out
                  have hnb183 := NB137_119.out
                  have hnc183 := NB119_137.out
                  have hnb184 := NB137_126.out
                  have hnc184 := NB126_137.out
                  have hnb185 := NB137_174.out
                  have hnc185 := NB174_137.out
                  obtain ⟨hcz186_0, hcz186_1, hcz186_2, hcz186_3, hfz186_0, hfz186_1, hfz186_2, hfz186_3⟩ := blk4_ BK137.out
                  go_wp2_with (first | ((with_reducible refine gate_callee (f := 36) rfl ?_); refine goesL_ (some 111) rfl rfl Try.func36 (by kernel_rfl) rfl #[.agg #[.int .i64 t130, .int .i64 t131, .int .i64 t132, .slice Ao46 t156.length co46], .int .i64 1] rfl (by simp only [List.map_toArray, List.map_cons, List.map_nil]; rfl) ?_; (with_reducible refine (laws_heldImage.calls kj120 t130 t131 t132 _ _ t156 1 t176 _ ?side1 ?side2 A167.out).mono ?_); (case side1 => repeat (first | exact (Kd.R_reads' HO_138003.out).2.2 | (with_reducible refine Kd.C_alloc ?_ _) | (with_reducible refine Kd.C_drewN ?_ _) | (with_reducible refine Kd.C_drew ?_))); (case side2 => exact (Kd.R_reads' HO_138003.out).2.1); rintro e w187 ⟨rfl, hb⟩; refine ⟨_, rfl, ?_⟩; replace HO_120003 := am_ (Kd.R_below (by exact HO_120003.out) hb); replace HO_127003 := am_ (Kd.R_below (by exact HO_127003.out) hb); replace HO_138003 := am_ (Kd.R_below (by exact HO_138003.out) hb); replace HO_175003 := am_ (Kd.R_below (by exact HO_175003.out) hb); replace BK101 := am_ (blk_below (by exact BK101.out) hb); replace BK119 := am_ (blk_below (by exact BK119.out) hb); replace BK126 := am_ (blk_below (by exact BK126.out) hb); replace BK137 := am_ (blk_below (by exact BK137.out) hb); replace BK174 := am_ (blk_below (by exact BK174.out) hb); replace HB := am_ (below_step (by repeat (first | (with_reducible first | exact HB.out | apply below_alloc | apply pw_below_drewN | apply below_drew1 | refine below_set ?_ GE101.out | refine below_set ?_ GE119.out | refine below_set ?_ GE126.out | refine below_set ?_ GE137.out | refine below_set ?_ GE174.out) | exact HB.out)) hb); (try clear hb); (try clear hb2); (try clear hk); (try clear hi)))
                  go_ret
                  exact ⟨by first | rfl | (simp [errW_none, errW_some] <;> rfl) | (simp [*, errW_none, errW_some] <;> rfl), by repeat (first | (with_reducible first | exact HB.out | apply below_alloc | apply pw_below_drewN | apply below_drew1 | refine below_set ?_ GE101.out | refine below_set ?_ GE119.out | refine below_set ?_ GE126.out | refine below_set ?_ GE137.out | refine below_set ?_ GE174.out) | exact HB.out)⟩
            ·
             rw [if_neg c117] at H
             have c117b0 : (t157 == t155) = false := beq_eq_false_iff_ne.mpr c117
             have c117b1 : (t157 != t155) = true := bne_iff_ne.mpr c117
             obtain rfl := Option.some.inj H
             have hnb188 := NB137_101.out
             have hnc188 := NB101_137.out
             have hnb189 := NB137_119.out
             have hnc189 := NB119_137.out
             have hnb190 := NB137_126.out
             have hnc190 := NB126_137.out
             obtain ⟨hcz191_0, hcz191_1, hcz191_2, hcz191_3, hfz191_0, hfz191_1, hfz191_2, hfz191_3⟩ := blk4_ BK137.out
             go_wp2_with (first | ((with_reducible refine gate_callee (f := 21) rfl ?_); refine goesL_ (some 83) rfl rfl Try.func21 (by kernel_rfl) rfl #[.agg #[.int .i64 t130, .int .i64 t131, .int .i64 t132, .slice Ao46 t133.length co46], .int .i64 1] rfl (by simp only [List.map_toArray, List.map_cons, List.map_nil]; rfl) ?_; (with_reducible refine (laws_markImage.calls kj73 t130 t131 t132 (fun k_ => some k_ = (.slice Ao46 t133.length co46 : Value).ownBlock) (.slice Ao46 t133.length co46) t133 1 t155 t156 w _ ?side1 ?side2 A107.out).mono ?_); (case side1 => repeat (first | (with_reducible first | exact HB.out | apply below_alloc | apply pw_below_drewN | apply below_drew1 | refine below_set ?_ GE101.out | refine below_set ?_ GE119.out | refine below_set ?_ GE126.out | refine below_set ?_ GE137.out) | exact HB.out)); (case side2 => exact Kd.R_tight rfl HO_138003.out); rintro e w192 ⟨rfl, hy0, hb, hkp⟩; refine ⟨_, rfl, ?_⟩; replace HO_120003 := am_ (Kd.R_mono (ok' := fun k_ => some k_ ≠ (.slice Ao36 t151.length co36 : Value).ownBlock ∧ some k_ ≠ (.slice Ao46 t133.length co46 : Value).ownBlock) (Kd.R_keptB (HO_120003.out) hkp (fun k_ hk_ hs_ => by simp only [hk_, ne_eq, not_false_eq_true] at hs_)) (fun k_ hk_ => by simp only [hk_, ne_eq, not_false_eq_true, and_self])); replace HO_127003 := am_ (Kd.R_mono (ok' := fun k_ => some k_ ≠ (.slice Ao29 t115.length co29 : Value).ownBlock ∧ some k_ ≠ (.slice Ao46 t133.length co46 : Value).ownBlock) (Kd.R_keptB (HO_127003.out) hkp (fun k_ hk_ hs_ => by simp only [hk_, ne_eq, not_false_eq_true] at hs_)) (fun k_ hk_ => by simp only [hk_, ne_eq, not_false_eq_true, and_self])); replace BK101 := am_ (blk_kept (by exact BK101.out) hkp (fun hs_ => (fun e_ => (Kd.R_ne HO_138003.out BK101.out (by decide)) e_) hs_)); replace BK119 := am_ (blk_kept (by exact BK119.out) hkp (fun hs_ => (fun e_ => (Kd.R_ne HO_138003.out BK119.out (by decide)) e_) hs_)); replace BK126 := am_ (blk_kept (by exact BK126.out) hkp (fun hs_ => (fun e_ => (Kd.R_ne HO_138003.out BK126.out (by decide)) e_) hs_)); replace BK137 := am_ (blk_kept (by exact BK137.out) hkp (fun hs_ => (fun e_ => (Kd.R_ne HO_138003.out BK137.out (by decide)) e_) hs_)); replace HO_138003 := am_ (Kd.R_reok rfl hy0 (fun k_ e_ => HO_138003.out.1 k_ e_)); replace HB := am_ (hb); (try clear hb); (try clear hkp); (try clear hy0); obtain ⟨hcz193_0, hcz193_1, hcz193_2, hcz193_3, hfz193_0, hfz193_1, hfz193_2, hfz193_3⟩ := blk4_ BK137.out) | ((with_reducible refine gate_callee (f := 36) rfl ?_); refine goesL_ (some 86) rfl rfl Try.func36 (by kernel_rfl) rfl #[.agg #[.int .i64 t130, .int .i64 t131, .int .i64 t132, .slice Ao46 t156.length co46], .int .i64 1] rfl (by (try simp only [List.map_toArray, List.map_cons, List.map_nil]); first | done | (rw [show t156.length = t133.length from (Kd.R_reads' HO_138003.out).1.symm] <;> rfl) | rfl | (simp only [List.length_drop, List.length_take]; rfl)) ?_; (with_reducible refine (laws_heldImage.calls kj73 t130 t131 t132 _ _ t156 1 t157 _ ?side1 ?side2 A108.out).mono ?_); (case side1 => repeat (first | exact (Kd.R_reads' HO_138003.out).2.2 | (with_reducible refine Kd.C_alloc ?_ _) | (with_reducible refine Kd.C_drewN ?_ _) | (with_reducible refine Kd.C_drew ?_))); (case side2 => rw [show t156.length = t133.length from (Kd.R_reads' HO_138003.out).1.symm]; exact (Kd.R_reads' HO_138003.out).2.1); rintro e w194 ⟨rfl, hb⟩; refine ⟨_, rfl, ?_⟩; replace HO_120003 := am_ (Kd.R_below (by exact HO_120003.out) hb); replace HO_127003 := am_ (Kd.R_below (by exact HO_127003.out) hb); replace HO_138003 := am_ (Kd.R_below (by exact HO_138003.out) hb); replace BK101 := am_ (blk_below (by exact BK101.out) hb); replace BK119 := am_ (blk_below (by exact BK119.out) hb); replace BK126 := am_ (blk_below (by exact BK126.out) hb); replace BK137 := am_ (blk_below (by exact BK137.out) hb); replace HB := am_ (below_step (by repeat (first | (with_reducible first | exact HB.out | apply below_alloc | apply pw_below_drewN | apply below_drew1 | refine below_set ?_ GE101.out | refine below_set ?_ GE119.out | refine below_set ?_ GE126.out | refine below_set ?_ GE137.out) | exact HB.out)) hb); (try clear hb); (try clear hb2); (try clear hk); (try clear hi)))
             go_ret
             exact ⟨by first | rfl | (simp [errW_none, errW_some] <;> rfl) | (simp [*, errW_none, errW_some] <;> rfl), by repeat (first | (with_reducible first | exact HB.out | apply below_alloc | apply pw_below_drewN | apply below_drew1 | refine below_set ?_ GE101.out | refine below_set ?_ GE119.out | refine below_set ?_ GE126.out | refine below_set ?_ GE137.out) | exact HB.out)⟩
       ·
        replace c71 := Bool.eq_false_iff.mpr c71
        subst c71
        have H1 : (some false) = some r := by rw [if_neg (show ¬ (false = true) by decide)] at H; exact H
        clear H
        have H := H1
        clear H1
        obtain rfl := Option.some.inj H
        try go_wp2
        replace HO_9 := am_ (Kd.R_drew HO_9.out)
        replace HO_120003 := am_ (Kd.R_drew HO_120003.out)
        replace HO_127003 := am_ (Kd.R_drew HO_127003.out)
        replace HO_138003 := am_ (Kd.R_drew HO_138003.out)
        replace BK101 := am_ (blk_drew BK101.out)
        replace BK119 := am_ (blk_drew BK119.out)
        replace BK126 := am_ (blk_drew BK126.out)
        replace BK137 := am_ (blk_drew BK137.out)
        replace HB := am_ (below_drew1 HB.out)
        refine start_ (n := 5) (S := fun w' => w'.cell? ⟨gb126, 0, none⟩ = some (.int .i64 t120) ∧ w'.cell? ⟨gb126, 1, none⟩ = some (.int .i64 t121) ∧ w'.cell? ⟨gb126, 2, none⟩ = some (.int .i64 t122) ∧ w'.cell? ⟨gb126, 3, none⟩ = some (.slice Ao36 t123.length co36) ∧ w'.cell? ⟨gb101, 0, none⟩ = some (.int .i64 a0_0) ∧ w'.cell? ⟨gb101, 1, none⟩ = some (.int .i64 a0_1) ∧ w'.cell? ⟨gb101, 2, none⟩ = some (.int .i64 a0_2) ∧ w'.cell? ⟨gb101, 3, none⟩ = some (.slice A0_3 l0_3.length c0_3)) (ds := []) #[false, false, false, false, false] (by kernel_rfl) rfl rfl ⟨(blk_cell BK126.out 0).trans rfl, (blk_cell BK126.out 1).trans rfl, (blk_cell BK126.out 2).trans rfl, (blk_cell BK126.out 3).trans rfl, (blk_cell BK101.out 0).trans rfl, (blk_cell BK101.out 1).trans rfl, (blk_cell BK101.out 2).trans rfl, (blk_cell BK101.out 3).trans rfl⟩ (fun hHeld => ?_)
        generalize wc.drew = w195 at HO_9 HO_120003 HO_127003 HO_138003 BK101 BK119 BK126 BK137 HB hHeld ⊢
        refine take_ (i := 0) (N := some 52) (v := ?_) (a' := ?_) #[true, false, false, false, false] rfl rfl (by kernel_rfl) (fun _ _ _ h => h) (Or.inl ⟨by rfl, ?_⟩) hHeld ?_ ?_
        rotate_left
        ·
         rintro w' ⟨s0, s1, s2, s3, s4, s5, s6, s7⟩
         go_simp
         with_reducible rfl
        rotate_left
        ·
         simp only [Act.put, List.setIfInBounds_toArray, List.set_cons_zero, List.set_cons_succ, i64_w, i32_w]
         rfl
        refine take_ (i := 1) (N := some 53) (v := ?_) (a' := ?_) #[true, true, false, false, false] rfl rfl (by kernel_rfl) (fun _ _ _ h => h) (Or.inl ⟨by rfl, ?_⟩) hHeld ?_ ?_
        rotate_left
        ·
         rintro w' ⟨s0, s1, s2, s3, s4, s5, s6, s7⟩
         go_simp
         with_reducible rfl
        rotate_left
        ·
         simp only [Act.put, List.setIfInBounds_toArray, List.set_cons_zero, List.set_cons_succ, i64_w, i32_w]
         rfl
        refine one_ (i := 2) (N := some 54) #[true, true, true, false, false] rfl rfl (by kernel_rfl) (by decide) (fun K hK => ?_)
        refine goes_ Try.func17 (by kernel_rfl) rfl #[.agg #[.int .i64 a0_0, .int .i64 a0_1, .int .i64 a0_2, .slice A0_3 l0_3.length c0_3]] (by rfl) rfl rfl (by simp only [List.map_toArray, List.map_cons, List.map_nil]; rfl) ?_
        with_reducible refine (laws_toImage.calls kj15 a0_0 a0_1 a0_2 _ _ l0_3 t139 t140 t141 t142 _ ?side1 ?side2 A66.out).mono ?_
        (case side1 => repeat (first | exact (Kd.C_below HR0_3.out HB.out) | (with_reducible refine Kd.C_alloc ?_ _) | (with_reducible refine Kd.C_drewN ?_ _) | (with_reducible refine Kd.C_drew ?_)))
        (case side2 => exact HC0_3.out)
        rintro e w196 ⟨v143, rfl, ho0, hb⟩
        refine ⟨_, rfl, ?_⟩
        have HO144 := am_ (Kd.R_lower (Kd.R_new' (Kd.R_new' (Kd.R_new' (Kd.R_new' ho0 (Kd.R_lt (by exact HO_9.out))) (Kd.R_lt (by exact HO_120003.out))) (Kd.R_lt (by exact HO_127003.out))) (Kd.R_lt (by exact HO_138003.out))) (below_size (by repeat (first | (with_reducible first | exact HB.out | apply below_alloc | apply pw_below_drewN | apply below_drew1 | refine below_set ?_ GE101.out | refine below_set ?_ GE119.out | refine below_set ?_ GE126.out | refine below_set ?_ GE137.out) | exact HB.out))))
        replace HO_9 := am_ (Kd.R_elder' (by exact HO_9.out) (Kd.R_base ho0) hb)
        replace HO_120003 := am_ (Kd.R_elder' (by exact HO_120003.out) (Kd.R_base ho0) hb)
        replace HO_127003 := am_ (Kd.R_elder' (by exact HO_127003.out) (Kd.R_base ho0) hb)
        replace HO_138003 := am_ (Kd.R_elder' (by exact HO_138003.out) (Kd.R_base ho0) hb)
        replace BK101 := am_ (blk_below (by exact BK101.out) hb)
        replace BK119 := am_ (blk_below (by exact BK119.out) hb)
        replace BK126 := am_ (blk_below (by exact BK126.out) hb)
        replace BK137 := am_ (blk_below (by exact BK137.out) hb)
        replace HB := am_ (below_step (by repeat (first | (with_reducible first | exact HB.out | apply below_alloc | apply pw_below_drewN | apply below_drew1 | refine below_set ?_ GE101.out | refine below_set ?_ GE119.out | refine below_set ?_ GE126.out | refine below_set ?_ GE137.out) | exact HB.out)) hb)
        (try clear hb)
        (try clear hb2)
        (try clear hk)
        (try clear hi)
        (try clear ho0)
        obtain ⟨Ao197, co197, eo197⟩ := Kd.R_slice HO144.out
        (first | subst eo197 | (injection eo197 with f1_ f2_ f3_; have f4_ := f1_.symm; have f5_ := f3_.symm; clear f1_ f2_ f3_; subst f4_; subst f5_))
        refine hK.out _ _ ⟨(blk_cell BK126.out 0).trans rfl, (blk_cell BK126.out 1).trans rfl, (blk_cell BK126.out 2).trans rfl, (blk_cell BK126.out 3).trans rfl, (blk_cell BK101.out 0).trans rfl, (blk_cell BK101.out 1).trans rfl, (blk_cell BK101.out 2).trans rfl, (blk_cell BK101.out 3).trans rfl⟩ (fun hHeld => ?_)
        clear hK K
        refine norm_ (a' := ?_) ?_ ?_
        rotate_left
        ·
         show Act.put _ (some 54) _ = _
         simp only [Act.put, List.setIfInBounds_toArray, List.set_cons_zero, List.set_cons_succ, i64_w, i32_w]
         rfl
        refine one_ (i := 3) (N := some 55) #[true, true, true, true, false] rfl rfl (by kernel_rfl) (by decide) (fun K hK => ?_)
        refine goes_ Try.func20 (by kernel_rfl) rfl #[.agg #[.int .i64 t120, .int .i64 t121, .int .i64 t122, .slice Ao36 t123.length co36], .agg #[.int .i64 t139, .int .i64 t140, .int .i64 t141, .slice Ao197 t142.length co197]] (by rfl) rfl rfl (by simp only [List.map_toArray, List.map_cons, List.map_nil]; rfl) ?_
        with_reducible refine (laws_eqImage.calls kj15 t120 t121 t122 _ _ t123 t139 t140 t141 _ _ t142 true _ ?side1 ?side2 ?side3 ?side4 A67.out).mono ?_
        (case side1 => repeat (first | exact (Kd.R_reads' HO_127003.out).2.2 | (with_reducible refine Kd.C_alloc ?_ _) | (with_reducible refine Kd.C_drewN ?_ _) | (with_reducible refine Kd.C_drew ?_)))
        (case side2 => exact (Kd.R_reads' HO_127003.out).2.1)
        (case side3 => repeat (first | exact (Kd.R_reads' HO144.out).2.2 | (with_reducible refine Kd.C_alloc ?_ _) | (with_reducible refine Kd.C_drewN ?_ _) | (with_reducible refine Kd.C_drew ?_)))
        (case side4 => exact (Kd.R_reads' HO144.out).2.1)
        rintro e w198 ⟨rfl, hb⟩
        refine ⟨_, rfl, ?_⟩
        replace HO_9 := am_ (Kd.R_below (by exact HO_9.out) hb)
        replace HO_120003 := am_ (Kd.R_below (by exact HO_120003.out) hb)
        replace HO_127003 := am_ (Kd.R_below (by exact HO_127003.out) hb)
        replace HO_138003 := am_ (Kd.R_below (by exact HO_138003.out) hb)
        replace HO144 := am_ (Kd.R_below (by exact HO144.out) hb)
        replace BK101 := am_ (blk_below (by exact BK101.out) hb)
        replace BK119 := am_ (blk_below (by exact BK119.out) hb)
        replace BK126 := am_ (blk_below (by exact BK126.out) hb)
        replace BK137 := am_ (blk_below (by exact BK137.out) hb)
        replace HB := am_ (below_step (by repeat (first | (with_reducible first | exact HB.out | apply below_alloc | apply pw_below_drewN | apply below_drew1 | refine below_set ?_ GE101.out | refine below_set ?_ GE119.out | refine below_set ?_ GE126.out | refine below_set ?_ GE137.out) | exact HB.out)) hb)
        (try clear hb)
        (try clear hb2)
        (try clear hk)
        (try clear hi)
        refine hK.out _ _ ⟨(blk_cell BK126.out 0).trans rfl, (blk_cell BK126.out 1).trans rfl, (blk_cell BK126.out 2).trans rfl, (blk_cell BK126.out 3).trans rfl, (blk_cell BK101.out 0).trans rfl, (blk_cell BK101.out 1).trans rfl, (blk_cell BK101.out 2).trans rfl, (blk_cell BK101.out 3).trans rfl⟩ (fun hHeld => ?_)
        clear hK K
        refine norm_ (a' := ?_) ?_ ?_
        rotate_left
        ·
         show Act.put _ (some 55) _ = _
         simp only [Act.put, List.setIfInBounds_toArray, List.set_cons_zero, List.set_cons_succ, i64_w, i32_w]
         rfl
        refine pure_ (i := 4) (N := some 56) (v := ?_) (a' := ?_) #[true, true, true, true, true] rfl rfl (by kernel_rfl) (fun _ _ _ h => h) (Or.inl ⟨by rfl, ?_⟩) ?_ ?_
        rotate_left
        ·
         intro w'
         go_simp
         with_reducible rfl
        rotate_left
        ·
         simp only [Act.put, List.setIfInBounds_toArray, List.set_cons_zero, List.set_cons_succ, i64_w, i32_w]
         rfl
        refine done_ (by kernel_rfl) ?_
        try go_wp2_with (first | ((with_reducible refine gate_callee (f := 35) rfl ?_); refine goesL_ (some 59) rfl rfl Try.func35 (by kernel_rfl) rfl #[.slice A1 l1.length c1] rfl (by simp only [List.map_toArray, List.map_cons, List.map_nil]; rfl) ?_; (with_reducible refine (laws_toIntS.calls kj15 _ _ l1 t146 _ ?side1 ?side2 A69.out).mono ?_); (case side1 => repeat (first | exact (Kd.C_below HR1.out HB.out) | (with_reducible refine Kd.C_alloc ?_ _) | (with_reducible refine Kd.C_drewN ?_ _) | (with_reducible refine Kd.C_drew ?_))); (case side2 => exact HC1.out); rintro e w199 ⟨v147, rfl, ho0, hb⟩; refine ⟨_, rfl, ?_⟩; have HO148 := am_ (Kd.R_lower (Kd.R_new' (Kd.R_new' (Kd.R_new' (Kd.R_new' (Kd.R_new' ho0 (Kd.R_lt (by exact HO_9.out))) (Kd.R_lt (by exact HO_120003.out))) (Kd.R_lt (by exact HO_127003.out))) (Kd.R_lt (by exact HO_138003.out))) (Kd.R_lt (by exact HO144.out))) (below_size (by repeat (first | (with_reducible first | exact HB.out | apply below_alloc | apply pw_below_drewN | apply below_drew1 | refine below_set ?_ GE101.out | refine below_set ?_ GE119.out | refine below_set ?_ GE126.out | refine below_set ?_ GE137.out) | exact HB.out)))); replace HO_9 := am_ (Kd.R_elder' (by exact HO_9.out) (Kd.R_base ho0) hb); replace HO_120003 := am_ (Kd.R_elder' (by exact HO_120003.out) (Kd.R_base ho0) hb); replace HO_127003 := am_ (Kd.R_elder' (by exact HO_127003.out) (Kd.R_base ho0) hb); replace HO_138003 := am_ (Kd.R_elder' (by exact HO_138003.out) (Kd.R_base ho0) hb); replace HO144 := am_ (Kd.R_elder' (by exact HO144.out) (Kd.R_base ho0) hb); replace BK101 := am_ (blk_below (by exact BK101.out) hb); replace BK119 := am_ (blk_below (by exact BK119.out) hb); replace BK126 := am_ (blk_below (by exact BK126.out) hb); replace BK137 := am_ (blk_below (by exact BK137.out) hb); replace HB := am_ (below_step (by repeat (first | (with_reducible first | exact HB.out | apply below_alloc | apply pw_below_drewN | apply below_drew1 | refine below_set ?_ GE101.out | refine below_set ?_ GE119.out | refine below_set ?_ GE126.out | refine below_set ?_ GE137.out) | exact HB.out)) hb); (try clear hb); (try clear hb2); (try clear hk); (try clear hi); (try clear ho0); obtain ⟨Ao200, co200, eo200⟩ := Kd.R_slice HO148.out; subst eo200) | ((with_reducible refine gate_callee (f := 19) rfl ?_); refine goesL_ (some 60) rfl rfl Try.func19 (by kernel_rfl) rfl #[.slice Ao39 t127.length co39, .slice Ao200 t146.length co200] rfl (by simp only [List.map_toArray, List.map_cons, List.map_nil]; rfl) ?_; (with_reducible refine (laws_eqIntS.calls kj15 _ _ t127 _ _ t146 false _ ?side1 ?side2 ?side3 ?side4 A70.out).mono ?_); (case side1 => repeat (first | exact (Kd.R_reads' HO_9.out).2.2 | (with_reducible refine Kd.C_alloc ?_ _) | (with_reducible refine Kd.C_drewN ?_ _) | (with_reducible refine Kd.C_drew ?_))); (case side2 => exact (Kd.R_reads' HO_9.out).2.1); (case side3 => repeat (first | exact (Kd.R_reads' HO148.out).2.2 | (with_reducible refine Kd.C_alloc ?_ _) | (with_reducible refine Kd.C_drewN ?_ _) | (with_reducible refine Kd.C_drew ?_))); (case side4 => exact (Kd.R_reads' HO148.out).2.1); rintro e w' ⟨rfl, ⟨nd, rfl⟩⟩; refine ⟨_, rfl, ?_⟩))
        go_ret
        exact ⟨by first | rfl | (simp [errW_none, errW_some] <;> rfl) | (simp [*, errW_none, errW_some] <;> rfl), by repeat (first | (with_reducible first | exact HB.out | apply below_alloc | apply pw_below_drewN | apply below_drew1 | refine below_set ?_ GE101.out | refine below_set ?_ GE119.out | refine below_set ?_ GE126.out | refine below_set ?_ GE137.out) | exact HB.out)⟩
      ·
       replace c68 := Bool.eq_false_iff.mpr c68
       subst c68
       have H1 : (some false) = some r := by rw [if_neg (show ¬ (false = true) by decide)] at H; exact H
       clear H
       have H := H1
       clear H1
       obtain rfl := Option.some.inj H
       try go_wp2
       replace HO_9 := am_ (Kd.R_drew HO_9.out)
       replace HO_120003 := am_ (Kd.R_drew HO_120003.out)
       replace HO_127003 := am_ (Kd.R_drew HO_127003.out)
       replace HO_138003 := am_ (Kd.R_drew HO_138003.out)
       replace BK101 := am_ (blk_drew BK101.out)
       replace BK119 := am_ (blk_drew BK119.out)
       replace BK126 := am_ (blk_drew BK126.out)
       replace BK137 := am_ (blk_drew BK137.out)
       replace HB := am_ (below_drew1 HB.out)
       refine start_ (n := 5) (S := fun w' => w'.cell? ⟨gb126, 0, none⟩ = some (.int .i64 t120) ∧ w'.cell? ⟨gb126, 1, none⟩ = some (.int .i64 t121) ∧ w'.cell? ⟨gb126, 2, none⟩ = some (.int .i64 t122) ∧ w'.cell? ⟨gb126, 3, none⟩ = some (.slice Ao36 t123.length co36) ∧ w'.cell? ⟨gb101, 0, none⟩ = some (.int .i64 a0_0) ∧ w'.cell? ⟨gb101, 1, none⟩ = some (.int .i64 a0_1) ∧ w'.cell? ⟨gb101, 2, none⟩ = some (.int .i64 a0_2) ∧ w'.cell? ⟨gb101, 3, none⟩ = some (.slice A0_3 l0_3.length c0_3)) (ds := []) #[false, false, false, false, false] (by kernel_rfl) rfl rfl ⟨(blk_cell BK126.out 0).trans rfl, (blk_cell BK126.out 1).trans rfl, (blk_cell BK126.out 2).trans rfl, (blk_cell BK126.out 3).trans rfl, (blk_cell BK101.out 0).trans rfl, (blk_cell BK101.out 1).trans rfl, (blk_cell BK101.out 2).trans rfl, (blk_cell BK101.out 3).trans rfl⟩ (fun hHeld => ?_)
       generalize wc.drew = w201 at HO_9 HO_120003 HO_127003 HO_138003 BK101 BK119 BK126 BK137 HB hHeld ⊢
       refine take_ (i := 0) (N := some 52) (v := ?_) (a' := ?_) #[true, false, false, false, false] rfl rfl (by kernel_rfl) (fun _ _ _ h => h) (Or.inl ⟨by rfl, ?_⟩) hHeld ?_ ?_
       rotate_left
       ·
        rintro w' ⟨s0, s1, s2, s3, s4, s5, s6, s7⟩
        go_simp
        with_reducible rfl
       rotate_left
       ·
        simp only [Act.put, List.setIfInBounds_toArray, List.set_cons_zero, List.set_cons_succ, i64_w, i32_w]
        rfl
       refine take_ (i := 1) (N := some 53) (v := ?_) (a' := ?_) #[true, true, false, false, false] rfl rfl (by kernel_rfl) (fun _ _ _ h => h) (Or.inl ⟨by rfl, ?_⟩) hHeld ?_ ?_
       rotate_left
       ·
        rintro w' ⟨s0, s1, s2, s3, s4, s5, s6, s7⟩
        go_simp
        with_reducible rfl
       rotate_left
       ·
        simp only [Act.put, List.setIfInBounds_toArray, List.set_cons_zero, List.set_cons_succ, i64_w, i32_w]
        rfl
       refine one_ (i := 2) (N := some 54) #[true, true, true, false, false] rfl rfl (by kernel_rfl) (by decide) (fun K hK => ?_)
       refine goes_ Try.func17 (by kernel_rfl) rfl #[.agg #[.int .i64 a0_0, .int .i64 a0_1, .int .i64 a0_2, .slice A0_3 l0_3.length c0_3]] (by rfl) rfl rfl (by simp only [List.map_toArray, List.map_cons, List.map_nil]; rfl) ?_
       with_reducible refine (laws_toImage.calls kj15 a0_0 a0_1 a0_2 _ _ l0_3 t139 t140 t141 t142 _ ?side1 ?side2 A66.out).mono ?_
       (case side1 => repeat (first | exact (Kd.C_below HR0_3.out HB.out) | (with_reducible refine Kd.C_alloc ?_ _) | (with_reducible refine Kd.C_drewN ?_ _) | (with_reducible refine Kd.C_drew ?_)))
       (case side2 => exact HC0_3.out)
       rintro e w202 ⟨v143, rfl, ho0, hb⟩
       refine ⟨_, rfl, ?_⟩
       have HO144 := am_ (Kd.R_lower (Kd.R_new' (Kd.R_new' (Kd.R_new' (Kd.R_new' ho0 (Kd.R_lt (by exact HO_9.out))) (Kd.R_lt (by exact HO_120003.out))) (Kd.R_lt (by exact HO_127003.out))) (Kd.R_lt (by exact HO_138003.out))) (below_size (by repeat (first | (with_reducible first | exact HB.out | apply below_alloc | apply pw_below_drewN | apply below_drew1 | refine below_set ?_ GE101.out | refine below_set ?_ GE119.out | refine below_set ?_ GE126.out | refine below_set ?_ GE137.out) | exact HB.out))))
       replace HO_9 := am_ (Kd.R_elder' (by exact HO_9.out) (Kd.R_base ho0) hb)
       replace HO_120003 := am_ (Kd.R_elder' (by exact HO_120003.out) (Kd.R_base ho0) hb)
       replace HO_127003 := am_ (Kd.R_elder' (by exact HO_127003.out) (Kd.R_base ho0) hb)
       replace HO_138003 := am_ (Kd.R_elder' (by exact HO_138003.out) (Kd.R_base ho0) hb)
       replace BK101 := am_ (blk_below (by exact BK101.out) hb)
       replace BK119 := am_ (blk_below (by exact BK119.out) hb)
       replace BK126 := am_ (blk_below (by exact BK126.out) hb)
       replace BK137 := am_ (blk_below (by exact BK137.out) hb)
       replace HB := am_ (below_step (by repeat (first | (with_reducible first | exact HB.out | apply below_alloc | apply pw_below_drewN | apply below_drew1 | refine below_set ?_ GE101.out | refine below_set ?_ GE119.out | refine below_set ?_ GE126.out | refine below_set ?_ GE137.out) | exact HB.out)) hb)
       (try clear hb)
       (try clear hb2)
       (try clear hk)
       (try clear hi)
       (try clear ho0)
       obtain ⟨Ao203, co203, eo203⟩ := Kd.R_slice HO144.out
       (first | subst eo203 | (injection eo203 with f1_ f2_ f3_; have f4_ := f1_.symm; have f5_ := f3_.symm; clear f1_ f2_ f3_; subst f4_; subst f5_))
       refine hK.out _ _ ⟨(blk_cell BK126.out 0).trans rfl, (blk_cell BK126.out 1).trans rfl, (blk_cell BK126.out 2).trans rfl, (blk_cell BK126.out 3).trans rfl, (blk_cell BK101.out 0).trans rfl, (blk_cell BK101.out 1).trans rfl, (blk_cell BK101.out 2).trans rfl, (blk_cell BK101.out 3).trans rfl⟩ (fun hHeld => ?_)
       clear hK K
       refine norm_ (a' := ?_) ?_ ?_
       rotate_left
       ·
        show Act.put _ (some 54) _ = _
        simp only [Act.put, List.setIfInBounds_toArray, List.set_cons_zero, List.set_cons_succ, i64_w, i32_w]
        rfl
       refine one_ (i := 3) (N := some 55) #[true, true, true, true, false] rfl rfl (by kernel_rfl) (by decide) (fun K hK => ?_)
       refine goes_ Try.func20 (by kernel_rfl) rfl #[.agg #[.int .i64 t120, .int .i64 t121, .int .i64 t122, .slice Ao36 t123.length co36], .agg #[.int .i64 t139, .int .i64 t140, .int .i64 t141, .slice Ao203 t142.length co203]] (by rfl) rfl rfl (by simp only [List.map_toArray, List.map_cons, List.map_nil]; rfl) ?_
       with_reducible refine (laws_eqImage.calls kj15 t120 t121 t122 _ _ t123 t139 t140 t141 _ _ t142 false _ ?side1 ?side2 ?side3 ?side4 A67.out).mono ?_
       (case side1 => repeat (first | exact (Kd.R_reads' HO_127003.out).2.2 | (with_reducible refine Kd.C_alloc ?_ _) | (with_reducible refine Kd.C_drewN ?_ _) | (with_reducible refine Kd.C_drew ?_)))
       (case side2 => exact (Kd.R_reads' HO_127003.out).2.1)
       (case side3 => repeat (first | exact (Kd.R_reads' HO144.out).2.2 | (with_reducible refine Kd.C_alloc ?_ _) | (with_reducible refine Kd.C_drewN ?_ _) | (with_reducible refine Kd.C_drew ?_)))
       (case side4 => exact (Kd.R_reads' HO144.out).2.1)
       rintro e w204 ⟨rfl, hb⟩
       refine ⟨_, rfl, ?_⟩
       replace HO_9 := am_ (Kd.R_below (by exact HO_9.out) hb)
       replace HO_120003 := am_ (Kd.R_below (by exact HO_120003.out) hb)
       replace HO_127003 := am_ (Kd.R_below (by exact HO_127003.out) hb)
       replace HO_138003 := am_ (Kd.R_below (by exact HO_138003.out) hb)
       replace HO144 := am_ (Kd.R_below (by exact HO144.out) hb)
       replace BK101 := am_ (blk_below (by exact BK101.out) hb)
       replace BK119 := am_ (blk_below (by exact BK119.out) hb)
       replace BK126 := am_ (blk_below (by exact BK126.out) hb)
       replace BK137 := am_ (blk_below (by exact BK137.out) hb)
       replace HB := am_ (below_step (by repeat (first | (with_reducible first | exact HB.out | apply below_alloc | apply pw_below_drewN | apply below_drew1 | refine below_set ?_ GE101.out | refine below_set ?_ GE119.out | refine below_set ?_ GE126.out | refine below_set ?_ GE137.out) | exact HB.out)) hb)
       (try clear hb)
       (try clear hb2)
       (try clear hk)
       (try clear hi)
       refine hK.out _ _ ⟨(blk_cell BK126.out 0).trans rfl, (blk_cell BK126.out 1).trans rfl, (blk_cell BK126.out 2).trans rfl, (blk_cell BK126.out 3).trans rfl, (blk_cell BK101.out 0).trans rfl, (blk_cell BK101.out 1).trans rfl, (blk_cell BK101.out 2).trans rfl, (blk_cell BK101.out 3).trans rfl⟩ (fun hHeld => ?_)
       clear hK K
       refine norm_ (a' := ?_) ?_ ?_
       rotate_left
       ·
        show Act.put _ (some 55) _ = _
        simp only [Act.put, List.setIfInBounds_toArray, List.set_cons_zero, List.set_cons_succ, i64_w, i32_w]
        rfl
       refine pure_ (i := 4) (N := some 56) (v := ?_) (a' := ?_) #[true, true, true, true, true] rfl rfl (by kernel_rfl) (fun _ _ _ h => h) (Or.inl ⟨by rfl, ?_⟩) ?_ ?_
       rotate_left
       ·
        intro w'
        go_simp
        with_reducible rfl
       rotate_left
       ·
        simp only [Act.put, List.setIfInBounds_toArray, List.set_cons_zero, List.set_cons_succ, i64_w, i32_w]
        rfl
       refine done_ (by kernel_rfl) ?_
       try go_wp2
       go_ret
       exact ⟨by first | rfl | (simp [errW_none, errW_some] <;> rfl) | (simp [*, errW_none, errW_some] <;> rfl), by repeat (first | (with_reducible first | exact HB.out | apply below_alloc | apply pw_below_drewN | apply below_drew1 | refine below_set ?_ GE101.out | refine below_set ?_ GE119.out | refine below_set ?_ GE126.out | refine below_set ?_ GE137.out) | exact HB.out)⟩

/-- THE ONE PURE STATEMENT of laws_FnExactMapImage. -/
def laws_FnExactMapImage.Pure : Prop := ∀ (a0_0 : Int) (a0_1 : Int) (a0_2 : Int) (l0_3 : List Int) (l1 : List Int), (Lit.int .i64 a0_0).wf = true → (Lit.int .i64 a0_1).wf = true → (Lit.int .i64 a0_2).wf = true → l0_3.length ≤ maxLen → (∀ x ∈ l0_3, (Lit.int .i64 x).wf = true) → l1.length ≤ maxLen → (∀ x ∈ l1, (Lit.int .i64 x).wf = true) → ∃ k, laws_FnExactMapImage.f k a0_0 a0_1 a0_2 l0_3 l1 = some true
theorem laws_FnExactMapImage.walk (P : laws_FnExactMapImage.Pure) (a0_0 : Int) (a0_1 : Int) (a0_2 : Int) (A0_3 : Option Addr) (c0_3 : Nat) (l0_3 : List Int) (A1 : Option Addr) (c1 : Nat) (l1 : List Int) (w : World) (w0_0 : (Lit.int .i64 a0_0).wf = true) (w0_1 : (Lit.int .i64 a0_1).wf = true) (w0_2 : (Lit.int .i64 a0_2).wf = true) (hr0_3 : Kd.C (Kd.int .i64) w A0_3 l0_3.length l0_3) (hc0_3 : l0_3.length ≤ c0_3) (hm0_3 : l0_3.length ≤ maxLen) (hw0_3 : ∀ x ∈ l0_3, (Lit.int .i64 x).wf = true) (hr1 : Kd.C (Kd.int .i64) w A1 l1.length l1) (hc1 : l1.length ≤ c1) (hm1 : l1.length ≤ maxLen) (hw1 : ∀ x ∈ l1, (Lit.int .i64 x).wf = true) :
  Calls Try.prog 7 #[.agg #[.int .i64 a0_0, .int .i64 a0_1, .int .i64 a0_2, .slice A0_3 l0_3.length c0_3], .slice A1 l1.length c1] w fun e w' => e = .returned (.bool true) ∧ Below w.heap.size w w' := by
 obtain ⟨k, h⟩ := P a0_0 a0_1 a0_2 l0_3 l1 w0_0 w0_1 w0_2 hm0_3 hw0_3 hm1 hw1
 refine (laws_FnExactMapImage.calls k a0_0 a0_1 a0_2 A0_3 c0_3 l0_3 A1 c1 l1 true w hr0_3 hc0_3 hr1 hc1 h).mono ?_
 rintro e w' ⟨rfl, hd⟩
 exact ⟨rfl, hd⟩

end Go.Proofs.Ytonolnojpejgnaa.Print
