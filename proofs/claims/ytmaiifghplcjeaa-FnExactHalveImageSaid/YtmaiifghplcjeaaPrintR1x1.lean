-- laid by hp.py (a program of this work over the kit's print), with contracts by hand for what the print does not take
import Derived.Test.YtmaiifghplcjeaaPrint0
import Derived.Test.YtmaiifghplcjeaaPrintHx0
import Derived.Test.YtmaiifghplcjeaaPrintR1x0
namespace Go.Proofs.Ytmaiifghplcjeaa.Print
open Go.RowKit Go.Proofs.YtmaiifghplcjeaaW.PrintWords Go.Proofs.YtmaiifghplcjeaaW.PrintLast Go.Proofs.YtmaiifghplcjeaaW.PrintMore
attribute [local go_sem] max2_int min2_int max_two min_two max_three min_three max_four min_four   -- for this text's walks alone
set_option linter.unusedVariables false
set_option linter.unusedSimpArgs false

/-! ### spec_pixelAt: function 50 -/
def spec_pixelAt.f (a0_0 : Int) (a0_1 : Int) (a0_2 : Int) (l0_3 : List Int) (a1 : Int) (a2 : Int) : Option (List Int) := if 0 ≤ (wrap64 ((wrap64 ((wrap64 (a2 * a0_0)) + a1)) * a0_2)) then (if (wrap64 ((wrap64 ((wrap64 (a2 * a0_0)) + a1)) * a0_2)) ≤ (wrap64 ((wrap64 ((wrap64 ((wrap64 (a2 * a0_0)) + a1)) * a0_2)) + a0_2)) then (if (wrap64 ((wrap64 ((wrap64 ((wrap64 (a2 * a0_0)) + a1)) * a0_2)) + a0_2)) ≤ (l0_3.length : Int) then ((spec_copyInts.f ((l0_3.take ((wrap64 ((wrap64 ((wrap64 ((wrap64 (a2 * a0_0)) + a1)) * a0_2)) + a0_2)) : Int).toNat).drop ((wrap64 ((wrap64 ((wrap64 (a2 * a0_0)) + a1)) * a0_2)) : Int).toNat)).bind fun t103 => (some t103)) else (none)) else (none)) else (none)
set_option maxHeartbeats 8000000 in
set_option maxRecDepth 100000 in
theorem spec_pixelAt.calls (a0_0 : Int) (a0_1 : Int) (a0_2 : Int) (A0_3 : Option Addr) (c0_3 : Nat) (l0_3 : List Int) (a1 : Int) (a2 : Int) (r : List Int) (w : World) (hr0_3 : Kd.C (Kd.int .i64) w A0_3 l0_3.length l0_3) (hc0_3 : l0_3.length ≤ c0_3) (h : spec_pixelAt.f a0_0 a0_1 a0_2 l0_3 a1 a2 = some r) :
  Calls Try.prog 50 #[.agg #[.int .i64 a0_0, .int .i64 a0_1, .int .i64 a0_2, .slice A0_3 l0_3.length c0_3], .int .i64 a1, .int .i64 a2] w fun e w' => ∃ v0_ : Value, e = .returned (v0_) ∧ Kd.R (Kd.int .i64) 3 w' w.heap.size (fun _ => True) v0_ r ∧ Below w.heap.size w w' := by
 have hu26 := Try.underlying26
 have HR0_3 := Aside0.mk hr0_3
 have HC0_3 := Aside0.mk hc0_3
 clear hr0_3 hc0_3
 have HB := Aside0.mk (Below.refl w.heap.size w)
 have H : (if 0 ≤ (wrap64 ((wrap64 ((wrap64 (a2 * a0_0)) + a1)) * a0_2)) then (if (wrap64 ((wrap64 ((wrap64 (a2 * a0_0)) + a1)) * a0_2)) ≤ (wrap64 ((wrap64 ((wrap64 ((wrap64 (a2 * a0_0)) + a1)) * a0_2)) + a0_2)) then (if (wrap64 ((wrap64 ((wrap64 ((wrap64 (a2 * a0_0)) + a1)) * a0_2)) + a0_2)) ≤ (l0_3.length : Int) then ((spec_copyInts.f ((l0_3.take ((wrap64 ((wrap64 ((wrap64 ((wrap64 (a2 * a0_0)) + a1)) * a0_2)) + a0_2)) : Int).toNat).drop ((wrap64 ((wrap64 ((wrap64 (a2 * a0_0)) + a1)) * a0_2)) : Int).toNat)).bind fun t103 => (some t103)) else (none)) else (none)) else (none)) = some r := h
 clear h
 obtain ⟨ji4, hji4⟩ : ∃ j_ : Int, (wrap64 ((wrap64 ((wrap64 (a2 * a0_0)) + a1)) * a0_2)) = j_ := ⟨_, rfl⟩
 replace H : (if 0 ≤ (ji4) then (if (ji4) ≤ (wrap64 ((ji4) + a0_2)) then (if (wrap64 ((ji4) + a0_2)) ≤ (l0_3.length : Int) then ((spec_copyInts.f ((l0_3.take ((wrap64 ((ji4) + a0_2)) : Int).toNat).drop ((ji4) : Int).toNat)).bind fun t103 => (some t103)) else (none)) else (none)) else (none)) = some r := by first | (rw [hji4] at H; exact H) | (simp only [hji4] at H ⊢; exact H)
 have hji4w : (IntKind.i64.wrap ((wrap64 ((wrap64 (a2 * a0_0)) + a1)) * a0_2)) = ji4 := (i64_w _).trans hji4
 by_cases c5 : 0 ≤ (ji4)
 ·
  rw [if_pos c5] at H
  have c5b0 := eq_true c5
  have c5b1 : decide (0 ≤ (ji4)) = true := decide_eq_true c5
  clear c5
  by_cases c6 : (ji4) ≤ (wrap64 ((ji4) + a0_2))
  ·
   rw [if_pos c6] at H
   have c6b0 := eq_true c6
   have c6b1 : decide ((ji4) ≤ (wrap64 ((ji4) + a0_2))) = true := decide_eq_true c6
   by_cases c7 : (wrap64 ((ji4) + a0_2)) ≤ (l0_3.length : Int)
   ·
    rw [if_pos c7] at H
    have c7b0 := eq_true c7
    have c7b1 : decide ((wrap64 ((ji4) + a0_2)) ≤ (l0_3.length : Int)) = true := decide_eq_true c7
    replace H := Option.bind_eq_some_iff.mp H
    obtain ⟨t103, A80, H⟩ := H
    replace H : (some t103) = some r := H
    have A8 := Aside0.mk A80
    clear A80
    obtain rfl := Option.some.inj H
    go_enter Try.func50, Try.ntmps50
    go_wp2_with (first | ((with_reducible refine gate_dst (N := 3) rfl ?_); refine box_event ?hg (N := 3) ?hd (cs := #[.int .i64 a0_0, .int .i64 a0_1, .int .i64 a0_2, .slice A0_3 l0_3.length c0_3]) (t := 26) ?hr ?_; (case hd => rfl); (case hg => rfl); (case hr => first | (go_simp; done) | (go_simp; rfl)); intro gb101 hg w9 hbox hb; have BK101 := am_ (hbox); have GW101 := am_ ((by rw [hg]; exact (below_size (by repeat (first | (with_reducible first | exact HB.out | apply below_alloc | apply pw_below_drewN | apply below_drew1) | exact HB.out))) : w.heap.size ≤ gb101)); have GE101 := GW101; replace HB := am_ (below_step (by repeat (first | (with_reducible first | exact HB.out | apply below_alloc | apply pw_below_drewN | apply below_drew1) | exact HB.out)) hb); clear hb hbox hg; obtain ⟨hcz10_0, hcz10_1, hcz10_2, hcz10_3, hfz10_0, hfz10_1, hfz10_2, hfz10_3⟩ := blk4_ BK101.out; obtain ⟨i011, hi011, _, hsz11, _⟩ := info_parts info3; obtain ⟨A11, hcut11, hA11, hC11⟩ := print_mid_of (P := Try.prog) (Value.int .i64) 0 22 3 .i64 .i64 Try.underlying22 hi011 hsz11 A0_3 c0_3 l0_3 (ji4) (wrap64 ((ji4) + a0_2)) (of_decide_eq_true (by first | (with_reducible assumption) | assumption)) (by first | omega | exact of_decide_eq_true (by first | (with_reducible assumption) | assumption)) (of_decide_eq_true (by first | (with_reducible assumption) | assumption)) HC0_3.out; have HR102 := Aside0.mk (Kd.C_of_reads (h1 := fun _ => rfl) (hA11 _ (Kd.reads_of_C HR0_3.out))); have HC102 := Aside0.mk hC11; clear hA11 hC11 hi011 hsz11) | ((with_reducible refine gate_callee (f := 98) rfl ?_); refine goesL_ (some 25) rfl rfl Try.func98 (by kernel_rfl) rfl #[.slice A11 ((l0_3.take ((wrap64 ((ji4) + a0_2)) : Int).toNat).drop ((ji4) : Int).toNat).length (c0_3 - (ji4).toNat)] rfl (by (try simp only [List.map_toArray, List.map_cons, List.map_nil]); first | done | (rw [show ((l0_3.take ((wrap64 ((ji4) + a0_2)) : Int).toNat).drop ((ji4) : Int).toNat).length = ((wrap64 ((ji4) + a0_2)).toNat - (ji4).toNat) from (by rw [List.length_drop, List.length_take]; have h_ : ((wrap64 ((ji4) + a0_2)) : Int) ≤ (l0_3.length : Int) := of_decide_eq_true (by first | (with_reducible assumption) | assumption); omega)] <;> rfl) | (simp only [hji4]; rfl) | rfl | (simp only [List.length_drop, List.length_take]; rfl)) ?_; (with_reducible refine (spec_copyInts.calls _ _ ((l0_3.take ((wrap64 ((ji4) + a0_2)) : Int).toNat).drop ((ji4) : Int).toNat) t103 _ ?side1 ?side2 A8.out).mono ?_); (case side1 => repeat (first | exact (Kd.C_below HR102.out HB.out) | (with_reducible refine Kd.C_alloc ?_ _) | (with_reducible refine Kd.C_drewN ?_ _) | (with_reducible refine Kd.C_drew ?_))); (case side2 => exact HC102.out); rintro e w12 ⟨v104, rfl, ho0, hb⟩; refine ⟨_, rfl, ?_⟩; have HO105 := am_ (Kd.R_lower ho0 (below_size (by repeat (first | (with_reducible first | exact HB.out | apply below_alloc | apply pw_below_drewN | apply below_drew1 | refine below_set ?_ GE101.out) | exact HB.out)))); replace BK101 := am_ (blk_below (by exact BK101.out) hb); replace HB := am_ (below_step (by repeat (first | (with_reducible first | exact HB.out | apply below_alloc | apply pw_below_drewN | apply below_drew1 | refine below_set ?_ GE101.out) | exact HB.out)) hb); (try clear hb); (try clear hb2); (try clear hk); (try clear hi); (try clear ho0)))
    go_ret
    exact ⟨_, by first | rfl | (simp [errW_none, errW_some] <;> rfl) | (simp only [← hji4]; first | rfl | (simp [errW_none, errW_some] <;> rfl)) | (simp [*, errW_none, errW_some] <;> rfl), by exact HO105.out, by repeat (first | (with_reducible first | exact HB.out | apply below_alloc | apply pw_below_drewN | apply below_drew1 | refine below_set ?_ GE101.out) | exact HB.out)⟩
   ·
    rw [if_neg c7] at H
    exact absurd H (by simp)
  ·
   rw [if_neg c6] at H
   exact absurd H (by simp)
 ·
  rw [if_neg c5] at H
  exact absurd H (by simp)

end Go.Proofs.Ytmaiifghplcjeaa.Print
