-- laid by hp.py (a program of this work over the kit's print), with contracts by hand for what the print does not take
import Derived.Test.YtonolnojpejgnaaPrint0
import Derived.Test.YtonolnojpejgnaaPrintHx0
import Derived.Test.YtonolnojpejgnaaPrintR0x0
import Derived.Test.YtonolnojpejgnaaPrintR1x2
import Derived.Test.YtonolnojpejgnaaPrintR1x8
namespace Go.Proofs.Ytonolnojpejgnaa.Print
open Go.RowKit Go.Proofs.YtonolnojpejgnaaW.PrintWords Go.Proofs.YtonolnojpejgnaaW.PrintLast Go.Proofs.YtonolnojpejgnaaW.PrintMore
attribute [local go_sem] max2_int min2_int max_two min_two max_three min_three max_four min_four   -- for this text's walks alone
set_option linter.unusedVariables false
set_option linter.unusedSimpArgs false

/-! ### spec_DrawEqualizeImage: function 43 -/
def spec_DrawEqualizeImage.f (k : Nat) (l0 : List Int) : Option (Int × Int × Int × List Int) := (spec_newReader.f l0).bind fun bt102 => ((spec_grayImage.f k bt102.1 bt102.2).bind fun bt105 => (some (bt105.1, bt105.2.1, bt105.2.2.1, bt105.2.2.2.1)))
theorem spec_DrawEqualizeImage.mono : ∀ a0 k, LeO (spec_DrawEqualizeImage.f k a0) (spec_DrawEqualizeImage.f (k + 1) a0) := by
 intro a0 k
 unfold spec_DrawEqualizeImage.f
 repeat' first
   | (with_reducible exact spec_grayImage.mono _ _ _)
   | (with_reducible exact LeO.refl _)
   | (with_reducible exact LeO.none _)
   | (with_reducible refine LeO.ite ?_ ?_)
   | (with_reducible refine LeO.bind ?_ (fun _ => ?_))
   | exact spec_grayImage.mono _ _ _
   | exact LeO.none _
   | refine LeO.ite ?_ ?_
   | refine LeO.bind ?_ (fun _ => ?_)
set_option maxHeartbeats 8000000 in
set_option maxRecDepth 100000 in
theorem spec_DrawEqualizeImage.calls (k : Nat) (A0 : Option Addr) (c0 : Nat) (l0 : List Int) (r1 : Int) (r2 : Int) (r3 : Int) (r4 : List Int) (w : World) (hr0 : Kd.C (Kd.int .u8) w A0 l0.length l0) (hc0 : l0.length ≤ c0) (h : spec_DrawEqualizeImage.f k l0 = some (r1, r2, r3, r4)) :
  Calls Try.prog 43 #[.slice A0 l0.length c0] w fun e w' => ∃ v3_ : Value, e = .returned (.agg #[.int .i64 r1, .int .i64 r2, .int .i64 r3, v3_]) ∧ Kd.Q (Kd.int .i64) 3 w' w.heap.size (fun _ => True) v3_ r4 ∧ Below w.heap.size w w' := by
 have hu27 := Try.underlying27
 have HR0 := Aside0.mk hr0
 have HC0 := Aside0.mk hc0
 clear hr0 hc0
 have HB := Aside0.mk (Below.refl w.heap.size w)
 have H : ((spec_newReader.f l0).bind fun bt102 => ((spec_grayImage.f k bt102.1 bt102.2).bind fun bt105 => (some (bt105.1, bt105.2.1, bt105.2.2.1, bt105.2.2.2.1)))) = some (r1, r2, r3, r4) := h
 clear h
 replace H := Option.bind_eq_some_iff.mp H
 obtain ⟨⟨t102, t103⟩, A20, H⟩ := H
 replace H : ((spec_grayImage.f k t102 t103).bind fun bt105 => (some (bt105.1, bt105.2.1, bt105.2.2.1, bt105.2.2.2.1))) = some (r1, r2, r3, r4) := H
 have A2 := Aside0.mk A20
 clear A20
 replace H := Option.bind_eq_some_iff.mp H
 obtain ⟨⟨t105, t106, t107, t108, t111⟩, A30, H⟩ := H
 replace H : (some (t105, t106, t107, t108)) = some (r1, r2, r3, r4) := H
 have A3 := Aside0.mk A30
 clear A30
 simp only [Option.some.injEq, Prod.mk.injEq] at H
 obtain ⟨rfl, rfl, rfl, rfl⟩ := H
 go_enter Try.func43, Try.ntmps43
 go_wp2_with (first | ((with_reducible refine gate_dst (N := 2) rfl ?_); refine box_event ?hg (N := 2) ?hd (cs := #[.int .i64 0, .int .i64 0, .int .i64 0, .slice none 0 0]) (t := 27) ?hr ?_; (case hd => rfl); (case hg => rfl); (case hr => first | (go_simp; done) | (go_simp; rfl)); intro gb101 hg w4 hbox hb; have BK101 := am_ (hbox); have GW101 := am_ ((by rw [hg]; exact (below_size (by repeat (first | (with_reducible first | exact HB.out | apply below_alloc | apply pw_below_drewN | apply below_drew1) | exact HB.out))) : w.heap.size ≤ gb101)); have GE101 := GW101; replace HB := am_ (below_step (by repeat (first | (with_reducible first | exact HB.out | apply below_alloc | apply pw_below_drewN | apply below_drew1) | exact HB.out)) hb); clear hb hbox hg) | ((with_reducible refine gate_callee (f := 50) rfl ?_); refine goesL_ (some 4) rfl rfl Try.func50 (by kernel_rfl) rfl #[.slice A0 l0.length c0] rfl (by simp only [List.map_toArray, List.map_cons, List.map_nil]; rfl) ?_; (with_reducible refine (spec_newReader.calls _ _ l0 t102 t103 w _ ?side1 ?side2 ?side3 A2.out).mono ?_); (case side1 => repeat (first | (with_reducible first | exact HB.out | apply below_alloc | apply pw_below_drewN | apply below_drew1 | refine below_set ?_ GE101.out) | exact HB.out)); (case side2 => exact HR0.out); (case side3 => exact HC0.out); rintro e w5 ⟨g104, rfl, hi, hb, hb2⟩; refine ⟨_, rfl, ?_⟩; replace HB := am_ (hb); have HI104 := am_ (hi); have NB104_101 := am_ (IsS68.ne_blk hi (blk_below (by exact BK101.out) hb2) (by decide)); have NB101_104 := am_ (Ne.symm (IsS68.ne_blk hi (blk_below (by exact BK101.out) hb2) (by decide))); replace BK101 := am_ (blk_below (by exact BK101.out) hb2); (try clear hb); (try clear hb2); (try clear hk); (try clear hi)) | ((with_reducible refine gate_callee (f := 49) rfl ?_); refine goesL_ (some 5) rfl rfl Try.func49 (by kernel_rfl) rfl #[.pointer (some ⟨g104, 0, none⟩)] rfl (by simp only [List.map_toArray, List.map_cons, List.map_nil]; rfl) ?_; (with_reducible refine (spec_grayImage.calls k g104 t102 t103 t105 t106 t107 t108 t111 w _ ?side1 ?side2 A3.out).mono ?_); (case side1 => repeat (first | (with_reducible first | exact HI104.out | apply IsS68.alloc | apply IsS68.drewN | apply IsS68.drew | apply IsS68.set_1 | refine IsS68.far ?_ NB104_101.out _) | exact HI104.out)); (case side2 => repeat (first | (with_reducible first | exact HB.out | apply below_alloc | apply pw_below_drewN | apply below_drew1 | refine below_set ?_ (IsS68.ge HI104.out) | refine below_set ?_ GE101.out) | exact HB.out)); rintro e w6 ⟨v109, rfl, ho0, hi, hb, hk⟩; refine ⟨_, rfl, ?_⟩; replace BK101 := am_ (KeepBut.blk hk (by exact BK101.out) NB101_104.out (by simp)); have HO110 := am_ (Kd.Q_lower ho0 (below_size (by repeat (first | (with_reducible first | exact HB.out | apply below_alloc | apply pw_below_drewN | apply below_drew1 | refine below_set ?_ (IsS68.ge HI104.out) | refine below_set ?_ GE101.out) | exact HB.out)))); replace HB := am_ (hb); replace HI104 := am_ (hi); (try clear hb); (try clear hb2); (try clear hk); (try clear hi); (try clear ho0); have hnb7 := NB101_104.out; have hnc7 := NB104_101.out; obtain ⟨hcz8_0, hcz8_1, hcz8_2, hcz8_3, hfz8_0, hfz8_1, hfz8_2, hfz8_3⟩ := blk4_ BK101.out; obtain ⟨Ao9, co9, eo9, _⟩ := Kd.Q_slice HO110.out; subst eo9))
 refine bodyPost_ret (results_cell_row rfl _ _ gb101 27 #[.int .i64 t105, .int .i64 t106, .int .i64 t107, .slice Ao9 t108.length co9] (0, 0) _ rfl (by exact put4_ BK101.out _ _ _ _) Try.underlying27 rfl (by kernel_rfl)) rfl ?_
 exact ⟨_, by first | rfl | (simp [errW_none, errW_some] <;> rfl) | (simp [*, errW_none, errW_some] <;> rfl), by exact Kd.Q_mono (Kd.Q_far (p := ⟨gb101, 3, none⟩) (Kd.Q_far (p := ⟨gb101, 2, none⟩) (Kd.Q_far (p := ⟨gb101, 1, none⟩) (Kd.Q_far (p := ⟨gb101, 0, none⟩) (Kd.Q_types HO110.out BK101.out (by decide)) (fun _ hk => hk.2) (.int .i64 t105)) (fun _ hk => hk.2) (.int .i64 t106)) (fun _ hk => hk.2) (.int .i64 t107)) (fun _ hk => hk.2) (.slice Ao9 t108.length co9)) (fun _ hk => trivial), by repeat (first | (with_reducible first | exact HB.out | apply below_alloc | apply pw_below_drewN | apply below_drew1 | refine below_set ?_ (IsS68.ge HI104.out) | refine below_set ?_ GE101.out) | exact HB.out)⟩

end Go.Proofs.Ytonolnojpejgnaa.Print
