-- laid by hp.py (a program of this work over the kit's print), with contracts by hand for what the print does not take
import Derived.Test.YtmaiifghplcjeaaPrint0
import Derived.Test.YtmaiifghplcjeaaPrintE0
import Derived.Test.YtmaiifghplcjeaaPrintHimplCountImage
import Derived.Test.YtmaiifghplcjeaaPrintHimplCropImage
import Derived.Test.YtmaiifghplcjeaaPrintHimplFindImage
import Derived.Test.YtmaiifghplcjeaaPrintHx0
import Derived.Test.YtmaiifghplcjeaaPrintR1x3
import Derived.Test.YtmaiifghplcjeaaPrintR1x7
namespace Go.Proofs.Ytmaiifghplcjeaa.Print
open Go.RowKit Go.Proofs.YtmaiifghplcjeaaW.PrintWords Go.Proofs.YtmaiifghplcjeaaW.PrintLast Go.Proofs.YtmaiifghplcjeaaW.PrintMore
attribute [local go_sem] max2_int min2_int max_two min_two max_three min_three max_four min_four   -- for this text's walks alone
set_option linter.unusedVariables false
set_option linter.unusedSimpArgs false

attribute [local go_sem high] eqA40
/-! ### laws_FnFindImageOwn: function 11 -/
def laws_FnFindImageOwn.j0 : Nat → Int → Int → Bool → Int → Int → Int → List Int → Int → Int → Int → List Int → Int → Int → Int → Int → Int → Int → Int → Int → Option (Bool)
 | 0, _, _, _, _, _, _, _, _, _, _, _, _, _, _, _, _, _, _, _ => none
 | k + 1, x6, x8, x44, x114000, x114001, x114002, x114003, x115000, x115001, x115002, x115003, x121000, x121001, x121002, x121003, x127000, x127001, x127002, x127003 => if x44 = true then (if (x121000 == x127000 && (x121001 == x127001 && (x121002 == x127002 && (x121003 == x127003)))) = true then (some (x6 == x8)) else (some false)) else ((impl_CropImage.f x114000 x114001 x114002 x114003 (wrap64 (x114000 - x115000)) (wrap64 (x114001 - x115001)) x115000 x115001).bind fun bt127 => ((impl_FindImage.f x114000 x114001 x114002 x114003 bt127.1 bt127.2.1 bt127.2.2.1 bt127.2.2.2.1).bind fun bt135 => (if bt127.2.2.2.2 = true then (if bt135.2.2.2.2 = 0 then (if bt135.2.1 ≤ (wrap64 (x114001 - x115001)) then ((impl_CountImage.f x114000 x114001 x114002 x114003 bt127.1 bt127.2.1 bt127.2.2.1 bt127.2.2.2.1).bind fun t141 => (some (decide (t141 ≥ 1)))) else (some false)) else (some false)) else (some false))))
def laws_FnFindImageOwn.f (k : Nat) (l0 : List Int) : Option (Bool) := if (l0.length : Int) > 1048576 then (some true) else ((spec_DrawFindImage.f k l0).bind fun bt101 => ((impl_FindImage.f bt101.1 bt101.2.1 bt101.2.2.1 bt101.2.2.2.1 bt101.2.2.2.2.1 bt101.2.2.2.2.2.1 bt101.2.2.2.2.2.2.1 bt101.2.2.2.2.2.2.2).bind fun bt115 => ((spec_FindImage.f k bt101.1 bt101.2.1 bt101.2.2.1 bt101.2.2.2.1 bt101.2.2.2.2.1 bt101.2.2.2.2.2.1 bt101.2.2.2.2.2.2.1 bt101.2.2.2.2.2.2.2).bind fun bt121 => (if (!(bt115.1 == bt121.1) || (!(bt115.2.1 == bt121.2.1) || (!(bt115.2.2.1 == bt121.2.2.1) || (!(bt115.2.2.2.1 == bt121.2.2.2.1))))) = true then (laws_FnFindImageOwn.j0 k bt115.2.2.2.2 bt121.2.2.2.2 true bt101.1 bt101.2.1 bt101.2.2.1 bt101.2.2.2.1 bt101.2.2.2.2.1 bt101.2.2.2.2.2.1 bt101.2.2.2.2.2.2.1 bt101.2.2.2.2.2.2.2 bt115.1 bt115.2.1 bt115.2.2.1 bt115.2.2.2.1 bt121.1 bt121.2.1 bt121.2.2.1 bt121.2.2.2.1) else (if bt115.2.2.2.2 = bt121.2.2.2.2 then (laws_FnFindImageOwn.j0 k bt115.2.2.2.2 bt121.2.2.2.2 (decide (bt115.2.2.2.2 < 0)) bt101.1 bt101.2.1 bt101.2.2.1 bt101.2.2.2.1 bt101.2.2.2.2.1 bt101.2.2.2.2.2.1 bt101.2.2.2.2.2.2.1 bt101.2.2.2.2.2.2.2 bt115.1 bt115.2.1 bt115.2.2.1 bt115.2.2.2.1 bt121.1 bt121.2.1 bt121.2.2.1 bt121.2.2.2.1) else (laws_FnFindImageOwn.j0 k bt115.2.2.2.2 bt121.2.2.2.2 true bt101.1 bt101.2.1 bt101.2.2.1 bt101.2.2.2.1 bt101.2.2.2.2.1 bt101.2.2.2.2.2.1 bt101.2.2.2.2.2.2.1 bt101.2.2.2.2.2.2.2 bt115.1 bt115.2.1 bt115.2.2.1 bt115.2.2.2.1 bt121.1 bt121.2.1 bt121.2.2.1 bt121.2.2.2.1))))))
theorem laws_FnFindImageOwn.mono_l : ∀ k, (∀ y0 y1 y2 y3 y4 y5 y6 y7 y8 y9 y10 y11 y12 y13 y14 y15 y16 y17 y18, LeO (laws_FnFindImageOwn.j0 k y0 y1 y2 y3 y4 y5 y6 y7 y8 y9 y10 y11 y12 y13 y14 y15 y16 y17 y18) (laws_FnFindImageOwn.j0 (k + 1) y0 y1 y2 y3 y4 y5 y6 y7 y8 y9 y10 y11 y12 y13 y14 y15 y16 y17 y18))
 | 0 => fun _ _ _ _ _ _ _ _ _ _ _ _ _ _ _ _ _ _ _ r h => by simp [laws_FnFindImageOwn.j0] at h
 | k + 1 => by
  have ih0 := laws_FnFindImageOwn.mono_l k
  intro y0 y1 y2 y3 y4 y5 y6 y7 y8 y9 y10 y11 y12 y13 y14 y15 y16 y17 y18
  unfold laws_FnFindImageOwn.j0
  repeat' first
  | (with_reducible exact ih0 _ _ _ _ _ _ _ _ _ _ _ _ _ _ _ _ _ _ _)
  | (with_reducible exact spec_DrawFindImage.mono _ _)
  | (with_reducible exact spec_FindImage.mono _ _ _ _ _ _ _ _ _)
  | (with_reducible exact LeO.refl _)
  | (with_reducible exact LeO.none _)
  | (with_reducible refine LeO.ite ?_ ?_)
  | (with_reducible refine LeO.bind ?_ (fun _ => ?_))
  | exact ih0 _ _ _ _ _ _ _ _ _ _ _ _ _ _ _ _ _ _ _
  | exact spec_DrawFindImage.mono _ _
  | exact spec_FindImage.mono _ _ _ _ _ _ _ _ _
  | exact LeO.none _
  | refine LeO.ite ?_ ?_
  | refine LeO.bind ?_ (fun _ => ?_)
theorem laws_FnFindImageOwn.mono : ∀ a0 k, LeO (laws_FnFindImageOwn.f k a0) (laws_FnFindImageOwn.f (k + 1) a0) := by
 intro a0 k
 have ih0 := laws_FnFindImageOwn.mono_l k
 unfold laws_FnFindImageOwn.f
 repeat' first
   | (with_reducible exact ih0 _ _ _ _ _ _ _ _ _ _ _ _ _ _ _ _ _ _ _)
   | (with_reducible exact spec_DrawFindImage.mono _ _)
   | (with_reducible exact spec_FindImage.mono _ _ _ _ _ _ _ _ _)
   | (with_reducible exact LeO.refl _)
   | (with_reducible exact LeO.none _)
   | (with_reducible refine LeO.ite ?_ ?_)
   | (with_reducible refine LeO.bind ?_ (fun _ => ?_))
   | exact ih0 _ _ _ _ _ _ _ _ _ _ _ _ _ _ _ _ _ _ _
   | exact spec_DrawFindImage.mono _ _
   | exact spec_FindImage.mono _ _ _ _ _ _ _ _ _
   | exact LeO.none _
   | refine LeO.ite ?_ ?_
   | refine LeO.bind ?_ (fun _ => ?_)
set_option maxHeartbeats 8000000 in
set_option maxRecDepth 100000 in
theorem laws_FnFindImageOwn.calls (k : Nat) (A0 : Option Addr) (c0 : Nat) (l0 : List Int) (r : Bool) (w : World) (hr0 : Kd.C (Kd.int .u8) w A0 l0.length l0) (hc0 : l0.length ≤ c0) (h : laws_FnFindImageOwn.f k l0 = some r) :
  Calls Try.prog 11 #[.slice A0 l0.length c0] w fun e w' => e = .returned (.bool r) ∧ Below w.heap.size w w' := by
 have hu26 := Try.underlying26
 have hu40 := Try.underlying40
 have HR0 := Aside0.mk hr0
 have HC0 := Aside0.mk hc0
 clear hr0 hc0
 have HB := Aside0.mk (Below.refl w.heap.size w)
 have H : (if (l0.length : Int) > 1048576 then (some true) else ((spec_DrawFindImage.f k l0).bind fun bt101 => ((impl_FindImage.f bt101.1 bt101.2.1 bt101.2.2.1 bt101.2.2.2.1 bt101.2.2.2.2.1 bt101.2.2.2.2.2.1 bt101.2.2.2.2.2.2.1 bt101.2.2.2.2.2.2.2).bind fun bt115 => ((spec_FindImage.f k bt101.1 bt101.2.1 bt101.2.2.1 bt101.2.2.2.1 bt101.2.2.2.2.1 bt101.2.2.2.2.2.1 bt101.2.2.2.2.2.2.1 bt101.2.2.2.2.2.2.2).bind fun bt121 => (if (!(bt115.1 == bt121.1) || (!(bt115.2.1 == bt121.2.1) || (!(bt115.2.2.1 == bt121.2.2.1) || (!(bt115.2.2.2.1 == bt121.2.2.2.1))))) = true then (laws_FnFindImageOwn.j0 k bt115.2.2.2.2 bt121.2.2.2.2 true bt101.1 bt101.2.1 bt101.2.2.1 bt101.2.2.2.1 bt101.2.2.2.2.1 bt101.2.2.2.2.2.1 bt101.2.2.2.2.2.2.1 bt101.2.2.2.2.2.2.2 bt115.1 bt115.2.1 bt115.2.2.1 bt115.2.2.2.1 bt121.1 bt121.2.1 bt121.2.2.1 bt121.2.2.2.1) else (if bt115.2.2.2.2 = bt121.2.2.2.2 then (laws_FnFindImageOwn.j0 k bt115.2.2.2.2 bt121.2.2.2.2 (decide (bt115.2.2.2.2 < 0)) bt101.1 bt101.2.1 bt101.2.2.1 bt101.2.2.2.1 bt101.2.2.2.2.1 bt101.2.2.2.2.2.1 bt101.2.2.2.2.2.2.1 bt101.2.2.2.2.2.2.2 bt115.1 bt115.2.1 bt115.2.2.1 bt115.2.2.2.1 bt121.1 bt121.2.1 bt121.2.2.1 bt121.2.2.2.1) else (laws_FnFindImageOwn.j0 k bt115.2.2.2.2 bt121.2.2.2.2 true bt101.1 bt101.2.1 bt101.2.2.1 bt101.2.2.2.1 bt101.2.2.2.2.1 bt101.2.2.2.2.2.1 bt101.2.2.2.2.2.2.1 bt101.2.2.2.2.2.2.2 bt115.1 bt115.2.1 bt115.2.2.1 bt115.2.2.2.1 bt121.1 bt121.2.1 bt121.2.2.1 bt121.2.2.2.1))))))) = some r := h
 clear h
 by_cases c2 : (l0.length : Int) > 1048576
 ·
  rw [if_pos c2] at H
  have c2b0 : decide (1048576 < (l0.length : Int)) = true := decide_eq_true c2
  have c2b1 : decide (1048576 < l0.length) = true := decide_eq_true (by omega)
  clear c2
  obtain rfl := Option.some.inj H
  go_enter Try.func11, Try.ntmps11
  go_wp2
  go_ret
  exact ⟨by first | rfl | (simp [errW_none, errW_some] <;> rfl) | (simp [*, errW_none, errW_some] <;> rfl), by repeat (first | (with_reducible first | exact HB.out | apply below_alloc | apply pw_below_drewN | apply below_drew1) | exact HB.out)⟩
 rw [if_neg c2] at H
 have c2b0 : decide (1048576 < (l0.length : Int)) = false := decide_eq_false c2
 have c2b1 : decide (1048576 < l0.length) = false := decide_eq_false (by omega)
 clear c2
 replace H := Option.bind_eq_some_iff.mp H
 obtain ⟨⟨t101, t102, t103, t104, t107, t108, t109, t110⟩, A30, H⟩ := H
 replace H : ((impl_FindImage.f t101 t102 t103 t104 t107 t108 t109 t110).bind fun bt115 => ((spec_FindImage.f k t101 t102 t103 t104 t107 t108 t109 t110).bind fun bt121 => (if (!(bt115.1 == bt121.1) || (!(bt115.2.1 == bt121.2.1) || (!(bt115.2.2.1 == bt121.2.2.1) || (!(bt115.2.2.2.1 == bt121.2.2.2.1))))) = true then (laws_FnFindImageOwn.j0 k bt115.2.2.2.2 bt121.2.2.2.2 true t101 t102 t103 t104 t107 t108 t109 t110 bt115.1 bt115.2.1 bt115.2.2.1 bt115.2.2.2.1 bt121.1 bt121.2.1 bt121.2.2.1 bt121.2.2.2.1) else (if bt115.2.2.2.2 = bt121.2.2.2.2 then (laws_FnFindImageOwn.j0 k bt115.2.2.2.2 bt121.2.2.2.2 (decide (bt115.2.2.2.2 < 0)) t101 t102 t103 t104 t107 t108 t109 t110 bt115.1 bt115.2.1 bt115.2.2.1 bt115.2.2.2.1 bt121.1 bt121.2.1 bt121.2.2.1 bt121.2.2.2.1) else (laws_FnFindImageOwn.j0 k bt115.2.2.2.2 bt121.2.2.2.2 true t101 t102 t103 t104 t107 t108 t109 t110 bt115.1 bt115.2.1 bt115.2.2.1 bt115.2.2.2.1 bt121.1 bt121.2.1 bt121.2.2.1 bt121.2.2.2.1))))) = some r := H
 have A3 := Aside0.mk A30
 clear A30
 replace H := Option.bind_eq_some_iff.mp H
 obtain ⟨⟨t115, t116, t117, t118, t119⟩, A40, H⟩ := H
 replace H : ((spec_FindImage.f k t101 t102 t103 t104 t107 t108 t109 t110).bind fun bt121 => (if (!(t115 == bt121.1) || (!(t116 == bt121.2.1) || (!(t117 == bt121.2.2.1) || (!(t118 == bt121.2.2.2.1))))) = true then (laws_FnFindImageOwn.j0 k t119 bt121.2.2.2.2 true t101 t102 t103 t104 t107 t108 t109 t110 t115 t116 t117 t118 bt121.1 bt121.2.1 bt121.2.2.1 bt121.2.2.2.1) else (if t119 = bt121.2.2.2.2 then (laws_FnFindImageOwn.j0 k t119 bt121.2.2.2.2 (decide (t119 < 0)) t101 t102 t103 t104 t107 t108 t109 t110 t115 t116 t117 t118 bt121.1 bt121.2.1 bt121.2.2.1 bt121.2.2.2.1) else (laws_FnFindImageOwn.j0 k t119 bt121.2.2.2.2 true t101 t102 t103 t104 t107 t108 t109 t110 t115 t116 t117 t118 bt121.1 bt121.2.1 bt121.2.2.1 bt121.2.2.2.1)))) = some r := H
 have A4 := Aside0.mk A40
 clear A40
 replace H := Option.bind_eq_some_iff.mp H
 obtain ⟨⟨t121, t122, t123, t124, t125⟩, A50, H⟩ := H
 replace H : (if (!(t115 == t121) || (!(t116 == t122) || (!(t117 == t123) || (!(t118 == t124))))) = true then (laws_FnFindImageOwn.j0 k t119 t125 true t101 t102 t103 t104 t107 t108 t109 t110 t115 t116 t117 t118 t121 t122 t123 t124) else (if t119 = t125 then (laws_FnFindImageOwn.j0 k t119 t125 (decide (t119 < 0)) t101 t102 t103 t104 t107 t108 t109 t110 t115 t116 t117 t118 t121 t122 t123 t124) else (laws_FnFindImageOwn.j0 k t119 t125 true t101 t102 t103 t104 t107 t108 t109 t110 t115 t116 t117 t118 t121 t122 t123 t124))) = some r := H
 have A5 := Aside0.mk A50
 clear A50
 have HC6 := Aside0.mk H
 clear H
 go_enter Try.func11, Try.ntmps11
 go_upto_region 6 with (first | ((with_reducible refine gate_callee (f := 37) rfl ?_); refine goesL_ (some 18) rfl rfl Try.func37 (by kernel_rfl) rfl #[.slice A0 l0.length c0] rfl (by simp only [List.map_toArray, List.map_cons, List.map_nil]; rfl) ?_; (with_reducible refine (spec_DrawFindImage.calls k _ _ l0 t101 t102 t103 t104 t107 t108 t109 t110 _ ?side1 ?side2 A3.out).mono ?_); (case side1 => repeat (first | exact HR0.out | (with_reducible refine Kd.C_alloc ?_ _) | (with_reducible refine Kd.C_drewN ?_ _) | (with_reducible refine Kd.C_drew ?_))); (case side2 => exact HC0.out); rintro e w7 ⟨v105, v111, rfl, ho0, ho1, hb⟩; refine ⟨_, rfl, ?_⟩; have HO106 := am_ (Kd.Q_lower ho0 (below_size (by repeat (first | (with_reducible first | exact HB.out | apply below_alloc | apply pw_below_drewN | apply below_drew1) | exact HB.out)))); have HO112 := am_ (Kd.Q_lower ho1 (below_size (by repeat (first | (with_reducible first | exact HB.out | apply below_alloc | apply pw_below_drewN | apply below_drew1) | exact HB.out)))); replace HB := am_ (below_step (by repeat (first | (with_reducible first | exact HB.out | apply below_alloc | apply pw_below_drewN | apply below_drew1) | exact HB.out)) hb); (try clear hb); (try clear hb2); (try clear hk); (try clear hi); (try clear ho0); (try clear ho1)) | ((with_reducible refine gate_dst (N := 3) rfl ?_); refine box_event ?hg (N := 3) ?hd (cs := #[.int .i64 0, .int .i64 0, .int .i64 0, .slice none 0 0]) (t := 26) ?hr ?_; (case hd => rfl); (case hg => rfl); (case hr => first | (go_simp; done) | (go_simp; rfl)); intro gb113 hg w8 hbox hb; replace HO106 := am_ (Kd.Q_below (by exact HO106.out) hb); replace HO112 := am_ (Kd.Q_below (by exact HO112.out) hb); have BK113 := am_ (hbox); have GW113 := am_ ((by rw [hg]; exact (below_size (by repeat (first | (with_reducible first | exact HB.out | apply below_alloc | apply pw_below_drewN | apply below_drew1) | exact HB.out))) : w.heap.size ≤ gb113)); have GE113 := GW113; replace HB := am_ (below_step (by repeat (first | (with_reducible first | exact HB.out | apply below_alloc | apply pw_below_drewN | apply below_drew1) | exact HB.out)) hb); clear hb hbox hg) | ((with_reducible refine gate_dst (N := 4) rfl ?_); refine box_event ?hg (N := 4) ?hd (cs := #[.int .i64 0, .int .i64 0, .int .i64 0, .slice none 0 0]) (t := 26) ?hr ?_; (case hd => rfl); (case hg => rfl); (case hr => first | (go_simp; done) | (go_simp; rfl)); intro gb114 hg w9 hbox hb; replace HO106 := am_ (Kd.Q_below (by exact HO106.out) hb); replace HO112 := am_ (Kd.Q_below (by exact HO112.out) hb); have BK114 := am_ (hbox); have GW114 := am_ ((by rw [hg]; exact (below_size (by repeat (first | (with_reducible first | exact HB.out | apply below_alloc | apply pw_below_drewN | apply below_drew1 | refine below_set ?_ GE113.out) | exact HB.out))) : w.heap.size ≤ gb114)); have GE114 := GW114; replace HB := am_ (below_step (by repeat (first | (with_reducible first | exact HB.out | apply below_alloc | apply pw_below_drewN | apply below_drew1 | refine below_set ?_ GE113.out) | exact HB.out)) hb); have NB113_114 := am_ ((by rw [hg]; exact Nat.ne_of_lt (blk_lt (by exact BK113.out)) : gb113 ≠ gb114)); have NB114_113 := am_ ((by rw [hg]; exact Nat.ne_of_gt (blk_lt (by exact BK113.out)) : gb114 ≠ gb113)); replace BK113 := am_ (blk_below (by exact BK113.out) hb); clear hb hbox hg; have hnb10 := NB113_114.out; have hnc10 := NB114_113.out; obtain ⟨hcz11_0, hcz11_1, hcz11_2, hcz11_3, hfz11_0, hfz11_1, hfz11_2, hfz11_3⟩ := blk4_ BK113.out; obtain ⟨Ao12, co12, eo12, _⟩ := Kd.Q_slice HO106.out; subst eo12; obtain ⟨hcz13_0, hcz13_1, hcz13_2, hcz13_3, hfz13_0, hfz13_1, hfz13_2, hfz13_3⟩ := blk4_ BK114.out; obtain ⟨Ao14, co14, eo14, _⟩ := Kd.Q_slice HO112.out; subst eo14) | ((with_reducible refine gate_callee (f := 35) rfl ?_); refine goesL_ (some 24) rfl rfl Try.func35 (by kernel_rfl) rfl #[.agg #[.int .i64 t101, .int .i64 t102, .int .i64 t103, .slice Ao12 t104.length co12], .agg #[.int .i64 t107, .int .i64 t108, .int .i64 t109, .slice Ao14 t110.length co14]] rfl (by simp only [List.map_toArray, List.map_cons, List.map_nil]; rfl) ?_; (with_reducible refine (impl_FindImage.calls t101 t102 t103 _ _ t104 t107 t108 t109 _ _ t110 t115 t116 t117 t118 t119 _ ?side1 ?side2 ?side3 ?side4 A4.out).mono ?_); (case side1 => refine (Kd.Q_reads' (e := 3) (base := w.heap.size) (ok := fun k_ => some k_ ≠ (.slice Ao14 t110.length co14 : Value).ownBlock) (n := t104.length) (c := co12) ?_).2.2; exact (by exact (Kd.Q_mono (Kd.Q_mono (Kd.Q_far (p := ⟨gb114, 3, none⟩) (Kd.Q_far (p := ⟨gb114, 2, none⟩) (Kd.Q_far (p := ⟨gb114, 1, none⟩) (Kd.Q_far (p := ⟨gb114, 0, none⟩) (Kd.Q_far (p := ⟨gb113, 3, none⟩) (Kd.Q_far (p := ⟨gb113, 2, none⟩) (Kd.Q_far (p := ⟨gb113, 1, none⟩) (Kd.Q_far (p := ⟨gb113, 0, none⟩) (Kd.Q_types (Kd.Q_types HO106.out BK113.out (by decide)) BK114.out (by decide)) (fun _ hk => hk.1.2) (.int .i64 t101)) (fun _ hk => hk.1.2) (.int .i64 t102)) (fun _ hk => hk.1.2) (.int .i64 t103)) (fun _ hk => hk.1.2) (.slice Ao12 t104.length co12)) (fun _ hk => hk.2) (.int .i64 t107)) (fun _ hk => hk.2) (.int .i64 t108)) (fun _ hk => hk.2) (.int .i64 t109)) (fun _ hk => hk.2) (.slice Ao14 t110.length co14)) (fun _ h_ => h_.1)) (fun _ h_ => h_.1)))); (case side2 => exact (Kd.Q_reads' HO106.out).2.1); (case side3 => refine (Kd.Q_reads' (e := 3) (base := w.heap.size) (ok := fun k_ => some k_ ≠ (.slice Ao12 t104.length co12 : Value).ownBlock) (n := t110.length) (c := co14) ?_).2.2; exact (by exact (Kd.Q_mono (Kd.Q_mono (Kd.Q_far (p := ⟨gb114, 3, none⟩) (Kd.Q_far (p := ⟨gb114, 2, none⟩) (Kd.Q_far (p := ⟨gb114, 1, none⟩) (Kd.Q_far (p := ⟨gb114, 0, none⟩) (Kd.Q_far (p := ⟨gb113, 3, none⟩) (Kd.Q_far (p := ⟨gb113, 2, none⟩) (Kd.Q_far (p := ⟨gb113, 1, none⟩) (Kd.Q_far (p := ⟨gb113, 0, none⟩) (Kd.Q_types (Kd.Q_types HO112.out BK113.out (by decide)) BK114.out (by decide)) (fun _ hk => hk.1.2) (.int .i64 t101)) (fun _ hk => hk.1.2) (.int .i64 t102)) (fun _ hk => hk.1.2) (.int .i64 t103)) (fun _ hk => hk.1.2) (.slice Ao12 t104.length co12)) (fun _ hk => hk.2) (.int .i64 t107)) (fun _ hk => hk.2) (.int .i64 t108)) (fun _ hk => hk.2) (.int .i64 t109)) (fun _ hk => hk.2) (.slice Ao14 t110.length co14)) (fun _ h_ => h_.1)) (fun _ h_ => h_.1)))); (case side4 => exact (Kd.Q_reads' HO112.out).2.1); rintro e w15 ⟨rfl, hb⟩; refine ⟨_, rfl, ?_⟩; replace HO106 := am_ (Kd.Q_below (by exact (Kd.Q_mono (Kd.Q_mono (Kd.Q_far (p := ⟨gb114, 3, none⟩) (Kd.Q_far (p := ⟨gb114, 2, none⟩) (Kd.Q_far (p := ⟨gb114, 1, none⟩) (Kd.Q_far (p := ⟨gb114, 0, none⟩) (Kd.Q_far (p := ⟨gb113, 3, none⟩) (Kd.Q_far (p := ⟨gb113, 2, none⟩) (Kd.Q_far (p := ⟨gb113, 1, none⟩) (Kd.Q_far (p := ⟨gb113, 0, none⟩) (Kd.Q_types (Kd.Q_types HO106.out BK113.out (by decide)) BK114.out (by decide)) (fun _ hk => hk.1.2) (.int .i64 t101)) (fun _ hk => hk.1.2) (.int .i64 t102)) (fun _ hk => hk.1.2) (.int .i64 t103)) (fun _ hk => hk.1.2) (.slice Ao12 t104.length co12)) (fun _ hk => hk.2) (.int .i64 t107)) (fun _ hk => hk.2) (.int .i64 t108)) (fun _ hk => hk.2) (.int .i64 t109)) (fun _ hk => hk.2) (.slice Ao14 t110.length co14)) (fun _ h_ => h_.1)) (fun _ h_ => h_.1))) hb); replace HO112 := am_ (Kd.Q_below (by exact (Kd.Q_mono (Kd.Q_mono (Kd.Q_far (p := ⟨gb114, 3, none⟩) (Kd.Q_far (p := ⟨gb114, 2, none⟩) (Kd.Q_far (p := ⟨gb114, 1, none⟩) (Kd.Q_far (p := ⟨gb114, 0, none⟩) (Kd.Q_far (p := ⟨gb113, 3, none⟩) (Kd.Q_far (p := ⟨gb113, 2, none⟩) (Kd.Q_far (p := ⟨gb113, 1, none⟩) (Kd.Q_far (p := ⟨gb113, 0, none⟩) (Kd.Q_types (Kd.Q_types HO112.out BK113.out (by decide)) BK114.out (by decide)) (fun _ hk => hk.1.2) (.int .i64 t101)) (fun _ hk => hk.1.2) (.int .i64 t102)) (fun _ hk => hk.1.2) (.int .i64 t103)) (fun _ hk => hk.1.2) (.slice Ao12 t104.length co12)) (fun _ hk => hk.2) (.int .i64 t107)) (fun _ hk => hk.2) (.int .i64 t108)) (fun _ hk => hk.2) (.int .i64 t109)) (fun _ hk => hk.2) (.slice Ao14 t110.length co14)) (fun _ h_ => h_.1)) (fun _ h_ => h_.1))) hb); replace BK113 := am_ (blk_below (g := gb113) (o := .cells #[.int .i64 t101, .int .i64 t102, .int .i64 t103, .slice Ao12 t104.length co12] 26 (0, 0)) (by (with_reducible repeat (first | refine blk_drewN ?_ _ | refine blk_drew ?_ | refine blk_alloc ?_ _)); refine blk_far ?_ NB113_114.out _; (with_reducible repeat (first | refine blk_drewN ?_ _ | refine blk_drew ?_ | refine blk_alloc ?_ _)); refine blk_far ?_ NB113_114.out _; (with_reducible repeat (first | refine blk_drewN ?_ _ | refine blk_drew ?_ | refine blk_alloc ?_ _)); refine blk_far ?_ NB113_114.out _; (with_reducible repeat (first | refine blk_drewN ?_ _ | refine blk_drew ?_ | refine blk_alloc ?_ _)); refine blk_far ?_ NB113_114.out _; (with_reducible repeat (first | refine blk_drewN ?_ _ | refine blk_drew ?_ | refine blk_alloc ?_ _)); refine blk_put (cs := #[.int .i64 t101, .int .i64 t102, .int .i64 t103, .slice none 0 0]) ?_ 3 _ rfl; (with_reducible repeat (first | refine blk_drewN ?_ _ | refine blk_drew ?_ | refine blk_alloc ?_ _)); refine blk_put (cs := #[.int .i64 t101, .int .i64 t102, .int .i64 0, .slice none 0 0]) ?_ 2 _ rfl; (with_reducible repeat (first | refine blk_drewN ?_ _ | refine blk_drew ?_ | refine blk_alloc ?_ _)); refine blk_put (cs := #[.int .i64 t101, .int .i64 0, .int .i64 0, .slice none 0 0]) ?_ 1 _ rfl; (with_reducible repeat (first | refine blk_drewN ?_ _ | refine blk_drew ?_ | refine blk_alloc ?_ _)); refine blk_put (cs := #[.int .i64 0, .int .i64 0, .int .i64 0, .slice none 0 0]) ?_ 0 _ rfl; (with_reducible repeat (first | refine blk_drewN ?_ _ | refine blk_drew ?_ | refine blk_alloc ?_ _)); exact BK113.out) hb); replace BK114 := am_ (blk_below (g := gb114) (o := .cells #[.int .i64 t107, .int .i64 t108, .int .i64 t109, .slice Ao14 t110.length co14] 26 (0, 0)) (by (with_reducible repeat (first | refine blk_drewN ?_ _ | refine blk_drew ?_ | refine blk_alloc ?_ _)); refine blk_put (cs := #[.int .i64 t107, .int .i64 t108, .int .i64 t109, .slice none 0 0]) ?_ 3 _ rfl; (with_reducible repeat (first | refine blk_drewN ?_ _ | refine blk_drew ?_ | refine blk_alloc ?_ _)); refine blk_put (cs := #[.int .i64 t107, .int .i64 t108, .int .i64 0, .slice none 0 0]) ?_ 2 _ rfl; (with_reducible repeat (first | refine blk_drewN ?_ _ | refine blk_drew ?_ | refine blk_alloc ?_ _)); refine blk_put (cs := #[.int .i64 t107, .int .i64 0, .int .i64 0, .slice none 0 0]) ?_ 1 _ rfl; (with_reducible repeat (first | refine blk_drewN ?_ _ | refine blk_drew ?_ | refine blk_alloc ?_ _)); refine blk_put (cs := #[.int .i64 0, .int .i64 0, .int .i64 0, .slice none 0 0]) ?_ 0 _ rfl; (with_reducible repeat (first | refine blk_drewN ?_ _ | refine blk_drew ?_ | refine blk_alloc ?_ _)); refine blk_far ?_ NB114_113.out _; (with_reducible repeat (first | refine blk_drewN ?_ _ | refine blk_drew ?_ | refine blk_alloc ?_ _)); refine blk_far ?_ NB114_113.out _; (with_reducible repeat (first | refine blk_drewN ?_ _ | refine blk_drew ?_ | refine blk_alloc ?_ _)); refine blk_far ?_ NB114_113.out _; (with_reducible repeat (first | refine blk_drewN ?_ _ | refine blk_drew ?_ | refine blk_alloc ?_ _)); refine blk_far ?_ NB114_113.out _; (with_reducible repeat (first | refine blk_drewN ?_ _ | refine blk_drew ?_ | refine blk_alloc ?_ _)); exact BK114.out) hb); replace HB := am_ (below_step (by repeat (first | (with_reducible first | exact HB.out | apply below_alloc | apply pw_below_drewN | apply below_drew1 | refine below_set ?_ GE113.out | refine below_set ?_ GE114.out) | exact HB.out)) hb); (try clear hb); (try clear hb2); (try clear hk); (try clear hi)) | ((with_reducible refine gate_dst (N := 5) rfl ?_); refine box_event ?hg (N := 5) ?hd (cs := #[.int .i64 0, .int .i64 0, .int .i64 0, .int .i64 0]) (t := 40) ?hr ?_; (case hd => rfl); (case hg => rfl); (case hr => first | (go_simp; done) | (go_simp; rfl)); intro gb120 hg w16 hbox hb; replace HO106 := am_ (Kd.Q_below (by exact HO106.out) hb); replace HO112 := am_ (Kd.Q_below (by exact HO112.out) hb); have BK120 := am_ (hbox); have GW120 := am_ ((by rw [hg]; exact (below_size (by repeat (first | (with_reducible first | exact HB.out | apply below_alloc | apply pw_below_drewN | apply below_drew1 | refine below_set ?_ GE113.out | refine below_set ?_ GE114.out) | exact HB.out))) : w.heap.size ≤ gb120)); have GE120 := GW120; replace HB := am_ (below_step (by repeat (first | (with_reducible first | exact HB.out | apply below_alloc | apply pw_below_drewN | apply below_drew1 | refine below_set ?_ GE113.out | refine below_set ?_ GE114.out) | exact HB.out)) hb); have NB113_120 := am_ ((by rw [hg]; exact Nat.ne_of_lt (blk_lt (by exact BK113.out)) : gb113 ≠ gb120)); have NB120_113 := am_ ((by rw [hg]; exact Nat.ne_of_gt (blk_lt (by exact BK113.out)) : gb120 ≠ gb113)); replace BK113 := am_ (blk_below (by exact BK113.out) hb); have NB114_120 := am_ ((by rw [hg]; exact Nat.ne_of_lt (blk_lt (by exact BK114.out)) : gb114 ≠ gb120)); have NB120_114 := am_ ((by rw [hg]; exact Nat.ne_of_gt (blk_lt (by exact BK114.out)) : gb120 ≠ gb114)); replace BK114 := am_ (blk_below (by exact BK114.out) hb); clear hb hbox hg; have hnb17 := NB120_113.out; have hnc17 := NB113_120.out; have hnb18 := NB120_114.out; have hnc18 := NB114_120.out; obtain ⟨hcz19_0, hcz19_1, hcz19_2, hcz19_3, hfz19_0, hfz19_1, hfz19_2, hfz19_3⟩ := blk4_ BK120.out; obtain ⟨hcz20_0, hcz20_1, hcz20_2, hcz20_3, hfz20_0, hfz20_1, hfz20_2, hfz20_3⟩ := blk4_ BK113.out; obtain ⟨hcz21_0, hcz21_1, hcz21_2, hcz21_3, hfz21_0, hfz21_1, hfz21_2, hfz21_3⟩ := blk4_ BK114.out) | ((with_reducible refine gate_callee (f := 34) rfl ?_); refine goesL_ (some 30) rfl rfl Try.func34 (by kernel_rfl) rfl #[.agg #[.int .i64 t101, .int .i64 t102, .int .i64 t103, .slice Ao12 t104.length co12], .agg #[.int .i64 t107, .int .i64 t108, .int .i64 t109, .slice Ao14 t110.length co14]] rfl (by simp only [List.map_toArray, List.map_cons, List.map_nil]; rfl) ?_; (with_reducible refine (spec_FindImage.calls k t101 t102 t103 _ _ t104 t107 t108 t109 _ _ t110 t121 t122 t123 t124 t125 _ ?side1 ?side2 ?side3 ?side4 A5.out).mono ?_); (case side1 => refine (Kd.Q_reads' (e := 3) (base := w.heap.size) (ok := fun k_ => some k_ ≠ (.slice Ao14 t110.length co14 : Value).ownBlock) (n := t104.length) (c := co12) ?_).2.2; exact (by exact (Q4_ HO106.out BK120.out (by decide) _ _ _ _))); (case side2 => exact (Kd.Q_reads' HO106.out).2.1); (case side3 => refine (Kd.Q_reads' (e := 3) (base := w.heap.size) (ok := fun k_ => some k_ ≠ (.slice Ao12 t104.length co12 : Value).ownBlock) (n := t110.length) (c := co14) ?_).2.2; exact (by exact (Q4_ HO112.out BK120.out (by decide) _ _ _ _))); (case side4 => exact (Kd.Q_reads' HO112.out).2.1); rintro e w22 ⟨rfl, hb⟩; refine ⟨_, rfl, ?_⟩; replace HO106 := am_ (Kd.Q_below (by exact (Q4_ HO106.out BK120.out (by decide) _ _ _ _)) hb); replace HO112 := am_ (Kd.Q_below (by exact (Q4_ HO112.out BK120.out (by decide) _ _ _ _)) hb); replace BK113 := am_ (blk_below (by exact far4_ BK113.out NB113_120.out _ _ _ _) hb); replace BK114 := am_ (blk_below (by exact far4_ BK114.out NB114_120.out _ _ _ _) hb); replace BK120 := am_ (blk_below (by exact put4_ BK120.out _ _ _ _) hb); replace HB := am_ (below_step (by repeat (first | (with_reducible first | exact HB.out | apply below_alloc | apply pw_below_drewN | apply below_drew1 | refine below_set ?_ GE113.out | refine below_set ?_ GE114.out | refine below_set ?_ GE120.out) | exact HB.out)) hb); (try clear hb); (try clear hb2); (try clear hk); (try clear hi)) | ((with_reducible refine gate_dst (N := 7) rfl ?_); refine box_event ?hg (N := 7) ?hd (cs := #[.int .i64 0, .int .i64 0, .int .i64 0, .int .i64 0]) (t := 40) ?hr ?_; (case hd => rfl); (case hg => rfl); (case hr => first | (go_simp; done) | (go_simp; rfl)); intro gb126 hg w23 hbox hb; replace HO106 := am_ (Kd.Q_below (by exact HO106.out) hb); replace HO112 := am_ (Kd.Q_below (by exact HO112.out) hb); have BK126 := am_ (hbox); have GW126 := am_ ((by rw [hg]; exact (below_size (by repeat (first | (with_reducible first | exact HB.out | apply below_alloc | apply pw_below_drewN | apply below_drew1 | refine below_set ?_ GE113.out | refine below_set ?_ GE114.out | refine below_set ?_ GE120.out) | exact HB.out))) : w.heap.size ≤ gb126)); have GE126 := GW126; replace HB := am_ (below_step (by repeat (first | (with_reducible first | exact HB.out | apply below_alloc | apply pw_below_drewN | apply below_drew1 | refine below_set ?_ GE113.out | refine below_set ?_ GE114.out | refine below_set ?_ GE120.out) | exact HB.out)) hb); have NB113_126 := am_ ((by rw [hg]; exact Nat.ne_of_lt (blk_lt (by exact BK113.out)) : gb113 ≠ gb126)); have NB126_113 := am_ ((by rw [hg]; exact Nat.ne_of_gt (blk_lt (by exact BK113.out)) : gb126 ≠ gb113)); replace BK113 := am_ (blk_below (by exact BK113.out) hb); have NB114_126 := am_ ((by rw [hg]; exact Nat.ne_of_lt (blk_lt (by exact BK114.out)) : gb114 ≠ gb126)); have NB126_114 := am_ ((by rw [hg]; exact Nat.ne_of_gt (blk_lt (by exact BK114.out)) : gb126 ≠ gb114)); replace BK114 := am_ (blk_below (by exact BK114.out) hb); have NB120_126 := am_ ((by rw [hg]; exact Nat.ne_of_lt (blk_lt (by exact BK120.out)) : gb120 ≠ gb126)); have NB126_120 := am_ ((by rw [hg]; exact Nat.ne_of_gt (blk_lt (by exact BK120.out)) : gb126 ≠ gb120)); replace BK120 := am_ (blk_below (by exact BK120.out) hb); clear hb hbox hg; have hnb24 := NB126_113.out; have hnc24 := NB113_126.out; have hnb25 := NB126_114.out; have hnc25 := NB114_126.out; have hnb26 := NB126_120.out; have hnc26 := NB120_126.out; obtain ⟨hcz27_0, hcz27_1, hcz27_2, hcz27_3, hfz27_0, hfz27_1, hfz27_2, hfz27_3⟩ := blk4_ BK126.out))
 (try simp only [Act.put, List.setIfInBounds_toArray, List.set_cons_zero, List.set_cons_succ])
 go_cut [44] (fun v44 wc => ∃ (kq : Nat) (x44_5 : Bool), v44 = .bool x44_5 ∧ Aside0 (laws_FnFindImageOwn.j0 kq t119 t125 x44_5 t101 t102 t103 t104 t107 t108 t109 t110 t115 t116 t117 t118 t121 t122 t123 t124 = some r) ∧ Aside0 (kq ≤ k) ∧ Aside0 (Kd.Q (Kd.int .i64) 3 wc w.heap.size (fun k_ => some k_ ≠ ((.slice Ao14 t110.length co14) : Value).ownBlock) (.slice Ao12 t104.length co12) t104) ∧ Aside0 (Kd.Q (Kd.int .i64) 3 wc w.heap.size (fun k_ => some k_ ≠ ((.slice Ao12 t104.length co12) : Value).ownBlock) (.slice Ao14 t110.length co14) t110) ∧ Aside0 (wc.heap[gb113]? = some (.cells #[.int .i64 t101, .int .i64 t102, .int .i64 t103, (.slice Ao12 t104.length co12)] 26 (0, 0))) ∧ Aside0 (wc.heap[gb114]? = some (.cells #[.int .i64 t107, .int .i64 t108, .int .i64 t109, (.slice Ao14 t110.length co14)] 26 (0, 0))) ∧ Aside0 (wc.heap[gb120]? = some (.cells #[.int .i64 t115, .int .i64 t116, .int .i64 t117, .int .i64 t118] 40 (0, 0))) ∧ Aside0 (wc.heap[gb126]? = some (.cells #[.int .i64 t121, .int .i64 t122, .int .i64 t123, .int .i64 t124] 40 (0, 0))) ∧ Aside0 (Below w.heap.size w wc))
 case first =>
  have H := HC6.out
  clear HC6
  by_cases c28 : (!(t115 == t121) || (!(t116 == t122) || (!(t117 == t123) || (!(t118 == t124))))) = true
  ·
   rw [if_pos c28] at H
   have c28b0 : (!(t115 == t121) || (!(t116 == t122) || (!(t117 == t123) || (!(t118 == t124))))) = true := c28
   clear c28
   (first | rw [c28b0] | (simp only [i64_w, i32_w]; rw [c28b0]) | skip)
   have H' := Aside0.mk H
   clear H
   have hnb29 := NB120_113.out
   have hnc29 := NB113_120.out
   have hnb30 := NB120_114.out
   have hnc30 := NB114_120.out
   have hnb31 := NB120_126.out
   have hnc31 := NB126_120.out
   obtain ⟨hcz32_0, hcz32_1, hcz32_2, hcz32_3, hfz32_0, hfz32_1, hfz32_2, hfz32_3⟩ := blk4_ BK120.out
   have hnb33 := NB126_113.out
   have hnc33 := NB113_126.out
   have hnb34 := NB126_114.out
   have hnc34 := NB114_126.out
   obtain ⟨hcz35_0, hcz35_1, hcz35_2, hcz35_3, hfz35_0, hfz35_1, hfz35_2, hfz35_3⟩ := blk4_ BK126.out
   go_wp2
   go_meet
   case rel => exact ⟨_, (true), (by first | rfl | (simp; done) | (simp [*]; done)), H', ⟨by first | omega | exact Nat.le_refl _⟩, ⟨by exact Kd.Q_mono (Kd.Q_far (p := ⟨gb126, 3, none⟩) (Kd.Q_far (p := ⟨gb126, 2, none⟩) (Kd.Q_far (p := ⟨gb126, 1, none⟩) (Kd.Q_far (p := ⟨gb126, 0, none⟩) (Kd.Q_types HO106.out BK126.out (by decide)) (fun _ hk => hk.2) (.int .i64 t121)) (fun _ hk => hk.2) (.int .i64 t122)) (fun _ hk => hk.2) (.int .i64 t123)) (fun _ hk => hk.2) (.int .i64 t124)) (fun _ hk => hk.1)⟩, ⟨by exact Kd.Q_mono (Kd.Q_far (p := ⟨gb126, 3, none⟩) (Kd.Q_far (p := ⟨gb126, 2, none⟩) (Kd.Q_far (p := ⟨gb126, 1, none⟩) (Kd.Q_far (p := ⟨gb126, 0, none⟩) (Kd.Q_types HO112.out BK126.out (by decide)) (fun _ hk => hk.2) (.int .i64 t121)) (fun _ hk => hk.2) (.int .i64 t122)) (fun _ hk => hk.2) (.int .i64 t123)) (fun _ hk => hk.2) (.int .i64 t124)) (fun _ hk => hk.1)⟩, ⟨by exact far4_ BK113.out NB113_126.out _ _ _ _⟩, ⟨by exact far4_ BK114.out NB114_126.out _ _ _ _⟩, ⟨by exact far4_ BK120.out NB120_126.out _ _ _ _⟩, ⟨by exact put4_ BK126.out _ _ _ _⟩, ⟨by repeat (first | (with_reducible first | exact HB.out | apply below_alloc | apply pw_below_drewN | apply below_drew1 | refine below_set ?_ GE113.out | refine below_set ?_ GE114.out | refine below_set ?_ GE120.out | refine below_set ?_ GE126.out) | exact HB.out)⟩⟩
  rw [if_neg c28] at H
  have c28b0 : (!(t115 == t121) || (!(t116 == t122) || (!(t117 == t123) || (!(t118 == t124))))) = false := by simpa using c28
  clear c28
  (first | rw [c28b0] | (simp only [i64_w, i32_w]; rw [c28b0]) | skip)
  by_cases c36 : t119 = t125
  ·
   rw [if_pos c36] at H
   have c36b0 : (t119 == t125) = true := beq_iff_eq.mpr c36
   have c36b1 : (t119 != t125) = false := bne_eq_false_iff_eq.mpr c36
   clear c36
   have H' := Aside0.mk H
   clear H
   have hnb37 := NB120_113.out
   have hnc37 := NB113_120.out
   have hnb38 := NB120_114.out
   have hnc38 := NB114_120.out
   have hnb39 := NB120_126.out
   have hnc39 := NB126_120.out
   obtain ⟨hcz40_0, hcz40_1, hcz40_2, hcz40_3, hfz40_0, hfz40_1, hfz40_2, hfz40_3⟩ := blk4_ BK120.out
   have hnb41 := NB126_113.out
   have hnc41 := NB113_126.out
   have hnb42 := NB126_114.out
   have hnc42 := NB114_126.out
   obtain ⟨hcz43_0, hcz43_1, hcz43_2, hcz43_3, hfz43_0, hfz43_1, hfz43_2, hfz43_3⟩ := blk4_ BK126.out
   go_wp2
   go_meet
   case rel => exact ⟨_, (decide (t119 < 0)), (by first | rfl | (simp; done) | (simp [*]; done)), H', ⟨by first | omega | exact Nat.le_refl _⟩, ⟨by exact Kd.Q_mono (Kd.Q_far (p := ⟨gb126, 3, none⟩) (Kd.Q_far (p := ⟨gb126, 2, none⟩) (Kd.Q_far (p := ⟨gb126, 1, none⟩) (Kd.Q_far (p := ⟨gb126, 0, none⟩) (Kd.Q_types HO106.out BK126.out (by decide)) (fun _ hk => hk.2) (.int .i64 t121)) (fun _ hk => hk.2) (.int .i64 t122)) (fun _ hk => hk.2) (.int .i64 t123)) (fun _ hk => hk.2) (.int .i64 t124)) (fun _ hk => hk.1)⟩, ⟨by exact Kd.Q_mono (Kd.Q_far (p := ⟨gb126, 3, none⟩) (Kd.Q_far (p := ⟨gb126, 2, none⟩) (Kd.Q_far (p := ⟨gb126, 1, none⟩) (Kd.Q_far (p := ⟨gb126, 0, none⟩) (Kd.Q_types HO112.out BK126.out (by decide)) (fun _ hk => hk.2) (.int .i64 t121)) (fun _ hk => hk.2) (.int .i64 t122)) (fun _ hk => hk.2) (.int .i64 t123)) (fun _ hk => hk.2) (.int .i64 t124)) (fun _ hk => hk.1)⟩, ⟨by exact far4_ BK113.out NB113_126.out _ _ _ _⟩, ⟨by exact far4_ BK114.out NB114_126.out _ _ _ _⟩, ⟨by exact far4_ BK120.out NB120_126.out _ _ _ _⟩, ⟨by exact put4_ BK126.out _ _ _ _⟩, ⟨by repeat (first | (with_reducible first | exact HB.out | apply below_alloc | apply pw_below_drewN | apply below_drew1 | refine below_set ?_ GE113.out | refine below_set ?_ GE114.out | refine below_set ?_ GE120.out | refine below_set ?_ GE126.out) | exact HB.out)⟩⟩
  rw [if_neg c36] at H
  have c36b0 : (t119 == t125) = false := beq_eq_false_iff_ne.mpr c36
  have c36b1 : (t119 != t125) = true := bne_iff_ne.mpr c36
  have H' := Aside0.mk H
  clear H
  have hnb44 := NB120_113.out
  have hnc44 := NB113_120.out
  have hnb45 := NB120_114.out
  have hnc45 := NB114_120.out
  have hnb46 := NB120_126.out
  have hnc46 := NB126_120.out
  obtain ⟨hcz47_0, hcz47_1, hcz47_2, hcz47_3, hfz47_0, hfz47_1, hfz47_2, hfz47_3⟩ := blk4_ BK120.out
  have hnb48 := NB126_113.out
  have hnc48 := NB113_126.out
  have hnb49 := NB126_114.out
  have hnc49 := NB114_126.out
  obtain ⟨hcz50_0, hcz50_1, hcz50_2, hcz50_3, hfz50_0, hfz50_1, hfz50_2, hfz50_3⟩ := blk4_ BK126.out
  go_wp2
  go_meet
  case rel => exact ⟨_, (true), (by first | rfl | (simp; done) | (simp [*]; done)), H', ⟨by first | omega | exact Nat.le_refl _⟩, ⟨by exact Kd.Q_mono (Kd.Q_far (p := ⟨gb126, 3, none⟩) (Kd.Q_far (p := ⟨gb126, 2, none⟩) (Kd.Q_far (p := ⟨gb126, 1, none⟩) (Kd.Q_far (p := ⟨gb126, 0, none⟩) (Kd.Q_types HO106.out BK126.out (by decide)) (fun _ hk => hk.2) (.int .i64 t121)) (fun _ hk => hk.2) (.int .i64 t122)) (fun _ hk => hk.2) (.int .i64 t123)) (fun _ hk => hk.2) (.int .i64 t124)) (fun _ hk => hk.1)⟩, ⟨by exact Kd.Q_mono (Kd.Q_far (p := ⟨gb126, 3, none⟩) (Kd.Q_far (p := ⟨gb126, 2, none⟩) (Kd.Q_far (p := ⟨gb126, 1, none⟩) (Kd.Q_far (p := ⟨gb126, 0, none⟩) (Kd.Q_types HO112.out BK126.out (by decide)) (fun _ hk => hk.2) (.int .i64 t121)) (fun _ hk => hk.2) (.int .i64 t122)) (fun _ hk => hk.2) (.int .i64 t123)) (fun _ hk => hk.2) (.int .i64 t124)) (fun _ hk => hk.1)⟩, ⟨by exact far4_ BK113.out NB113_126.out _ _ _ _⟩, ⟨by exact far4_ BK114.out NB114_126.out _ _ _ _⟩, ⟨by exact far4_ BK120.out NB120_126.out _ _ _ _⟩, ⟨by exact put4_ BK126.out _ _ _ _⟩, ⟨by repeat (first | (with_reducible first | exact HB.out | apply below_alloc | apply pw_below_drewN | apply below_drew1 | refine below_set ?_ GE113.out | refine below_set ?_ GE114.out | refine below_set ?_ GE120.out | refine below_set ?_ GE126.out) | exact HB.out)⟩⟩
 case rest =>
  clear HC6
  try clear c1
  try clear c2
  try clear c2b0
  try clear c2b1
  try clear p2
  try clear c3
  try clear c4
  try clear c10
  try clear c11
  try clear c17
  try clear c18
  try clear c24
  try clear c25
  try clear c26
  try clear c28
  try clear c28b0
  try clear c29
  try clear c30
  try clear c31
  try clear c33
  try clear c34
  try clear c35
  try clear c36
  try clear c36b0
  try clear c36b1
  try clear c37
  try clear c38
  try clear c39
  try clear c41
  try clear c42
  try clear c44
  try clear c45
  try clear c46
  try clear c48
  try clear c49
  try clear hcz11_0
  try clear hcz11_1
  try clear hcz11_2
  try clear hcz11_3
  try clear hcz13_0
  try clear hcz13_1
  try clear hcz13_2
  try clear hcz13_3
  try clear hcz19_0
  try clear hcz19_1
  try clear hcz19_2
  try clear hcz19_3
  try clear hcz20_0
  try clear hcz20_1
  try clear hcz20_2
  try clear hcz20_3
  try clear hcz21_0
  try clear hcz21_1
  try clear hcz21_2
  try clear hcz21_3
  try clear hcz27_0
  try clear hcz27_1
  try clear hcz27_2
  try clear hcz27_3
  try clear hcz32_0
  try clear hcz32_1
  try clear hcz32_2
  try clear hcz32_3
  try clear hcz35_0
  try clear hcz35_1
  try clear hcz35_2
  try clear hcz35_3
  try clear hcz40_0
  try clear hcz40_1
  try clear hcz40_2
  try clear hcz40_3
  try clear hcz43_0
  try clear hcz43_1
  try clear hcz43_2
  try clear hcz43_3
  try clear hcz47_0
  try clear hcz47_1
  try clear hcz47_2
  try clear hcz47_3
  try clear hcz50_0
  try clear hcz50_1
  try clear hcz50_2
  try clear hcz50_3
  try clear hfz11_0
  try clear hfz11_1
  try clear hfz11_2
  try clear hfz11_3
  try clear hfz13_0
  try clear hfz13_1
  try clear hfz13_2
  try clear hfz13_3
  try clear hfz19_0
  try clear hfz19_1
  try clear hfz19_2
  try clear hfz19_3
  try clear hfz20_0
  try clear hfz20_1
  try clear hfz20_2
  try clear hfz20_3
  try clear hfz21_0
  try clear hfz21_1
  try clear hfz21_2
  try clear hfz21_3
  try clear hfz27_0
  try clear hfz27_1
  try clear hfz27_2
  try clear hfz27_3
  try clear hfz32_0
  try clear hfz32_1
  try clear hfz32_2
  try clear hfz32_3
  try clear hfz35_0
  try clear hfz35_1
  try clear hfz35_2
  try clear hfz35_3
  try clear hfz40_0
  try clear hfz40_1
  try clear hfz40_2
  try clear hfz40_3
  try clear hfz43_0
  try clear hfz43_1
  try clear hfz43_2
  try clear hfz43_3
  try clear hfz47_0
  try clear hfz47_1
  try clear hfz47_2
  try clear hfz47_3
  try clear hfz50_0
  try clear hfz50_1
  try clear hfz50_2
  try clear hfz50_3
  obtain ⟨kq, x44_5, rfl, HA, HJ5, HO_114003, HO_115003, BK113, BK114, BK120, BK126, HB⟩ := hcut
  cases kq with
  | zero => exact absurd HA.out (by simp [laws_FnFindImageOwn.j0])
  | succ kj5 =>
   have H := HA.out
   clear HA
   simp only [laws_FnFindImageOwn.j0] at H
   by_cases c51 : x44_5 = true
   ·
    subst c51
    have H1 : (if (t115 == t121 && (t116 == t122 && (t117 == t123 && (t118 == t124)))) = true then (some (t119 == t125)) else (some false)) = some r := by rw [if_pos rfl] at H; exact H
    clear H
    have H := H1
    clear H1
    by_cases c52 : (t115 == t121 && (t116 == t122 && (t117 == t123 && (t118 == t124)))) = true
    ·
     rw [if_pos c52] at H
     have c52b0 : (t115 == t121 && (t116 == t122 && (t117 == t123 && (t118 == t124)))) = true := c52
     (try (have c52b1 : decide (t115 = t121 && (t116 == t122 && (t117 == t123 && (t118 == t124)))) = true := by simpa using c52))
     (try (have c52b2 : (t115 == t121 && (t116 == t122 && (t117 == t123 && (t118 == t124)))) = true := by simpa using c52))
     clear c52
     obtain rfl := Option.some.inj H
     have hnb53 := NB120_113.out
     have hnc53 := NB113_120.out
     have hnb54 := NB120_114.out
     have hnc54 := NB114_120.out
     have hnb55 := NB120_126.out
     have hnc55 := NB126_120.out
     obtain ⟨hcz56_0, hcz56_1, hcz56_2, hcz56_3, hfz56_0, hfz56_1, hfz56_2, hfz56_3⟩ := blk4_ BK120.out
     have hnb57 := NB126_113.out
     have hnc57 := NB113_126.out
     have hnb58 := NB126_114.out
     have hnc58 := NB114_126.out
     obtain ⟨hcz59_0, hcz59_1, hcz59_2, hcz59_3, hfz59_0, hfz59_1, hfz59_2, hfz59_3⟩ := blk4_ BK126.out
     go_wp2
     go_ret
     exact ⟨by first | rfl | (simp [errW_none, errW_some] <;> rfl) | (simp [*, errW_none, errW_some] <;> rfl), by repeat (first | (with_reducible first | exact HB.out | apply below_alloc | apply pw_below_drewN | apply below_drew1 | refine below_set ?_ GE113.out | refine below_set ?_ GE114.out | refine below_set ?_ GE120.out | refine below_set ?_ GE126.out) | exact HB.out)⟩
    rw [if_neg c52] at H
    have c52b0 : (t115 == t121 && (t116 == t122 && (t117 == t123 && (t118 == t124)))) = false := by simpa using c52
    (try (have c52b1 : decide (t115 = t121 && (t116 == t122 && (t117 == t123 && (t118 == t124)))) = false := by simpa using c52))
    (try (have c52b2 : (t115 == t121 && (t116 == t122 && (t117 == t123 && (t118 == t124)))) = false := by simpa using c52))
    (try (have c52b3 : ¬ (t115 = t121 && (t116 == t122 && (t117 == t123 && (t118 == t124)))) := by simpa using c52))
    clear c52
    obtain rfl := Option.some.inj H
    have hnb60 := NB120_113.out
    have hnc60 := NB113_120.out
    have hnb61 := NB120_114.out
    have hnc61 := NB114_120.out
    have hnb62 := NB120_126.out
    have hnc62 := NB126_120.out
    obtain ⟨hcz63_0, hcz63_1, hcz63_2, hcz63_3, hfz63_0, hfz63_1, hfz63_2, hfz63_3⟩ := blk4_ BK120.out
    have hnb64 := NB126_113.out
    have hnc64 := NB113_126.out
    have hnb65 := NB126_114.out
    have hnc65 := NB114_126.out
    obtain ⟨hcz66_0, hcz66_1, hcz66_2, hcz66_3, hfz66_0, hfz66_1, hfz66_2, hfz66_3⟩ := blk4_ BK126.out
    go_wp2
    go_ret
    exact ⟨by first | rfl | (simp [errW_none, errW_some] <;> rfl) | (simp [*, errW_none, errW_some] <;> rfl), by repeat (first | (with_reducible first | exact HB.out | apply below_alloc | apply pw_below_drewN | apply below_drew1 | refine below_set ?_ GE113.out | refine below_set ?_ GE114.out | refine below_set ?_ GE120.out | refine below_set ?_ GE126.out) | exact HB.out)⟩
   replace c51 := Bool.eq_false_iff.mpr c51
   subst c51
   have H1 : ((impl_CropImage.f t101 t102 t103 t104 (wrap64 (t101 - t107)) (wrap64 (t102 - t108)) t107 t108).bind fun bt127 => ((impl_FindImage.f t101 t102 t103 t104 bt127.1 bt127.2.1 bt127.2.2.1 bt127.2.2.2.1).bind fun bt135 => (if bt127.2.2.2.2 = true then (if bt135.2.2.2.2 = 0 then (if bt135.2.1 ≤ (wrap64 (t102 - t108)) then ((impl_CountImage.f t101 t102 t103 t104 bt127.1 bt127.2.1 bt127.2.2.1 bt127.2.2.2.1).bind fun t141 => (some (decide (t141 ≥ 1)))) else (some false)) else (some false)) else (some false)))) = some r := by rw [if_neg (show ¬ (false = true) by decide)] at H; exact H
   clear H
   have H := H1
   clear H1
   replace H := Option.bind_eq_some_iff.mp H
   obtain ⟨⟨t127, t128, t129, t130, t133⟩, A670, H⟩ := H
   replace H : ((impl_FindImage.f t101 t102 t103 t104 t127 t128 t129 t130).bind fun bt135 => (if t133 = true then (if bt135.2.2.2.2 = 0 then (if bt135.2.1 ≤ (wrap64 (t102 - t108)) then ((impl_CountImage.f t101 t102 t103 t104 t127 t128 t129 t130).bind fun t141 => (some (decide (t141 ≥ 1)))) else (some false)) else (some false)) else (some false))) = some r := H
   have A67 := Aside0.mk A670
   clear A670
   replace H := Option.bind_eq_some_iff.mp H
   obtain ⟨⟨t135, t136, t137, t138, t139⟩, A680, H⟩ := H
   replace H : (if t133 = true then (if t139 = 0 then (if t136 ≤ (wrap64 (t102 - t108)) then ((impl_CountImage.f t101 t102 t103 t104 t127 t128 t129 t130).bind fun t141 => (some (decide (t141 ≥ 1)))) else (some false)) else (some false)) else (some false)) = some r := H
   have A68 := Aside0.mk A680
   clear A680
   by_cases c69 : t133 = true
   rotate_left
   ·
    replace c69 := Bool.eq_false_iff.mpr c69
    subst c69
    have H1 : (some false) = some r := by rw [if_neg (show ¬ (false = true) by decide)] at H; exact H
    clear H
    have H := H1
    clear H1
    obtain rfl := Option.some.inj H
    have hnb151 := NB113_114.out
    have hnc151 := NB114_113.out
    have hnb152 := NB113_120.out
    have hnc152 := NB120_113.out
    have hnb153 := NB113_126.out
    have hnc153 := NB126_113.out
    obtain ⟨hcz154_0, hcz154_1, hcz154_2, hcz154_3, hfz154_0, hfz154_1, hfz154_2, hfz154_3⟩ := blk4_ BK113.out
    have hnb155 := NB114_120.out
    have hnc155 := NB120_114.out
    have hnb156 := NB114_126.out
    have hnc156 := NB126_114.out
    obtain ⟨hcz157_0, hcz157_1, hcz157_2, hcz157_3, hfz157_0, hfz157_1, hfz157_2, hfz157_3⟩ := blk4_ BK114.out
    go_wp2_with (first | ((with_reducible refine gate_callee (f := 25) rfl ?_); refine goesL_ (some 70) rfl rfl Try.func25 (by kernel_rfl) rfl #[.agg #[.int .i64 t101, .int .i64 t102, .int .i64 t103, .slice Ao12 t104.length co12], .agg #[.int .i64 (wrap64 (t101 - t107)), .int .i64 (wrap64 (t102 - t108)), .int .i64 t107, .int .i64 t108]] rfl (by simp only [List.map_toArray, List.map_cons, List.map_nil]; rfl) ?_; (with_reducible refine (impl_CropImage.calls t101 t102 t103 _ _ t104 (wrap64 (t101 - t107)) (wrap64 (t102 - t108)) t107 t108 t127 t128 t129 t130 false _ ?side1 ?side2 A67.out).mono ?_); (case side1 => repeat (first | exact (Kd.Q_reads' HO_114003.out).2.2 | (with_reducible refine Kd.C_alloc ?_ _) | (with_reducible refine Kd.C_drewN ?_ _) | (with_reducible refine Kd.C_drew ?_))); (case side2 => exact (Kd.Q_reads' HO_114003.out).2.1); rintro e w158 ⟨v131, rfl, ho0, hb⟩; refine ⟨_, rfl, ?_⟩; have HO132 := am_ (Kd.R_lower (Kd.R_new' (Kd.R_new' ho0 (Kd.Q_lt (by exact HO_114003.out))) (Kd.Q_lt (by exact HO_115003.out))) (below_size (by repeat (first | (with_reducible first | exact HB.out | apply below_alloc | apply pw_below_drewN | apply below_drew1 | refine below_set ?_ GE113.out | refine below_set ?_ GE114.out | refine below_set ?_ GE120.out | refine below_set ?_ GE126.out) | exact HB.out)))); replace HO_114003 := am_ (Kd.Q_elder' (by exact HO_114003.out) (Kd.R_base ho0) hb); replace HO_115003 := am_ (Kd.Q_elder' (by exact HO_115003.out) (Kd.R_base ho0) hb); replace BK113 := am_ (blk_below (by exact BK113.out) hb); replace BK114 := am_ (blk_below (by exact BK114.out) hb); replace BK120 := am_ (blk_below (by exact BK120.out) hb); replace BK126 := am_ (blk_below (by exact BK126.out) hb); replace HB := am_ (below_step (by repeat (first | (with_reducible first | exact HB.out | apply below_alloc | apply pw_below_drewN | apply below_drew1 | refine below_set ?_ GE113.out | refine below_set ?_ GE114.out | refine below_set ?_ GE120.out | refine below_set ?_ GE126.out) | exact HB.out)) hb); (try clear hb); (try clear hb2); (try clear hk); (try clear hi); (try clear ho0)) | ((with_reducible refine gate_dst (N := 9) rfl ?_); refine box_event ?hg (N := 9) ?hd (cs := #[.int .i64 0, .int .i64 0, .int .i64 0, .slice none 0 0]) (t := 26) ?hr ?_; (case hd => rfl); (case hg => rfl); (case hr => first | (go_simp; done) | (go_simp; rfl)); intro gb134 hg w159 hbox hb; replace HO_114003 := am_ (Kd.Q_below (by exact HO_114003.out) hb); replace HO_115003 := am_ (Kd.Q_below (by exact HO_115003.out) hb); replace HO132 := am_ (Kd.R_below (by exact HO132.out) hb); have BK134 := am_ (hbox); have GW134 := am_ ((by rw [hg]; exact (below_size (by repeat (first | (with_reducible first | exact HB.out | apply below_alloc | apply pw_below_drewN | apply below_drew1 | refine below_set ?_ GE113.out | refine below_set ?_ GE114.out | refine below_set ?_ GE120.out | refine below_set ?_ GE126.out) | exact HB.out))) : w.heap.size ≤ gb134)); have GE134 := GW134; replace HB := am_ (below_step (by repeat (first | (with_reducible first | exact HB.out | apply below_alloc | apply pw_below_drewN | apply below_drew1 | refine below_set ?_ GE113.out | refine below_set ?_ GE114.out | refine below_set ?_ GE120.out | refine below_set ?_ GE126.out) | exact HB.out)) hb); have NB113_134 := am_ ((by rw [hg]; exact Nat.ne_of_lt (blk_lt (by exact BK113.out)) : gb113 ≠ gb134)); have NB134_113 := am_ ((by rw [hg]; exact Nat.ne_of_gt (blk_lt (by exact BK113.out)) : gb134 ≠ gb113)); replace BK113 := am_ (blk_below (by exact BK113.out) hb); have NB114_134 := am_ ((by rw [hg]; exact Nat.ne_of_lt (blk_lt (by exact BK114.out)) : gb114 ≠ gb134)); have NB134_114 := am_ ((by rw [hg]; exact Nat.ne_of_gt (blk_lt (by exact BK114.out)) : gb134 ≠ gb114)); replace BK114 := am_ (blk_below (by exact BK114.out) hb); have NB120_134 := am_ ((by rw [hg]; exact Nat.ne_of_lt (blk_lt (by exact BK120.out)) : gb120 ≠ gb134)); have NB134_120 := am_ ((by rw [hg]; exact Nat.ne_of_gt (blk_lt (by exact BK120.out)) : gb134 ≠ gb120)); replace BK120 := am_ (blk_below (by exact BK120.out) hb); have NB126_134 := am_ ((by rw [hg]; exact Nat.ne_of_lt (blk_lt (by exact BK126.out)) : gb126 ≠ gb134)); have NB134_126 := am_ ((by rw [hg]; exact Nat.ne_of_gt (blk_lt (by exact BK126.out)) : gb134 ≠ gb126)); replace BK126 := am_ (blk_below (by exact BK126.out) hb); clear hb hbox hg; have hnb160 := NB134_113.out; have hnc160 := NB113_134.out; have hnb161 := NB134_114.out; have hnc161 := NB114_134.out; have hnb162 := NB134_120.out; have hnc162 := NB120_134.out; have hnb163 := NB134_126.out; have hnc163 := NB126_134.out; obtain ⟨hcz164_0, hcz164_1, hcz164_2, hcz164_3, hfz164_0, hfz164_1, hfz164_2, hfz164_3⟩ := blk4_ BK134.out; obtain ⟨Ao165, co165, eo165⟩ := Kd.R_slice HO132.out; subst eo165; obtain ⟨hcz166_0, hcz166_1, hcz166_2, hcz166_3, hfz166_0, hfz166_1, hfz166_2, hfz166_3⟩ := blk4_ BK113.out) | ((with_reducible refine gate_callee (f := 35) rfl ?_); refine goesL_ (some 76) rfl rfl Try.func35 (by kernel_rfl) rfl #[.agg #[.int .i64 t101, .int .i64 t102, .int .i64 t103, .slice Ao12 t104.length co12], .agg #[.int .i64 t127, .int .i64 t128, .int .i64 t129, .slice Ao165 t130.length co165]] rfl (by simp only [List.map_toArray, List.map_cons, List.map_nil]; rfl) ?_; (with_reducible refine (impl_FindImage.calls t101 t102 t103 _ _ t104 t127 t128 t129 _ _ t130 t135 t136 t137 t138 t139 _ ?side1 ?side2 ?side3 ?side4 A68.out).mono ?_); (case side1 => refine (Kd.Q_reads' (e := 3) (base := w.heap.size) (ok := fun k_ => (some k_ ≠ (.slice Ao14 t110.length co14 : Value).ownBlock ∧ some k_ ≠ (.slice Ao165 t130.length co165 : Value).ownBlock)) (n := t104.length) (c := co12) ?_).2.2; exact (by exact (Q4_ HO_114003.out BK134.out (by decide) _ _ _ _))); (case side2 => exact (Kd.Q_reads' HO_114003.out).2.1); (case side3 => refine (Kd.R_reads' (e := 3) (base := w.heap.size) (ok := fun k_ => ((True ∧ some k_ ≠ (.slice Ao12 t104.length co12 : Value).ownBlock) ∧ some k_ ≠ (.slice Ao14 t110.length co14 : Value).ownBlock)) (n := t130.length) (c := co165) ?_).2.2; exact (by exact (R4_ HO132.out BK134.out (by decide) _ _ _ _))); (case side4 => exact (Kd.R_reads' HO132.out).2.1); rintro e w167 ⟨rfl, hb⟩; refine ⟨_, rfl, ?_⟩; replace HO_114003 := am_ (Kd.Q_below (by exact (Q4_ HO_114003.out BK134.out (by decide) _ _ _ _)) hb); replace HO_115003 := am_ (Kd.Q_below (by exact (Q4_ HO_115003.out BK134.out (by decide) _ _ _ _)) hb); replace HO132 := am_ (Kd.R_below (by exact (R4_ HO132.out BK134.out (by decide) _ _ _ _)) hb); replace BK113 := am_ (blk_below (by exact far4_ BK113.out NB113_134.out _ _ _ _) hb); replace BK114 := am_ (blk_below (by exact far4_ BK114.out NB114_134.out _ _ _ _) hb); replace BK120 := am_ (blk_below (by exact far4_ BK120.out NB120_134.out _ _ _ _) hb); replace BK126 := am_ (blk_below (by exact far4_ BK126.out NB126_134.out _ _ _ _) hb); replace BK134 := am_ (blk_below (by exact put4_ BK134.out _ _ _ _) hb); replace HB := am_ (below_step (by repeat (first | (with_reducible first | exact HB.out | apply below_alloc | apply pw_below_drewN | apply below_drew1 | refine below_set ?_ GE113.out | refine below_set ?_ GE114.out | refine below_set ?_ GE120.out | refine below_set ?_ GE126.out | refine below_set ?_ GE134.out) | exact HB.out)) hb); (try clear hb); (try clear hb2); (try clear hk); (try clear hi)) | ((with_reducible refine gate_dst (N := 11) rfl ?_); refine box_event ?hg (N := 11) ?hd (cs := #[.int .i64 0, .int .i64 0, .int .i64 0, .int .i64 0]) (t := 40) ?hr ?_; (case hd => rfl); (case hg => rfl); (case hr => first | (go_simp; done) | (go_simp; rfl)); intro gb140 hg w168 hbox hb; replace HO_114003 := am_ (Kd.Q_below (by exact HO_114003.out) hb); replace HO_115003 := am_ (Kd.Q_below (by exact HO_115003.out) hb); replace HO132 := am_ (Kd.R_below (by exact HO132.out) hb); have BK140 := am_ (hbox); have GW140 := am_ ((by rw [hg]; exact (below_size (by repeat (first | (with_reducible first | exact HB.out | apply below_alloc | apply pw_below_drewN | apply below_drew1 | refine below_set ?_ GE113.out | refine below_set ?_ GE114.out | refine below_set ?_ GE120.out | refine below_set ?_ GE126.out | refine below_set ?_ GE134.out) | exact HB.out))) : w.heap.size ≤ gb140)); have GE140 := GW140; replace HB := am_ (below_step (by repeat (first | (with_reducible first | exact HB.out | apply below_alloc | apply pw_below_drewN | apply below_drew1 | refine below_set ?_ GE113.out | refine below_set ?_ GE114.out | refine below_set ?_ GE120.out | refine below_set ?_ GE126.out | refine below_set ?_ GE134.out) | exact HB.out)) hb); have NB113_140 := am_ ((by rw [hg]; exact Nat.ne_of_lt (blk_lt (by exact BK113.out)) : gb113 ≠ gb140)); have NB140_113 := am_ ((by rw [hg]; exact Nat.ne_of_gt (blk_lt (by exact BK113.out)) : gb140 ≠ gb113)); replace BK113 := am_ (blk_below (by exact BK113.out) hb); have NB114_140 := am_ ((by rw [hg]; exact Nat.ne_of_lt (blk_lt (by exact BK114.out)) : gb114 ≠ gb140)); have NB140_114 := am_ ((by rw [hg]; exact Nat.ne_of_gt (blk_lt (by exact BK114.out)) : gb140 ≠ gb114)); replace BK114 := am_ (blk_below (by exact BK114.out) hb); have NB120_140 := am_ ((by rw [hg]; exact Nat.ne_of_lt (blk_lt (by exact BK120.out)) : gb120 ≠ gb140)); have NB140_120 := am_ ((by rw [hg]; exact Nat.ne_of_gt (blk_lt (by exact BK120.out)) : gb140 ≠ gb120)); replace BK120 := am_ (blk_below (by exact BK120.out) hb); have NB126_140 := am_ ((by rw [hg]; exact Nat.ne_of_lt (blk_lt (by exact BK126.out)) : gb126 ≠ gb140)); have NB140_126 := am_ ((by rw [hg]; exact Nat.ne_of_gt (blk_lt (by exact BK126.out)) : gb140 ≠ gb126)); replace BK126 := am_ (blk_below (by exact BK126.out) hb); have NB134_140 := am_ ((by rw [hg]; exact Nat.ne_of_lt (blk_lt (by exact BK134.out)) : gb134 ≠ gb140)); have NB140_134 := am_ ((by rw [hg]; exact Nat.ne_of_gt (blk_lt (by exact BK134.out)) : gb140 ≠ gb134)); replace BK134 := am_ (blk_below (by exact BK134.out) hb); clear hb hbox hg; have hnb169 := NB140_113.out; have hnc169 := NB113_140.out; have hnb170 := NB140_114.out; have hnc170 := NB114_140.out; have hnb171 := NB140_120.out; have hnc171 := NB120_140.out; have hnb172 := NB140_126.out; have hnc172 := NB126_140.out; have hnb173 := NB140_134.out; have hnc173 := NB134_140.out; obtain ⟨hcz174_0, hcz174_1, hcz174_2, hcz174_3, hfz174_0, hfz174_1, hfz174_2, hfz174_3⟩ := blk4_ BK140.out))
    go_ret
    exact ⟨by first | rfl | (simp [errW_none, errW_some] <;> rfl) | (simp [*, errW_none, errW_some] <;> rfl), by repeat (first | (with_reducible first | exact HB.out | apply below_alloc | apply pw_below_drewN | apply below_drew1 | refine below_set ?_ GE113.out | refine below_set ?_ GE114.out | refine below_set ?_ GE120.out | refine below_set ?_ GE126.out | refine below_set ?_ GE134.out | refine below_set ?_ GE140.out) | exact HB.out)⟩
   subst c69
   have H1 : (if t139 = 0 then (if t136 ≤ (wrap64 (t102 - t108)) then ((impl_CountImage.f t101 t102 t103 t104 t127 t128 t129 t130).bind fun t141 => (some (decide (t141 ≥ 1)))) else (some false)) else (some false)) = some r := by rw [if_pos rfl] at H; exact H
   clear H
   have H := H1
   clear H1
   by_cases c70 : t139 = 0
   rotate_left
   ·
    rw [if_neg c70] at H
    have c70b0 : (t139 == 0) = false := beq_eq_false_iff_ne.mpr c70
    have c70b1 : (t139 != 0) = true := bne_iff_ne.mpr c70
    obtain rfl := Option.some.inj H
    have hnb127 := NB113_114.out
    have hnc127 := NB114_113.out
    have hnb128 := NB113_120.out
    have hnc128 := NB120_113.out
    have hnb129 := NB113_126.out
    have hnc129 := NB126_113.out
    obtain ⟨hcz130_0, hcz130_1, hcz130_2, hcz130_3, hfz130_0, hfz130_1, hfz130_2, hfz130_3⟩ := blk4_ BK113.out
    have hnb131 := NB114_120.out
    have hnc131 := NB120_114.out
    have hnb132 := NB114_126.out
    have hnc132 := NB126_114.out
    obtain ⟨hcz133_0, hcz133_1, hcz133_2, hcz133_3, hfz133_0, hfz133_1, hfz133_2, hfz133_3⟩ := blk4_ BK114.out
    go_wp2_with (first | ((with_reducible refine gate_callee (f := 25) rfl ?_); refine goesL_ (some 70) rfl rfl Try.func25 (by kernel_rfl) rfl #[.agg #[.int .i64 t101, .int .i64 t102, .int .i64 t103, .slice Ao12 t104.length co12], .agg #[.int .i64 (wrap64 (t101 - t107)), .int .i64 (wrap64 (t102 - t108)), .int .i64 t107, .int .i64 t108]] rfl (by simp only [List.map_toArray, List.map_cons, List.map_nil]; rfl) ?_; (with_reducible refine (impl_CropImage.calls t101 t102 t103 _ _ t104 (wrap64 (t101 - t107)) (wrap64 (t102 - t108)) t107 t108 t127 t128 t129 t130 true _ ?side1 ?side2 A67.out).mono ?_); (case side1 => repeat (first | exact (Kd.Q_reads' HO_114003.out).2.2 | (with_reducible refine Kd.C_alloc ?_ _) | (with_reducible refine Kd.C_drewN ?_ _) | (with_reducible refine Kd.C_drew ?_))); (case side2 => exact (Kd.Q_reads' HO_114003.out).2.1); rintro e w134 ⟨v131, rfl, ho0, hb⟩; refine ⟨_, rfl, ?_⟩; have HO132 := am_ (Kd.R_lower (Kd.R_new' (Kd.R_new' ho0 (Kd.Q_lt (by exact HO_114003.out))) (Kd.Q_lt (by exact HO_115003.out))) (below_size (by repeat (first | (with_reducible first | exact HB.out | apply below_alloc | apply pw_below_drewN | apply below_drew1 | refine below_set ?_ GE113.out | refine below_set ?_ GE114.out | refine below_set ?_ GE120.out | refine below_set ?_ GE126.out) | exact HB.out)))); replace HO_114003 := am_ (Kd.Q_elder' (by exact HO_114003.out) (Kd.R_base ho0) hb); replace HO_115003 := am_ (Kd.Q_elder' (by exact HO_115003.out) (Kd.R_base ho0) hb); replace BK113 := am_ (blk_below (by exact BK113.out) hb); replace BK114 := am_ (blk_below (by exact BK114.out) hb); replace BK120 := am_ (blk_below (by exact BK120.out) hb); replace BK126 := am_ (blk_below (by exact BK126.out) hb); replace HB := am_ (below_step (by repeat (first | (with_reducible first | exact HB.out | apply below_alloc | apply pw_below_drewN | apply below_drew1 | refine below_set ?_ GE113.out | refine below_set ?_ GE114.out | refine below_set ?_ GE120.out | refine below_set ?_ GE126.out) | exact HB.out)) hb); (try clear hb); (try clear hb2); (try clear hk); (try clear hi); (try clear ho0)) | ((with_reducible refine gate_dst (N := 9) rfl ?_); refine box_event ?hg (N := 9) ?hd (cs := #[.int .i64 0, .int .i64 0, .int .i64 0, .slice none 0 0]) (t := 26) ?hr ?_; (case hd => rfl); (case hg => rfl); (case hr => first | (go_simp; done) | (go_simp; rfl)); intro gb134 hg w135 hbox hb; replace HO_114003 := am_ (Kd.Q_below (by exact HO_114003.out) hb); replace HO_115003 := am_ (Kd.Q_below (by exact HO_115003.out) hb); replace HO132 := am_ (Kd.R_below (by exact HO132.out) hb); have BK134 := am_ (hbox); have GW134 := am_ ((by rw [hg]; exact (below_size (by repeat (first | (with_reducible first | exact HB.out | apply below_alloc | apply pw_below_drewN | apply below_drew1 | refine below_set ?_ GE113.out | refine below_set ?_ GE114.out | refine below_set ?_ GE120.out | refine below_set ?_ GE126.out) | exact HB.out))) : w.heap.size ≤ gb134)); have GE134 := GW134; replace HB := am_ (below_step (by repeat (first | (with_reducible first | exact HB.out | apply below_alloc | apply pw_below_drewN | apply below_drew1 | refine below_set ?_ GE113.out | refine below_set ?_ GE114.out | refine below_set ?_ GE120.out | refine below_set ?_ GE126.out) | exact HB.out)) hb); have NB113_134 := am_ ((by rw [hg]; exact Nat.ne_of_lt (blk_lt (by exact BK113.out)) : gb113 ≠ gb134)); have NB134_113 := am_ ((by rw [hg]; exact Nat.ne_of_gt (blk_lt (by exact BK113.out)) : gb134 ≠ gb113)); replace BK113 := am_ (blk_below (by exact BK113.out) hb); have NB114_134 := am_ ((by rw [hg]; exact Nat.ne_of_lt (blk_lt (by exact BK114.out)) : gb114 ≠ gb134)); have NB134_114 := am_ ((by rw [hg]; exact Nat.ne_of_gt (blk_lt (by exact BK114.out)) : gb134 ≠ gb114)); replace BK114 := am_ (blk_below (by exact BK114.out) hb); have NB120_134 := am_ ((by rw [hg]; exact Nat.ne_of_lt (blk_lt (by exact BK120.out)) : gb120 ≠ gb134)); have NB134_120 := am_ ((by rw [hg]; exact Nat.ne_of_gt (blk_lt (by exact BK120.out)) : gb134 ≠ gb120)); replace BK120 := am_ (blk_below (by exact BK120.out) hb); have NB126_134 := am_ ((by rw [hg]; exact Nat.ne_of_lt (blk_lt (by exact BK126.out)) : gb126 ≠ gb134)); have NB134_126 := am_ ((by rw [hg]; exact Nat.ne_of_gt (blk_lt (by exact BK126.out)) : gb134 ≠ gb126)); replace BK126 := am_ (blk_below (by exact BK126.out) hb); clear hb hbox hg; have hnb136 := NB134_113.out; have hnc136 := NB113_134.out; have hnb137 := NB134_114.out; have hnc137 := NB114_134.out; have hnb138 := NB134_120.out; have hnc138 := NB120_134.out; have hnb139 := NB134_126.out; have hnc139 := NB126_134.out; obtain ⟨hcz140_0, hcz140_1, hcz140_2, hcz140_3, hfz140_0, hfz140_1, hfz140_2, hfz140_3⟩ := blk4_ BK134.out; obtain ⟨Ao141, co141, eo141⟩ := Kd.R_slice HO132.out; subst eo141; obtain ⟨hcz142_0, hcz142_1, hcz142_2, hcz142_3, hfz142_0, hfz142_1, hfz142_2, hfz142_3⟩ := blk4_ BK113.out) | ((with_reducible refine gate_callee (f := 35) rfl ?_); refine goesL_ (some 76) rfl rfl Try.func35 (by kernel_rfl) rfl #[.agg #[.int .i64 t101, .int .i64 t102, .int .i64 t103, .slice Ao12 t104.length co12], .agg #[.int .i64 t127, .int .i64 t128, .int .i64 t129, .slice Ao141 t130.length co141]] rfl (by simp only [List.map_toArray, List.map_cons, List.map_nil]; rfl) ?_; (with_reducible refine (impl_FindImage.calls t101 t102 t103 _ _ t104 t127 t128 t129 _ _ t130 t135 t136 t137 t138 t139 _ ?side1 ?side2 ?side3 ?side4 A68.out).mono ?_); (case side1 => refine (Kd.Q_reads' (e := 3) (base := w.heap.size) (ok := fun k_ => (some k_ ≠ (.slice Ao14 t110.length co14 : Value).ownBlock ∧ some k_ ≠ (.slice Ao141 t130.length co141 : Value).ownBlock)) (n := t104.length) (c := co12) ?_).2.2; exact (by exact (Q4_ HO_114003.out BK134.out (by decide) _ _ _ _))); (case side2 => exact (Kd.Q_reads' HO_114003.out).2.1); (case side3 => refine (Kd.R_reads' (e := 3) (base := w.heap.size) (ok := fun k_ => ((True ∧ some k_ ≠ (.slice Ao12 t104.length co12 : Value).ownBlock) ∧ some k_ ≠ (.slice Ao14 t110.length co14 : Value).ownBlock)) (n := t130.length) (c := co141) ?_).2.2; exact (by exact (R4_ HO132.out BK134.out (by decide) _ _ _ _))); (case side4 => exact (Kd.R_reads' HO132.out).2.1); rintro e w143 ⟨rfl, hb⟩; refine ⟨_, rfl, ?_⟩; replace HO_114003 := am_ (Kd.Q_below (by exact (Q4_ HO_114003.out BK134.out (by decide) _ _ _ _)) hb); replace HO_115003 := am_ (Kd.Q_below (by exact (Q4_ HO_115003.out BK134.out (by decide) _ _ _ _)) hb); replace HO132 := am_ (Kd.R_below (by exact (R4_ HO132.out BK134.out (by decide) _ _ _ _)) hb); replace BK113 := am_ (blk_below (by exact far4_ BK113.out NB113_134.out _ _ _ _) hb); replace BK114 := am_ (blk_below (by exact far4_ BK114.out NB114_134.out _ _ _ _) hb); replace BK120 := am_ (blk_below (by exact far4_ BK120.out NB120_134.out _ _ _ _) hb); replace BK126 := am_ (blk_below (by exact far4_ BK126.out NB126_134.out _ _ _ _) hb); replace BK134 := am_ (blk_below (by exact put4_ BK134.out _ _ _ _) hb); replace HB := am_ (below_step (by repeat (first | (with_reducible first | exact HB.out | apply below_alloc | apply pw_below_drewN | apply below_drew1 | refine below_set ?_ GE113.out | refine below_set ?_ GE114.out | refine below_set ?_ GE120.out | refine below_set ?_ GE126.out | refine below_set ?_ GE134.out) | exact HB.out)) hb); (try clear hb); (try clear hb2); (try clear hk); (try clear hi)) | ((with_reducible refine gate_dst (N := 11) rfl ?_); refine box_event ?hg (N := 11) ?hd (cs := #[.int .i64 0, .int .i64 0, .int .i64 0, .int .i64 0]) (t := 40) ?hr ?_; (case hd => rfl); (case hg => rfl); (case hr => first | (go_simp; done) | (go_simp; rfl)); intro gb140 hg w144 hbox hb; replace HO_114003 := am_ (Kd.Q_below (by exact HO_114003.out) hb); replace HO_115003 := am_ (Kd.Q_below (by exact HO_115003.out) hb); replace HO132 := am_ (Kd.R_below (by exact HO132.out) hb); have BK140 := am_ (hbox); have GW140 := am_ ((by rw [hg]; exact (below_size (by repeat (first | (with_reducible first | exact HB.out | apply below_alloc | apply pw_below_drewN | apply below_drew1 | refine below_set ?_ GE113.out | refine below_set ?_ GE114.out | refine below_set ?_ GE120.out | refine below_set ?_ GE126.out | refine below_set ?_ GE134.out) | exact HB.out))) : w.heap.size ≤ gb140)); have GE140 := GW140; replace HB := am_ (below_step (by repeat (first | (with_reducible first | exact HB.out | apply below_alloc | apply pw_below_drewN | apply below_drew1 | refine below_set ?_ GE113.out | refine below_set ?_ GE114.out | refine below_set ?_ GE120.out | refine below_set ?_ GE126.out | refine below_set ?_ GE134.out) | exact HB.out)) hb); have NB113_140 := am_ ((by rw [hg]; exact Nat.ne_of_lt (blk_lt (by exact BK113.out)) : gb113 ≠ gb140)); have NB140_113 := am_ ((by rw [hg]; exact Nat.ne_of_gt (blk_lt (by exact BK113.out)) : gb140 ≠ gb113)); replace BK113 := am_ (blk_below (by exact BK113.out) hb); have NB114_140 := am_ ((by rw [hg]; exact Nat.ne_of_lt (blk_lt (by exact BK114.out)) : gb114 ≠ gb140)); have NB140_114 := am_ ((by rw [hg]; exact Nat.ne_of_gt (blk_lt (by exact BK114.out)) : gb140 ≠ gb114)); replace BK114 := am_ (blk_below (by exact BK114.out) hb); have NB120_140 := am_ ((by rw [hg]; exact Nat.ne_of_lt (blk_lt (by exact BK120.out)) : gb120 ≠ gb140)); have NB140_120 := am_ ((by rw [hg]; exact Nat.ne_of_gt (blk_lt (by exact BK120.out)) : gb140 ≠ gb120)); replace BK120 := am_ (blk_below (by exact BK120.out) hb); have NB126_140 := am_ ((by rw [hg]; exact Nat.ne_of_lt (blk_lt (by exact BK126.out)) : gb126 ≠ gb140)); have NB140_126 := am_ ((by rw [hg]; exact Nat.ne_of_gt (blk_lt (by exact BK126.out)) : gb140 ≠ gb126)); replace BK126 := am_ (blk_below (by exact BK126.out) hb); have NB134_140 := am_ ((by rw [hg]; exact Nat.ne_of_lt (blk_lt (by exact BK134.out)) : gb134 ≠ gb140)); have NB140_134 := am_ ((by rw [hg]; exact Nat.ne_of_gt (blk_lt (by exact BK134.out)) : gb140 ≠ gb134)); replace BK134 := am_ (blk_below (by exact BK134.out) hb); clear hb hbox hg; have hnb145 := NB140_113.out; have hnc145 := NB113_140.out; have hnb146 := NB140_114.out; have hnc146 := NB114_140.out; have hnb147 := NB140_120.out; have hnc147 := NB120_140.out; have hnb148 := NB140_126.out; have hnc148 := NB126_140.out; have hnb149 := NB140_134.out; have hnc149 := NB134_140.out; obtain ⟨hcz150_0, hcz150_1, hcz150_2, hcz150_3, hfz150_0, hfz150_1, hfz150_2, hfz150_3⟩ := blk4_ BK140.out))
    go_ret
    exact ⟨by first | rfl | (simp [errW_none, errW_some] <;> rfl) | (simp [*, errW_none, errW_some] <;> rfl), by repeat (first | (with_reducible first | exact HB.out | apply below_alloc | apply pw_below_drewN | apply below_drew1 | refine below_set ?_ GE113.out | refine below_set ?_ GE114.out | refine below_set ?_ GE120.out | refine below_set ?_ GE126.out | refine below_set ?_ GE134.out | refine below_set ?_ GE140.out) | exact HB.out)⟩
   rw [if_pos c70] at H
   have c70b0 : (t139 == 0) = true := beq_iff_eq.mpr c70
   have c70b1 : (t139 != 0) = false := bne_eq_false_iff_eq.mpr c70
   clear c70
   by_cases c71 : t136 ≤ (wrap64 (t102 - t108))
   ·
    rw [if_pos c71] at H
    have c71b0 : decide (t136 ≤ (wrap64 (t102 - t108))) = true := decide_eq_true c71
    clear c71
    replace H := Option.bind_eq_some_iff.mp H
    obtain ⟨t141, A720, H⟩ := H
    replace H : (some (decide (t141 ≥ 1))) = some r := H
    have A72 := Aside0.mk A720
    clear A720
    obtain rfl := Option.some.inj H
    have hnb73 := NB113_114.out
    have hnc73 := NB114_113.out
    have hnb74 := NB113_120.out
    have hnc74 := NB120_113.out
    have hnb75 := NB113_126.out
    have hnc75 := NB126_113.out
    obtain ⟨hcz76_0, hcz76_1, hcz76_2, hcz76_3, hfz76_0, hfz76_1, hfz76_2, hfz76_3⟩ := blk4_ BK113.out
    have hnb77 := NB114_120.out
    have hnc77 := NB120_114.out
    have hnb78 := NB114_126.out
    have hnc78 := NB126_114.out
    obtain ⟨hcz79_0, hcz79_1, hcz79_2, hcz79_3, hfz79_0, hfz79_1, hfz79_2, hfz79_3⟩ := blk4_ BK114.out
    go_wp2_with (first | ((with_reducible refine gate_callee (f := 25) rfl ?_); refine goesL_ (some 70) rfl rfl Try.func25 (by kernel_rfl) rfl #[.agg #[.int .i64 t101, .int .i64 t102, .int .i64 t103, .slice Ao12 t104.length co12], .agg #[.int .i64 (wrap64 (t101 - t107)), .int .i64 (wrap64 (t102 - t108)), .int .i64 t107, .int .i64 t108]] rfl (by simp only [List.map_toArray, List.map_cons, List.map_nil]; rfl) ?_; (with_reducible refine (impl_CropImage.calls t101 t102 t103 _ _ t104 (wrap64 (t101 - t107)) (wrap64 (t102 - t108)) t107 t108 t127 t128 t129 t130 true _ ?side1 ?side2 A67.out).mono ?_); (case side1 => repeat (first | exact (Kd.Q_reads' HO_114003.out).2.2 | (with_reducible refine Kd.C_alloc ?_ _) | (with_reducible refine Kd.C_drewN ?_ _) | (with_reducible refine Kd.C_drew ?_))); (case side2 => exact (Kd.Q_reads' HO_114003.out).2.1); rintro e w80 ⟨v131, rfl, ho0, hb⟩; refine ⟨_, rfl, ?_⟩; have HO132 := am_ (Kd.R_lower (Kd.R_new' (Kd.R_new' ho0 (Kd.Q_lt (by exact HO_114003.out))) (Kd.Q_lt (by exact HO_115003.out))) (below_size (by repeat (first | (with_reducible first | exact HB.out | apply below_alloc | apply pw_below_drewN | apply below_drew1 | refine below_set ?_ GE113.out | refine below_set ?_ GE114.out | refine below_set ?_ GE120.out | refine below_set ?_ GE126.out) | exact HB.out)))); replace HO_114003 := am_ (Kd.Q_elder' (by exact HO_114003.out) (Kd.R_base ho0) hb); replace HO_115003 := am_ (Kd.Q_elder' (by exact HO_115003.out) (Kd.R_base ho0) hb); replace BK113 := am_ (blk_below (by exact BK113.out) hb); replace BK114 := am_ (blk_below (by exact BK114.out) hb); replace BK120 := am_ (blk_below (by exact BK120.out) hb); replace BK126 := am_ (blk_below (by exact BK126.out) hb); replace HB := am_ (below_step (by repeat (first | (with_reducible first | exact HB.out | apply below_alloc | apply pw_below_drewN | apply below_drew1 | refine below_set ?_ GE113.out | refine below_set ?_ GE114.out | refine below_set ?_ GE120.out | refine below_set ?_ GE126.out) | exact HB.out)) hb); (try clear hb); (try clear hb2); (try clear hk); (try clear hi); (try clear ho0)) | ((with_reducible refine gate_dst (N := 9) rfl ?_); refine box_event ?hg (N := 9) ?hd (cs := #[.int .i64 0, .int .i64 0, .int .i64 0, .slice none 0 0]) (t := 26) ?hr ?_; (case hd => rfl); (case hg => rfl); (case hr => first | (go_simp; done) | (go_simp; rfl)); intro gb134 hg w81 hbox hb; replace HO_114003 := am_ (Kd.Q_below (by exact HO_114003.out) hb); replace HO_115003 := am_ (Kd.Q_below (by exact HO_115003.out) hb); replace HO132 := am_ (Kd.R_below (by exact HO132.out) hb); have BK134 := am_ (hbox); have GW134 := am_ ((by rw [hg]; exact (below_size (by repeat (first | (with_reducible first | exact HB.out | apply below_alloc | apply pw_below_drewN | apply below_drew1 | refine below_set ?_ GE113.out | refine below_set ?_ GE114.out | refine below_set ?_ GE120.out | refine below_set ?_ GE126.out) | exact HB.out))) : w.heap.size ≤ gb134)); have GE134 := GW134; replace HB := am_ (below_step (by repeat (first | (with_reducible first | exact HB.out | apply below_alloc | apply pw_below_drewN | apply below_drew1 | refine below_set ?_ GE113.out | refine below_set ?_ GE114.out | refine below_set ?_ GE120.out | refine below_set ?_ GE126.out) | exact HB.out)) hb); have NB113_134 := am_ ((by rw [hg]; exact Nat.ne_of_lt (blk_lt (by exact BK113.out)) : gb113 ≠ gb134)); have NB134_113 := am_ ((by rw [hg]; exact Nat.ne_of_gt (blk_lt (by exact BK113.out)) : gb134 ≠ gb113)); replace BK113 := am_ (blk_below (by exact BK113.out) hb); have NB114_134 := am_ ((by rw [hg]; exact Nat.ne_of_lt (blk_lt (by exact BK114.out)) : gb114 ≠ gb134)); have NB134_114 := am_ ((by rw [hg]; exact Nat.ne_of_gt (blk_lt (by exact BK114.out)) : gb134 ≠ gb114)); replace BK114 := am_ (blk_below (by exact BK114.out) hb); have NB120_134 := am_ ((by rw [hg]; exact Nat.ne_of_lt (blk_lt (by exact BK120.out)) : gb120 ≠ gb134)); have NB134_120 := am_ ((by rw [hg]; exact Nat.ne_of_gt (blk_lt (by exact BK120.out)) : gb134 ≠ gb120)); replace BK120 := am_ (blk_below (by exact BK120.out) hb); have NB126_134 := am_ ((by rw [hg]; exact Nat.ne_of_lt (blk_lt (by exact BK126.out)) : gb126 ≠ gb134)); have NB134_126 := am_ ((by rw [hg]; exact Nat.ne_of_gt (blk_lt (by exact BK126.out)) : gb134 ≠ gb126)); replace BK126 := am_ (blk_below (by exact BK126.out) hb); clear hb hbox hg; have hnb82 := NB134_113.out; have hnc82 := NB113_134.out; have hnb83 := NB134_114.out; have hnc83 := NB114_134.out; have hnb84 := NB134_120.out; have hnc84 := NB120_134.out; have hnb85 := NB134_126.out; have hnc85 := NB126_134.out; obtain ⟨hcz86_0, hcz86_1, hcz86_2, hcz86_3, hfz86_0, hfz86_1, hfz86_2, hfz86_3⟩ := blk4_ BK134.out; obtain ⟨Ao87, co87, eo87⟩ := Kd.R_slice HO132.out; subst eo87; obtain ⟨hcz88_0, hcz88_1, hcz88_2, hcz88_3, hfz88_0, hfz88_1, hfz88_2, hfz88_3⟩ := blk4_ BK113.out) | ((with_reducible refine gate_callee (f := 35) rfl ?_); refine goesL_ (some 76) rfl rfl Try.func35 (by kernel_rfl) rfl #[.agg #[.int .i64 t101, .int .i64 t102, .int .i64 t103, .slice Ao12 t104.length co12], .agg #[.int .i64 t127, .int .i64 t128, .int .i64 t129, .slice Ao87 t130.length co87]] rfl (by simp only [List.map_toArray, List.map_cons, List.map_nil]; rfl) ?_; (with_reducible refine (impl_FindImage.calls t101 t102 t103 _ _ t104 t127 t128 t129 _ _ t130 t135 t136 t137 t138 t139 _ ?side1 ?side2 ?side3 ?side4 A68.out).mono ?_); (case side1 => refine (Kd.Q_reads' (e := 3) (base := w.heap.size) (ok := fun k_ => (some k_ ≠ (.slice Ao14 t110.length co14 : Value).ownBlock ∧ some k_ ≠ (.slice Ao87 t130.length co87 : Value).ownBlock)) (n := t104.length) (c := co12) ?_).2.2; exact (by exact (Q4_ HO_114003.out BK134.out (by decide) _ _ _ _))); (case side2 => exact (Kd.Q_reads' HO_114003.out).2.1); (case side3 => refine (Kd.R_reads' (e := 3) (base := w.heap.size) (ok := fun k_ => ((True ∧ some k_ ≠ (.slice Ao12 t104.length co12 : Value).ownBlock) ∧ some k_ ≠ (.slice Ao14 t110.length co14 : Value).ownBlock)) (n := t130.length) (c := co87) ?_).2.2; exact (by exact (R4_ HO132.out BK134.out (by decide) _ _ _ _))); (case side4 => exact (Kd.R_reads' HO132.out).2.1); rintro e w89 ⟨rfl, hb⟩; refine ⟨_, rfl, ?_⟩; replace HO_114003 := am_ (Kd.Q_below (by exact (Q4_ HO_114003.out BK134.out (by decide) _ _ _ _)) hb); replace HO_115003 := am_ (Kd.Q_below (by exact (Q4_ HO_115003.out BK134.out (by decide) _ _ _ _)) hb); replace HO132 := am_ (Kd.R_below (by exact (R4_ HO132.out BK134.out (by decide) _ _ _ _)) hb); replace BK113 := am_ (blk_below (by exact far4_ BK113.out NB113_134.out _ _ _ _) hb); replace BK114 := am_ (blk_below (by exact far4_ BK114.out NB114_134.out _ _ _ _) hb); replace BK120 := am_ (blk_below (by exact far4_ BK120.out NB120_134.out _ _ _ _) hb); replace BK126 := am_ (blk_below (by exact far4_ BK126.out NB126_134.out _ _ _ _) hb); replace BK134 := am_ (blk_below (by exact put4_ BK134.out _ _ _ _) hb); replace HB := am_ (below_step (by repeat (first | (with_reducible first | exact HB.out | apply below_alloc | apply pw_below_drewN | apply below_drew1 | refine below_set ?_ GE113.out | refine below_set ?_ GE114.out | refine below_set ?_ GE120.out | refine below_set ?_ GE126.out | refine below_set ?_ GE134.out) | exact HB.out)) hb); (try clear hb); (try clear hb2); (try clear hk); (try clear hi)) | ((with_reducible refine gate_dst (N := 11) rfl ?_); refine box_event ?hg (N := 11) ?hd (cs := #[.int .i64 0, .int .i64 0, .int .i64 0, .int .i64 0]) (t := 40) ?hr ?_; (case hd => rfl); (case hg => rfl); (case hr => first | (go_simp; done) | (go_simp; rfl)); intro gb140 hg w90 hbox hb; replace HO_114003 := am_ (Kd.Q_below (by exact HO_114003.out) hb); replace HO_115003 := am_ (Kd.Q_below (by exact HO_115003.out) hb); replace HO132 := am_ (Kd.R_below (by exact HO132.out) hb); have BK140 := am_ (hbox); have GW140 := am_ ((by rw [hg]; exact (below_size (by repeat (first | (with_reducible first | exact HB.out | apply below_alloc | apply pw_below_drewN | apply below_drew1 | refine below_set ?_ GE113.out | refine below_set ?_ GE114.out | refine below_set ?_ GE120.out | refine below_set ?_ GE126.out | refine below_set ?_ GE134.out) | exact HB.out))) : w.heap.size ≤ gb140)); have GE140 := GW140; replace HB := am_ (below_step (by repeat (first | (with_reducible first | exact HB.out | apply below_alloc | apply pw_below_drewN | apply below_drew1 | refine below_set ?_ GE113.out | refine below_set ?_ GE114.out | refine below_set ?_ GE120.out | refine below_set ?_ GE126.out | refine below_set ?_ GE134.out) | exact HB.out)) hb); have NB113_140 := am_ ((by rw [hg]; exact Nat.ne_of_lt (blk_lt (by exact BK113.out)) : gb113 ≠ gb140)); have NB140_113 := am_ ((by rw [hg]; exact Nat.ne_of_gt (blk_lt (by exact BK113.out)) : gb140 ≠ gb113)); replace BK113 := am_ (blk_below (by exact BK113.out) hb); have NB114_140 := am_ ((by rw [hg]; exact Nat.ne_of_lt (blk_lt (by exact BK114.out)) : gb114 ≠ gb140)); have NB140_114 := am_ ((by rw [hg]; exact Nat.ne_of_gt (blk_lt (by exact BK114.out)) : gb140 ≠ gb114)); replace BK114 := am_ (blk_below (by exact BK114.out) hb); have NB120_140 := am_ ((by rw [hg]; exact Nat.ne_of_lt (blk_lt (by exact BK120.out)) : gb120 ≠ gb140)); have NB140_120 := am_ ((by rw [hg]; exact Nat.ne_of_gt (blk_lt (by exact BK120.out)) : gb140 ≠ gb120)); replace BK120 := am_ (blk_below (by exact BK120.out) hb); have NB126_140 := am_ ((by rw [hg]; exact Nat.ne_of_lt (blk_lt (by exact BK126.out)) : gb126 ≠ gb140)); have NB140_126 := am_ ((by rw [hg]; exact Nat.ne_of_gt (blk_lt (by exact BK126.out)) : gb140 ≠ gb126)); replace BK126 := am_ (blk_below (by exact BK126.out) hb); have NB134_140 := am_ ((by rw [hg]; exact Nat.ne_of_lt (blk_lt (by exact BK134.out)) : gb134 ≠ gb140)); have NB140_134 := am_ ((by rw [hg]; exact Nat.ne_of_gt (blk_lt (by exact BK134.out)) : gb140 ≠ gb134)); replace BK134 := am_ (blk_below (by exact BK134.out) hb); clear hb hbox hg; have hnb91 := NB140_113.out; have hnc91 := NB113_140.out; have hnb92 := NB140_114.out; have hnc92 := NB114_140.out; have hnb93 := NB140_120.out; have hnc93 := NB120_140.out; have hnb94 := NB140_126.out; have hnc94 := NB126_140.out; have hnb95 := NB140_134.out; have hnc95 := NB134_140.out; obtain ⟨hcz96_0, hcz96_1, hcz96_2, hcz96_3, hfz96_0, hfz96_1, hfz96_2, hfz96_3⟩ := blk4_ BK140.out; obtain ⟨hcz97_0, hcz97_1, hcz97_2, hcz97_3, hfz97_0, hfz97_1, hfz97_2, hfz97_3⟩ := blk4_ BK113.out; obtain ⟨hcz98_0, hcz98_1, hcz98_2, hcz98_3, hfz98_0, hfz98_1, hfz98_2, hfz98_3⟩ := blk4_ BK114.out; obtain ⟨hcz99_0, hcz99_1, hcz99_2, hcz99_3, hfz99_0, hfz99_1, hfz99_2, hfz99_3⟩ := blk4_ BK134.out) | (go_at_call 24; (with_reducible refine (impl_CountImage.calls t101 t102 t103 _ _ t104 t127 t128 t129 _ _ t130 t141 _ ?side1 ?side2 ?side3 ?side4 A72.out).mono ?_); (case side1 => refine (Kd.Q_reads' (e := 3) (base := w.heap.size) (ok := fun k_ => (some k_ ≠ (.slice Ao14 t110.length co14 : Value).ownBlock ∧ some k_ ≠ (.slice Ao87 t130.length co87 : Value).ownBlock)) (n := t104.length) (c := co12) ?_).2.2; exact (by exact (Q4_ HO_114003.out BK140.out (by decide) _ _ _ _))); (case side2 => exact (Kd.Q_reads' HO_114003.out).2.1); (case side3 => refine (Kd.R_reads' (e := 3) (base := w.heap.size) (ok := fun k_ => ((True ∧ some k_ ≠ (.slice Ao12 t104.length co12 : Value).ownBlock) ∧ some k_ ≠ (.slice Ao14 t110.length co14 : Value).ownBlock)) (n := t130.length) (c := co87) ?_).2.2; exact (by exact (R4_ HO132.out BK140.out (by decide) _ _ _ _))); (case side4 => exact (Kd.R_reads' HO132.out).2.1); rintro e w100 ⟨rfl, hb⟩; replace HO_114003 := am_ (Kd.Q_below (by exact (Q4_ HO_114003.out BK140.out (by decide) _ _ _ _)) hb); replace HO_115003 := am_ (Kd.Q_below (by exact (Q4_ HO_115003.out BK140.out (by decide) _ _ _ _)) hb); replace HO132 := am_ (Kd.R_below (by exact (R4_ HO132.out BK140.out (by decide) _ _ _ _)) hb); replace BK113 := am_ (blk_below (by exact far4_ BK113.out NB113_140.out _ _ _ _) hb); replace BK114 := am_ (blk_below (by exact far4_ BK114.out NB114_140.out _ _ _ _) hb); replace BK120 := am_ (blk_below (by exact far4_ BK120.out NB120_140.out _ _ _ _) hb); replace BK126 := am_ (blk_below (by exact far4_ BK126.out NB126_140.out _ _ _ _) hb); replace BK134 := am_ (blk_below (by exact far4_ BK134.out NB134_140.out _ _ _ _) hb); replace BK140 := am_ (blk_below (by exact put4_ BK140.out _ _ _ _) hb); replace HB := am_ (below_step (by repeat (first | (with_reducible first | exact HB.out | apply below_alloc | apply pw_below_drewN | apply below_drew1 | refine below_set ?_ GE113.out | refine below_set ?_ GE114.out | refine below_set ?_ GE120.out | refine below_set ?_ GE126.out | refine below_set ?_ GE134.out | refine below_set ?_ GE140.out) | exact HB.out)) hb); (try clear hb); (try clear hb2); (try clear hk); (try clear hi)))
    go_ret
    exact ⟨by first | rfl | (simp [errW_none, errW_some] <;> rfl) | (simp [*, errW_none, errW_some] <;> rfl), by repeat (first | (with_reducible first | exact HB.out | apply below_alloc | apply pw_below_drewN | apply below_drew1 | refine below_set ?_ GE113.out | refine below_set ?_ GE114.out | refine below_set ?_ GE120.out | refine below_set ?_ GE126.out | refine below_set ?_ GE134.out | refine below_set ?_ GE140.out) | exact HB.out)⟩
   rw [if_neg c71] at H
   have c71b0 : decide (t136 ≤ (wrap64 (t102 - t108))) = false := decide_eq_false c71
   clear c71
   obtain rfl := Option.some.inj H
   have hnb101 := NB113_114.out
   have hnc101 := NB114_113.out
   have hnb102 := NB113_120.out
   have hnc102 := NB120_113.out
   have hnb103 := NB113_126.out
   have hnc103 := NB126_113.out
   obtain ⟨hcz104_0, hcz104_1, hcz104_2, hcz104_3, hfz104_0, hfz104_1, hfz104_2, hfz104_3⟩ := blk4_ BK113.out
   have hnb105 := NB114_120.out
   have hnc105 := NB120_114.out
   have hnb106 := NB114_126.out
   have hnc106 := NB126_114.out
   obtain ⟨hcz107_0, hcz107_1, hcz107_2, hcz107_3, hfz107_0, hfz107_1, hfz107_2, hfz107_3⟩ := blk4_ BK114.out
   go_wp2_with (first | ((with_reducible refine gate_callee (f := 25) rfl ?_); refine goesL_ (some 70) rfl rfl Try.func25 (by kernel_rfl) rfl #[.agg #[.int .i64 t101, .int .i64 t102, .int .i64 t103, .slice Ao12 t104.length co12], .agg #[.int .i64 (wrap64 (t101 - t107)), .int .i64 (wrap64 (t102 - t108)), .int .i64 t107, .int .i64 t108]] rfl (by simp only [List.map_toArray, List.map_cons, List.map_nil]; rfl) ?_; (with_reducible refine (impl_CropImage.calls t101 t102 t103 _ _ t104 (wrap64 (t101 - t107)) (wrap64 (t102 - t108)) t107 t108 t127 t128 t129 t130 true _ ?side1 ?side2 A67.out).mono ?_); (case side1 => repeat (first | exact (Kd.Q_reads' HO_114003.out).2.2 | (with_reducible refine Kd.C_alloc ?_ _) | (with_reducible refine Kd.C_drewN ?_ _) | (with_reducible refine Kd.C_drew ?_))); (case side2 => exact (Kd.Q_reads' HO_114003.out).2.1); rintro e w108 ⟨v131, rfl, ho0, hb⟩; refine ⟨_, rfl, ?_⟩; have HO132 := am_ (Kd.R_lower (Kd.R_new' (Kd.R_new' ho0 (Kd.Q_lt (by exact HO_114003.out))) (Kd.Q_lt (by exact HO_115003.out))) (below_size (by repeat (first | (with_reducible first | exact HB.out | apply below_alloc | apply pw_below_drewN | apply below_drew1 | refine below_set ?_ GE113.out | refine below_set ?_ GE114.out | refine below_set ?_ GE120.out | refine below_set ?_ GE126.out) | exact HB.out)))); replace HO_114003 := am_ (Kd.Q_elder' (by exact HO_114003.out) (Kd.R_base ho0) hb); replace HO_115003 := am_ (Kd.Q_elder' (by exact HO_115003.out) (Kd.R_base ho0) hb); replace BK113 := am_ (blk_below (by exact BK113.out) hb); replace BK114 := am_ (blk_below (by exact BK114.out) hb); replace BK120 := am_ (blk_below (by exact BK120.out) hb); replace BK126 := am_ (blk_below (by exact BK126.out) hb); replace HB := am_ (below_step (by repeat (first | (with_reducible first | exact HB.out | apply below_alloc | apply pw_below_drewN | apply below_drew1 | refine below_set ?_ GE113.out | refine below_set ?_ GE114.out | refine below_set ?_ GE120.out | refine below_set ?_ GE126.out) | exact HB.out)) hb); (try clear hb); (try clear hb2); (try clear hk); (try clear hi); (try clear ho0)) | ((with_reducible refine gate_dst (N := 9) rfl ?_); refine box_event ?hg (N := 9) ?hd (cs := #[.int .i64 0, .int .i64 0, .int .i64 0, .slice none 0 0]) (t := 26) ?hr ?_; (case hd => rfl); (case hg => rfl); (case hr => first | (go_simp; done) | (go_simp; rfl)); intro gb134 hg w109 hbox hb; replace HO_114003 := am_ (Kd.Q_below (by exact HO_114003.out) hb); replace HO_115003 := am_ (Kd.Q_below (by exact HO_115003.out) hb); replace HO132 := am_ (Kd.R_below (by exact HO132.out) hb); have BK134 := am_ (hbox); have GW134 := am_ ((by rw [hg]; exact (below_size (by repeat (first | (with_reducible first | exact HB.out | apply below_alloc | apply pw_below_drewN | apply below_drew1 | refine below_set ?_ GE113.out | refine below_set ?_ GE114.out | refine below_set ?_ GE120.out | refine below_set ?_ GE126.out) | exact HB.out))) : w.heap.size ≤ gb134)); have GE134 := GW134; replace HB := am_ (below_step (by repeat (first | (with_reducible first | exact HB.out | apply below_alloc | apply pw_below_drewN | apply below_drew1 | refine below_set ?_ GE113.out | refine below_set ?_ GE114.out | refine below_set ?_ GE120.out | refine below_set ?_ GE126.out) | exact HB.out)) hb); have NB113_134 := am_ ((by rw [hg]; exact Nat.ne_of_lt (blk_lt (by exact BK113.out)) : gb113 ≠ gb134)); have NB134_113 := am_ ((by rw [hg]; exact Nat.ne_of_gt (blk_lt (by exact BK113.out)) : gb134 ≠ gb113)); replace BK113 := am_ (blk_below (by exact BK113.out) hb); have NB114_134 := am_ ((by rw [hg]; exact Nat.ne_of_lt (blk_lt (by exact BK114.out)) : gb114 ≠ gb134)); have NB134_114 := am_ ((by rw [hg]; exact Nat.ne_of_gt (blk_lt (by exact BK114.out)) : gb134 ≠ gb114)); replace BK114 := am_ (blk_below (by exact BK114.out) hb); have NB120_134 := am_ ((by rw [hg]; exact Nat.ne_of_lt (blk_lt (by exact BK120.out)) : gb120 ≠ gb134)); have NB134_120 := am_ ((by rw [hg]; exact Nat.ne_of_gt (blk_lt (by exact BK120.out)) : gb134 ≠ gb120)); replace BK120 := am_ (blk_below (by exact BK120.out) hb); have NB126_134 := am_ ((by rw [hg]; exact Nat.ne_of_lt (blk_lt (by exact BK126.out)) : gb126 ≠ gb134)); have NB134_126 := am_ ((by rw [hg]; exact Nat.ne_of_gt (blk_lt (by exact BK126.out)) : gb134 ≠ gb126)); replace BK126 := am_ (blk_below (by exact BK126.out) hb); clear hb hbox hg; have hnb110 := NB134_113.out; have hnc110 := NB113_134.out; have hnb111 := NB134_114.out; have hnc111 := NB114_134.out; have hnb112 := NB134_120.out; have hnc112 := NB120_134.out; have hnb113 := NB134_126.out; have hnc113 := NB126_134.out; obtain ⟨hcz114_0, hcz114_1, hcz114_2, hcz114_3, hfz114_0, hfz114_1, hfz114_2, hfz114_3⟩ := blk4_ BK134.out; obtain ⟨Ao115, co115, eo115⟩ := Kd.R_slice HO132.out; subst eo115; obtain ⟨hcz116_0, hcz116_1, hcz116_2, hcz116_3, hfz116_0, hfz116_1, hfz116_2, hfz116_3⟩ := blk4_ BK113.out) | ((with_reducible refine gate_callee (f := 35) rfl ?_); refine goesL_ (some 76) rfl rfl Try.func35 (by kernel_rfl) rfl #[.agg #[.int .i64 t101, .int .i64 t102, .int .i64 t103, .slice Ao12 t104.length co12], .agg #[.int .i64 t127, .int .i64 t128, .int .i64 t129, .slice Ao115 t130.length co115]] rfl (by simp only [List.map_toArray, List.map_cons, List.map_nil]; rfl) ?_; (with_reducible refine (impl_FindImage.calls t101 t102 t103 _ _ t104 t127 t128 t129 _ _ t130 t135 t136 t137 t138 t139 _ ?side1 ?side2 ?side3 ?side4 A68.out).mono ?_); (case side1 => refine (Kd.Q_reads' (e := 3) (base := w.heap.size) (ok := fun k_ => (some k_ ≠ (.slice Ao14 t110.length co14 : Value).ownBlock ∧ some k_ ≠ (.slice Ao115 t130.length co115 : Value).ownBlock)) (n := t104.length) (c := co12) ?_).2.2; exact (by exact (Q4_ HO_114003.out BK134.out (by decide) _ _ _ _))); (case side2 => exact (Kd.Q_reads' HO_114003.out).2.1); (case side3 => refine (Kd.R_reads' (e := 3) (base := w.heap.size) (ok := fun k_ => ((True ∧ some k_ ≠ (.slice Ao12 t104.length co12 : Value).ownBlock) ∧ some k_ ≠ (.slice Ao14 t110.length co14 : Value).ownBlock)) (n := t130.length) (c := co115) ?_).2.2; exact (by exact (R4_ HO132.out BK134.out (by decide) _ _ _ _))); (case side4 => exact (Kd.R_reads' HO132.out).2.1); rintro e w117 ⟨rfl, hb⟩; refine ⟨_, rfl, ?_⟩; replace HO_114003 := am_ (Kd.Q_below (by exact (Q4_ HO_114003.out BK134.out (by decide) _ _ _ _)) hb); replace HO_115003 := am_ (Kd.Q_below (by exact (Q4_ HO_115003.out BK134.out (by decide) _ _ _ _)) hb); replace HO132 := am_ (Kd.R_below (by exact (R4_ HO132.out BK134.out (by decide) _ _ _ _)) hb); replace BK113 := am_ (blk_below (by exact far4_ BK113.out NB113_134.out _ _ _ _) hb); replace BK114 := am_ (blk_below (by exact far4_ BK114.out NB114_134.out _ _ _ _) hb); replace BK120 := am_ (blk_below (by exact far4_ BK120.out NB120_134.out _ _ _ _) hb); replace BK126 := am_ (blk_below (by exact far4_ BK126.out NB126_134.out _ _ _ _) hb); replace BK134 := am_ (blk_below (by exact put4_ BK134.out _ _ _ _) hb); replace HB := am_ (below_step (by repeat (first | (with_reducible first | exact HB.out | apply below_alloc | apply pw_below_drewN | apply below_drew1 | refine below_set ?_ GE113.out | refine below_set ?_ GE114.out | refine below_set ?_ GE120.out | refine below_set ?_ GE126.out | refine below_set ?_ GE134.out) | exact HB.out)) hb); (try clear hb); (try clear hb2); (try clear hk); (try clear hi)) | ((with_reducible refine gate_dst (N := 11) rfl ?_); refine box_event ?hg (N := 11) ?hd (cs := #[.int .i64 0, .int .i64 0, .int .i64 0, .int .i64 0]) (t := 40) ?hr ?_; (case hd => rfl); (case hg => rfl); (case hr => first | (go_simp; done) | (go_simp; rfl)); intro gb140 hg w118 hbox hb; replace HO_114003 := am_ (Kd.Q_below (by exact HO_114003.out) hb); replace HO_115003 := am_ (Kd.Q_below (by exact HO_115003.out) hb); replace HO132 := am_ (Kd.R_below (by exact HO132.out) hb); have BK140 := am_ (hbox); have GW140 := am_ ((by rw [hg]; exact (below_size (by repeat (first | (with_reducible first | exact HB.out | apply below_alloc | apply pw_below_drewN | apply below_drew1 | refine below_set ?_ GE113.out | refine below_set ?_ GE114.out | refine below_set ?_ GE120.out | refine below_set ?_ GE126.out | refine below_set ?_ GE134.out) | exact HB.out))) : w.heap.size ≤ gb140)); have GE140 := GW140; replace HB := am_ (below_step (by repeat (first | (with_reducible first | exact HB.out | apply below_alloc | apply pw_below_drewN | apply below_drew1 | refine below_set ?_ GE113.out | refine below_set ?_ GE114.out | refine below_set ?_ GE120.out | refine below_set ?_ GE126.out | refine below_set ?_ GE134.out) | exact HB.out)) hb); have NB113_140 := am_ ((by rw [hg]; exact Nat.ne_of_lt (blk_lt (by exact BK113.out)) : gb113 ≠ gb140)); have NB140_113 := am_ ((by rw [hg]; exact Nat.ne_of_gt (blk_lt (by exact BK113.out)) : gb140 ≠ gb113)); replace BK113 := am_ (blk_below (by exact BK113.out) hb); have NB114_140 := am_ ((by rw [hg]; exact Nat.ne_of_lt (blk_lt (by exact BK114.out)) : gb114 ≠ gb140)); have NB140_114 := am_ ((by rw [hg]; exact Nat.ne_of_gt (blk_lt (by exact BK114.out)) : gb140 ≠ gb114)); replace BK114 := am_ (blk_below (by exact BK114.out) hb); have NB120_140 := am_ ((by rw [hg]; exact Nat.ne_of_lt (blk_lt (by exact BK120.out)) : gb120 ≠ gb140)); have NB140_120 := am_ ((by rw [hg]; exact Nat.ne_of_gt (blk_lt (by exact BK120.out)) : gb140 ≠ gb120)); replace BK120 := am_ (blk_below (by exact BK120.out) hb); have NB126_140 := am_ ((by rw [hg]; exact Nat.ne_of_lt (blk_lt (by exact BK126.out)) : gb126 ≠ gb140)); have NB140_126 := am_ ((by rw [hg]; exact Nat.ne_of_gt (blk_lt (by exact BK126.out)) : gb140 ≠ gb126)); replace BK126 := am_ (blk_below (by exact BK126.out) hb); have NB134_140 := am_ ((by rw [hg]; exact Nat.ne_of_lt (blk_lt (by exact BK134.out)) : gb134 ≠ gb140)); have NB140_134 := am_ ((by rw [hg]; exact Nat.ne_of_gt (blk_lt (by exact BK134.out)) : gb140 ≠ gb134)); replace BK134 := am_ (blk_below (by exact BK134.out) hb); clear hb hbox hg; have hnb119 := NB140_113.out; have hnc119 := NB113_140.out; have hnb120 := NB140_114.out; have hnc120 := NB114_140.out; have hnb121 := NB140_120.out; have hnc121 := NB120_140.out; have hnb122 := NB140_126.out; have hnc122 := NB126_140.out; have hnb123 := NB140_134.out; have hnc123 := NB134_140.out; obtain ⟨hcz124_0, hcz124_1, hcz124_2, hcz124_3, hfz124_0, hfz124_1, hfz124_2, hfz124_3⟩ := blk4_ BK140.out; obtain ⟨hcz125_0, hcz125_1, hcz125_2, hcz125_3, hfz125_0, hfz125_1, hfz125_2, hfz125_3⟩ := blk4_ BK113.out; obtain ⟨hcz126_0, hcz126_1, hcz126_2, hcz126_3, hfz126_0, hfz126_1, hfz126_2, hfz126_3⟩ := blk4_ BK114.out))
   go_ret
   exact ⟨by first | rfl | (simp [errW_none, errW_some] <;> rfl) | (simp [*, errW_none, errW_some] <;> rfl), by repeat (first | (with_reducible first | exact HB.out | apply below_alloc | apply pw_below_drewN | apply below_drew1 | refine below_set ?_ GE113.out | refine below_set ?_ GE114.out | refine below_set ?_ GE120.out | refine below_set ?_ GE126.out | refine below_set ?_ GE134.out | refine below_set ?_ GE140.out) | exact HB.out)⟩

/-- THE ONE PURE STATEMENT of laws_FnFindImageOwn: yours. -/
def laws_FnFindImageOwn.Pure : Prop := ∀ (l0 : List Int), l0.length ≤ maxLen → l0.length * 1 ≤ 140737488351232 → (∀ x ∈ l0, (Lit.int .u8 x).wf = true) → ∃ k, laws_FnFindImageOwn.f k l0 = some true
theorem laws_FnFindImageOwn.walk (P : laws_FnFindImageOwn.Pure) (a0 : Option Addr) (len0 cap0 : Nat) (z0 : List Int) (w : World) (w0 : (a0 = none ∧ len0 = 0 ∧ cap0 = 0 ∧ z0 = []) ∨ ∃ x, a0 = some x ∧ len0 ≤ cap0 ∧ cap0 ≤ maxLen ∧ z0.length = cap0 ∧ (∀ i, i < z0.length → w.cell? (x.add i) = some (.int .u8 (z0.getD i 0))) ∧ ∀ n ∈ z0, (Lit.int .u8 n).wf = true) (y0 : len0 * 1 ≤ 140737488351232) :
  Calls Try.prog 11 #[.slice a0 len0 cap0] w fun e w' => e = .returned (.bool true) ∧ Below w.heap.size w w' := by
 obtain ⟨l0, rfl, hr0, hm0, hw0, hc0⟩ := ReadsInt.ofRowC w0
 obtain ⟨k, h⟩ := P l0 hm0 y0 hw0
 refine (laws_FnFindImageOwn.calls k _ _ l0 true w (Kd.C_of_reads (d := (0 : Int)) (h1 := fun _ => rfl) hr0) hc0 h).mono ?_
 rintro e w' ⟨rfl, hd⟩
 exact ⟨rfl, hd⟩

end Go.Proofs.Ytmaiifghplcjeaa.Print
