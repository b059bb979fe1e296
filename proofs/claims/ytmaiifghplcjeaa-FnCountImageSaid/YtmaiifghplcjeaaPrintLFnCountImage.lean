-- laid by hp.py (a program of this work over the kit's print), with contracts by hand for what the print does not take
import Derived.Test.YtmaiifghplcjeaaPrint0
import Derived.Test.YtmaiifghplcjeaaPrintHimplCountImage
import Derived.Test.YtmaiifghplcjeaaPrintHimplFindImage
import Derived.Test.YtmaiifghplcjeaaPrintHx0
import Derived.Test.YtmaiifghplcjeaaPrintR1x3
import Derived.Test.YtmaiifghplcjeaaPrintR1x7
namespace Go.Proofs.Ytmaiifghplcjeaa.Print
open Go.RowKit Go.Proofs.YtmaiifghplcjeaaW.PrintWords Go.Proofs.YtmaiifghplcjeaaW.PrintLast Go.Proofs.YtmaiifghplcjeaaW.PrintMore
attribute [local go_sem] max2_int min2_int max_two min_two max_three min_three max_four min_four   -- for this text's walks alone
set_option linter.unusedVariables false
set_option linter.unusedSimpArgs false

/-! ### laws_FnCountImage: function 13 -/
def laws_FnCountImage.j0 : Nat → Int → Bool → Int → Int → Int → List Int → Int → Int → Int → List Int → Option (Bool)
 | 0, _, _, _, _, _, _, _, _, _, _ => none
 | k + 1, x5, x27, x114000, x114001, x114002, x114003, x115000, x115001, x115002, x115003 => if x27 = true then ((spec_CountImage.f k x114000 x114001 x114002 x114003 x115000 x115001 x115002 x115003).bind fun t117 => (some (x5 == t117))) else ((impl_FindImage.f x114000 x114001 x114002 x114003 x115000 x115001 x115002 x115003).bind fun bt118 => (if ((x5 == 0) == (decide (bt118.2.2.2.2 > 0))) = true then ((impl_CountImage.f x114000 x114001 x114002 x114003 x114000 x114001 x114002 x114003).bind fun t124 => (some (t124 == 1))) else (some false)))
def laws_FnCountImage.f (k : Nat) (l0 : List Int) : Option (Bool) := if (l0.length : Int) > 1048576 then (some true) else ((spec_DrawCountImage.f k l0).bind fun bt101 => ((impl_CountImage.f bt101.1 bt101.2.1 bt101.2.2.1 bt101.2.2.2.1 bt101.2.2.2.2.1 bt101.2.2.2.2.2.1 bt101.2.2.2.2.2.2.1 bt101.2.2.2.2.2.2.2).bind fun t115 => ((spec_CountImage.f k bt101.1 bt101.2.1 bt101.2.2.1 bt101.2.2.2.1 bt101.2.2.2.2.1 bt101.2.2.2.2.2.1 bt101.2.2.2.2.2.2.1 bt101.2.2.2.2.2.2.2).bind fun t116 => (if t115 = t116 then (laws_FnCountImage.j0 k t115 (decide (t115 < 0)) bt101.1 bt101.2.1 bt101.2.2.1 bt101.2.2.2.1 bt101.2.2.2.2.1 bt101.2.2.2.2.2.1 bt101.2.2.2.2.2.2.1 bt101.2.2.2.2.2.2.2) else (laws_FnCountImage.j0 k t115 true bt101.1 bt101.2.1 bt101.2.2.1 bt101.2.2.2.1 bt101.2.2.2.2.1 bt101.2.2.2.2.2.1 bt101.2.2.2.2.2.2.1 bt101.2.2.2.2.2.2.2)))))
theorem laws_FnCountImage.mono_l : ∀ k, (∀ y0 y1 y2 y3 y4 y5 y6 y7 y8 y9, LeO (laws_FnCountImage.j0 k y0 y1 y2 y3 y4 y5 y6 y7 y8 y9) (laws_FnCountImage.j0 (k + 1) y0 y1 y2 y3 y4 y5 y6 y7 y8 y9))
 | 0 => fun _ _ _ _ _ _ _ _ _ _ r h => by simp [laws_FnCountImage.j0] at h
 | k + 1 => by
  have ih0 := laws_FnCountImage.mono_l k
  intro y0 y1 y2 y3 y4 y5 y6 y7 y8 y9
  unfold laws_FnCountImage.j0
  repeat' first
  | (with_reducible exact ih0 _ _ _ _ _ _ _ _ _ _)
  | (with_reducible exact spec_CountImage.mono _ _ _ _ _ _ _ _ _)
  | (with_reducible exact spec_DrawCountImage.mono _ _)
  | (with_reducible exact LeO.refl _)
  | (with_reducible exact LeO.none _)
  | (with_reducible refine LeO.ite ?_ ?_)
  | (with_reducible refine LeO.bind ?_ (fun _ => ?_))
  | exact ih0 _ _ _ _ _ _ _ _ _ _
  | exact spec_CountImage.mono _ _ _ _ _ _ _ _ _
  | exact spec_DrawCountImage.mono _ _
  | exact LeO.none _
  | refine LeO.ite ?_ ?_
  | refine LeO.bind ?_ (fun _ => ?_)
theorem laws_FnCountImage.mono : ∀ a0 k, LeO (laws_FnCountImage.f k a0) (laws_FnCountImage.f (k + 1) a0) := by
 intro a0 k
 have ih0 := laws_FnCountImage.mono_l k
 unfold laws_FnCountImage.f
 repeat' first
   | (with_reducible exact ih0 _ _ _ _ _ _ _ _ _ _)
   | (with_reducible exact spec_CountImage.mono _ _ _ _ _ _ _ _ _)
   | (with_reducible exact spec_DrawCountImage.mono _ _)
   | (with_reducible exact LeO.refl _)
   | (with_reducible exact LeO.none _)
   | (with_reducible refine LeO.ite ?_ ?_)
   | (with_reducible refine LeO.bind ?_ (fun _ => ?_))
   | exact ih0 _ _ _ _ _ _ _ _ _ _
   | exact spec_CountImage.mono _ _ _ _ _ _ _ _ _
   | exact spec_DrawCountImage.mono _ _
   | exact LeO.none _
   | refine LeO.ite ?_ ?_
   | refine LeO.bind ?_ (fun _ => ?_)
set_option maxHeartbeats 8000000 in
set_option maxRecDepth 100000 in
theorem laws_FnCountImage.calls (k : Nat) (A0 : Option Addr) (c0 : Nat) (l0 : List Int) (r : Bool) (w : World) (hr0 : Kd.C (Kd.int .u8) w A0 l0.length l0) (hc0 : l0.length ≤ c0) (h : laws_FnCountImage.f k l0 = some r) :
  Calls Try.prog 13 #[.slice A0 l0.length c0] w fun e w' => e = .returned (.bool r) ∧ Below w.heap.size w w' := by
 have hu26 := Try.underlying26
 have hu40 := Try.underlying40
 have HR0 := Aside0.mk hr0
 have HC0 := Aside0.mk hc0
 clear hr0 hc0
 have HB := Aside0.mk (Below.refl w.heap.size w)
 have H : (if (l0.length : Int) > 1048576 then (some true) else ((spec_DrawCountImage.f k l0).bind fun bt101 => ((impl_CountImage.f bt101.1 bt101.2.1 bt101.2.2.1 bt101.2.2.2.1 bt101.2.2.2.2.1 bt101.2.2.2.2.2.1 bt101.2.2.2.2.2.2.1 bt101.2.2.2.2.2.2.2).bind fun t115 => ((spec_CountImage.f k bt101.1 bt101.2.1 bt101.2.2.1 bt101.2.2.2.1 bt101.2.2.2.2.1 bt101.2.2.2.2.2.1 bt101.2.2.2.2.2.2.1 bt101.2.2.2.2.2.2.2).bind fun t116 => (if t115 = t116 then (laws_FnCountImage.j0 k t115 (decide (t115 < 0)) bt101.1 bt101.2.1 bt101.2.2.1 bt101.2.2.2.1 bt101.2.2.2.2.1 bt101.2.2.2.2.2.1 bt101.2.2.2.2.2.2.1 bt101.2.2.2.2.2.2.2) else (laws_FnCountImage.j0 k t115 true bt101.1 bt101.2.1 bt101.2.2.1 bt101.2.2.2.1 bt101.2.2.2.2.1 bt101.2.2.2.2.2.1 bt101.2.2.2.2.2.2.1 bt101.2.2.2.2.2.2.2)))))) = some r := h
 clear h
 by_cases c2 : (l0.length : Int) > 1048576
 ·
  rw [if_pos c2] at H
  have c2b0 : decide (1048576 < (l0.length : Int)) = true := decide_eq_true c2
  have c2b1 : decide (1048576 < l0.length) = true := decide_eq_true (by omega)
  clear c2
  obtain rfl := Option.some.inj H
  go_enter Try.func13, Try.ntmps13
  go_wp2
  go_ret
  exact ⟨by first | rfl | (simp [errW_none, errW_some] <;> rfl) | (simp [*, errW_none, errW_some] <;> rfl), by repeat (first | (with_reducible first | exact HB.out | apply below_alloc | apply pw_below_drewN | apply below_drew1) | exact HB.out)⟩
 rw [if_neg c2] at H
 have c2b0 : decide (1048576 < (l0.length : Int)) = false := decide_eq_false c2
 have c2b1 : decide (1048576 < l0.length) = false := decide_eq_false (by omega)
 clear c2
 replace H := Option.bind_eq_some_iff.mp H
 obtain ⟨⟨t101, t102, t103, t104, t107, t108, t109, t110⟩, A30, H⟩ := H
 replace H : ((impl_CountImage.f t101 t102 t103 t104 t107 t108 t109 t110).bind fun t115 => ((spec_CountImage.f k t101 t102 t103 t104 t107 t108 t109 t110).bind fun t116 => (if t115 = t116 then (laws_FnCountImage.j0 k t115 (decide (t115 < 0)) t101 t102 t103 t104 t107 t108 t109 t110) else (laws_FnCountImage.j0 k t115 true t101 t102 t103 t104 t107 t108 t109 t110)))) = some r := H
 have A3 := Aside0.mk A30
 clear A30
 replace H := Option.bind_eq_some_iff.mp H
 obtain ⟨t115, A40, H⟩ := H
 replace H : ((spec_CountImage.f k t101 t102 t103 t104 t107 t108 t109 t110).bind fun t116 => (if t115 = t116 then (laws_FnCountImage.j0 k t115 (decide (t115 < 0)) t101 t102 t103 t104 t107 t108 t109 t110) else (laws_FnCountImage.j0 k t115 true t101 t102 t103 t104 t107 t108 t109 t110))) = some r := H
 have A4 := Aside0.mk A40
 clear A40
 have HC5 := Aside0.mk H
 clear H
 go_enter Try.func13, Try.ntmps13
 go_upto_region 5 with (first | ((with_reducible refine gate_callee (f := 40) rfl ?_); refine goesL_ (some 13) rfl rfl Try.func40 (by kernel_rfl) rfl #[.slice A0 l0.length c0] rfl (by simp only [List.map_toArray, List.map_cons, List.map_nil]; rfl) ?_; (with_reducible refine (spec_DrawCountImage.calls k _ _ l0 t101 t102 t103 t104 t107 t108 t109 t110 _ ?side1 ?side2 A3.out).mono ?_); (case side1 => repeat (first | exact HR0.out | (with_reducible refine Kd.C_alloc ?_ _) | (with_reducible refine Kd.C_drewN ?_ _) | (with_reducible refine Kd.C_drew ?_))); (case side2 => exact HC0.out); rintro e w6 ⟨v105, v111, rfl, ho0, ho1, hb⟩; refine ⟨_, rfl, ?_⟩; have HO106 := am_ (Kd.Q_lower ho0 (below_size (by repeat (first | (with_reducible first | exact HB.out | apply below_alloc | apply pw_below_drewN | apply below_drew1) | exact HB.out)))); have HO112 := am_ (Kd.Q_lower ho1 (below_size (by repeat (first | (with_reducible first | exact HB.out | apply below_alloc | apply pw_below_drewN | apply below_drew1) | exact HB.out)))); replace HB := am_ (below_step (by repeat (first | (with_reducible first | exact HB.out | apply below_alloc | apply pw_below_drewN | apply below_drew1) | exact HB.out)) hb); (try clear hb); (try clear hb2); (try clear hk); (try clear hi); (try clear ho0); (try clear ho1)) | ((with_reducible refine gate_dst (N := 3) rfl ?_); refine box_event ?hg (N := 3) ?hd (cs := #[.int .i64 0, .int .i64 0, .int .i64 0, .slice none 0 0]) (t := 26) ?hr ?_; (case hd => rfl); (case hg => rfl); (case hr => first | (go_simp; done) | (go_simp; rfl)); intro gb113 hg w7 hbox hb; replace HO106 := am_ (Kd.Q_below (by exact HO106.out) hb); replace HO112 := am_ (Kd.Q_below (by exact HO112.out) hb); have BK113 := am_ (hbox); have GW113 := am_ ((by rw [hg]; exact (below_size (by repeat (first | (with_reducible first | exact HB.out | apply below_alloc | apply pw_below_drewN | apply below_drew1) | exact HB.out))) : w.heap.size ≤ gb113)); have GE113 := GW113; replace HB := am_ (below_step (by repeat (first | (with_reducible first | exact HB.out | apply below_alloc | apply pw_below_drewN | apply below_drew1) | exact HB.out)) hb); clear hb hbox hg) | ((with_reducible refine gate_dst (N := 4) rfl ?_); refine box_event ?hg (N := 4) ?hd (cs := #[.int .i64 0, .int .i64 0, .int .i64 0, .slice none 0 0]) (t := 26) ?hr ?_; (case hd => rfl); (case hg => rfl); (case hr => first | (go_simp; done) | (go_simp; rfl)); intro gb114 hg w8 hbox hb; replace HO106 := am_ (Kd.Q_below (by exact HO106.out) hb); replace HO112 := am_ (Kd.Q_below (by exact HO112.out) hb); have BK114 := am_ (hbox); have GW114 := am_ ((by rw [hg]; exact (below_size (by repeat (first | (with_reducible first | exact HB.out | apply below_alloc | apply pw_below_drewN | apply below_drew1 | refine below_set ?_ GE113.out) | exact HB.out))) : w.heap.size ≤ gb114)); have GE114 := GW114; replace HB := am_ (below_step (by repeat (first | (with_reducible first | exact HB.out | apply below_alloc | apply pw_below_drewN | apply below_drew1 | refine below_set ?_ GE113.out) | exact HB.out)) hb); have NB113_114 := am_ ((by rw [hg]; exact Nat.ne_of_lt (blk_lt (by exact BK113.out)) : gb113 ≠ gb114)); have NB114_113 := am_ ((by rw [hg]; exact Nat.ne_of_gt (blk_lt (by exact BK113.out)) : gb114 ≠ gb113)); replace BK113 := am_ (blk_below (by exact BK113.out) hb); clear hb hbox hg; have hnb9 := NB113_114.out; have hnc9 := NB114_113.out; obtain ⟨hcz10_0, hcz10_1, hcz10_2, hcz10_3, hfz10_0, hfz10_1, hfz10_2, hfz10_3⟩ := blk4_ BK113.out; obtain ⟨Ao11, co11, eo11, _⟩ := Kd.Q_slice HO106.out; subst eo11; obtain ⟨hcz12_0, hcz12_1, hcz12_2, hcz12_3, hfz12_0, hfz12_1, hfz12_2, hfz12_3⟩ := blk4_ BK114.out; obtain ⟨Ao13, co13, eo13, _⟩ := Kd.Q_slice HO112.out; subst eo13) | ((with_reducible refine gate_callee (f := 24) rfl ?_); refine goesL_ (some 18) rfl rfl Try.func24 (by kernel_rfl) rfl #[.agg #[.int .i64 t101, .int .i64 t102, .int .i64 t103, .slice Ao11 t104.length co11], .agg #[.int .i64 t107, .int .i64 t108, .int .i64 t109, .slice Ao13 t110.length co13]] rfl (by simp only [List.map_toArray, List.map_cons, List.map_nil]; rfl) ?_; (with_reducible refine (impl_CountImage.calls t101 t102 t103 _ _ t104 t107 t108 t109 _ _ t110 t115 _ ?side1 ?side2 ?side3 ?side4 A4.out).mono ?_); (case side1 => refine (Kd.Q_reads' (e := 3) (base := w.heap.size) (ok := fun k_ => some k_ ≠ (.slice Ao13 t110.length co13 : Value).ownBlock) (n := t104.length) (c := co11) ?_).2.2; exact (by exact (Kd.Q_mono (Kd.Q_mono (Kd.Q_far (p := ⟨gb114, 3, none⟩) (Kd.Q_far (p := ⟨gb114, 2, none⟩) (Kd.Q_far (p := ⟨gb114, 1, none⟩) (Kd.Q_far (p := ⟨gb114, 0, none⟩) (Kd.Q_far (p := ⟨gb113, 3, none⟩) (Kd.Q_far (p := ⟨gb113, 2, none⟩) (Kd.Q_far (p := ⟨gb113, 1, none⟩) (Kd.Q_far (p := ⟨gb113, 0, none⟩) (Kd.Q_types (Kd.Q_types HO106.out BK113.out (by decide)) BK114.out (by decide)) (fun _ hk => hk.1.2) (.int .i64 t101)) (fun _ hk => hk.1.2) (.int .i64 t102)) (fun _ hk => hk.1.2) (.int .i64 t103)) (fun _ hk => hk.1.2) (.slice Ao11 t104.length co11)) (fun _ hk => hk.2) (.int .i64 t107)) (fun _ hk => hk.2) (.int .i64 t108)) (fun _ hk => hk.2) (.int .i64 t109)) (fun _ hk => hk.2) (.slice Ao13 t110.length co13)) (fun _ h_ => h_.1)) (fun _ h_ => h_.1)))); (case side2 => exact (Kd.Q_reads' HO106.out).2.1); (case side3 => refine (Kd.Q_reads' (e := 3) (base := w.heap.size) (ok := fun k_ => some k_ ≠ (.slice Ao11 t104.length co11 : Value).ownBlock) (n := t110.length) (c := co13) ?_).2.2; exact (by exact (Kd.Q_mono (Kd.Q_mono (Kd.Q_far (p := ⟨gb114, 3, none⟩) (Kd.Q_far (p := ⟨gb114, 2, none⟩) (Kd.Q_far (p := ⟨gb114, 1, none⟩) (Kd.Q_far (p := ⟨gb114, 0, none⟩) (Kd.Q_far (p := ⟨gb113, 3, none⟩) (Kd.Q_far (p := ⟨gb113, 2, none⟩) (Kd.Q_far (p := ⟨gb113, 1, none⟩) (Kd.Q_far (p := ⟨gb113, 0, none⟩) (Kd.Q_types (Kd.Q_types HO112.out BK113.out (by decide)) BK114.out (by decide)) (fun _ hk => hk.1.2) (.int .i64 t101)) (fun _ hk => hk.1.2) (.int .i64 t102)) (fun _ hk => hk.1.2) (.int .i64 t103)) (fun _ hk => hk.1.2) (.slice Ao11 t104.length co11)) (fun _ hk => hk.2) (.int .i64 t107)) (fun _ hk => hk.2) (.int .i64 t108)) (fun _ hk => hk.2) (.int .i64 t109)) (fun _ hk => hk.2) (.slice Ao13 t110.length co13)) (fun _ h_ => h_.1)) (fun _ h_ => h_.1)))); (case side4 => exact (Kd.Q_reads' HO112.out).2.1); rintro e w14 ⟨rfl, hb⟩; refine ⟨_, rfl, ?_⟩; replace HO106 := am_ (Kd.Q_below (by exact (Kd.Q_mono (Kd.Q_mono (Kd.Q_far (p := ⟨gb114, 3, none⟩) (Kd.Q_far (p := ⟨gb114, 2, none⟩) (Kd.Q_far (p := ⟨gb114, 1, none⟩) (Kd.Q_far (p := ⟨gb114, 0, none⟩) (Kd.Q_far (p := ⟨gb113, 3, none⟩) (Kd.Q_far (p := ⟨gb113, 2, none⟩) (Kd.Q_far (p := ⟨gb113, 1, none⟩) (Kd.Q_far (p := ⟨gb113, 0, none⟩) (Kd.Q_types (Kd.Q_types HO106.out BK113.out (by decide)) BK114.out (by decide)) (fun _ hk => hk.1.2) (.int .i64 t101)) (fun _ hk => hk.1.2) (.int .i64 t102)) (fun _ hk => hk.1.2) (.int .i64 t103)) (fun _ hk => hk.1.2) (.slice Ao11 t104.length co11)) (fun _ hk => hk.2) (.int .i64 t107)) (fun _ hk => hk.2) (.int .i64 t108)) (fun _ hk => hk.2) (.int .i64 t109)) (fun _ hk => hk.2) (.slice Ao13 t110.length co13)) (fun _ h_ => h_.1)) (fun _ h_ => h_.1))) hb); replace HO112 := am_ (Kd.Q_below (by exact (Kd.Q_mono (Kd.Q_mono (Kd.Q_far (p := ⟨gb114, 3, none⟩) (Kd.Q_far (p := ⟨gb114, 2, none⟩) (Kd.Q_far (p := ⟨gb114, 1, none⟩) (Kd.Q_far (p := ⟨gb114, 0, none⟩) (Kd.Q_far (p := ⟨gb113, 3, none⟩) (Kd.Q_far (p := ⟨gb113, 2, none⟩) (Kd.Q_far (p := ⟨gb113, 1, none⟩) (Kd.Q_far (p := ⟨gb113, 0, none⟩) (Kd.Q_types (Kd.Q_types HO112.out BK113.out (by decide)) BK114.out (by decide)) (fun _ hk => hk.1.2) (.int .i64 t101)) (fun _ hk => hk.1.2) (.int .i64 t102)) (fun _ hk => hk.1.2) (.int .i64 t103)) (fun _ hk => hk.1.2) (.slice Ao11 t104.length co11)) (fun _ hk => hk.2) (.int .i64 t107)) (fun _ hk => hk.2) (.int .i64 t108)) (fun _ hk => hk.2) (.int .i64 t109)) (fun _ hk => hk.2) (.slice Ao13 t110.length co13)) (fun _ h_ => h_.1)) (fun _ h_ => h_.1))) hb); replace BK113 := am_ (blk_below (g := gb113) (o := .cells #[.int .i64 t101, .int .i64 t102, .int .i64 t103, .slice Ao11 t104.length co11] 26 (0, 0)) (by (with_reducible repeat (first | refine blk_drewN ?_ _ | refine blk_drew ?_ | refine blk_alloc ?_ _)); refine blk_far ?_ NB113_114.out _; (with_reducible repeat (first | refine blk_drewN ?_ _ | refine blk_drew ?_ | refine blk_alloc ?_ _)); refine blk_far ?_ NB113_114.out _; (with_reducible repeat (first | refine blk_drewN ?_ _ | refine blk_drew ?_ | refine blk_alloc ?_ _)); refine blk_far ?_ NB113_114.out _; (with_reducible repeat (first | refine blk_drewN ?_ _ | refine blk_drew ?_ | refine blk_alloc ?_ _)); refine blk_far ?_ NB113_114.out _; (with_reducible repeat (first | refine blk_drewN ?_ _ | refine blk_drew ?_ | refine blk_alloc ?_ _)); refine blk_put (cs := #[.int .i64 t101, .int .i64 t102, .int .i64 t103, .slice none 0 0]) ?_ 3 _ rfl; (with_reducible repeat (first | refine blk_drewN ?_ _ | refine blk_drew ?_ | refine blk_alloc ?_ _)); refine blk_put (cs := #[.int .i64 t101, .int .i64 t102, .int .i64 0, .slice none 0 0]) ?_ 2 _ rfl; (with_reducible repeat (first | refine blk_drewN ?_ _ | refine blk_drew ?_ | refine blk_alloc ?_ _)); refine blk_put (cs := #[.int .i64 t101, .int .i64 0, .int .i64 0, .slice none 0 0]) ?_ 1 _ rfl; (with_reducible repeat (first | refine blk_drewN ?_ _ | refine blk_drew ?_ | refine blk_alloc ?_ _)); refine blk_put (cs := #[.int .i64 0, .int .i64 0, .int .i64 0, .slice none 0 0]) ?_ 0 _ rfl; (with_reducible repeat (first | refine blk_drewN ?_ _ | refine blk_drew ?_ | refine blk_alloc ?_ _)); exact BK113.out) hb); replace BK114 := am_ (blk_below (g := gb114) (o := .cells #[.int .i64 t107, .int .i64 t108, .int .i64 t109, .slice Ao13 t110.length co13] 26 (0, 0)) (by (with_reducible repeat (first | refine blk_drewN ?_ _ | refine blk_drew ?_ | refine blk_alloc ?_ _)); refine blk_put (cs := #[.int .i64 t107, .int .i64 t108, .int .i64 t109, .slice none 0 0]) ?_ 3 _ rfl; (with_reducible repeat (first | refine blk_drewN ?_ _ | refine blk_drew ?_ | refine blk_alloc ?_ _)); refine blk_put (cs := #[.int .i64 t107, .int .i64 t108, .int .i64 0, .slice none 0 0]) ?_ 2 _ rfl; (with_reducible repeat (first | refine blk_drewN ?_ _ | refine blk_drew ?_ | refine blk_alloc ?_ _)); refine blk_put (cs := #[.int .i64 t107, .int .i64 0, .int .i64 0, .slice none 0 0]) ?_ 1 _ rfl; (with_reducible repeat (first | refine blk_drewN ?_ _ | refine blk_drew ?_ | refine blk_alloc ?_ _)); refine blk_put (cs := #[.int .i64 0, .int .i64 0, .int .i64 0, .slice none 0 0]) ?_ 0 _ rfl; (with_reducible repeat (first | refine blk_drewN ?_ _ | refine blk_drew ?_ | refine blk_alloc ?_ _)); refine blk_far ?_ NB114_113.out _; (with_reducible repeat (first | refine blk_drewN ?_ _ | refine blk_drew ?_ | refine blk_alloc ?_ _)); refine blk_far ?_ NB114_113.out _; (with_reducible repeat (first | refine blk_drewN ?_ _ | refine blk_drew ?_ | refine blk_alloc ?_ _)); refine blk_far ?_ NB114_113.out _; (with_reducible repeat (first | refine blk_drewN ?_ _ | refine blk_drew ?_ | refine blk_alloc ?_ _)); refine blk_far ?_ NB114_113.out _; (with_reducible repeat (first | refine blk_drewN ?_ _ | refine blk_drew ?_ | refine blk_alloc ?_ _)); exact BK114.out) hb); replace HB := am_ (below_step (by repeat (first | (with_reducible first | exact HB.out | apply below_alloc | apply pw_below_drewN | apply below_drew1 | refine below_set ?_ GE113.out | refine below_set ?_ GE114.out) | exact HB.out)) hb); (try clear hb); (try clear hb2); (try clear hk); (try clear hi)))
 (try simp only [Act.put, List.setIfInBounds_toArray, List.set_cons_zero, List.set_cons_succ])
 go_cut [27] (fun v27 wc => ∃ (kq : Nat) (x27_4 : Bool), v27 = .bool x27_4 ∧ Aside0 (laws_FnCountImage.j0 kq t115 x27_4 t101 t102 t103 t104 t107 t108 t109 t110 = some r) ∧ Aside0 (kq ≤ k) ∧ Aside0 (Kd.Q (Kd.int .i64) 3 wc w.heap.size (fun k_ => some k_ ≠ ((.slice Ao13 t110.length co13) : Value).ownBlock) (.slice Ao11 t104.length co11) t104) ∧ Aside0 (Kd.Q (Kd.int .i64) 3 wc w.heap.size (fun k_ => some k_ ≠ ((.slice Ao11 t104.length co11) : Value).ownBlock) (.slice Ao13 t110.length co13) t110) ∧ Aside0 (wc.heap[gb113]? = some (.cells #[.int .i64 t101, .int .i64 t102, .int .i64 t103, (.slice Ao11 t104.length co11)] 26 (0, 0))) ∧ Aside0 (wc.heap[gb114]? = some (.cells #[.int .i64 t107, .int .i64 t108, .int .i64 t109, (.slice Ao13 t110.length co13)] 26 (0, 0))) ∧ Aside0 (Below w.heap.size w wc))
 case first =>
  have H := HC5.out
  clear HC5
  replace H := Option.bind_eq_some_iff.mp H
  obtain ⟨t116, A150, H⟩ := H
  replace H : (if t115 = t116 then (laws_FnCountImage.j0 k t115 (decide (t115 < 0)) t101 t102 t103 t104 t107 t108 t109 t110) else (laws_FnCountImage.j0 k t115 true t101 t102 t103 t104 t107 t108 t109 t110)) = some r := H
  have A15 := Aside0.mk A150
  clear A150
  by_cases c16 : t115 = t116
  ·
   rw [if_pos c16] at H
   have c16b0 : (t115 == t116) = true := beq_iff_eq.mpr c16
   have c16b1 : (t115 != t116) = false := bne_eq_false_iff_eq.mpr c16
   clear c16
   (first | rw [c16b0] | (simp only [i64_w, i32_w]; rw [c16b0]) | skip)
   have H' := Aside0.mk H
   clear H
   have hnb17 := NB113_114.out
   have hnc17 := NB114_113.out
   obtain ⟨hcz18_0, hcz18_1, hcz18_2, hcz18_3, hfz18_0, hfz18_1, hfz18_2, hfz18_3⟩ := blk4_ BK113.out
   obtain ⟨hcz19_0, hcz19_1, hcz19_2, hcz19_3, hfz19_0, hfz19_1, hfz19_2, hfz19_3⟩ := blk4_ BK114.out
   go_wp2_with (first | ((with_reducible refine gate_callee (f := 39) rfl ?_); refine goesL_ (some 22) rfl rfl Try.func39 (by kernel_rfl) rfl #[.agg #[.int .i64 t101, .int .i64 t102, .int .i64 t103, .slice Ao11 t104.length co11], .agg #[.int .i64 t107, .int .i64 t108, .int .i64 t109, .slice Ao13 t110.length co13]] rfl (by simp only [List.map_toArray, List.map_cons, List.map_nil]; rfl) ?_; (with_reducible refine (spec_CountImage.calls k t101 t102 t103 _ _ t104 t107 t108 t109 _ _ t110 t116 _ ?side1 ?side2 ?side3 ?side4 A15.out).mono ?_); (case side1 => repeat (first | exact (Kd.Q_reads' HO106.out).2.2 | (with_reducible refine Kd.C_alloc ?_ _) | (with_reducible refine Kd.C_drewN ?_ _) | (with_reducible refine Kd.C_drew ?_))); (case side2 => exact (Kd.Q_reads' HO106.out).2.1); (case side3 => repeat (first | exact (Kd.Q_reads' HO112.out).2.2 | (with_reducible refine Kd.C_alloc ?_ _) | (with_reducible refine Kd.C_drewN ?_ _) | (with_reducible refine Kd.C_drew ?_))); (case side4 => exact (Kd.Q_reads' HO112.out).2.1); rintro e w20 ⟨rfl, hb⟩; refine ⟨_, rfl, ?_⟩; replace HO106 := am_ (Kd.Q_below (by exact HO106.out) hb); replace HO112 := am_ (Kd.Q_below (by exact HO112.out) hb); replace BK113 := am_ (blk_below (by exact BK113.out) hb); replace BK114 := am_ (blk_below (by exact BK114.out) hb); replace HB := am_ (below_step (by repeat (first | (with_reducible first | exact HB.out | apply below_alloc | apply pw_below_drewN | apply below_drew1 | refine below_set ?_ GE113.out | refine below_set ?_ GE114.out) | exact HB.out)) hb); (try clear hb); (try clear hb2); (try clear hk); (try clear hi)))
   go_meet
   case rel => exact ⟨_, (decide (t115 < 0)), (by first | rfl | (simp; done) | (simp [*]; done)), H', ⟨by first | omega | exact Nat.le_refl _⟩, ⟨by exact HO106.out⟩, ⟨by exact HO112.out⟩, ⟨by exact BK113.out⟩, ⟨by exact BK114.out⟩, ⟨by repeat (first | (with_reducible first | exact HB.out | apply below_alloc | apply pw_below_drewN | apply below_drew1 | refine below_set ?_ GE113.out | refine below_set ?_ GE114.out) | exact HB.out)⟩⟩
  rw [if_neg c16] at H
  have c16b0 : (t115 == t116) = false := beq_eq_false_iff_ne.mpr c16
  have c16b1 : (t115 != t116) = true := bne_iff_ne.mpr c16
  (first | rw [c16b0] | (simp only [i64_w, i32_w]; rw [c16b0]) | skip)
  have H' := Aside0.mk H
  clear H
  have hnb21 := NB113_114.out
  have hnc21 := NB114_113.out
  obtain ⟨hcz22_0, hcz22_1, hcz22_2, hcz22_3, hfz22_0, hfz22_1, hfz22_2, hfz22_3⟩ := blk4_ BK113.out
  obtain ⟨hcz23_0, hcz23_1, hcz23_2, hcz23_3, hfz23_0, hfz23_1, hfz23_2, hfz23_3⟩ := blk4_ BK114.out
  go_wp2_with (first | ((with_reducible refine gate_callee (f := 39) rfl ?_); refine goesL_ (some 22) rfl rfl Try.func39 (by kernel_rfl) rfl #[.agg #[.int .i64 t101, .int .i64 t102, .int .i64 t103, .slice Ao11 t104.length co11], .agg #[.int .i64 t107, .int .i64 t108, .int .i64 t109, .slice Ao13 t110.length co13]] rfl (by simp only [List.map_toArray, List.map_cons, List.map_nil]; rfl) ?_; (with_reducible refine (spec_CountImage.calls k t101 t102 t103 _ _ t104 t107 t108 t109 _ _ t110 t116 _ ?side1 ?side2 ?side3 ?side4 A15.out).mono ?_); (case side1 => repeat (first | exact (Kd.Q_reads' HO106.out).2.2 | (with_reducible refine Kd.C_alloc ?_ _) | (with_reducible refine Kd.C_drewN ?_ _) | (with_reducible refine Kd.C_drew ?_))); (case side2 => exact (Kd.Q_reads' HO106.out).2.1); (case side3 => repeat (first | exact (Kd.Q_reads' HO112.out).2.2 | (with_reducible refine Kd.C_alloc ?_ _) | (with_reducible refine Kd.C_drewN ?_ _) | (with_reducible refine Kd.C_drew ?_))); (case side4 => exact (Kd.Q_reads' HO112.out).2.1); rintro e w24 ⟨rfl, hb⟩; refine ⟨_, rfl, ?_⟩; replace HO106 := am_ (Kd.Q_below (by exact HO106.out) hb); replace HO112 := am_ (Kd.Q_below (by exact HO112.out) hb); replace BK113 := am_ (blk_below (by exact BK113.out) hb); replace BK114 := am_ (blk_below (by exact BK114.out) hb); replace HB := am_ (below_step (by repeat (first | (with_reducible first | exact HB.out | apply below_alloc | apply pw_below_drewN | apply below_drew1 | refine below_set ?_ GE113.out | refine below_set ?_ GE114.out) | exact HB.out)) hb); (try clear hb); (try clear hb2); (try clear hk); (try clear hi)))
  go_meet
  case rel => exact ⟨_, (true), (by first | rfl | (simp; done) | (simp [*]; done)), H', ⟨by first | omega | exact Nat.le_refl _⟩, ⟨by exact HO106.out⟩, ⟨by exact HO112.out⟩, ⟨by exact BK113.out⟩, ⟨by exact BK114.out⟩, ⟨by repeat (first | (with_reducible first | exact HB.out | apply below_alloc | apply pw_below_drewN | apply below_drew1 | refine below_set ?_ GE113.out | refine below_set ?_ GE114.out) | exact HB.out)⟩⟩
 case rest =>
  clear HC5
  try clear c1
  try clear c2
  try clear c2b0
  try clear c2b1
  try clear p2
  try clear c3
  try clear c4
  try clear c9
  try clear c13
  try clear c16
  try clear c16b0
  try clear c16b1
  try clear c17
  try clear c21
  try clear c24
  try clear hcz10_0
  try clear hcz10_1
  try clear hcz10_2
  try clear hcz10_3
  try clear hcz12_0
  try clear hcz12_1
  try clear hcz12_2
  try clear hcz12_3
  try clear hcz18_0
  try clear hcz18_1
  try clear hcz18_2
  try clear hcz18_3
  try clear hcz19_0
  try clear hcz19_1
  try clear hcz19_2
  try clear hcz19_3
  try clear hcz22_0
  try clear hcz22_1
  try clear hcz22_2
  try clear hcz22_3
  try clear hcz23_0
  try clear hcz23_1
  try clear hcz23_2
  try clear hcz23_3
  try clear hfz10_0
  try clear hfz10_1
  try clear hfz10_2
  try clear hfz10_3
  try clear hfz12_0
  try clear hfz12_1
  try clear hfz12_2
  try clear hfz12_3
  try clear hfz18_0
  try clear hfz18_1
  try clear hfz18_2
  try clear hfz18_3
  try clear hfz19_0
  try clear hfz19_1
  try clear hfz19_2
  try clear hfz19_3
  try clear hfz22_0
  try clear hfz22_1
  try clear hfz22_2
  try clear hfz22_3
  try clear hfz23_0
  try clear hfz23_1
  try clear hfz23_2
  try clear hfz23_3
  obtain ⟨kq, x27_4, rfl, HA, HJ4, HO_114003, HO_115003, BK113, BK114, HB⟩ := hcut
  cases kq with
  | zero => exact absurd HA.out (by simp [laws_FnCountImage.j0])
  | succ kj4 =>
   have H := HA.out
   clear HA
   simp only [laws_FnCountImage.j0] at H
   by_cases c25 : x27_4 = true
   ·
    subst c25
    have H1 : ((spec_CountImage.f kj4 t101 t102 t103 t104 t107 t108 t109 t110).bind fun t117 => (some (t115 == t117))) = some r := by rw [if_pos rfl] at H; exact H
    clear H
    have H := H1
    clear H1
    replace H := Option.bind_eq_some_iff.mp H
    obtain ⟨t117, A260, H⟩ := H
    replace H : (some (t115 == t117)) = some r := H
    have A26 := Aside0.mk A260
    clear A260
    obtain rfl := Option.some.inj H
    have hnb27 := NB113_114.out
    have hnc27 := NB114_113.out
    obtain ⟨hcz28_0, hcz28_1, hcz28_2, hcz28_3, hfz28_0, hfz28_1, hfz28_2, hfz28_3⟩ := blk4_ BK113.out
    obtain ⟨hcz29_0, hcz29_1, hcz29_2, hcz29_3, hfz29_0, hfz29_1, hfz29_2, hfz29_3⟩ := blk4_ BK114.out
    go_wp2_with (first | ((with_reducible refine gate_callee (f := 39) rfl ?_); refine goesL_ (some 31) rfl rfl Try.func39 (by kernel_rfl) rfl #[.agg #[.int .i64 t101, .int .i64 t102, .int .i64 t103, .slice Ao11 t104.length co11], .agg #[.int .i64 t107, .int .i64 t108, .int .i64 t109, .slice Ao13 t110.length co13]] rfl (by simp only [List.map_toArray, List.map_cons, List.map_nil]; rfl) ?_; (with_reducible refine (spec_CountImage.calls kj4 t101 t102 t103 _ _ t104 t107 t108 t109 _ _ t110 t117 _ ?side1 ?side2 ?side3 ?side4 A26.out).mono ?_); (case side1 => repeat (first | exact (Kd.Q_reads' HO_114003.out).2.2 | (with_reducible refine Kd.C_alloc ?_ _) | (with_reducible refine Kd.C_drewN ?_ _) | (with_reducible refine Kd.C_drew ?_))); (case side2 => exact (Kd.Q_reads' HO_114003.out).2.1); (case side3 => repeat (first | exact (Kd.Q_reads' HO_115003.out).2.2 | (with_reducible refine Kd.C_alloc ?_ _) | (with_reducible refine Kd.C_drewN ?_ _) | (with_reducible refine Kd.C_drew ?_))); (case side4 => exact (Kd.Q_reads' HO_115003.out).2.1); rintro e w30 ⟨rfl, hb⟩; refine ⟨_, rfl, ?_⟩; replace HO_114003 := am_ (Kd.Q_below (by exact HO_114003.out) hb); replace HO_115003 := am_ (Kd.Q_below (by exact HO_115003.out) hb); replace BK113 := am_ (blk_below (by exact BK113.out) hb); replace BK114 := am_ (blk_below (by exact BK114.out) hb); replace HB := am_ (below_step (by repeat (first | (with_reducible first | exact HB.out | apply below_alloc | apply pw_below_drewN | apply below_drew1 | refine below_set ?_ GE113.out | refine below_set ?_ GE114.out) | exact HB.out)) hb); (try clear hb); (try clear hb2); (try clear hk); (try clear hi)))
    go_ret
    exact ⟨by first | rfl | (simp [errW_none, errW_some] <;> rfl) | (simp [*, errW_none, errW_some] <;> rfl), by repeat (first | (with_reducible first | exact HB.out | apply below_alloc | apply pw_below_drewN | apply below_drew1 | refine below_set ?_ GE113.out | refine below_set ?_ GE114.out) | exact HB.out)⟩
   replace c25 := Bool.eq_false_iff.mpr c25
   subst c25
   have H1 : ((impl_FindImage.f t101 t102 t103 t104 t107 t108 t109 t110).bind fun bt118 => (if ((t115 == 0) == (decide (bt118.2.2.2.2 > 0))) = true then ((impl_CountImage.f t101 t102 t103 t104 t101 t102 t103 t104).bind fun t124 => (some (t124 == 1))) else (some false))) = some r := by rw [if_neg (show ¬ (false = true) by decide)] at H; exact H
   clear H
   have H := H1
   clear H1
   replace H := Option.bind_eq_some_iff.mp H
   obtain ⟨⟨t118, t119, t120, t121, t122⟩, A310, H⟩ := H
   replace H : (if ((t115 == 0) == (decide (t122 > 0))) = true then ((impl_CountImage.f t101 t102 t103 t104 t101 t102 t103 t104).bind fun t124 => (some (t124 == 1))) else (some false)) = some r := H
   have A31 := Aside0.mk A310
   clear A310
   by_cases c32 : ((t115 == 0) == (decide (t122 > 0))) = true
   ·
    rw [if_pos c32] at H
    have c32b0 : ((t115 == 0) == (decide (t122 > 0))) = true := c32
    (try (have c32b1 : decide ((t115 == 0) = (decide (t122 > 0))) = true := by simpa using c32))
    (try (have c32b2 : ((t115 == 0) == (decide (t122 > 0))) = true := by simpa using c32))
    clear c32
    replace H := Option.bind_eq_some_iff.mp H
    obtain ⟨t124, A330, H⟩ := H
    replace H : (some (t124 == 1)) = some r := H
    have A33 := Aside0.mk A330
    clear A330
    obtain rfl := Option.some.inj H
    have hnb34 := NB113_114.out
    have hnc34 := NB114_113.out
    obtain ⟨hcz35_0, hcz35_1, hcz35_2, hcz35_3, hfz35_0, hfz35_1, hfz35_2, hfz35_3⟩ := blk4_ BK113.out
    obtain ⟨hcz36_0, hcz36_1, hcz36_2, hcz36_3, hfz36_0, hfz36_1, hfz36_2, hfz36_3⟩ := blk4_ BK114.out
    go_wp2_with (first | ((with_reducible refine gate_callee (f := 35) rfl ?_); refine goesL_ (some 36) rfl rfl Try.func35 (by kernel_rfl) rfl #[.agg #[.int .i64 t101, .int .i64 t102, .int .i64 t103, .slice Ao11 t104.length co11], .agg #[.int .i64 t107, .int .i64 t108, .int .i64 t109, .slice Ao13 t110.length co13]] rfl (by simp only [List.map_toArray, List.map_cons, List.map_nil]; rfl) ?_; (with_reducible refine (impl_FindImage.calls t101 t102 t103 _ _ t104 t107 t108 t109 _ _ t110 t118 t119 t120 t121 t122 _ ?side1 ?side2 ?side3 ?side4 A31.out).mono ?_); (case side1 => repeat (first | exact (Kd.Q_reads' HO_114003.out).2.2 | (with_reducible refine Kd.C_alloc ?_ _) | (with_reducible refine Kd.C_drewN ?_ _) | (with_reducible refine Kd.C_drew ?_))); (case side2 => exact (Kd.Q_reads' HO_114003.out).2.1); (case side3 => repeat (first | exact (Kd.Q_reads' HO_115003.out).2.2 | (with_reducible refine Kd.C_alloc ?_ _) | (with_reducible refine Kd.C_drewN ?_ _) | (with_reducible refine Kd.C_drew ?_))); (case side4 => exact (Kd.Q_reads' HO_115003.out).2.1); rintro e w37 ⟨rfl, hb⟩; refine ⟨_, rfl, ?_⟩; replace HO_114003 := am_ (Kd.Q_below (by exact HO_114003.out) hb); replace HO_115003 := am_ (Kd.Q_below (by exact HO_115003.out) hb); replace BK113 := am_ (blk_below (by exact BK113.out) hb); replace BK114 := am_ (blk_below (by exact BK114.out) hb); replace HB := am_ (below_step (by repeat (first | (with_reducible first | exact HB.out | apply below_alloc | apply pw_below_drewN | apply below_drew1 | refine below_set ?_ GE113.out | refine below_set ?_ GE114.out) | exact HB.out)) hb); (try clear hb); (try clear hb2); (try clear hk); (try clear hi)) | ((with_reducible refine gate_dst (N := 6) rfl ?_); refine box_event ?hg (N := 6) ?hd (cs := #[.int .i64 0, .int .i64 0, .int .i64 0, .int .i64 0]) (t := 40) ?hr ?_; (case hd => rfl); (case hg => rfl); (case hr => first | (go_simp; done) | (go_simp; rfl)); intro gb123 hg w38 hbox hb; replace HO_114003 := am_ (Kd.Q_below (by exact HO_114003.out) hb); replace HO_115003 := am_ (Kd.Q_below (by exact HO_115003.out) hb); have BK123 := am_ (hbox); have GW123 := am_ ((by rw [hg]; exact (below_size (by repeat (first | (with_reducible first | exact HB.out | apply below_alloc | apply pw_below_drewN | apply below_drew1 | refine below_set ?_ GE113.out | refine below_set ?_ GE114.out) | exact HB.out))) : w.heap.size ≤ gb123)); have GE123 := GW123; replace HB := am_ (below_step (by repeat (first | (with_reducible first | exact HB.out | apply below_alloc | apply pw_below_drewN | apply below_drew1 | refine below_set ?_ GE113.out | refine below_set ?_ GE114.out) | exact HB.out)) hb); have NB113_123 := am_ ((by rw [hg]; exact Nat.ne_of_lt (blk_lt (by exact BK113.out)) : gb113 ≠ gb123)); have NB123_113 := am_ ((by rw [hg]; exact Nat.ne_of_gt (blk_lt (by exact BK113.out)) : gb123 ≠ gb113)); replace BK113 := am_ (blk_below (by exact BK113.out) hb); have NB114_123 := am_ ((by rw [hg]; exact Nat.ne_of_lt (blk_lt (by exact BK114.out)) : gb114 ≠ gb123)); have NB123_114 := am_ ((by rw [hg]; exact Nat.ne_of_gt (blk_lt (by exact BK114.out)) : gb123 ≠ gb114)); replace BK114 := am_ (blk_below (by exact BK114.out) hb); clear hb hbox hg; have hnb39 := NB123_113.out; have hnc39 := NB113_123.out; have hnb40 := NB123_114.out; have hnc40 := NB114_123.out; obtain ⟨hcz41_0, hcz41_1, hcz41_2, hcz41_3, hfz41_0, hfz41_1, hfz41_2, hfz41_3⟩ := blk4_ BK123.out; obtain ⟨hcz42_0, hcz42_1, hcz42_2, hcz42_3, hfz42_0, hfz42_1, hfz42_2, hfz42_3⟩ := blk4_ BK113.out) | (go_at_call 24; (with_reducible refine (impl_CountImage.calls t101 t102 t103 _ _ t104 t101 t102 t103 _ _ t104 t124 _ ?side1 ?side2 ?side3 ?side4 A33.out).mono ?_); (case side1 => refine (Kd.Q_reads' (e := 3) (base := w.heap.size) (ok := fun k_ => some k_ ≠ (.slice Ao13 t110.length co13 : Value).ownBlock) (n := t104.length) (c := co11) ?_).2.2; exact (by exact (Q4_ HO_114003.out BK123.out (by decide) _ _ _ _))); (case side2 => exact (Kd.Q_reads' HO_114003.out).2.1); (case side3 => refine (Kd.Q_reads' (e := 3) (base := w.heap.size) (ok := fun k_ => some k_ ≠ (.slice Ao13 t110.length co13 : Value).ownBlock) (n := t104.length) (c := co11) ?_).2.2; exact (by exact (Q4_ HO_114003.out BK123.out (by decide) _ _ _ _))); (case side4 => exact (Kd.Q_reads' HO_114003.out).2.1); rintro e w43 ⟨rfl, hb⟩; replace HO_114003 := am_ (Kd.Q_below (by exact (Q4_ HO_114003.out BK123.out (by decide) _ _ _ _)) hb); replace HO_115003 := am_ (Kd.Q_below (by exact (Q4_ HO_115003.out BK123.out (by decide) _ _ _ _)) hb); replace BK113 := am_ (blk_below (by exact far4_ BK113.out NB113_123.out _ _ _ _) hb); replace BK114 := am_ (blk_below (by exact far4_ BK114.out NB114_123.out _ _ _ _) hb); replace BK123 := am_ (blk_below (by exact put4_ BK123.out _ _ _ _) hb); replace HB := am_ (below_step (by repeat (first | (with_reducible first | exact HB.out | apply below_alloc | apply pw_below_drewN | apply below_drew1 | refine below_set ?_ GE113.out | refine below_set ?_ GE114.out | refine below_set ?_ GE123.out) | exact HB.out)) hb); (try clear hb); (try clear hb2); (try clear hk); (try clear hi)))
    go_ret
    exact ⟨by first | rfl | (simp [errW_none, errW_some] <;> rfl) | (simp [*, errW_none, errW_some] <;> rfl), by repeat (first | (with_reducible first | exact HB.out | apply below_alloc | apply pw_below_drewN | apply below_drew1 | refine below_set ?_ GE113.out | refine below_set ?_ GE114.out | refine below_set ?_ GE123.out) | exact HB.out)⟩
   rw [if_neg c32] at H
   have c32b0 : ((t115 == 0) == (decide (t122 > 0))) = false := by simpa using c32
   (try (have c32b1 : decide ((t115 == 0) = (decide (t122 > 0))) = false := by simpa using c32))
   (try (have c32b2 : ((t115 == 0) == (decide (t122 > 0))) = false := by simpa using c32))
   (try (have c32b3 : ¬ ((t115 == 0) = (decide (t122 > 0))) := by simpa using c32))
   clear c32
   obtain rfl := Option.some.inj H
   have hnb44 := NB113_114.out
   have hnc44 := NB114_113.out
   obtain ⟨hcz45_0, hcz45_1, hcz45_2, hcz45_3, hfz45_0, hfz45_1, hfz45_2, hfz45_3⟩ := blk4_ BK113.out
   obtain ⟨hcz46_0, hcz46_1, hcz46_2, hcz46_3, hfz46_0, hfz46_1, hfz46_2, hfz46_3⟩ := blk4_ BK114.out
   go_wp2_with (first | ((with_reducible refine gate_callee (f := 35) rfl ?_); refine goesL_ (some 36) rfl rfl Try.func35 (by kernel_rfl) rfl #[.agg #[.int .i64 t101, .int .i64 t102, .int .i64 t103, .slice Ao11 t104.length co11], .agg #[.int .i64 t107, .int .i64 t108, .int .i64 t109, .slice Ao13 t110.length co13]] rfl (by simp only [List.map_toArray, List.map_cons, List.map_nil]; rfl) ?_; (with_reducible refine (impl_FindImage.calls t101 t102 t103 _ _ t104 t107 t108 t109 _ _ t110 t118 t119 t120 t121 t122 _ ?side1 ?side2 ?side3 ?side4 A31.out).mono ?_); (case side1 => repeat (first | exact (Kd.Q_reads' HO_114003.out).2.2 | (with_reducible refine Kd.C_alloc ?_ _) | (with_reducible refine Kd.C_drewN ?_ _) | (with_reducible refine Kd.C_drew ?_))); (case side2 => exact (Kd.Q_reads' HO_114003.out).2.1); (case side3 => repeat (first | exact (Kd.Q_reads' HO_115003.out).2.2 | (with_reducible refine Kd.C_alloc ?_ _) | (with_reducible refine Kd.C_drewN ?_ _) | (with_reducible refine Kd.C_drew ?_))); (case side4 => exact (Kd.Q_reads' HO_115003.out).2.1); rintro e w47 ⟨rfl, hb⟩; refine ⟨_, rfl, ?_⟩; replace HO_114003 := am_ (Kd.Q_below (by exact HO_114003.out) hb); replace HO_115003 := am_ (Kd.Q_below (by exact HO_115003.out) hb); replace BK113 := am_ (blk_below (by exact BK113.out) hb); replace BK114 := am_ (blk_below (by exact BK114.out) hb); replace HB := am_ (below_step (by repeat (first | (with_reducible first | exact HB.out | apply below_alloc | apply pw_below_drewN | apply below_drew1 | refine below_set ?_ GE113.out | refine below_set ?_ GE114.out) | exact HB.out)) hb); (try clear hb); (try clear hb2); (try clear hk); (try clear hi)) | ((with_reducible refine gate_dst (N := 6) rfl ?_); refine box_event ?hg (N := 6) ?hd (cs := #[.int .i64 0, .int .i64 0, .int .i64 0, .int .i64 0]) (t := 40) ?hr ?_; (case hd => rfl); (case hg => rfl); (case hr => first | (go_simp; done) | (go_simp; rfl)); intro gb123 hg w48 hbox hb; replace HO_114003 := am_ (Kd.Q_below (by exact HO_114003.out) hb); replace HO_115003 := am_ (Kd.Q_below (by exact HO_115003.out) hb); have BK123 := am_ (hbox); have GW123 := am_ ((by rw [hg]; exact (below_size (by repeat (first | (with_reducible first | exact HB.out | apply below_alloc | apply pw_below_drewN | apply below_drew1 | refine below_set ?_ GE113.out | refine below_set ?_ GE114.out) | exact HB.out))) : w.heap.size ≤ gb123)); have GE123 := GW123; replace HB := am_ (below_step (by repeat (first | (with_reducible first | exact HB.out | apply below_alloc | apply pw_below_drewN | apply below_drew1 | refine below_set ?_ GE113.out | refine below_set ?_ GE114.out) | exact HB.out)) hb); have NB113_123 := am_ ((by rw [hg]; exact Nat.ne_of_lt (blk_lt (by exact BK113.out)) : gb113 ≠ gb123)); have NB123_113 := am_ ((by rw [hg]; exact Nat.ne_of_gt (blk_lt (by exact BK113.out)) : gb123 ≠ gb113)); replace BK113 := am_ (blk_below (by exact BK113.out) hb); have NB114_123 := am_ ((by rw [hg]; exact Nat.ne_of_lt (blk_lt (by exact BK114.out)) : gb114 ≠ gb123)); have NB123_114 := am_ ((by rw [hg]; exact Nat.ne_of_gt (blk_lt (by exact BK114.out)) : gb123 ≠ gb114)); replace BK114 := am_ (blk_below (by exact BK114.out) hb); clear hb hbox hg; have hnb49 := NB123_113.out; have hnc49 := NB113_123.out; have hnb50 := NB123_114.out; have hnc50 := NB114_123.out; obtain ⟨hcz51_0, hcz51_1, hcz51_2, hcz51_3, hfz51_0, hfz51_1, hfz51_2, hfz51_3⟩ := blk4_ BK123.out))
   go_ret
   exact ⟨by first | rfl | (simp [errW_none, errW_some] <;> rfl) | (simp [*, errW_none, errW_some] <;> rfl), by repeat (first | (with_reducible first | exact HB.out | apply below_alloc | apply pw_below_drewN | apply below_drew1 | refine below_set ?_ GE113.out | refine below_set ?_ GE114.out | refine below_set ?_ GE123.out) | exact HB.out)⟩

/-- THE ONE PURE STATEMENT of laws_FnCountImage: yours. -/
def laws_FnCountImage.Pure : Prop := ∀ (l0 : List Int), l0.length ≤ maxLen → l0.length * 1 ≤ 140737488351232 → (∀ x ∈ l0, (Lit.int .u8 x).wf = true) → ∃ k, laws_FnCountImage.f k l0 = some true
theorem laws_FnCountImage.walk (P : laws_FnCountImage.Pure) (a0 : Option Addr) (len0 cap0 : Nat) (z0 : List Int) (w : World) (w0 : (a0 = none ∧ len0 = 0 ∧ cap0 = 0 ∧ z0 = []) ∨ ∃ x, a0 = some x ∧ len0 ≤ cap0 ∧ cap0 ≤ maxLen ∧ z0.length = cap0 ∧ (∀ i, i < z0.length → w.cell? (x.add i) = some (.int .u8 (z0.getD i 0))) ∧ ∀ n ∈ z0, (Lit.int .u8 n).wf = true) (y0 : len0 * 1 ≤ 140737488351232) :
  Calls Try.prog 13 #[.slice a0 len0 cap0] w fun e w' => e = .returned (.bool true) ∧ Below w.heap.size w w' := by
 obtain ⟨l0, rfl, hr0, hm0, hw0, hc0⟩ := ReadsInt.ofRowC w0
 obtain ⟨k, h⟩ := P l0 hm0 y0 hw0
 refine (laws_FnCountImage.calls k _ _ l0 true w (Kd.C_of_reads (d := (0 : Int)) (h1 := fun _ => rfl) hr0) hc0 h).mono ?_
 rintro e w' ⟨rfl, hd⟩
 exact ⟨rfl, hd⟩

end Go.Proofs.Ytmaiifghplcjeaa.Print
