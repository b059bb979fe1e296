-- laid by hp.py (a program of this work over the kit's print), with contracts by hand for what the print does not take
import Derived.Test.YtfljcejkgdkkeaaPrint0
import Derived.Test.YtfljcejkgdkkeaaPrintHimplEqualizeImage
import Derived.Test.YtfljcejkgdkkeaaPrintHx0
import Derived.Test.YtfljcejkgdkkeaaPrintR1x1
import Derived.Test.YtfljcejkgdkkeaaPrintR1x2
import Derived.Test.YtfljcejkgdkkeaaPrintR1x4
namespace Go.Proofs.Ytfljcejkgdkkeaa.Print
open Go.RowKit Go.Proofs.YtfljcejkgdkkeaaW.PrintWords Go.Proofs.YtfljcejkgdkkeaaW.PrintLast Go.Proofs.YtfljcejkgdkkeaaW.PrintMore
attribute [local go_sem] max2_int min2_int max_two min_two max_three min_three max_four min_four   -- for this text's walks alone
set_option linter.unusedVariables false
set_option linter.unusedSimpArgs false

/-! ### laws_FnEqualizeImage: function 3 -/
mutual
def laws_FnEqualizeImage.j0 : Nat → Bool → Int → Int → Int → List Int → Int → Int → Int → List Int → Option (Bool)
 | 0, _, _, _, _, _, _, _, _, _ => none
 | k + 1, x25, x108000, x108001, x108002, x108003, x115000, x115001, x115002, x115003 => if x25 = true then ((spec_EqualizeImage.f k x108000 x108001 x108002 x108003).bind fun bt122 => ((laws_equalImage.f k x115000 x115001 x115002 x115003 bt122.1 bt122.2.1 bt122.2.2.1 bt122.2.2.2).bind fun t128 => (some t128))) else (laws_FnEqualizeImage.l0 k 255 0 true 0 x108000 x108001 x108002 x108003 x115000 x115001 x115002 x115003)
def laws_FnEqualizeImage.l0 : Nat → Int → Int → Bool → Int → Int → Int → Int → List Int → Int → Int → Int → List Int → Option (Bool)
 | 0, _, _, _, _, _, _, _, _, _, _, _, _ => none
 | k + 1, x5, x6, x7, x8, x108000, x108001, x108002, x108003, x115000, x115001, x115002, x115003 => if x8 < (x108003.length : Int) then (if 0 ≤ x8 then (if x8 < (x115003.length : Int) then (if 0 < (x108003.length : Int) then (if 0 < (x115003.length : Int) then (if eqBad (rd x108003 x8) (rd x108003 0) (rd x115003 x8) (rd x115003 0) = true then (some false) else (laws_FnEqualizeImage.l0 k (mn x5 (rd x115003 x8)) (mx x6 (rd x115003 x8)) (x7 && ((rd x108003 x8) == (rd x108003 0))) (wrap64 (x8 + 1)) x108000 x108001 x108002 x108003 x115000 x115001 x115002 x115003)) else (none)) else (none)) else (none)) else (none)) else (if x7 = true then ((laws_equalImage.f k x115000 x115001 x115002 x115003 x108000 x108001 x108002 x108003).bind fun t189 => (if t189 = true then (some true) else (some false))) else (if x5 = 0 then (some (x6 == 255)) else (some false)))
end
def laws_FnEqualizeImage.f (k : Nat) (l0 : List Int) : Option (Bool) := if (l0.length : Int) > 1048576 then (some true) else ((spec_DrawEqualizeImage.f k l0).bind fun bt101 => ((impl_EqualizeImage.f k bt101.1 bt101.2.1 bt101.2.2.1 bt101.2.2.2).bind fun bt108 => ((spec_EqualizeImage.f k bt101.1 bt101.2.1 bt101.2.2.1 bt101.2.2.2).bind fun bt115 => ((laws_equalImage.f k bt108.1 bt108.2.1 bt108.2.2.1 bt108.2.2.2 bt115.1 bt115.2.1 bt115.2.2.1 bt115.2.2.2).bind fun t121 => (if t121 = true then (laws_FnEqualizeImage.j0 k (bt108.1 == 0) bt101.1 bt101.2.1 bt101.2.2.1 bt101.2.2.2 bt108.1 bt108.2.1 bt108.2.2.1 bt108.2.2.2) else (laws_FnEqualizeImage.j0 k true bt101.1 bt101.2.1 bt101.2.2.1 bt101.2.2.2 bt108.1 bt108.2.1 bt108.2.2.1 bt108.2.2.2))))))
theorem laws_FnEqualizeImage.mono_l : ∀ k, (∀ y0 y1 y2 y3 y4 y5 y6 y7 y8, LeO (laws_FnEqualizeImage.j0 k y0 y1 y2 y3 y4 y5 y6 y7 y8) (laws_FnEqualizeImage.j0 (k + 1) y0 y1 y2 y3 y4 y5 y6 y7 y8)) ∧ (∀ y0 y1 y2 y3 y4 y5 y6 y7 y8 y9 y10 y11, LeO (laws_FnEqualizeImage.l0 k y0 y1 y2 y3 y4 y5 y6 y7 y8 y9 y10 y11) (laws_FnEqualizeImage.l0 (k + 1) y0 y1 y2 y3 y4 y5 y6 y7 y8 y9 y10 y11))
 | 0 => ⟨fun _ _ _ _ _ _ _ _ _ r h => by simp [laws_FnEqualizeImage.j0] at h, fun _ _ _ _ _ _ _ _ _ _ _ _ r h => by simp [laws_FnEqualizeImage.l0] at h⟩
 | k + 1 => by
  obtain ⟨ih0, ih1⟩ := laws_FnEqualizeImage.mono_l k
  refine ⟨?_, ?_⟩
  ·
   intro y0 y1 y2 y3 y4 y5 y6 y7 y8
   unfold laws_FnEqualizeImage.j0
   repeat' first
   | (with_reducible exact ih0 _ _ _ _ _ _ _ _ _)
   | (with_reducible exact ih1 _ _ _ _ _ _ _ _ _ _ _ _)
   | (with_reducible exact impl_EqualizeImage.mono _ _ _ _ _)
   | (with_reducible exact laws_equalImage.mono _ _ _ _ _ _ _ _ _)
   | (with_reducible exact spec_DrawEqualizeImage.mono _ _)
   | (with_reducible exact spec_EqualizeImage.mono _ _ _ _ _)
   | (with_reducible exact LeO.refl _)
   | (with_reducible exact LeO.none _)
   | (with_reducible refine LeO.ite ?_ ?_)
   | (with_reducible refine LeO.bind ?_ (fun _ => ?_))
   | exact ih0 _ _ _ _ _ _ _ _ _
   | exact ih1 _ _ _ _ _ _ _ _ _ _ _ _
   | exact impl_EqualizeImage.mono _ _ _ _ _
   | exact laws_equalImage.mono _ _ _ _ _ _ _ _ _
   | exact spec_DrawEqualizeImage.mono _ _
   | exact spec_EqualizeImage.mono _ _ _ _ _
   | exact LeO.none _
   | refine LeO.ite ?_ ?_
   | refine LeO.bind ?_ (fun _ => ?_)
  intro y0 y1 y2 y3 y4 y5 y6 y7 y8 y9 y10 y11
  unfold laws_FnEqualizeImage.l0
  repeat' first
  | (with_reducible exact ih0 _ _ _ _ _ _ _ _ _)
  | (with_reducible exact ih1 _ _ _ _ _ _ _ _ _ _ _ _)
  | (with_reducible exact impl_EqualizeImage.mono _ _ _ _ _)
  | (with_reducible exact laws_equalImage.mono _ _ _ _ _ _ _ _ _)
  | (with_reducible exact spec_DrawEqualizeImage.mono _ _)
  | (with_reducible exact spec_EqualizeImage.mono _ _ _ _ _)
  | (with_reducible exact LeO.refl _)
  | (with_reducible exact LeO.none _)
  | (with_reducible refine LeO.ite ?_ ?_)
  | (with_reducible refine LeO.bind ?_ (fun _ => ?_))
  | exact ih0 _ _ _ _ _ _ _ _ _
  | exact ih1 _ _ _ _ _ _ _ _ _ _ _ _
  | exact impl_EqualizeImage.mono _ _ _ _ _
  | exact laws_equalImage.mono _ _ _ _ _ _ _ _ _
  | exact spec_DrawEqualizeImage.mono _ _
  | exact spec_EqualizeImage.mono _ _ _ _ _
  | exact LeO.none _
  | refine LeO.ite ?_ ?_
  | refine LeO.bind ?_ (fun _ => ?_)
theorem laws_FnEqualizeImage.mono : ∀ a0 k, LeO (laws_FnEqualizeImage.f k a0) (laws_FnEqualizeImage.f (k + 1) a0) := by
 intro a0 k
 obtain ⟨ih0, ih1⟩ := laws_FnEqualizeImage.mono_l k
 unfold laws_FnEqualizeImage.f
 repeat' first
   | (with_reducible exact ih0 _ _ _ _ _ _ _ _ _)
   | (with_reducible exact ih1 _ _ _ _ _ _ _ _ _ _ _ _)
   | (with_reducible exact impl_EqualizeImage.mono _ _ _ _ _)
   | (with_reducible exact laws_equalImage.mono _ _ _ _ _ _ _ _ _)
   | (with_reducible exact spec_DrawEqualizeImage.mono _ _)
   | (with_reducible exact spec_EqualizeImage.mono _ _ _ _ _)
   | (with_reducible exact LeO.refl _)
   | (with_reducible exact LeO.none _)
   | (with_reducible refine LeO.ite ?_ ?_)
   | (with_reducible refine LeO.bind ?_ (fun _ => ?_))
   | exact ih0 _ _ _ _ _ _ _ _ _
   | exact ih1 _ _ _ _ _ _ _ _ _ _ _ _
   | exact impl_EqualizeImage.mono _ _ _ _ _
   | exact laws_equalImage.mono _ _ _ _ _ _ _ _ _
   | exact spec_DrawEqualizeImage.mono _ _
   | exact spec_EqualizeImage.mono _ _ _ _ _
   | exact LeO.none _
   | refine LeO.ite ?_ ?_
   | refine LeO.bind ?_ (fun _ => ?_)
def laws_FnEqualizeImage.T5 : Bool × List (List Nat × List Nat) := (true, [([], []), ([], []), ([1], [1]), ([0, 2, 2], [0, 2]), ([3], [3]), ([4, 3], [4]), ([5], [5]), ([6, 5], [5, 6]), ([7, 5], [5, 7]), ([5, 8], [5, 8])])
def laws_FnEqualizeImage.B5 : List Nat := [0, 0, 2, 7, 15, 31, 63, 127, 255, 511]
theorem laws_FnEqualizeImage.tab5 : rtab .any (opsOf Try.f3 5) = laws_FnEqualizeImage.T5 := by kernel_rfl
theorem laws_FnEqualizeImage.bits5 : waitsOk laws_FnEqualizeImage.T5.2 laws_FnEqualizeImage.B5 = true := by kernel_rfl
set_option maxHeartbeats 8000000 in
set_option maxRecDepth 100000 in
theorem laws_FnEqualizeImage.calls (k : Nat) (A0 : Option Addr) (c0 : Nat) (l0 : List Int) (r : Bool) (w : World) (hr0 : Kd.C (Kd.int .u8) w A0 l0.length l0) (hc0 : l0.length ≤ c0) (h : laws_FnEqualizeImage.f k l0 = some r) :
  Calls Try.prog 3 #[.slice A0 l0.length c0] w fun e w' => e = .returned (.bool r) ∧ Below w.heap.size w w' := by
 have hu25 := Try.underlying25
 have HR0 := Aside0.mk hr0
 have HC0 := Aside0.mk hc0
 clear hr0 hc0
 have HB := Aside0.mk (Below.refl w.heap.size w)
 have H : (if (l0.length : Int) > 1048576 then (some true) else ((spec_DrawEqualizeImage.f k l0).bind fun bt101 => ((impl_EqualizeImage.f k bt101.1 bt101.2.1 bt101.2.2.1 bt101.2.2.2).bind fun bt108 => ((spec_EqualizeImage.f k bt101.1 bt101.2.1 bt101.2.2.1 bt101.2.2.2).bind fun bt115 => ((laws_equalImage.f k bt108.1 bt108.2.1 bt108.2.2.1 bt108.2.2.2 bt115.1 bt115.2.1 bt115.2.2.1 bt115.2.2.2).bind fun t121 => (if t121 = true then (laws_FnEqualizeImage.j0 k (bt108.1 == 0) bt101.1 bt101.2.1 bt101.2.2.1 bt101.2.2.2 bt108.1 bt108.2.1 bt108.2.2.1 bt108.2.2.2) else (laws_FnEqualizeImage.j0 k true bt101.1 bt101.2.1 bt101.2.2.1 bt101.2.2.2 bt108.1 bt108.2.1 bt108.2.2.1 bt108.2.2.2))))))) = some r := h
 clear h
 by_cases c2 : (l0.length : Int) > 1048576
 ·
  rw [if_pos c2] at H
  have c2b0 : decide (1048576 < (l0.length : Int)) = true := decide_eq_true c2
  have c2b1 : decide (1048576 < l0.length) = true := decide_eq_true (by omega)
  clear c2
  obtain rfl := Option.some.inj H
  go_enter Try.func3, Try.ntmps3
  go_wp2
  go_ret
  exact ⟨by first | rfl | (simp [errW_none, errW_some] <;> rfl) | (simp [*, errW_none, errW_some] <;> rfl), by repeat (first | (with_reducible first | exact HB.out | apply below_alloc | apply pw_below_drewN | apply below_drew1) | exact HB.out)⟩
 rw [if_neg c2] at H
 have c2b0 : decide (1048576 < (l0.length : Int)) = false := decide_eq_false c2
 have c2b1 : decide (1048576 < l0.length) = false := decide_eq_false (by omega)
 clear c2
 replace H := Option.bind_eq_some_iff.mp H
 obtain ⟨⟨t101, t102, t103, t104⟩, A30, H⟩ := H
 replace H : ((impl_EqualizeImage.f k t101 t102 t103 t104).bind fun bt108 => ((spec_EqualizeImage.f k t101 t102 t103 t104).bind fun bt115 => ((laws_equalImage.f k bt108.1 bt108.2.1 bt108.2.2.1 bt108.2.2.2 bt115.1 bt115.2.1 bt115.2.2.1 bt115.2.2.2).bind fun t121 => (if t121 = true then (laws_FnEqualizeImage.j0 k (bt108.1 == 0) t101 t102 t103 t104 bt108.1 bt108.2.1 bt108.2.2.1 bt108.2.2.2) else (laws_FnEqualizeImage.j0 k true t101 t102 t103 t104 bt108.1 bt108.2.1 bt108.2.2.1 bt108.2.2.2))))) = some r := H
 have A3 := Aside0.mk A30
 clear A30
 replace H := Option.bind_eq_some_iff.mp H
 obtain ⟨⟨t108, t109, t110, t111⟩, A40, H⟩ := H
 replace H : ((spec_EqualizeImage.f k t101 t102 t103 t104).bind fun bt115 => ((laws_equalImage.f k t108 t109 t110 t111 bt115.1 bt115.2.1 bt115.2.2.1 bt115.2.2.2).bind fun t121 => (if t121 = true then (laws_FnEqualizeImage.j0 k (t108 == 0) t101 t102 t103 t104 t108 t109 t110 t111) else (laws_FnEqualizeImage.j0 k true t101 t102 t103 t104 t108 t109 t110 t111)))) = some r := H
 have A4 := Aside0.mk A40
 clear A40
 have HC5 := Aside0.mk H
 clear H
 go_enter Try.func3, Try.ntmps3
 go_upto_region 5 with (first | ((with_reducible refine gate_callee (f := 4) rfl ?_); refine goesL_ (some 13) rfl rfl Try.func4 (by kernel_rfl) rfl #[.slice A0 l0.length c0] rfl (by simp only [List.map_toArray, List.map_cons, List.map_nil]; rfl) ?_; (with_reducible refine (spec_DrawEqualizeImage.calls k _ _ l0 t101 t102 t103 t104 _ ?side1 ?side2 A3.out).mono ?_); (case side1 => repeat (first | exact HR0.out | (with_reducible refine Kd.C_alloc ?_ _) | (with_reducible refine Kd.C_drewN ?_ _) | (with_reducible refine Kd.C_drew ?_))); (case side2 => exact HC0.out); rintro e w6 ⟨v105, rfl, ho0, hb⟩; refine ⟨_, rfl, ?_⟩; have HO106 := am_ (Kd.Q_lower ho0 (below_size (by repeat (first | (with_reducible first | exact HB.out | apply below_alloc | apply pw_below_drewN | apply below_drew1) | exact HB.out)))); replace HB := am_ (below_step (by repeat (first | (with_reducible first | exact HB.out | apply below_alloc | apply pw_below_drewN | apply below_drew1) | exact HB.out)) hb); (try clear hb); (try clear hb2); (try clear hk); (try clear hi); (try clear ho0)) | ((with_reducible refine gate_dst (N := 3) rfl ?_); refine box_event ?hg (N := 3) ?hd (cs := #[.int .i64 0, .int .i64 0, .int .i64 0, .slice none 0 0]) (t := 25) ?hr ?_; (case hd => rfl); (case hg => rfl); (case hr => first | (go_simp; done) | (go_simp; rfl)); intro gb107 hg w7 hbox hb; replace HO106 := am_ (Kd.Q_below (by exact HO106.out) hb); have BK107 := am_ (hbox); have GW107 := am_ ((by rw [hg]; exact (below_size (by repeat (first | (with_reducible first | exact HB.out | apply below_alloc | apply pw_below_drewN | apply below_drew1) | exact HB.out))) : w.heap.size ≤ gb107)); have GE107 := GW107; replace HB := am_ (below_step (by repeat (first | (with_reducible first | exact HB.out | apply below_alloc | apply pw_below_drewN | apply below_drew1) | exact HB.out)) hb); clear hb hbox hg; obtain ⟨hcz8_0, hcz8_1, hcz8_2, hcz8_3, hfz8_0, hfz8_1, hfz8_2, hfz8_3⟩ := blk4_ BK107.out; obtain ⟨Ao9, co9, eo9, _⟩ := Kd.Q_slice HO106.out; subst eo9) | ((with_reducible refine gate_callee (f := 5) rfl ?_); refine goesL_ (some 15) rfl rfl Try.func5 (by kernel_rfl) rfl #[.agg #[.int .i64 t101, .int .i64 t102, .int .i64 t103, .slice Ao9 t104.length co9]] rfl (by simp only [List.map_toArray, List.map_cons, List.map_nil]; rfl) ?_; (with_reducible refine (impl_EqualizeImage.calls k t101 t102 t103 _ _ t104 t108 t109 t110 t111 _ ?side1 ?side2 A4.out).mono ?_); (case side1 => refine (Kd.Q_reads' (e := 3) (base := w.heap.size) (ok := fun k_ => True) (n := t104.length) (c := co9) ?_).2.2; exact (by exact (Q4_ HO106.out BK107.out (by decide) _ _ _ _))); (case side2 => exact (Kd.Q_reads' HO106.out).2.1); rintro e w10 ⟨v112, rfl, ho0, hb⟩; refine ⟨_, rfl, ?_⟩; have HO113 := am_ (Kd.R_lower (Kd.R_new' ho0 (Kd.Q_lt (by exact (Q4_ HO106.out BK107.out (by decide) _ _ _ _)))) (below_size (by repeat (first | (with_reducible first | exact HB.out | apply below_alloc | apply pw_below_drewN | apply below_drew1 | refine below_set ?_ GE107.out) | exact HB.out)))); replace HO106 := am_ (Kd.Q_elder' (by exact (Q4_ HO106.out BK107.out (by decide) _ _ _ _)) (Kd.R_base ho0) hb); replace BK107 := am_ (blk_below (by exact put4_ BK107.out _ _ _ _) hb); replace HB := am_ (below_step (by repeat (first | (with_reducible first | exact HB.out | apply below_alloc | apply pw_below_drewN | apply below_drew1 | refine below_set ?_ GE107.out) | exact HB.out)) hb); (try clear hb); (try clear hb2); (try clear hk); (try clear hi); (try clear ho0)) | ((with_reducible refine gate_dst (N := 4) rfl ?_); refine box_event ?hg (N := 4) ?hd (cs := #[.int .i64 0, .int .i64 0, .int .i64 0, .slice none 0 0]) (t := 25) ?hr ?_; (case hd => rfl); (case hg => rfl); (case hr => first | (go_simp; done) | (go_simp; rfl)); intro gb114 hg w11 hbox hb; replace HO106 := am_ (Kd.Q_below (by exact HO106.out) hb); replace HO113 := am_ (Kd.R_below (by exact HO113.out) hb); have BK114 := am_ (hbox); have GW114 := am_ ((by rw [hg]; exact (below_size (by repeat (first | (with_reducible first | exact HB.out | apply below_alloc | apply pw_below_drewN | apply below_drew1 | refine below_set ?_ GE107.out) | exact HB.out))) : w.heap.size ≤ gb114)); have GE114 := GW114; replace HB := am_ (below_step (by repeat (first | (with_reducible first | exact HB.out | apply below_alloc | apply pw_below_drewN | apply below_drew1 | refine below_set ?_ GE107.out) | exact HB.out)) hb); have NB107_114 := am_ ((by rw [hg]; exact Nat.ne_of_lt (blk_lt (by exact BK107.out)) : gb107 ≠ gb114)); have NB114_107 := am_ ((by rw [hg]; exact Nat.ne_of_gt (blk_lt (by exact BK107.out)) : gb114 ≠ gb107)); replace BK107 := am_ (blk_below (by exact BK107.out) hb); clear hb hbox hg; have hnb12 := NB114_107.out; have hnc12 := NB107_114.out; obtain ⟨hcz13_0, hcz13_1, hcz13_2, hcz13_3, hfz13_0, hfz13_1, hfz13_2, hfz13_3⟩ := blk4_ BK114.out; obtain ⟨Ao14, co14, eo14⟩ := Kd.R_slice HO113.out; subst eo14))
 (try simp only [Act.put, List.setIfInBounds_toArray, List.set_cons_zero, List.set_cons_succ])
 go_cut [25] (fun v25 wc => ∃ (kq : Nat) (x25_4 : Bool), v25 = .bool x25_4 ∧ Aside0 (laws_FnEqualizeImage.j0 kq x25_4 t101 t102 t103 t104 t108 t109 t110 t111 = some r) ∧ Aside0 (kq ≤ k) ∧ Aside0 (Kd.Q (Kd.int .i64) 3 wc w.heap.size (fun k_ => some k_ ≠ ((.slice Ao14 t111.length co14) : Value).ownBlock) (.slice Ao9 t104.length co9) t104) ∧ Aside0 (Kd.Q (Kd.int .i64) 3 wc w.heap.size (fun k_ => some k_ ≠ ((.slice Ao9 t104.length co9) : Value).ownBlock) (.slice Ao14 t111.length co14) t111) ∧ Aside0 (wc.heap[gb107]? = some (.cells #[.int .i64 t101, .int .i64 t102, .int .i64 t103, (.slice Ao9 t104.length co9)] 25 (0, 0))) ∧ Aside0 (wc.heap[gb114]? = some (.cells #[.int .i64 t108, .int .i64 t109, .int .i64 t110, (.slice Ao14 t111.length co14)] 25 (0, 0))) ∧ Aside0 (Below w.heap.size w wc))
 case first =>
  have H := HC5.out
  clear HC5
  replace H := Option.bind_eq_some_iff.mp H
  obtain ⟨⟨t115, t116, t117, t118⟩, A150, H⟩ := H
  replace H : ((laws_equalImage.f k t108 t109 t110 t111 t115 t116 t117 t118).bind fun t121 => (if t121 = true then (laws_FnEqualizeImage.j0 k (t108 == 0) t101 t102 t103 t104 t108 t109 t110 t111) else (laws_FnEqualizeImage.j0 k true t101 t102 t103 t104 t108 t109 t110 t111))) = some r := H
  have A15 := Aside0.mk A150
  clear A150
  replace H := Option.bind_eq_some_iff.mp H
  obtain ⟨t121, A160, H⟩ := H
  replace H : (if t121 = true then (laws_FnEqualizeImage.j0 k (t108 == 0) t101 t102 t103 t104 t108 t109 t110 t111) else (laws_FnEqualizeImage.j0 k true t101 t102 t103 t104 t108 t109 t110 t111)) = some r := H
  have A16 := Aside0.mk A160
  clear A160
  by_cases c17 : t121 = true
  ·
   subst c17
   have H1 : (laws_FnEqualizeImage.j0 k (t108 == 0) t101 t102 t103 t104 t108 t109 t110 t111) = some r := by rw [if_pos rfl] at H; exact H
   clear H
   have H := H1
   clear H1
   have H' := Aside0.mk H
   clear H
   try go_wp2
   have n0_ : Aside0 (Kd.Q (Kd.int .i64) 3 ((((w11.setCell ⟨gb114, 0, none⟩ (.int .i64 t108)).setCell ⟨gb114, 1, none⟩ (.int .i64 t109)).setCell ⟨gb114, 2, none⟩ (.int .i64 t110)).setCell ⟨gb114, 3, none⟩ (.slice Ao14 t111.length co14)) w.heap.size (fun k_ => some k_ ≠ (.slice Ao14 t111.length co14 : Value).ownBlock) (.slice Ao9 t104.length co9) t104) := ⟨by exact Kd.Q_mono (Kd.Q_far (p := ⟨gb114, 3, none⟩) (Kd.Q_far (p := ⟨gb114, 2, none⟩) (Kd.Q_far (p := ⟨gb114, 1, none⟩) (Kd.Q_far (p := ⟨gb114, 0, none⟩) (Kd.Q_types HO106.out BK114.out (by decide)) (fun _ hk => hk.2) (.int .i64 t108)) (fun _ hk => hk.2) (.int .i64 t109)) (fun _ hk => hk.2) (.int .i64 t110)) (fun _ hk => hk.2) (.slice Ao14 t111.length co14)) (fun _ hk => hk.1.2)⟩
   have n1_ : Aside0 (Kd.R (Kd.int .i64) 3 ((((w11.setCell ⟨gb114, 0, none⟩ (.int .i64 t108)).setCell ⟨gb114, 1, none⟩ (.int .i64 t109)).setCell ⟨gb114, 2, none⟩ (.int .i64 t110)).setCell ⟨gb114, 3, none⟩ (.slice Ao14 t111.length co14)) w.heap.size (fun k_ => some k_ ≠ (.slice Ao9 t104.length co9 : Value).ownBlock) (.slice Ao14 t111.length co14) t111) := ⟨by exact Kd.R_mono (Kd.R_far (p := ⟨gb114, 3, none⟩) (Kd.R_far (p := ⟨gb114, 2, none⟩) (Kd.R_far (p := ⟨gb114, 1, none⟩) (Kd.R_far (p := ⟨gb114, 0, none⟩) (Kd.R_types HO113.out BK114.out (by decide)) (fun _ hk => hk.2) (.int .i64 t108)) (fun _ hk => hk.2) (.int .i64 t109)) (fun _ hk => hk.2) (.int .i64 t110)) (fun _ hk => hk.2) (.slice Ao14 t111.length co14)) (fun _ hk => hk.1.2)⟩
   have n2_ : Aside0 (((((w11.setCell ⟨gb114, 0, none⟩ (.int .i64 t108)).setCell ⟨gb114, 1, none⟩ (.int .i64 t109)).setCell ⟨gb114, 2, none⟩ (.int .i64 t110)).setCell ⟨gb114, 3, none⟩ (.slice Ao14 t111.length co14)).heap[gb107]? = some (.cells #[.int .i64 t101, .int .i64 t102, .int .i64 t103, .slice Ao9 t104.length co9] 25 (0, 0))) := ⟨by exact far4_ BK107.out NB107_114.out _ _ _ _⟩
   have n3_ : Aside0 (((((w11.setCell ⟨gb114, 0, none⟩ (.int .i64 t108)).setCell ⟨gb114, 1, none⟩ (.int .i64 t109)).setCell ⟨gb114, 2, none⟩ (.int .i64 t110)).setCell ⟨gb114, 3, none⟩ (.slice Ao14 t111.length co14)).heap[gb114]? = some (.cells #[.int .i64 t108, .int .i64 t109, .int .i64 t110, .slice Ao14 t111.length co14] 25 (0, 0))) := ⟨by exact put4_ BK114.out _ _ _ _⟩
   have n4_ : Aside0 (Below w.heap.size w ((((w11.setCell ⟨gb114, 0, none⟩ (.int .i64 t108)).setCell ⟨gb114, 1, none⟩ (.int .i64 t109)).setCell ⟨gb114, 2, none⟩ (.int .i64 t110)).setCell ⟨gb114, 3, none⟩ (.slice Ao14 t111.length co14))) := ⟨by repeat (first | (with_reducible first | exact HB.out | apply below_alloc | apply pw_below_drewN | apply below_drew1 | refine below_set ?_ GE107.out | refine below_set ?_ GE114.out) | exact HB.out)⟩
   (try clear HO106)
   (try clear HO113)
   (try clear BK107)
   (try clear BK114)
   (try clear HB)
   generalize ((((w11.setCell ⟨gb114, 0, none⟩ (.int .i64 t108)).setCell ⟨gb114, 1, none⟩ (.int .i64 t109)).setCell ⟨gb114, 2, none⟩ (.int .i64 t110)).setCell ⟨gb114, 3, none⟩ (.slice Ao14 t111.length co14)) = w18 at n0_ n1_ n2_ n3_ n4_ ⊢
   have HO106 := n0_
   have HO113 := n1_
   have BK107 := n2_
   have BK114 := n3_
   have HB := n4_
   clear n0_ n1_ n2_ n3_ n4_
   replace HO106 := am_ (Kd.Q_drew HO106.out)
   replace HO113 := am_ (Kd.R_drew HO113.out)
   replace BK107 := am_ (blk_drew BK107.out)
   replace BK114 := am_ (blk_drew BK114.out)
   replace HB := am_ (below_drew1 HB.out)
   refine start_ (n := 10) (S := fun w' => w'.cell? ⟨gb114, 0, none⟩ = some (.int .i64 t108) ∧ w'.cell? ⟨gb114, 1, none⟩ = some (.int .i64 t109) ∧ w'.cell? ⟨gb114, 2, none⟩ = some (.int .i64 t110) ∧ w'.cell? ⟨gb114, 3, none⟩ = some (.slice Ao14 t111.length co14) ∧ w'.cell? ⟨gb107, 0, none⟩ = some (.int .i64 t101) ∧ w'.cell? ⟨gb107, 1, none⟩ = some (.int .i64 t102) ∧ w'.cell? ⟨gb107, 2, none⟩ = some (.int .i64 t103) ∧ w'.cell? ⟨gb107, 3, none⟩ = some (.slice Ao9 t104.length co9)) (ds := []) #[false, false, false, false, false, false, false, false, false, false] (by kernel_rfl) rfl rfl ⟨(blk_cell BK114.out 0).trans rfl, (blk_cell BK114.out 1).trans rfl, (blk_cell BK114.out 2).trans rfl, (blk_cell BK114.out 3).trans rfl, (blk_cell BK107.out 0).trans rfl, (blk_cell BK107.out 1).trans rfl, (blk_cell BK107.out 2).trans rfl, (blk_cell BK107.out 3).trans rfl⟩ (fun hHeld => ?_); refine with_tabW laws_FnEqualizeImage.tab5 laws_FnEqualizeImage.bits5 (fun HT_ HW_ => ?_)
   generalize w18.drew = w19 at HO106 HO113 BK107 BK114 HB hHeld ⊢
   refine take_ (i := 0) (N := some 16) (v := ?_) (a' := ?_) #[true, false, false, false, false, false, false, false, false, false] rfl rfl (take_ofW HT_.out HW_.out (by kernel_rfl)) (fun _ _ _ h => h) (Or.inl ⟨by rfl, ?_⟩) hHeld ?_ ?_
   rotate_left
   ·
    rintro w' ⟨s0, s1, s2, s3, s4, s5, s6, s7⟩
    go_simp
    with_reducible rfl
   rotate_left
   ·
    simp only [Act.put, List.setIfInBounds_toArray, List.set_cons_zero, List.set_cons_succ, i64_w, i32_w]
    rfl
   refine take_ (i := 1) (N := some 17) (v := ?_) (a' := ?_) #[true, true, false, false, false, false, false, false, false, false] rfl rfl (take_ofW HT_.out HW_.out (by kernel_rfl)) (fun _ _ _ h => h) (Or.inl ⟨by rfl, ?_⟩) hHeld ?_ ?_
   rotate_left
   ·
    rintro w' ⟨s0, s1, s2, s3, s4, s5, s6, s7⟩
    go_simp
    with_reducible rfl
   rotate_left
   ·
    simp only [Act.put, List.setIfInBounds_toArray, List.set_cons_zero, List.set_cons_succ, i64_w, i32_w]
    rfl
   refine one_ (i := 2) (N := some 18) #[true, true, true, false, false, false, false, false, false, false] rfl rfl (one_of HT_.out (by kernel_rfl)) (by decide) (fun K hK => ?_)
   refine goes_ Try.func7 (by kernel_rfl) rfl #[.agg #[.int .i64 t101, .int .i64 t102, .int .i64 t103, .slice Ao9 t104.length co9]] (by rfl) rfl rfl (by simp only [List.map_toArray, List.map_cons, List.map_nil]; rfl) ?_
   with_reducible refine (spec_EqualizeImage.calls k t101 t102 t103 _ _ t104 t115 t116 t117 t118 _ ?side1 ?side2 A15.out).mono ?_
   (case side1 => repeat (first | exact (Kd.Q_reads' HO106.out).2.2 | (with_reducible refine Kd.C_alloc ?_ _) | (with_reducible refine Kd.C_drewN ?_ _) | (with_reducible refine Kd.C_drew ?_)))
   (case side2 => exact (Kd.Q_reads' HO106.out).2.1)
   rintro e w20 ⟨v119, rfl, ho0, hb⟩
   refine ⟨_, rfl, ?_⟩
   have HO120 := am_ (Kd.R_lower (Kd.R_new' (Kd.R_new' ho0 (Kd.Q_lt (by exact HO106.out))) (Kd.R_lt (by exact HO113.out))) (below_size (by repeat (first | (with_reducible first | exact HB.out | apply below_alloc | apply pw_below_drewN | apply below_drew1 | refine below_set ?_ GE107.out | refine below_set ?_ GE114.out) | exact HB.out))))
   replace HO106 := am_ (Kd.Q_elder' (by exact HO106.out) (Kd.R_base ho0) hb)
   replace HO113 := am_ (Kd.R_elder' (by exact HO113.out) (Kd.R_base ho0) hb)
   replace BK107 := am_ (blk_below (by exact BK107.out) hb)
   replace BK114 := am_ (blk_below (by exact BK114.out) hb)
   replace HB := am_ (below_step (by repeat (first | (with_reducible first | exact HB.out | apply below_alloc | apply pw_below_drewN | apply below_drew1 | refine below_set ?_ GE107.out | refine below_set ?_ GE114.out) | exact HB.out)) hb)
   (try clear hb)
   (try clear hb2)
   (try clear hk)
   (try clear hi)
   (try clear ho0)
   obtain ⟨Ao21, co21, eo21⟩ := Kd.R_slice HO120.out
   (first | subst eo21 | (injection eo21 with f1_ f2_ f3_; have f4_ := f1_.symm; have f5_ := f3_.symm; clear f1_ f2_ f3_; subst f4_; subst f5_))
   refine hK.out _ _ ⟨(blk_cell BK114.out 0).trans rfl, (blk_cell BK114.out 1).trans rfl, (blk_cell BK114.out 2).trans rfl, (blk_cell BK114.out 3).trans rfl, (blk_cell BK107.out 0).trans rfl, (blk_cell BK107.out 1).trans rfl, (blk_cell BK107.out 2).trans rfl, (blk_cell BK107.out 3).trans rfl⟩ (fun hHeld => ?_)
   clear hK K
   refine norm_ (a' := ?_) ?_ ?_
   rotate_left
   ·
    show Act.put _ (some 18) _ = _
    simp only [Act.put, List.setIfInBounds_toArray, List.set_cons_zero, List.set_cons_succ, i64_w, i32_w]
    rfl
   refine one_ (i := 3) (N := some 19) #[true, true, true, true, false, false, false, false, false, false] rfl rfl (one_of HT_.out (by kernel_rfl)) (by decide) (fun K hK => ?_)
   refine goes_ Try.func6 (by kernel_rfl) rfl #[.agg #[.int .i64 t108, .int .i64 t109, .int .i64 t110, .slice Ao14 t111.length co14], .agg #[.int .i64 t115, .int .i64 t116, .int .i64 t117, .slice Ao21 t118.length co21]] (by rfl) rfl rfl (by simp only [List.map_toArray, List.map_cons, List.map_nil]; rfl) ?_
   with_reducible refine (laws_equalImage.calls k t108 t109 t110 _ _ t111 t115 t116 t117 _ _ t118 true _ ?side1 ?side2 ?side3 ?side4 A16.out).mono ?_
   (case side1 => repeat (first | exact (Kd.R_reads' HO113.out).2.2 | (with_reducible refine Kd.C_alloc ?_ _) | (with_reducible refine Kd.C_drewN ?_ _) | (with_reducible refine Kd.C_drew ?_)))
   (case side2 => exact (Kd.R_reads' HO113.out).2.1)
   (case side3 => repeat (first | exact (Kd.R_reads' HO120.out).2.2 | (with_reducible refine Kd.C_alloc ?_ _) | (with_reducible refine Kd.C_drewN ?_ _) | (with_reducible refine Kd.C_drew ?_)))
   (case side4 => exact (Kd.R_reads' HO120.out).2.1)
   rintro e w22 ⟨rfl, hb⟩
   refine ⟨_, rfl, ?_⟩
   replace HO106 := am_ (Kd.Q_below (by exact HO106.out) hb)
   replace HO113 := am_ (Kd.R_below (by exact HO113.out) hb)
   replace HO120 := am_ (Kd.R_below (by exact HO120.out) hb)
   replace BK107 := am_ (blk_below (by exact BK107.out) hb)
   replace BK114 := am_ (blk_below (by exact BK114.out) hb)
   replace HB := am_ (below_step (by repeat (first | (with_reducible first | exact HB.out | apply below_alloc | apply pw_below_drewN | apply below_drew1 | refine below_set ?_ GE107.out | refine below_set ?_ GE114.out) | exact HB.out)) hb)
   (try clear hb)
   (try clear hb2)
   (try clear hk)
   (try clear hi)
   refine hK.out _ _ ⟨(blk_cell BK114.out 0).trans rfl, (blk_cell BK114.out 1).trans rfl, (blk_cell BK114.out 2).trans rfl, (blk_cell BK114.out 3).trans rfl, (blk_cell BK107.out 0).trans rfl, (blk_cell BK107.out 1).trans rfl, (blk_cell BK107.out 2).trans rfl, (blk_cell BK107.out 3).trans rfl⟩ (fun hHeld => ?_)
   clear hK K
   refine norm_ (a' := ?_) ?_ ?_
   rotate_left
   ·
    show Act.put _ (some 19) _ = _
    simp only [Act.put, List.setIfInBounds_toArray, List.set_cons_zero, List.set_cons_succ, i64_w, i32_w]
    rfl
   refine pure_ (i := 4) (N := some 20) (v := ?_) (a' := ?_) #[true, true, true, true, true, false, false, false, false, false] rfl rfl (any_of HT_.out (by kernel_rfl)) (fun _ _ _ h => h) (Or.inl ⟨by rfl, ?_⟩) ?_ ?_
   rotate_left
   ·
    intro w'
    go_simp
    with_reducible rfl
   rotate_left
   ·
    simp only [Act.put, List.setIfInBounds_toArray, List.set_cons_zero, List.set_cons_succ, i64_w, i32_w]
    rfl
   refine pure_ (i := 5) (N := some 21) (v := ?_) (a' := ?_) #[true, true, true, true, true, true, false, false, false, false] rfl rfl (any_of HT_.out (by kernel_rfl)) (fun _ _ _ h => h) (Or.inl ⟨by rfl, ?_⟩) ?_ ?_
   rotate_left
   ·
    intro w'
    go_simp
    with_reducible rfl
   rotate_left
   ·
    simp only [Act.put, List.setIfInBounds_toArray, List.set_cons_zero, List.set_cons_succ, i64_w, i32_w]
    rfl
   refine pure_ (i := 6) (N := some 22) (v := ?_) (a' := ?_) #[true, true, true, true, true, true, true, false, false, false] rfl rfl (any_of HT_.out (by kernel_rfl)) (fun _ _ _ h => h) (Or.inl ⟨by rfl, ?_⟩) ?_ ?_
   rotate_left
   ·
    intro w'
    go_simp
    with_reducible rfl
   rotate_left
   ·
    simp only [Act.put, List.setIfInBounds_toArray, List.set_cons_zero, List.set_cons_succ, i64_w, i32_w]
    rfl
   refine take_ (i := 7) (N := some 23) (v := ?_) (a' := ?_) #[true, true, true, true, true, true, true, true, false, false] rfl rfl (take_ofW HT_.out HW_.out (by kernel_rfl)) (fun _ _ _ h => h) (Or.inl ⟨by rfl, ?_⟩) hHeld ?_ ?_
   rotate_left
   ·
    rintro w' ⟨s0, s1, s2, s3, s4, s5, s6, s7⟩
    go_simp
    with_reducible rfl
   rotate_left
   ·
    simp only [Act.put, List.setIfInBounds_toArray, List.set_cons_zero, List.set_cons_succ, i64_w, i32_w]
    rfl
   refine pure_ (i := 8) (N := some 24) (v := ?_) (a' := ?_) #[true, true, true, true, true, true, true, true, true, false] rfl rfl (any_of HT_.out (by kernel_rfl)) (fun _ _ _ h => h) (Or.inl ⟨by rfl, ?_⟩) ?_ ?_
   rotate_left
   ·
    intro w'
    go_simp
    with_reducible rfl
   rotate_left
   ·
    simp only [Act.put, List.setIfInBounds_toArray, List.set_cons_zero, List.set_cons_succ, i64_w, i32_w]
    rfl
   refine pure_ (i := 9) (N := some 25) (v := ?_) (a' := ?_) #[true, true, true, true, true, true, true, true, true, true] rfl rfl (any_of HT_.out (by kernel_rfl)) (fun _ _ _ h => h) (Or.inl ⟨by rfl, ?_⟩) ?_ ?_
   rotate_left
   ·
    intro w'
    go_simp
    with_reducible rfl
   rotate_left
   ·
    simp only [Act.put, List.setIfInBounds_toArray, List.set_cons_zero, List.set_cons_succ, i64_w, i32_w]
    rfl
   refine done_ (done_of HT_.out (by kernel_rfl)) ?_
   try go_wp2
   go_meet
   case rel => exact ⟨_, ((t108 == 0)), (by first | rfl | (simp; done) | (simp [*]; done)), H', ⟨by first | omega | exact Nat.le_refl _⟩, ⟨by exact Kd.Q_mono HO106.out (fun _ hk => hk.1)⟩, ⟨Kd.Q_of_R (by exact Kd.R_mono HO113.out (fun _ hk => hk.1))⟩, ⟨by exact BK107.out⟩, ⟨by exact BK114.out⟩, ⟨by repeat (first | (with_reducible first | exact HB.out | apply below_alloc | apply pw_below_drewN | apply below_drew1 | refine below_set ?_ GE107.out | refine below_set ?_ GE114.out) | exact HB.out)⟩⟩
  replace c17 := Bool.eq_false_iff.mpr c17
  subst c17
  have H1 : (laws_FnEqualizeImage.j0 k true t101 t102 t103 t104 t108 t109 t110 t111) = some r := by rw [if_neg (show ¬ (false = true) by decide)] at H; exact H
  clear H
  have H := H1
  clear H1
  have H' := Aside0.mk H
  clear H
  try go_wp2
  have n0_ : Aside0 (Kd.Q (Kd.int .i64) 3 ((((w11.setCell ⟨gb114, 0, none⟩ (.int .i64 t108)).setCell ⟨gb114, 1, none⟩ (.int .i64 t109)).setCell ⟨gb114, 2, none⟩ (.int .i64 t110)).setCell ⟨gb114, 3, none⟩ (.slice Ao14 t111.length co14)) w.heap.size (fun k_ => some k_ ≠ (.slice Ao14 t111.length co14 : Value).ownBlock) (.slice Ao9 t104.length co9) t104) := ⟨by exact Kd.Q_mono (Kd.Q_far (p := ⟨gb114, 3, none⟩) (Kd.Q_far (p := ⟨gb114, 2, none⟩) (Kd.Q_far (p := ⟨gb114, 1, none⟩) (Kd.Q_far (p := ⟨gb114, 0, none⟩) (Kd.Q_types HO106.out BK114.out (by decide)) (fun _ hk => hk.2) (.int .i64 t108)) (fun _ hk => hk.2) (.int .i64 t109)) (fun _ hk => hk.2) (.int .i64 t110)) (fun _ hk => hk.2) (.slice Ao14 t111.length co14)) (fun _ hk => hk.1.2)⟩
  have n1_ : Aside0 (Kd.R (Kd.int .i64) 3 ((((w11.setCell ⟨gb114, 0, none⟩ (.int .i64 t108)).setCell ⟨gb114, 1, none⟩ (.int .i64 t109)).setCell ⟨gb114, 2, none⟩ (.int .i64 t110)).setCell ⟨gb114, 3, none⟩ (.slice Ao14 t111.length co14)) w.heap.size (fun k_ => some k_ ≠ (.slice Ao9 t104.length co9 : Value).ownBlock) (.slice Ao14 t111.length co14) t111) := ⟨by exact Kd.R_mono (Kd.R_far (p := ⟨gb114, 3, none⟩) (Kd.R_far (p := ⟨gb114, 2, none⟩) (Kd.R_far (p := ⟨gb114, 1, none⟩) (Kd.R_far (p := ⟨gb114, 0, none⟩) (Kd.R_types HO113.out BK114.out (by decide)) (fun _ hk => hk.2) (.int .i64 t108)) (fun _ hk => hk.2) (.int .i64 t109)) (fun _ hk => hk.2) (.int .i64 t110)) (fun _ hk => hk.2) (.slice Ao14 t111.length co14)) (fun _ hk => hk.1.2)⟩
  have n2_ : Aside0 (((((w11.setCell ⟨gb114, 0, none⟩ (.int .i64 t108)).setCell ⟨gb114, 1, none⟩ (.int .i64 t109)).setCell ⟨gb114, 2, none⟩ (.int .i64 t110)).setCell ⟨gb114, 3, none⟩ (.slice Ao14 t111.length co14)).heap[gb107]? = some (.cells #[.int .i64 t101, .int .i64 t102, .int .i64 t103, .slice Ao9 t104.length co9] 25 (0, 0))) := ⟨by exact far4_ BK107.out NB107_114.out _ _ _ _⟩
  have n3_ : Aside0 (((((w11.setCell ⟨gb114, 0, none⟩ (.int .i64 t108)).setCell ⟨gb114, 1, none⟩ (.int .i64 t109)).setCell ⟨gb114, 2, none⟩ (.int .i64 t110)).setCell ⟨gb114, 3, none⟩ (.slice Ao14 t111.length co14)).heap[gb114]? = some (.cells #[.int .i64 t108, .int .i64 t109, .int .i64 t110, .slice Ao14 t111.length co14] 25 (0, 0))) := ⟨by exact put4_ BK114.out _ _ _ _⟩
  have n4_ : Aside0 (Below w.heap.size w ((((w11.setCell ⟨gb114, 0, none⟩ (.int .i64 t108)).setCell ⟨gb114, 1, none⟩ (.int .i64 t109)).setCell ⟨gb114, 2, none⟩ (.int .i64 t110)).setCell ⟨gb114, 3, none⟩ (.slice Ao14 t111.length co14))) := ⟨by repeat (first | (with_reducible first | exact HB.out | apply below_alloc | apply pw_below_drewN | apply below_drew1 | refine below_set ?_ GE107.out | refine below_set ?_ GE114.out) | exact HB.out)⟩
  (try clear HO106)
  (try clear HO113)
  (try clear BK107)
  (try clear BK114)
  (try clear HB)
  generalize ((((w11.setCell ⟨gb114, 0, none⟩ (.int .i64 t108)).setCell ⟨gb114, 1, none⟩ (.int .i64 t109)).setCell ⟨gb114, 2, none⟩ (.int .i64 t110)).setCell ⟨gb114, 3, none⟩ (.slice Ao14 t111.length co14)) = w23 at n0_ n1_ n2_ n3_ n4_ ⊢
  have HO106 := n0_
  have HO113 := n1_
  have BK107 := n2_
  have BK114 := n3_
  have HB := n4_
  clear n0_ n1_ n2_ n3_ n4_
  replace HO106 := am_ (Kd.Q_drew HO106.out)
  replace HO113 := am_ (Kd.R_drew HO113.out)
  replace BK107 := am_ (blk_drew BK107.out)
  replace BK114 := am_ (blk_drew BK114.out)
  replace HB := am_ (below_drew1 HB.out)
  refine start_ (n := 10) (S := fun w' => w'.cell? ⟨gb114, 0, none⟩ = some (.int .i64 t108) ∧ w'.cell? ⟨gb114, 1, none⟩ = some (.int .i64 t109) ∧ w'.cell? ⟨gb114, 2, none⟩ = some (.int .i64 t110) ∧ w'.cell? ⟨gb114, 3, none⟩ = some (.slice Ao14 t111.length co14) ∧ w'.cell? ⟨gb107, 0, none⟩ = some (.int .i64 t101) ∧ w'.cell? ⟨gb107, 1, none⟩ = some (.int .i64 t102) ∧ w'.cell? ⟨gb107, 2, none⟩ = some (.int .i64 t103) ∧ w'.cell? ⟨gb107, 3, none⟩ = some (.slice Ao9 t104.length co9)) (ds := []) #[false, false, false, false, false, false, false, false, false, false] (by kernel_rfl) rfl rfl ⟨(blk_cell BK114.out 0).trans rfl, (blk_cell BK114.out 1).trans rfl, (blk_cell BK114.out 2).trans rfl, (blk_cell BK114.out 3).trans rfl, (blk_cell BK107.out 0).trans rfl, (blk_cell BK107.out 1).trans rfl, (blk_cell BK107.out 2).trans rfl, (blk_cell BK107.out 3).trans rfl⟩ (fun hHeld => ?_); refine with_tabW laws_FnEqualizeImage.tab5 laws_FnEqualizeImage.bits5 (fun HT_ HW_ => ?_)
  generalize w23.drew = w24 at HO106 HO113 BK107 BK114 HB hHeld ⊢
  refine take_ (i := 0) (N := some 16) (v := ?_) (a' := ?_) #[true, false, false, false, false, false, false, false, false, false] rfl rfl (take_ofW HT_.out HW_.out (by kernel_rfl)) (fun _ _ _ h => h) (Or.inl ⟨by rfl, ?_⟩) hHeld ?_ ?_
  rotate_left
  ·
   rintro w' ⟨s0, s1, s2, s3, s4, s5, s6, s7⟩
   go_simp
   with_reducible rfl
  rotate_left
  ·
   simp only [Act.put, List.setIfInBounds_toArray, List.set_cons_zero, List.set_cons_succ, i64_w, i32_w]
   rfl
  refine take_ (i := 1) (N := some 17) (v := ?_) (a' := ?_) #[true, true, false, false, false, false, false, false, false, false] rfl rfl (take_ofW HT_.out HW_.out (by kernel_rfl)) (fun _ _ _ h => h) (Or.inl ⟨by rfl, ?_⟩) hHeld ?_ ?_
  rotate_left
  ·
   rintro w' ⟨s0, s1, s2, s3, s4, s5, s6, s7⟩
   go_simp
   with_reducible rfl
  rotate_left
  ·
   simp only [Act.put, List.setIfInBounds_toArray, List.set_cons_zero, List.set_cons_succ, i64_w, i32_w]
   rfl
  refine one_ (i := 2) (N := some 18) #[true, true, true, false, false, false, false, false, false, false] rfl rfl (one_of HT_.out (by kernel_rfl)) (by decide) (fun K hK => ?_)
  refine goes_ Try.func7 (by kernel_rfl) rfl #[.agg #[.int .i64 t101, .int .i64 t102, .int .i64 t103, .slice Ao9 t104.length co9]] (by rfl) rfl rfl (by simp only [List.map_toArray, List.map_cons, List.map_nil]; rfl) ?_
  with_reducible refine (spec_EqualizeImage.calls k t101 t102 t103 _ _ t104 t115 t116 t117 t118 _ ?side1 ?side2 A15.out).mono ?_
  (case side1 => repeat (first | exact (Kd.Q_reads' HO106.out).2.2 | (with_reducible refine Kd.C_alloc ?_ _) | (with_reducible refine Kd.C_drewN ?_ _) | (with_reducible refine Kd.C_drew ?_)))
  (case side2 => exact (Kd.Q_reads' HO106.out).2.1)
  rintro e w25 ⟨v119, rfl, ho0, hb⟩
  refine ⟨_, rfl, ?_⟩
  have HO120 := am_ (Kd.R_lower (Kd.R_new' (Kd.R_new' ho0 (Kd.Q_lt (by exact HO106.out))) (Kd.R_lt (by exact HO113.out))) (below_size (by repeat (first | (with_reducible first | exact HB.out | apply below_alloc | apply pw_below_drewN | apply below_drew1 | refine below_set ?_ GE107.out | refine below_set ?_ GE114.out) | exact HB.out))))
  replace HO106 := am_ (Kd.Q_elder' (by exact HO106.out) (Kd.R_base ho0) hb)
  replace HO113 := am_ (Kd.R_elder' (by exact HO113.out) (Kd.R_base ho0) hb)
  replace BK107 := am_ (blk_below (by exact BK107.out) hb)
  replace BK114 := am_ (blk_below (by exact BK114.out) hb)
  replace HB := am_ (below_step (by repeat (first | (with_reducible first | exact HB.out | apply below_alloc | apply pw_below_drewN | apply below_drew1 | refine below_set ?_ GE107.out | refine below_set ?_ GE114.out) | exact HB.out)) hb)
  (try clear hb)
  (try clear hb2)
  (try clear hk)
  (try clear hi)
  (try clear ho0)
  obtain ⟨Ao26, co26, eo26⟩ := Kd.R_slice HO120.out
  (first | subst eo26 | (injection eo26 with f1_ f2_ f3_; have f4_ := f1_.symm; have f5_ := f3_.symm; clear f1_ f2_ f3_; subst f4_; subst f5_))
  refine hK.out _ _ ⟨(blk_cell BK114.out 0).trans rfl, (blk_cell BK114.out 1).trans rfl, (blk_cell BK114.out 2).trans rfl, (blk_cell BK114.out 3).trans rfl, (blk_cell BK107.out 0).trans rfl, (blk_cell BK107.out 1).trans rfl, (blk_cell BK107.out 2).trans rfl, (blk_cell BK107.out 3).trans rfl⟩ (fun hHeld => ?_)
  clear hK K
  refine norm_ (a' := ?_) ?_ ?_
  rotate_left
  ·
   show Act.put _ (some 18) _ = _
   simp only [Act.put, List.setIfInBounds_toArray, List.set_cons_zero, List.set_cons_succ, i64_w, i32_w]
   rfl
  refine one_ (i := 3) (N := some 19) #[true, true, true, true, false, false, false, false, false, false] rfl rfl (one_of HT_.out (by kernel_rfl)) (by decide) (fun K hK => ?_)
  refine goes_ Try.func6 (by kernel_rfl) rfl #[.agg #[.int .i64 t108, .int .i64 t109, .int .i64 t110, .slice Ao14 t111.length co14], .agg #[.int .i64 t115, .int .i64 t116, .int .i64 t117, .slice Ao26 t118.length co26]] (by rfl) rfl rfl (by simp only [List.map_toArray, List.map_cons, List.map_nil]; rfl) ?_
  with_reducible refine (laws_equalImage.calls k t108 t109 t110 _ _ t111 t115 t116 t117 _ _ t118 false _ ?side1 ?side2 ?side3 ?side4 A16.out).mono ?_
  (case side1 => repeat (first | exact (Kd.R_reads' HO113.out).2.2 | (with_reducible refine Kd.C_alloc ?_ _) | (with_reducible refine Kd.C_drewN ?_ _) | (with_reducible refine Kd.C_drew ?_)))
  (case side2 => exact (Kd.R_reads' HO113.out).2.1)
  (case side3 => repeat (first | exact (Kd.R_reads' HO120.out).2.2 | (with_reducible refine Kd.C_alloc ?_ _) | (with_reducible refine Kd.C_drewN ?_ _) | (with_reducible refine Kd.C_drew ?_)))
  (case side4 => exact (Kd.R_reads' HO120.out).2.1)
  rintro e w27 ⟨rfl, hb⟩
  refine ⟨_, rfl, ?_⟩
  replace HO106 := am_ (Kd.Q_below (by exact HO106.out) hb)
  replace HO113 := am_ (Kd.R_below (by exact HO113.out) hb)
  replace HO120 := am_ (Kd.R_below (by exact HO120.out) hb)
  replace BK107 := am_ (blk_below (by exact BK107.out) hb)
  replace BK114 := am_ (blk_below (by exact BK114.out) hb)
  replace HB := am_ (below_step (by repeat (first | (with_reducible first | exact HB.out | apply below_alloc | apply pw_below_drewN | apply below_drew1 | refine below_set ?_ GE107.out | refine below_set ?_ GE114.out) | exact HB.out)) hb)
  (try clear hb)
  (try clear hb2)
  (try clear hk)
  (try clear hi)
  refine hK.out _ _ ⟨(blk_cell BK114.out 0).trans rfl, (blk_cell BK114.out 1).trans rfl, (blk_cell BK114.out 2).trans rfl, (blk_cell BK114.out 3).trans rfl, (blk_cell BK107.out 0).trans rfl, (blk_cell BK107.out 1).trans rfl, (blk_cell BK107.out 2).trans rfl, (blk_cell BK107.out 3).trans rfl⟩ (fun hHeld => ?_)
  clear hK K
  refine norm_ (a' := ?_) ?_ ?_
  rotate_left
  ·
   show Act.put _ (some 19) _ = _
   simp only [Act.put, List.setIfInBounds_toArray, List.set_cons_zero, List.set_cons_succ, i64_w, i32_w]
   rfl
  refine pure_ (i := 4) (N := some 20) (v := ?_) (a' := ?_) #[true, true, true, true, true, false, false, false, false, false] rfl rfl (any_of HT_.out (by kernel_rfl)) (fun _ _ _ h => h) (Or.inl ⟨by rfl, ?_⟩) ?_ ?_
  rotate_left
  ·
   intro w'
   go_simp
   with_reducible rfl
  rotate_left
  ·
   simp only [Act.put, List.setIfInBounds_toArray, List.set_cons_zero, List.set_cons_succ, i64_w, i32_w]
   rfl
  refine pure_ (i := 5) (N := some 21) (v := ?_) (a' := ?_) #[true, true, true, true, true, true, false, false, false, false] rfl rfl (any_of HT_.out (by kernel_rfl)) (fun _ _ _ h => h) (Or.inl ⟨by rfl, ?_⟩) ?_ ?_
  rotate_left
  ·
   intro w'
   go_simp
   with_reducible rfl
  rotate_left
  ·
   simp only [Act.put, List.setIfInBounds_toArray, List.set_cons_zero, List.set_cons_succ, i64_w, i32_w]
   rfl
  refine pure_ (i := 6) (N := some 22) (v := undef) (a' := ?_) #[true, true, true, true, true, true, true, false, false, false] rfl rfl (any_of HT_.out (by kernel_rfl)) (fun _ _ _ h => h) (Or.inr ⟨by rfl, rfl⟩) ?_ ?_
  rotate_left
  ·
   simp only [Act.put, List.setIfInBounds_toArray, List.set_cons_zero, List.set_cons_succ, i64_w, i32_w]
   rfl
  refine pure_ (i := 7) (N := some 23) (v := undef) (a' := ?_) #[true, true, true, true, true, true, true, true, false, false] rfl rfl (any_of HT_.out (by kernel_rfl)) (fun _ _ _ h => h) (Or.inr ⟨by rfl, rfl⟩) ?_ ?_
  rotate_left
  ·
   simp only [Act.put, List.setIfInBounds_toArray, List.set_cons_zero, List.set_cons_succ, i64_w, i32_w]
   rfl
  refine pure_ (i := 8) (N := some 24) (v := undef) (a' := ?_) #[true, true, true, true, true, true, true, true, true, false] rfl rfl (any_of HT_.out (by kernel_rfl)) (fun _ _ _ h => h) (Or.inr ⟨by rfl, rfl⟩) ?_ ?_
  rotate_left
  ·
   simp only [Act.put, List.setIfInBounds_toArray, List.set_cons_zero, List.set_cons_succ, i64_w, i32_w]
   rfl
  refine pure_ (i := 9) (N := some 25) (v := ?_) (a' := ?_) #[true, true, true, true, true, true, true, true, true, true] rfl rfl (any_of HT_.out (by kernel_rfl)) (fun _ _ _ h => h) (Or.inl ⟨by rfl, ?_⟩) ?_ ?_
  rotate_left
  ·
   intro w'
   go_simp
   with_reducible rfl
  rotate_left
  ·
   simp only [Act.put, List.setIfInBounds_toArray, List.set_cons_zero, List.set_cons_succ, i64_w, i32_w]
   rfl
  refine done_ (done_of HT_.out (by kernel_rfl)) ?_
  try go_wp2
  go_meet
  case rel => exact ⟨_, (true), (by first | rfl | (simp; done) | (simp [*]; done)), H', ⟨by first | omega | exact Nat.le_refl _⟩, ⟨by exact Kd.Q_mono HO106.out (fun _ hk => hk.1)⟩, ⟨Kd.Q_of_R (by exact Kd.R_mono HO113.out (fun _ hk => hk.1))⟩, ⟨by exact BK107.out⟩, ⟨by exact BK114.out⟩, ⟨by repeat (first | (with_reducible first | exact HB.out | apply below_alloc | apply pw_below_drewN | apply below_drew1 | refine below_set ?_ GE107.out | refine below_set ?_ GE114.out) | exact HB.out)⟩⟩
 case rest =>
  clear HC5
  try clear c1
  try clear c2
  try clear c2b0
  try clear c2b1
  try clear p2
  try clear c3
  try clear c4
  try clear c5
  try clear c6
  try clear c7
  try clear c12
  try clear c17
  try clear hcz13_0
  try clear hcz13_1
  try clear hcz13_2
  try clear hcz13_3
  try clear hcz8_0
  try clear hcz8_1
  try clear hcz8_2
  try clear hcz8_3
  try clear hfz13_0
  try clear hfz13_1
  try clear hfz13_2
  try clear hfz13_3
  try clear hfz8_0
  try clear hfz8_1
  try clear hfz8_2
  try clear hfz8_3
  obtain ⟨kq, x25_4, rfl, HA, HJ4, HO_108003, HO_115003, BK107, BK114, HB⟩ := hcut
  cases kq with
  | zero => exact absurd HA.out (by simp [laws_FnEqualizeImage.j0])
  | succ kj4 =>
   have H := HA.out
   clear HA
   simp only [laws_FnEqualizeImage.j0] at H
   by_cases c28 : x25_4 = true
   ·
    subst c28
    have H1 : ((spec_EqualizeImage.f kj4 t101 t102 t103 t104).bind fun bt122 => ((laws_equalImage.f kj4 t108 t109 t110 t111 bt122.1 bt122.2.1 bt122.2.2.1 bt122.2.2.2).bind fun t128 => (some t128))) = some r := by rw [if_pos rfl] at H; exact H
    clear H
    have H := H1
    clear H1
    replace H := Option.bind_eq_some_iff.mp H
    obtain ⟨⟨t122, t123, t124, t125⟩, A290, H⟩ := H
    replace H : ((laws_equalImage.f kj4 t108 t109 t110 t111 t122 t123 t124 t125).bind fun t128 => (some t128)) = some r := H
    have A29 := Aside0.mk A290
    clear A290
    replace H := Option.bind_eq_some_iff.mp H
    obtain ⟨t128, A300, H⟩ := H
    replace H : (some t128) = some r := H
    have A30 := Aside0.mk A300
    clear A300
    obtain rfl := Option.some.inj H
    try go_wp2
    replace HO_108003 := am_ (Kd.Q_drew HO_108003.out)
    replace HO_115003 := am_ (Kd.Q_drew HO_115003.out)
    replace BK107 := am_ (blk_drew BK107.out)
    replace BK114 := am_ (blk_drew BK114.out)
    replace HB := am_ (below_drew1 HB.out)
    refine start_ (n := 5) (S := fun w' => w'.cell? ⟨gb114, 0, none⟩ = some (.int .i64 t108) ∧ w'.cell? ⟨gb114, 1, none⟩ = some (.int .i64 t109) ∧ w'.cell? ⟨gb114, 2, none⟩ = some (.int .i64 t110) ∧ w'.cell? ⟨gb114, 3, none⟩ = some (.slice Ao14 t111.length co14) ∧ w'.cell? ⟨gb107, 0, none⟩ = some (.int .i64 t101) ∧ w'.cell? ⟨gb107, 1, none⟩ = some (.int .i64 t102) ∧ w'.cell? ⟨gb107, 2, none⟩ = some (.int .i64 t103) ∧ w'.cell? ⟨gb107, 3, none⟩ = some (.slice Ao9 t104.length co9)) (ds := []) #[false, false, false, false, false] (by kernel_rfl) rfl rfl ⟨(blk_cell BK114.out 0).trans rfl, (blk_cell BK114.out 1).trans rfl, (blk_cell BK114.out 2).trans rfl, (blk_cell BK114.out 3).trans rfl, (blk_cell BK107.out 0).trans rfl, (blk_cell BK107.out 1).trans rfl, (blk_cell BK107.out 2).trans rfl, (blk_cell BK107.out 3).trans rfl⟩ (fun hHeld => ?_)
    generalize wc.drew = w31 at HO_108003 HO_115003 BK107 BK114 HB hHeld ⊢
    refine take_ (i := 0) (N := some 26) (v := ?_) (a' := ?_) #[true, false, false, false, false] rfl rfl (by kernel_rfl) (fun _ _ _ h => h) (Or.inl ⟨by rfl, ?_⟩) hHeld ?_ ?_
    rotate_left
    ·
     rintro w' ⟨s0, s1, s2, s3, s4, s5, s6, s7⟩
     go_simp
     with_reducible rfl
    rotate_left
    ·
     simp only [Act.put, List.setIfInBounds_toArray, List.set_cons_zero, List.set_cons_succ, i64_w, i32_w]
     rfl
    refine take_ (i := 1) (N := some 27) (v := ?_) (a' := ?_) #[true, true, false, false, false] rfl rfl (by kernel_rfl) (fun _ _ _ h => h) (Or.inl ⟨by rfl, ?_⟩) hHeld ?_ ?_
    rotate_left
    ·
     rintro w' ⟨s0, s1, s2, s3, s4, s5, s6, s7⟩
     go_simp
     with_reducible rfl
    rotate_left
    ·
     simp only [Act.put, List.setIfInBounds_toArray, List.set_cons_zero, List.set_cons_succ, i64_w, i32_w]
     rfl
    refine one_ (i := 2) (N := some 28) #[true, true, true, false, false] rfl rfl (by kernel_rfl) (by decide) (fun K hK => ?_)
    refine goes_ Try.func7 (by kernel_rfl) rfl #[.agg #[.int .i64 t101, .int .i64 t102, .int .i64 t103, .slice Ao9 t104.length co9]] (by rfl) rfl rfl (by simp only [List.map_toArray, List.map_cons, List.map_nil]; rfl) ?_
    with_reducible refine (spec_EqualizeImage.calls kj4 t101 t102 t103 _ _ t104 t122 t123 t124 t125 _ ?side1 ?side2 A29.out).mono ?_
    (case side1 => repeat (first | exact (Kd.Q_reads' HO_108003.out).2.2 | (with_reducible refine Kd.C_alloc ?_ _) | (with_reducible refine Kd.C_drewN ?_ _) | (with_reducible refine Kd.C_drew ?_)))
    (case side2 => exact (Kd.Q_reads' HO_108003.out).2.1)
    rintro e w32 ⟨v126, rfl, ho0, hb⟩
    refine ⟨_, rfl, ?_⟩
    have HO127 := am_ (Kd.R_lower (Kd.R_new' (Kd.R_new' ho0 (Kd.Q_lt (by exact HO_108003.out))) (Kd.Q_lt (by exact HO_115003.out))) (below_size (by repeat (first | (with_reducible first | exact HB.out | apply below_alloc | apply pw_below_drewN | apply below_drew1 | refine below_set ?_ GE107.out | refine below_set ?_ GE114.out) | exact HB.out))))
    replace HO_108003 := am_ (Kd.Q_elder' (by exact HO_108003.out) (Kd.R_base ho0) hb)
    replace HO_115003 := am_ (Kd.Q_elder' (by exact HO_115003.out) (Kd.R_base ho0) hb)
    replace BK107 := am_ (blk_below (by exact BK107.out) hb)
    replace BK114 := am_ (blk_below (by exact BK114.out) hb)
    replace HB := am_ (below_step (by repeat (first | (with_reducible first | exact HB.out | apply below_alloc | apply pw_below_drewN | apply below_drew1 | refine below_set ?_ GE107.out | refine below_set ?_ GE114.out) | exact HB.out)) hb)
    (try clear hb)
    (try clear hb2)
    (try clear hk)
    (try clear hi)
    (try clear ho0)
    obtain ⟨Ao33, co33, eo33⟩ := Kd.R_slice HO127.out
    (first | subst eo33 | (injection eo33 with f1_ f2_ f3_; have f4_ := f1_.symm; have f5_ := f3_.symm; clear f1_ f2_ f3_; subst f4_; subst f5_))
    refine hK.out _ _ ⟨(blk_cell BK114.out 0).trans rfl, (blk_cell BK114.out 1).trans rfl, (blk_cell BK114.out 2).trans rfl, (blk_cell BK114.out 3).trans rfl, (blk_cell BK107.out 0).trans rfl, (blk_cell BK107.out 1).trans rfl, (blk_cell BK107.out 2).trans rfl, (blk_cell BK107.out 3).trans rfl⟩ (fun hHeld => ?_)
    clear hK K
    refine norm_ (a' := ?_) ?_ ?_
    rotate_left
    ·
     show Act.put _ (some 28) _ = _
     simp only [Act.put, List.setIfInBounds_toArray, List.set_cons_zero, List.set_cons_succ, i64_w, i32_w]
     rfl
    refine one_ (i := 3) (N := some 29) #[true, true, true, true, false] rfl rfl (by kernel_rfl) (by decide) (fun K hK => ?_)
    refine goes_ Try.func6 (by kernel_rfl) rfl #[.agg #[.int .i64 t108, .int .i64 t109, .int .i64 t110, .slice Ao14 t111.length co14], .agg #[.int .i64 t122, .int .i64 t123, .int .i64 t124, .slice Ao33 t125.length co33]] (by rfl) rfl rfl (by simp only [List.map_toArray, List.map_cons, List.map_nil]; rfl) ?_
    with_reducible refine (laws_equalImage.calls kj4 t108 t109 t110 _ _ t111 t122 t123 t124 _ _ t125 t128 _ ?side1 ?side2 ?side3 ?side4 A30.out).mono ?_
    (case side1 => repeat (first | exact (Kd.Q_reads' HO_115003.out).2.2 | (with_reducible refine Kd.C_alloc ?_ _) | (with_reducible refine Kd.C_drewN ?_ _) | (with_reducible refine Kd.C_drew ?_)))
    (case side2 => exact (Kd.Q_reads' HO_115003.out).2.1)
    (case side3 => repeat (first | exact (Kd.R_reads' HO127.out).2.2 | (with_reducible refine Kd.C_alloc ?_ _) | (with_reducible refine Kd.C_drewN ?_ _) | (with_reducible refine Kd.C_drew ?_)))
    (case side4 => exact (Kd.R_reads' HO127.out).2.1)
    rintro e w34 ⟨rfl, hb⟩
    refine ⟨_, rfl, ?_⟩
    replace HO_108003 := am_ (Kd.Q_below (by exact HO_108003.out) hb)
    replace HO_115003 := am_ (Kd.Q_below (by exact HO_115003.out) hb)
    replace HO127 := am_ (Kd.R_below (by exact HO127.out) hb)
    replace BK107 := am_ (blk_below (by exact BK107.out) hb)
    replace BK114 := am_ (blk_below (by exact BK114.out) hb)
    replace HB := am_ (below_step (by repeat (first | (with_reducible first | exact HB.out | apply below_alloc | apply pw_below_drewN | apply below_drew1 | refine below_set ?_ GE107.out | refine below_set ?_ GE114.out) | exact HB.out)) hb)
    (try clear hb)
    (try clear hb2)
    (try clear hk)
    (try clear hi)
    refine hK.out _ _ ⟨(blk_cell BK114.out 0).trans rfl, (blk_cell BK114.out 1).trans rfl, (blk_cell BK114.out 2).trans rfl, (blk_cell BK114.out 3).trans rfl, (blk_cell BK107.out 0).trans rfl, (blk_cell BK107.out 1).trans rfl, (blk_cell BK107.out 2).trans rfl, (blk_cell BK107.out 3).trans rfl⟩ (fun hHeld => ?_)
    clear hK K
    refine norm_ (a' := ?_) ?_ ?_
    rotate_left
    ·
     show Act.put _ (some 29) _ = _
     simp only [Act.put, List.setIfInBounds_toArray, List.set_cons_zero, List.set_cons_succ, i64_w, i32_w]
     rfl
    refine pure_ (i := 4) (N := some 2) (v := ?_) (a' := ?_) #[true, true, true, true, true] rfl rfl (by kernel_rfl) (fun _ _ _ h => h) (Or.inl ⟨by rfl, ?_⟩) ?_ ?_
    rotate_left
    ·
     intro w'
     go_simp
     with_reducible rfl
    rotate_left
    ·
     simp only [Act.put, List.setIfInBounds_toArray, List.set_cons_zero, List.set_cons_succ, i64_w, i32_w]
     rfl
    refine done_ (by kernel_rfl) ?_
    try go_wp2
    go_ret
    exact ⟨by first | rfl | (simp [errW_none, errW_some] <;> rfl) | (simp [*, errW_none, errW_some] <;> rfl), by repeat (first | (with_reducible first | exact HB.out | apply below_alloc | apply pw_below_drewN | apply below_drew1 | refine below_set ?_ GE107.out | refine below_set ?_ GE114.out) | exact HB.out)⟩
   replace c28 := Bool.eq_false_iff.mpr c28
   subst c28
   have H1 : (laws_FnEqualizeImage.l0 kj4 255 0 true 0 t101 t102 t103 t104 t108 t109 t110 t111) = some r := by rw [if_neg (show ¬ (false = true) by decide)] at H; exact H
   clear H
   have H := H1
   clear H1
   have H' := Aside0.mk H
   clear H
   go_wp2
   go_loopg [5, 6, 7, 8] kj4 (fun kq v5 v6 v7 v8 w' => ∃ (x5_2 : Int) (x6_2 : Int) (x7_2 : Bool) (x8_2 : Int), v5 = .int .i64 x5_2 ∧ v6 = .int .i64 x6_2 ∧ v7 = .bool x7_2 ∧ v8 = .int .i64 x8_2 ∧ Aside0 (laws_FnEqualizeImage.l0 kq x5_2 x6_2 x7_2 x8_2 t101 t102 t103 t104 t108 t109 t110 t111 = some r) ∧ Aside0 (kq ≤ kj4) ∧ Aside0 (Kd.Q (Kd.int .i64) 3 w' w.heap.size (fun k_ => some k_ ≠ ((.slice Ao14 t111.length co14) : Value).ownBlock) (.slice Ao9 t104.length co9) t104) ∧ Aside0 (Kd.Q (Kd.int .i64) 3 w' w.heap.size (fun k_ => some k_ ≠ ((.slice Ao9 t104.length co9) : Value).ownBlock) (.slice Ao14 t111.length co14) t111) ∧ Aside0 (w'.heap[gb107]? = some (.cells #[.int .i64 t101, .int .i64 t102, .int .i64 t103, (.slice Ao9 t104.length co9)] 25 (0, 0))) ∧ Aside0 (w'.heap[gb114]? = some (.cells #[.int .i64 t108, .int .i64 t109, .int .i64 t110, (.slice Ao14 t111.length co14)] 25 (0, 0))) ∧ Aside0 (Below w.heap.size w w'))
   case atStart => exact ⟨(255), (0), (true), (0), (by first | rfl | (simp; done) | (simp [*]; done)), (by first | rfl | (simp; done) | (simp [*]; done)), (by first | rfl | (simp; done) | (simp [*]; done)), (by first | rfl | (simp; done) | (simp [*]; done)), H', ⟨Nat.le_refl _⟩, ⟨by exact HO_108003.out⟩, ⟨by exact HO_115003.out⟩, ⟨by exact BK107.out⟩, ⟨by exact BK114.out⟩, ⟨by repeat (first | (with_reducible first | exact HB.out | apply below_alloc | apply pw_below_drewN | apply below_drew1 | refine below_set ?_ GE107.out | refine below_set ?_ GE114.out) | exact HB.out)⟩⟩
   case round =>
    clear H'
    try clear c1
    try clear c2
    try clear c2b0
    try clear c2b1
    try clear p2
    try clear c3
    try clear c4
    try clear c5
    try clear c6
    try clear c7
    try clear c12
    try clear c17
    try clear c28
    try clear hcz13_0
    try clear hcz13_1
    try clear hcz13_2
    try clear hcz13_3
    try clear hcz8_0
    try clear hcz8_1
    try clear hcz8_2
    try clear hcz8_3
    try clear hfz13_0
    try clear hfz13_1
    try clear hfz13_2
    try clear hfz13_3
    try clear hfz8_0
    try clear hfz8_1
    try clear hfz8_2
    try clear hfz8_3
    try clear p2
    obtain ⟨x5_2, x6_2, x7_2, x8_2, rfl, rfl, rfl, rfl, HA, HK2, HO_108003, HO_115003, BK107, BK114, HB⟩ := hrel
    cases gk with
    | zero => exact absurd HA.out (by simp [laws_FnEqualizeImage.l0])
    | succ k2 =>
     have H := HA.out
     clear HA
     simp only [laws_FnEqualizeImage.l0] at H
     by_cases c35 : x8_2 < (t104.length : Int)
     rotate_left
     ·
      rw [if_neg c35] at H
      have c35b0 : decide (x8_2 < (t104.length : Int)) = false := decide_eq_false c35
      clear c35
      by_cases c227 : x7_2 = true
      ·
       subst c227
       have H1 : ((laws_equalImage.f k2 t108 t109 t110 t111 t101 t102 t103 t104).bind fun t189 => (if t189 = true then (some true) else (some false))) = some r := by rw [if_pos rfl] at H; exact H
       clear H
       have H := H1
       clear H1
       replace H := Option.bind_eq_some_iff.mp H
       obtain ⟨t189, A2280, H⟩ := H
       replace H : (if t189 = true then (some true) else (some false)) = some r := H
       have A228 := Aside0.mk A2280
       clear A2280
       by_cases c229 : t189 = true
       ·
        subst c229
        have H1 : (some true) = some r := by rw [if_pos rfl] at H; exact H
        clear H
        have H := H1
        clear H1
        obtain rfl := Option.some.inj H
        have hnb230 := NB107_114.out
        have hnc230 := NB114_107.out
        obtain ⟨hcz231_0, hcz231_1, hcz231_2, hcz231_3, hfz231_0, hfz231_1, hfz231_2, hfz231_3⟩ := blk4_ BK107.out
        obtain ⟨hcz232_0, hcz232_1, hcz232_2, hcz232_3, hfz232_0, hfz232_1, hfz232_2, hfz232_3⟩ := blk4_ BK114.out
        go_wp2_with (first | (go_at_call 6; (with_reducible refine (laws_equalImage.calls k2 t108 t109 t110 _ _ t111 t101 t102 t103 _ _ t104 true _ ?side1 ?side2 ?side3 ?side4 A228.out).mono ?_); (case side1 => repeat (first | exact (Kd.Q_reads' HO_115003.out).2.2 | (with_reducible refine Kd.C_alloc ?_ _) | (with_reducible refine Kd.C_drewN ?_ _) | (with_reducible refine Kd.C_drew ?_))); (case side2 => exact (Kd.Q_reads' HO_115003.out).2.1); (case side3 => repeat (first | exact (Kd.Q_reads' HO_108003.out).2.2 | (with_reducible refine Kd.C_alloc ?_ _) | (with_reducible refine Kd.C_drewN ?_ _) | (with_reducible refine Kd.C_drew ?_))); (case side4 => exact (Kd.Q_reads' HO_108003.out).2.1); rintro e w233 ⟨rfl, hb⟩; replace HO_108003 := am_ (Kd.Q_below (by exact HO_108003.out) hb); replace HO_115003 := am_ (Kd.Q_below (by exact HO_115003.out) hb); replace BK107 := am_ (blk_below (by exact BK107.out) hb); replace BK114 := am_ (blk_below (by exact BK114.out) hb); replace HB := am_ (below_step (by repeat (first | (with_reducible first | exact HB.out | apply below_alloc | apply pw_below_drewN | apply below_drew1 | refine below_set ?_ GE107.out | refine below_set ?_ GE114.out) | exact HB.out)) hb); (try clear hb); (try clear hb2); (try clear hk); (try clear hi)))
        go_ret
        exact ⟨by first | rfl | (simp [errW_none, errW_some] <;> rfl) | (simp [*, errW_none, errW_some] <;> rfl), by repeat (first | (with_reducible first | exact HB.out | apply below_alloc | apply pw_below_drewN | apply below_drew1 | refine below_set ?_ GE107.out | refine below_set ?_ GE114.out) | exact HB.out)⟩
       replace c229 := Bool.eq_false_iff.mpr c229
       subst c229
       have H1 : (some false) = some r := by rw [if_neg (show ¬ (false = true) by decide)] at H; exact H
       clear H
       have H := H1
       clear H1
       obtain rfl := Option.some.inj H
       have hnb234 := NB107_114.out
       have hnc234 := NB114_107.out
       obtain ⟨hcz235_0, hcz235_1, hcz235_2, hcz235_3, hfz235_0, hfz235_1, hfz235_2, hfz235_3⟩ := blk4_ BK107.out
       obtain ⟨hcz236_0, hcz236_1, hcz236_2, hcz236_3, hfz236_0, hfz236_1, hfz236_2, hfz236_3⟩ := blk4_ BK114.out
       go_wp2_with (first | (go_at_call 6; (with_reducible refine (laws_equalImage.calls k2 t108 t109 t110 _ _ t111 t101 t102 t103 _ _ t104 false _ ?side1 ?side2 ?side3 ?side4 A228.out).mono ?_); (case side1 => repeat (first | exact (Kd.Q_reads' HO_115003.out).2.2 | (with_reducible refine Kd.C_alloc ?_ _) | (with_reducible refine Kd.C_drewN ?_ _) | (with_reducible refine Kd.C_drew ?_))); (case side2 => exact (Kd.Q_reads' HO_115003.out).2.1); (case side3 => repeat (first | exact (Kd.Q_reads' HO_108003.out).2.2 | (with_reducible refine Kd.C_alloc ?_ _) | (with_reducible refine Kd.C_drewN ?_ _) | (with_reducible refine Kd.C_drew ?_))); (case side4 => exact (Kd.Q_reads' HO_108003.out).2.1); rintro e w237 ⟨rfl, hb⟩; replace HO_108003 := am_ (Kd.Q_below (by exact HO_108003.out) hb); replace HO_115003 := am_ (Kd.Q_below (by exact HO_115003.out) hb); replace BK107 := am_ (blk_below (by exact BK107.out) hb); replace BK114 := am_ (blk_below (by exact BK114.out) hb); replace HB := am_ (below_step (by repeat (first | (with_reducible first | exact HB.out | apply below_alloc | apply pw_below_drewN | apply below_drew1 | refine below_set ?_ GE107.out | refine below_set ?_ GE114.out) | exact HB.out)) hb); (try clear hb); (try clear hb2); (try clear hk); (try clear hi)))
       go_ret
       exact ⟨by first | rfl | (simp [errW_none, errW_some] <;> rfl) | (simp [*, errW_none, errW_some] <;> rfl), by repeat (first | (with_reducible first | exact HB.out | apply below_alloc | apply pw_below_drewN | apply below_drew1 | refine below_set ?_ GE107.out | refine below_set ?_ GE114.out) | exact HB.out)⟩
      replace c227 := Bool.eq_false_iff.mpr c227
      subst c227
      have H1 : (if x5_2 = 0 then (some (x6_2 == 255)) else (some false)) = some r := by rw [if_neg (show ¬ (false = true) by decide)] at H; exact H
      clear H
      have H := H1
      clear H1
      by_cases c238 : x5_2 = 0
      ·
       rw [if_pos c238] at H
       have c238b0 : (x5_2 == 0) = true := beq_iff_eq.mpr c238
       have c238b1 : (x5_2 != 0) = false := bne_eq_false_iff_eq.mpr c238
       clear c238
       obtain rfl := Option.some.inj H
       have hnb239 := NB107_114.out
       have hnc239 := NB114_107.out
       obtain ⟨hcz240_0, hcz240_1, hcz240_2, hcz240_3, hfz240_0, hfz240_1, hfz240_2, hfz240_3⟩ := blk4_ BK107.out
       go_wp2
       go_ret
       exact ⟨by first | rfl | (simp [errW_none, errW_some] <;> rfl) | (simp [*, errW_none, errW_some] <;> rfl), by repeat (first | (with_reducible first | exact HB.out | apply below_alloc | apply pw_below_drewN | apply below_drew1 | refine below_set ?_ GE107.out | refine below_set ?_ GE114.out) | exact HB.out)⟩
      rw [if_neg c238] at H
      have c238b0 : (x5_2 == 0) = false := beq_eq_false_iff_ne.mpr c238
      have c238b1 : (x5_2 != 0) = true := bne_iff_ne.mpr c238
      obtain rfl := Option.some.inj H
      have hnb241 := NB107_114.out
      have hnc241 := NB114_107.out
      obtain ⟨hcz242_0, hcz242_1, hcz242_2, hcz242_3, hfz242_0, hfz242_1, hfz242_2, hfz242_3⟩ := blk4_ BK107.out
      go_wp2
      go_ret
      exact ⟨by first | rfl | (simp [errW_none, errW_some] <;> rfl) | (simp [*, errW_none, errW_some] <;> rfl), by repeat (first | (with_reducible first | exact HB.out | apply below_alloc | apply pw_below_drewN | apply below_drew1 | refine below_set ?_ GE107.out | refine below_set ?_ GE114.out) | exact HB.out)⟩
     rw [if_pos c35] at H
     have c35b0 : decide (x8_2 < (t104.length : Int)) = true := decide_eq_true c35
     clear c35
     by_cases c36 : 0 ≤ x8_2
     rotate_left
     ·
      rw [if_neg c36] at H
      exact absurd H (by simp)
     rw [if_pos c36] at H
     have c36b0 : decide (0 ≤ x8_2) = true := decide_eq_true c36
     clear c36
     by_cases c37 : x8_2 < (t111.length : Int)
     rotate_left
     ·
      rw [if_neg c37] at H
      exact absurd H (by simp)
     rw [if_pos c37] at H
     have c37b0 : decide (x8_2 < (t111.length : Int)) = true := decide_eq_true c37
     clear c37
     by_cases c38 : 0 < (t104.length : Int)
     rotate_left
     ·
      rw [if_neg c38] at H
      exact absurd H (by simp)
     rw [if_pos c38] at H
     by_cases c39 : 0 < (t111.length : Int)
     rotate_left
     ·
      rw [if_neg c39] at H
      exact absurd H (by simp)
     rw [if_pos c39] at H
     have c38b0 : decide (0 < (t104.length : Int)) = true := decide_eq_true c38
     have c38b1 : decide (0 < t104.length) = true := decide_eq_true (by omega)
     have c39b0 : decide (0 < (t111.length : Int)) = true := decide_eq_true c39
     have c39b1 : decide (0 < t111.length) = true := decide_eq_true (by omega)
     have qi1 : (0 < t104.length) = True := eq_true (by omega)
     have qi2 : (0 < t111.length) = True := eq_true (by omega)
     have hnb45 := NB107_114.out
     have hnc45 := NB114_107.out
     obtain ⟨hcz46_0, hcz46_1, hcz46_2, hcz46_3, hfz46_0, hfz46_1, hfz46_2, hfz46_3⟩ := blk4_ BK107.out
     obtain ⟨hcz47_0, hcz47_1, hcz47_2, hcz47_3, hfz47_0, hfz47_1, hfz47_2, hfz47_3⟩ := blk4_ BK114.out
     have p1 : 0 ≤ (x8_2 : Int) := of_decide_eq_true (by assumption)
     have q1 : x8_2 < (t104.length : Int) := of_decide_eq_true (by assumption)
     have q2 : x8_2 < (t111.length : Int) := of_decide_eq_true (by assumption)
     obtain ⟨ad131, e131, hx131_0⟩ := Kd.at_int (Kd.Q_reads' HO_108003.out).2.2 x8_2 p1 q1
     cases e131
     obtain ⟨ad132, e132, hx132_0⟩ := Kd.at_int (Kd.Q_reads' HO_108003.out).2.2 0 (by omega) c38
     obtain rfl : ad131 = ad132 := (by injection e132)
     obtain ⟨ad141, e141, hx141_0⟩ := Kd.at_int (Kd.Q_reads' HO_115003.out).2.2 x8_2 p1 q2
     cases e141
     obtain ⟨ad142, e142, hx142_0⟩ := Kd.at_int (Kd.Q_reads' HO_115003.out).2.2 0 (by omega) c39
     obtain rfl : ad141 = ad142 := (by injection e142)
     (try rw [show ((0 : Int)).toNat = 0 from rfl] at hx132_0)
     (try rw [Addr.add_zero'] at hx132_0)
     (try rw [show ((0 : Int)).toNat = 0 from rfl] at hx142_0)
     (try rw [Addr.add_zero'] at hx142_0)
     clear c38 c39
     replace p1 := eq_true p1
     replace q1 := eq_true q1
     replace q2 := eq_true q2
     generalize rd t104 x8_2 = a at hx131_0 H
     generalize rd t104 0 = a0 at hx132_0 H
     generalize rd t111 x8_2 = u at hx141_0 H
     generalize rd t111 0 = u0 at hx142_0 H
     obtain ⟨ji38, hji38⟩ : ∃ j_ : Int, mn x5_2 u = j_ := ⟨_, rfl⟩
     obtain ⟨ji39, hji39⟩ : ∃ j_ : Int, mx x6_2 u = j_ := ⟨_, rfl⟩
     rw [hji38, hji39] at H
     have hji38_ : (if u < x5_2 then u else x5_2) = ji38 := hji38
     have hji39_ : (if x6_2 < u then u else x6_2) = ji39 := hji39
     clear hji38 hji39
     dsimp only [List.append]
     by_cases hbad : eqBad a a0 u u0 = true
     ·
      rw [if_pos hbad] at H
      obtain rfl := Option.some.inj H
      rcases (eqBad_iff a a0 u u0).1 hbad with ⟨h1, h2⟩ | ⟨h1, h2⟩ | ⟨h1, h2⟩ <;> cases x7_2
      all_goals
       (first | have d1 : decide (a < a0) = true := decide_eq_true (by omega) | have d1 : decide (a < a0) = false := decide_eq_false (by omega))
       (first | have d2 : decide (a0 < a) = true := decide_eq_true (by omega) | have d2 : decide (a0 < a) = false := decide_eq_false (by omega))
       (first | have d3 : (a == a0) = true := beq_iff_eq.mpr (by omega) | have d3 : (a == a0) = false := beq_eq_false_iff_ne.mpr (by omega))
       (try have d5 : decide (u0 < u) = true := decide_eq_true (by omega))
       (try have d6 : decide (u < u0) = true := decide_eq_true (by omega))
       (try have d8 : (u != u0) = true := bne_iff_ne.mpr (by omega))
       clear hbad h1 h2
       go_wp2
       go_quiet (fail)
       go_wp2
       go_quiet (fail)
       go_wp2
       go_ret
       exact ⟨rfl, by repeat (first | (with_reducible first | exact HB.out | apply below_alloc | apply pw_below_drewN | apply below_drew1) | exact HB.out)⟩
     rw [if_neg hbad] at H
     have H' := Aside0.mk H
     clear H
     have hgood := eqBad_not a a0 u u0 hbad
     clear hbad
     rcases hgood with ⟨h1, h2⟩ | ⟨h1, h2⟩ | ⟨h1, h2⟩ <;> cases x7_2
     all_goals
      (first | have d1 : decide (a < a0) = true := decide_eq_true (by omega) | have d1 : decide (a < a0) = false := decide_eq_false (by omega))
      (first | have d2 : decide (a0 < a) = true := decide_eq_true (by omega) | have d2 : decide (a0 < a) = false := decide_eq_false (by omega))
      (first | have d3 : (a == a0) = true := beq_iff_eq.mpr (by omega) | have d3 : (a == a0) = false := beq_eq_false_iff_ne.mpr (by omega))
      (try have d5 : decide (u0 < u) = false := decide_eq_false (by omega))
      (try have d6 : decide (u < u0) = false := decide_eq_false (by omega))
      (try have d8 : (u != u0) = false := bne_eq_false_iff_eq.mpr (by omega))
      have H2_ := H'.out
      simp only [d3, Bool.true_and, Bool.false_and] at H2_
      replace H' := Aside0.mk H2_
      clear H2_ h1 h2
      go_wp2
      go_quiet (fail)
      go_wp2
      go_quiet (fail)
      go_wp2
      go_roundg k2
      case measure => have := HJ4.out; have := HK2.out; omega
      case rel => exact ⟨ji38, ji39, _, (wrap64 (x8_2 + 1)), rfl, rfl, rfl, rfl, H', ⟨by have := HJ4.out; have := HK2.out; omega⟩, ⟨by (with_reducible repeat (first | apply Kd.Q_drewN | apply Kd.Q_drew)); exact HO_108003.out⟩, ⟨by (with_reducible repeat (first | apply Kd.Q_drewN | apply Kd.Q_drew)); exact HO_115003.out⟩, ⟨by exact BK107.out⟩, ⟨by exact BK114.out⟩, ⟨by repeat (first | (with_reducible first | exact HB.out | apply below_alloc | apply pw_below_drewN | apply below_drew1) | exact HB.out)⟩⟩

/-- THE ONE PURE STATEMENT of laws_FnEqualizeImage: yours. -/
def laws_FnEqualizeImage.Pure : Prop := ∀ (l0 : List Int), l0.length ≤ maxLen → l0.length * 1 ≤ 140737488351232 → (∀ x ∈ l0, (Lit.int .u8 x).wf = true) → ∃ k, laws_FnEqualizeImage.f k l0 = some true
theorem laws_FnEqualizeImage.walk (P : laws_FnEqualizeImage.Pure) (a0 : Option Addr) (len0 cap0 : Nat) (z0 : List Int) (w : World) (w0 : (a0 = none ∧ len0 = 0 ∧ cap0 = 0 ∧ z0 = []) ∨ ∃ x, a0 = some x ∧ len0 ≤ cap0 ∧ cap0 ≤ maxLen ∧ z0.length = cap0 ∧ (∀ i, i < z0.length → w.cell? (x.add i) = some (.int .u8 (z0.getD i 0))) ∧ ∀ n ∈ z0, (Lit.int .u8 n).wf = true) (y0 : len0 * 1 ≤ 140737488351232) :
  Calls Try.prog 3 #[.slice a0 len0 cap0] w fun e w' => e = .returned (.bool true) ∧ Below w.heap.size w w' := by
 obtain ⟨l0, rfl, hr0, hm0, hw0, hc0⟩ := ReadsInt.ofRowC w0
 obtain ⟨k, h⟩ := P l0 hm0 y0 hw0
 refine (laws_FnEqualizeImage.calls k _ _ l0 true w (Kd.C_of_reads (d := (0 : Int)) (h1 := fun _ => rfl) hr0) hc0 h).mono ?_
 rintro e w' ⟨rfl, hd⟩
 exact ⟨rfl, hd⟩

end Go.Proofs.Ytfljcejkgdkkeaa.Print
