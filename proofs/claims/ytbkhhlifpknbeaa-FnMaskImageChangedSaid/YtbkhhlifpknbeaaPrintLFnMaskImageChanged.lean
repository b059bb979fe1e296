-- laid by hp.py (a program of this work over the kit's print), with contracts by hand for what the print does not take
import Derived.Test.YtbkhhlifpknbeaaPrint0
import Derived.Test.YtbkhhlifpknbeaaPrintHimplChangedRegion
import Derived.Test.YtbkhhlifpknbeaaPrintHimplMaskImage
import Derived.Test.YtbkhhlifpknbeaaPrintHx0
import Derived.Test.YtbkhhlifpknbeaaPrintR1x2
import Derived.Test.YtbkhhlifpknbeaaPrintR1x3
namespace Go.Proofs.Ytbkhhlifpknbeaa.Print
open Go.RowKit Go.Proofs.YtbkhhlifpknbeaaW.PrintWords Go.Proofs.YtbkhhlifpknbeaaW.PrintLast Go.Proofs.YtbkhhlifpknbeaaW.PrintMore
attribute [local go_sem] max2_int min2_int max_two min_two max_three min_three max_four min_four   -- for this text's walks alone
set_option linter.unusedVariables false
set_option linter.unusedSimpArgs false

/-! ### laws_FnMaskImageChanged: function 3 -/
def laws_FnMaskImageChanged.j0 : Nat → Bool → Bool → Bool → Int → Int → Int → List Int → Int → Int → Int → List Int → Int → Int → Int → List Int → Int → Int → Int → List Int → Option (Bool)
 | 0, _, _, _, _, _, _, _, _, _, _, _, _, _, _, _, _, _, _, _ => none
 | k + 1, x7, x9, x47, x117000, x117001, x117002, x117003, x118000, x118001, x118002, x118003, x126000, x126001, x126002, x126003, x134000, x134001, x134002, x134003 => if x47 = true then ((laws_equalImage.f k x126000 x126001 x126002 x126003 x134000 x134001 x134002 x134003).bind fun t135 => (if t135 = true then (some (x7 == x9)) else (none))) else ((impl_ChangedRegion.f x117000 x117001 x117002 x117003 x118000 x118001 x118002 x118003).bind fun t136 => ((impl_MaskImage.f x117000 x117001 x117002 x117003 x118000 x118001 x118002 x118003 t136).bind fun bt139 => (if bt139.2.2.2.2 = true then ((laws_equalImage.f k bt139.1 bt139.2.1 bt139.2.2.1 bt139.2.2.2.1 x118000 x118001 x118002 x118003).bind fun t147 => (some t147)) else (none))))
def laws_FnMaskImageChanged.f (k : Nat) (l0 : List Int) : Option (Bool) := if (l0.length : Int) > 1048576 then (some true) else ((spec_DrawMaskImage.f k l0).bind fun bt101 => ((impl_MaskImage.f bt101.1 bt101.2.1 bt101.2.2.1 bt101.2.2.2.1 bt101.2.2.2.2.1 bt101.2.2.2.2.2.1 bt101.2.2.2.2.2.2.1 bt101.2.2.2.2.2.2.2.1 bt101.2.2.2.2.2.2.2.2).bind fun bt118 => ((spec_MaskImage.f k bt101.1 bt101.2.1 bt101.2.2.1 bt101.2.2.2.1 bt101.2.2.2.2.1 bt101.2.2.2.2.2.1 bt101.2.2.2.2.2.2.1 bt101.2.2.2.2.2.2.2.1 bt101.2.2.2.2.2.2.2.2).bind fun bt126 => ((laws_equalImage.f k bt118.1 bt118.2.1 bt118.2.2.1 bt118.2.2.2.1 bt126.1 bt126.2.1 bt126.2.2.1 bt126.2.2.2.1).bind fun t134 => (if t134 = true then (if (bt118.2.2.2.2 != bt126.2.2.2.2) = true then (none) else (laws_FnMaskImageChanged.j0 k bt118.2.2.2.2 bt126.2.2.2.2 (!bt118.2.2.2.2) bt101.1 bt101.2.1 bt101.2.2.1 bt101.2.2.2.1 bt101.2.2.2.2.1 bt101.2.2.2.2.2.1 bt101.2.2.2.2.2.2.1 bt101.2.2.2.2.2.2.2.1 bt118.1 bt118.2.1 bt118.2.2.1 bt118.2.2.2.1 bt126.1 bt126.2.1 bt126.2.2.1 bt126.2.2.2.1)) else (none))))))
theorem laws_FnMaskImageChanged.mono_l : ∀ k, (∀ y0 y1 y2 y3 y4 y5 y6 y7 y8 y9 y10 y11 y12 y13 y14 y15 y16 y17 y18, LeO (laws_FnMaskImageChanged.j0 k y0 y1 y2 y3 y4 y5 y6 y7 y8 y9 y10 y11 y12 y13 y14 y15 y16 y17 y18) (laws_FnMaskImageChanged.j0 (k + 1) y0 y1 y2 y3 y4 y5 y6 y7 y8 y9 y10 y11 y12 y13 y14 y15 y16 y17 y18))
 | 0 => fun _ _ _ _ _ _ _ _ _ _ _ _ _ _ _ _ _ _ _ r h => by simp [laws_FnMaskImageChanged.j0] at h
 | k + 1 => by
  have ih0 := laws_FnMaskImageChanged.mono_l k
  intro y0 y1 y2 y3 y4 y5 y6 y7 y8 y9 y10 y11 y12 y13 y14 y15 y16 y17 y18
  unfold laws_FnMaskImageChanged.j0
  repeat' first
  | (with_reducible exact ih0 _ _ _ _ _ _ _ _ _ _ _ _ _ _ _ _ _ _ _)
  | (with_reducible exact laws_equalImage.mono _ _ _ _ _ _ _ _ _)
  | (with_reducible exact spec_DrawMaskImage.mono _ _)
  | (with_reducible exact spec_MaskImage.mono _ _ _ _ _ _ _ _ _ _)
  | (with_reducible exact LeO.refl _)
  | (with_reducible exact LeO.none _)
  | (with_reducible refine LeO.ite ?_ ?_)
  | (with_reducible refine LeO.bind ?_ (fun _ => ?_))
  | exact ih0 _ _ _ _ _ _ _ _ _ _ _ _ _ _ _ _ _ _ _
  | exact laws_equalImage.mono _ _ _ _ _ _ _ _ _
  | exact spec_DrawMaskImage.mono _ _
  | exact spec_MaskImage.mono _ _ _ _ _ _ _ _ _ _
  | exact LeO.none _
  | refine LeO.ite ?_ ?_
  | refine LeO.bind ?_ (fun _ => ?_)
theorem laws_FnMaskImageChanged.mono : ∀ a0 k, LeO (laws_FnMaskImageChanged.f k a0) (laws_FnMaskImageChanged.f (k + 1) a0) := by
 intro a0 k
 have ih0 := laws_FnMaskImageChanged.mono_l k
 unfold laws_FnMaskImageChanged.f
 repeat' first
   | (with_reducible exact ih0 _ _ _ _ _ _ _ _ _ _ _ _ _ _ _ _ _ _ _)
   | (with_reducible exact laws_equalImage.mono _ _ _ _ _ _ _ _ _)
   | (with_reducible exact spec_DrawMaskImage.mono _ _)
   | (with_reducible exact spec_MaskImage.mono _ _ _ _ _ _ _ _ _ _)
   | (with_reducible exact LeO.refl _)
   | (with_reducible exact LeO.none _)
   | (with_reducible refine LeO.ite ?_ ?_)
   | (with_reducible refine LeO.bind ?_ (fun _ => ?_))
   | exact ih0 _ _ _ _ _ _ _ _ _ _ _ _ _ _ _ _ _ _ _
   | exact laws_equalImage.mono _ _ _ _ _ _ _ _ _
   | exact spec_DrawMaskImage.mono _ _
   | exact spec_MaskImage.mono _ _ _ _ _ _ _ _ _ _
   | exact LeO.none _
   | refine LeO.ite ?_ ?_
   | refine LeO.bind ?_ (fun _ => ?_)
def laws_FnMaskImageChanged.T8 : Bool × List (List Nat × List Nat) := (true, [([], []), ([], []), ([], []), ([], []), ([2, 3], [2, 3]), ([0, 1, 4, 4], [0, 1, 4]), ([5], [5]), ([6], [6]), ([6], [6]), ([], []), ([9, 7, 5, 0, 1, 2, 3, 4, 5, 6, 7, 9], [7, 9]), ([8, 10, 0, 1, 2, 3, 4, 5, 6, 7, 8, 9, 10], [8])])
def laws_FnMaskImageChanged.B8 : List Nat := [0, 0, 0, 0, 12, 31, 63, 127, 127, 0, 767, 2047]
theorem laws_FnMaskImageChanged.tab8 : rtab .any (opsOf Try.f3 8) = laws_FnMaskImageChanged.T8 := by kernel_rfl
theorem laws_FnMaskImageChanged.bits8 : waitsOk laws_FnMaskImageChanged.T8.2 laws_FnMaskImageChanged.B8 = true := by kernel_rfl
set_option maxHeartbeats 8000000 in
set_option maxRecDepth 100000 in
theorem laws_FnMaskImageChanged.calls (k : Nat) (A0 : Option Addr) (c0 : Nat) (l0 : List Int) (r : Bool) (w : World) (hr0 : Kd.C (Kd.int .u8) w A0 l0.length l0) (hc0 : l0.length ≤ c0) (h : laws_FnMaskImageChanged.f k l0 = some r) :
  Calls Try.prog 3 #[.slice A0 l0.length c0] w fun e w' => e = .returned (.bool r) ∧ Below w.heap.size w w' := by
 have hu25 := Try.underlying25
 have HR0 := Aside0.mk hr0
 have HC0 := Aside0.mk hc0
 clear hr0 hc0
 have HB := Aside0.mk (Below.refl w.heap.size w)
 have H : (if (l0.length : Int) > 1048576 then (some true) else ((spec_DrawMaskImage.f k l0).bind fun bt101 => ((impl_MaskImage.f bt101.1 bt101.2.1 bt101.2.2.1 bt101.2.2.2.1 bt101.2.2.2.2.1 bt101.2.2.2.2.2.1 bt101.2.2.2.2.2.2.1 bt101.2.2.2.2.2.2.2.1 bt101.2.2.2.2.2.2.2.2).bind fun bt118 => ((spec_MaskImage.f k bt101.1 bt101.2.1 bt101.2.2.1 bt101.2.2.2.1 bt101.2.2.2.2.1 bt101.2.2.2.2.2.1 bt101.2.2.2.2.2.2.1 bt101.2.2.2.2.2.2.2.1 bt101.2.2.2.2.2.2.2.2).bind fun bt126 => ((laws_equalImage.f k bt118.1 bt118.2.1 bt118.2.2.1 bt118.2.2.2.1 bt126.1 bt126.2.1 bt126.2.2.1 bt126.2.2.2.1).bind fun t134 => (if t134 = true then (if (bt118.2.2.2.2 != bt126.2.2.2.2) = true then (none) else (laws_FnMaskImageChanged.j0 k bt118.2.2.2.2 bt126.2.2.2.2 (!bt118.2.2.2.2) bt101.1 bt101.2.1 bt101.2.2.1 bt101.2.2.2.1 bt101.2.2.2.2.1 bt101.2.2.2.2.2.1 bt101.2.2.2.2.2.2.1 bt101.2.2.2.2.2.2.2.1 bt118.1 bt118.2.1 bt118.2.2.1 bt118.2.2.2.1 bt126.1 bt126.2.1 bt126.2.2.1 bt126.2.2.2.1)) else (none))))))) = some r := h
 clear h
 by_cases c2 : (l0.length : Int) > 1048576
 ·
  rw [if_pos c2] at H
  have c2b0 : decide (1048576 < (l0.length : Int)) = true := decide_eq_true c2
  have c2b1 : decide (1048576 < l0.length) = true := decide_eq_true (by omega)
  clear c2
  obtain rfl := Option.some.inj H
  go_enter Try.func3, Try.ntmps3
  go_wp2
  go_ret
  exact ⟨by first | rfl | (simp [errW_none, errW_some] <;> rfl) | (simp [*, errW_none, errW_some] <;> rfl), by repeat (first | (with_reducible first | exact HB.out | apply below_alloc | apply pw_below_drewN | apply below_drew1) | exact HB.out)⟩
 rw [if_neg c2] at H
 have c2b0 : decide (1048576 < (l0.length : Int)) = false := decide_eq_false c2
 have c2b1 : decide (1048576 < l0.length) = false := decide_eq_false (by omega)
 clear c2
 replace H := Option.bind_eq_some_iff.mp H
 obtain ⟨⟨t101, t102, t103, t104, t107, t108, t109, t110, t113⟩, A30, H⟩ := H
 (try dsimp only at H)
 have A3 := Aside0.mk A30
 clear A30
 replace H := Option.bind_eq_some_iff.mp H
 obtain ⟨⟨t118, t119, t120, t121, t124⟩, A40, H⟩ := H
 (try dsimp only at H)
 have A4 := Aside0.mk A40
 clear A40
 replace H := Option.bind_eq_some_iff.mp H
 obtain ⟨⟨t126, t127, t128, t129, t132⟩, A50, H⟩ := H
 (try dsimp only at H)
 have A5 := Aside0.mk A50
 clear A50
 have HC6 := Aside0.mk H
 clear H
 go_enter Try.func3, Try.ntmps3
 go_upto_region 6 with (first | ((with_reducible refine gate_callee (f := 5) rfl ?_); refine goesL_ (some 17) rfl rfl Try.func5 (by kernel_rfl) rfl #[.slice A0 l0.length c0] rfl (by simp only [List.map_toArray, List.map_cons, List.map_nil]; rfl) ?_; (with_reducible refine (spec_DrawMaskImage.calls k _ _ l0 t101 t102 t103 t104 t107 t108 t109 t110 t113 _ ?side1 ?side2 A3.out).mono ?_); (case side1 => repeat (first | exact HR0.out | (with_reducible refine Kd.C_alloc ?_ _) | (with_reducible refine Kd.C_drewN ?_ _) | (with_reducible refine Kd.C_drew ?_))); (case side2 => exact HC0.out); rintro e w7 ⟨v105, v111, v114, rfl, ho0, ho1, ho2, hb⟩; refine ⟨_, rfl, ?_⟩; have HO106 := am_ (Kd.Q_lower ho0 (below_size (hb_ : Below w.heap.size w _))); have HO112 := am_ (Kd.Q_lower ho1 (below_size (hb_ : Below w.heap.size w _))); have HO115 := am_ (Kd.R_lower ho2 (below_size (hb_ : Below w.heap.size w _))); replace HB := am_ (below_step (hb_ : Below w.heap.size w _) hb); (try clear hb); (try clear ho0); (try clear ho1); (try clear ho2)) | ((with_reducible refine gate_dst (N := 3) rfl ?_); refine box_event ?hg (N := 3) ?hd (cs := #[.int .i64 0, .int .i64 0, .int .i64 0, .slice none 0 0]) (t := 25) ?hr ?_; (case hd => rfl); (case hg => rfl); (case hr => first | (go_simp; done) | (go_simp; rfl)); intro gb116 hg w8 hbox hb; replace HO106 := am_ (Kd.Q_below (by exact HO106.out) hb); replace HO112 := am_ (Kd.Q_below (by exact HO112.out) hb); replace HO115 := rb_ HO115 hb; have BK116 := am_ (hbox); have GW116 := am_ ((by rw [hg]; exact (below_size (hb_ : Below w.heap.size w _)) : w.heap.size ≤ gb116)); have GE116 := GW116; replace HB := am_ (below_step (hb_ : Below w.heap.size w _) hb); clear hb hbox hg) | ((with_reducible refine gate_dst (N := 4) rfl ?_); refine box_event ?hg (N := 4) ?hd (cs := #[.int .i64 0, .int .i64 0, .int .i64 0, .slice none 0 0]) (t := 25) ?hr ?_; (case hd => rfl); (case hg => rfl); (case hr => first | (go_simp; done) | (go_simp; rfl)); intro gb117 hg w9 hbox hb; replace HO106 := am_ (Kd.Q_below (by exact HO106.out) hb); replace HO112 := am_ (Kd.Q_below (by exact HO112.out) hb); replace HO115 := rb_ HO115 hb; have BK117 := am_ (hbox); have GW117 := am_ ((by rw [hg]; exact (below_size (hb_ : Below w.heap.size w _)) : w.heap.size ≤ gb117)); have GE117 := GW117; replace HB := am_ (below_step (hb_ : Below w.heap.size w _) hb); have NB116_117 := nb_ hg BK116; have NB117_116 := nc_ NB116_117; replace BK116 := bb_ BK116 hb; clear hb hbox hg; have hnb10 := NB116_117.out; have hnc10 := NB117_116.out; obtain ⟨hcz11_0, hcz11_1, hcz11_2, hcz11_3, hfz11_0, hfz11_1, hfz11_2, hfz11_3⟩ := blk4_ BK116.out; obtain ⟨Ao12, co12, eo12, _⟩ := Kd.Q_slice HO106.out; subst eo12; obtain ⟨hcz13_0, hcz13_1, hcz13_2, hcz13_3, hfz13_0, hfz13_1, hfz13_2, hfz13_3⟩ := blk4_ BK117.out; obtain ⟨Ao14, co14, eo14, _⟩ := Kd.Q_slice HO112.out; subst eo14; obtain ⟨Ao15, co15, eo15⟩ := Kd.R_slice HO115.out; subst eo15) | ((with_reducible refine gate_callee (f := 6) rfl ?_); refine goesL_ (some 25) rfl rfl Try.func6 (by kernel_rfl) rfl #[.agg #[.int .i64 t101, .int .i64 t102, .int .i64 t103, .slice Ao12 t104.length co12], .agg #[.int .i64 t107, .int .i64 t108, .int .i64 t109, .slice Ao14 t110.length co14], .slice Ao15 t113.length co15] rfl (by simp only [List.map_toArray, List.map_cons, List.map_nil]; rfl) ?_; (with_reducible refine (impl_MaskImage.calls t101 t102 t103 _ _ t104 t107 t108 t109 _ _ t110 _ _ t113 t118 t119 t120 t121 t124 _ ?side1 ?side2 ?side3 ?side4 ?side5 ?side6 A4.out).mono ?_); (case side1 => refine (Kd.Q_reads' (e := 3) (base := w.heap.size) (ok := fun k_ => some k_ ≠ (.slice Ao14 t110.length co14 : Value).ownBlock) (n := t104.length) (c := co12) ?_).2.2; exact (by exact (Kd.Q_mono (Kd.Q_mono (Kd.Q_far (p := ⟨gb117, 3, none⟩) (Kd.Q_far (p := ⟨gb117, 2, none⟩) (Kd.Q_far (p := ⟨gb117, 1, none⟩) (Kd.Q_far (p := ⟨gb117, 0, none⟩) (Kd.Q_far (p := ⟨gb116, 3, none⟩) (Kd.Q_far (p := ⟨gb116, 2, none⟩) (Kd.Q_far (p := ⟨gb116, 1, none⟩) (Kd.Q_far (p := ⟨gb116, 0, none⟩) (Kd.Q_types (Kd.Q_types HO106.out BK116.out (by decide)) BK117.out (by decide)) (fun _ hk => hk.1.2) (.int .i64 t101)) (fun _ hk => hk.1.2) (.int .i64 t102)) (fun _ hk => hk.1.2) (.int .i64 t103)) (fun _ hk => hk.1.2) (.slice Ao12 t104.length co12)) (fun _ hk => hk.2) (.int .i64 t107)) (fun _ hk => hk.2) (.int .i64 t108)) (fun _ hk => hk.2) (.int .i64 t109)) (fun _ hk => hk.2) (.slice Ao14 t110.length co14)) (fun _ h_ => h_.1)) (fun _ h_ => h_.1)))); (case side2 => exact (Kd.Q_reads' HO106.out).2.1); (case side3 => refine (Kd.Q_reads' (e := 3) (base := w.heap.size) (ok := fun k_ => some k_ ≠ (.slice Ao12 t104.length co12 : Value).ownBlock) (n := t110.length) (c := co14) ?_).2.2; exact (by exact (Kd.Q_mono (Kd.Q_mono (Kd.Q_far (p := ⟨gb117, 3, none⟩) (Kd.Q_far (p := ⟨gb117, 2, none⟩) (Kd.Q_far (p := ⟨gb117, 1, none⟩) (Kd.Q_far (p := ⟨gb117, 0, none⟩) (Kd.Q_far (p := ⟨gb116, 3, none⟩) (Kd.Q_far (p := ⟨gb116, 2, none⟩) (Kd.Q_far (p := ⟨gb116, 1, none⟩) (Kd.Q_far (p := ⟨gb116, 0, none⟩) (Kd.Q_types (Kd.Q_types HO112.out BK116.out (by decide)) BK117.out (by decide)) (fun _ hk => hk.1.2) (.int .i64 t101)) (fun _ hk => hk.1.2) (.int .i64 t102)) (fun _ hk => hk.1.2) (.int .i64 t103)) (fun _ hk => hk.1.2) (.slice Ao12 t104.length co12)) (fun _ hk => hk.2) (.int .i64 t107)) (fun _ hk => hk.2) (.int .i64 t108)) (fun _ hk => hk.2) (.int .i64 t109)) (fun _ hk => hk.2) (.slice Ao14 t110.length co14)) (fun _ h_ => h_.1)) (fun _ h_ => h_.1)))); (case side4 => exact (Kd.Q_reads' HO112.out).2.1); (case side5 => refine (Kd.R_reads' (e := 59) (base := w.heap.size) (ok := fun k_ => True) (n := t113.length) (c := co15) ?_).2.2; exact (by exact (Kd.R_mono (Kd.R_mono (Kd.R_far (p := ⟨gb117, 3, none⟩) (Kd.R_far (p := ⟨gb117, 2, none⟩) (Kd.R_far (p := ⟨gb117, 1, none⟩) (Kd.R_far (p := ⟨gb117, 0, none⟩) (Kd.R_far (p := ⟨gb116, 3, none⟩) (Kd.R_far (p := ⟨gb116, 2, none⟩) (Kd.R_far (p := ⟨gb116, 1, none⟩) (Kd.R_far (p := ⟨gb116, 0, none⟩) (Kd.R_types (Kd.R_types HO115.out BK116.out (by decide)) BK117.out (by decide)) (fun _ hk => hk.1.2) (.int .i64 t101)) (fun _ hk => hk.1.2) (.int .i64 t102)) (fun _ hk => hk.1.2) (.int .i64 t103)) (fun _ hk => hk.1.2) (.slice Ao12 t104.length co12)) (fun _ hk => hk.2) (.int .i64 t107)) (fun _ hk => hk.2) (.int .i64 t108)) (fun _ hk => hk.2) (.int .i64 t109)) (fun _ hk => hk.2) (.slice Ao14 t110.length co14)) (fun _ h_ => h_.1)) (fun _ h_ => h_.1)))); (case side6 => exact (Kd.R_reads' HO115.out).2.1); rintro e w16 ⟨v122, rfl, ho0, hb⟩; refine ⟨_, rfl, ?_⟩; replace HO115 := am_ (Kd.R_below (by exact (Kd.R_mono (Kd.R_mono (Kd.R_far (p := ⟨gb117, 3, none⟩) (Kd.R_far (p := ⟨gb117, 2, none⟩) (Kd.R_far (p := ⟨gb117, 1, none⟩) (Kd.R_far (p := ⟨gb117, 0, none⟩) (Kd.R_far (p := ⟨gb116, 3, none⟩) (Kd.R_far (p := ⟨gb116, 2, none⟩) (Kd.R_far (p := ⟨gb116, 1, none⟩) (Kd.R_far (p := ⟨gb116, 0, none⟩) (Kd.R_types (Kd.R_types HO115.out BK116.out (by decide)) BK117.out (by decide)) (fun _ hk => hk.1.2) (.int .i64 t101)) (fun _ hk => hk.1.2) (.int .i64 t102)) (fun _ hk => hk.1.2) (.int .i64 t103)) (fun _ hk => hk.1.2) (.slice Ao12 t104.length co12)) (fun _ hk => hk.2) (.int .i64 t107)) (fun _ hk => hk.2) (.int .i64 t108)) (fun _ hk => hk.2) (.int .i64 t109)) (fun _ hk => hk.2) (.slice Ao14 t110.length co14)) (fun _ h_ => h_.1)) (fun _ h_ => h_.1))) hb); have HO123 := am_ (Kd.R_lower (Kd.R_new' (Kd.R_new' ho0 (Kd.Q_lt (by exact (Kd.Q_mono (Kd.Q_mono (Kd.Q_far (p := ⟨gb117, 3, none⟩) (Kd.Q_far (p := ⟨gb117, 2, none⟩) (Kd.Q_far (p := ⟨gb117, 1, none⟩) (Kd.Q_far (p := ⟨gb117, 0, none⟩) (Kd.Q_far (p := ⟨gb116, 3, none⟩) (Kd.Q_far (p := ⟨gb116, 2, none⟩) (Kd.Q_far (p := ⟨gb116, 1, none⟩) (Kd.Q_far (p := ⟨gb116, 0, none⟩) (Kd.Q_types (Kd.Q_types HO106.out BK116.out (by decide)) BK117.out (by decide)) (fun _ hk => hk.1.2) (.int .i64 t101)) (fun _ hk => hk.1.2) (.int .i64 t102)) (fun _ hk => hk.1.2) (.int .i64 t103)) (fun _ hk => hk.1.2) (.slice Ao12 t104.length co12)) (fun _ hk => hk.2) (.int .i64 t107)) (fun _ hk => hk.2) (.int .i64 t108)) (fun _ hk => hk.2) (.int .i64 t109)) (fun _ hk => hk.2) (.slice Ao14 t110.length co14)) (fun _ h_ => h_.1)) (fun _ h_ => h_.1))))) (Kd.Q_lt (by exact (Kd.Q_mono (Kd.Q_mono (Kd.Q_far (p := ⟨gb117, 3, none⟩) (Kd.Q_far (p := ⟨gb117, 2, none⟩) (Kd.Q_far (p := ⟨gb117, 1, none⟩) (Kd.Q_far (p := ⟨gb117, 0, none⟩) (Kd.Q_far (p := ⟨gb116, 3, none⟩) (Kd.Q_far (p := ⟨gb116, 2, none⟩) (Kd.Q_far (p := ⟨gb116, 1, none⟩) (Kd.Q_far (p := ⟨gb116, 0, none⟩) (Kd.Q_types (Kd.Q_types HO112.out BK116.out (by decide)) BK117.out (by decide)) (fun _ hk => hk.1.2) (.int .i64 t101)) (fun _ hk => hk.1.2) (.int .i64 t102)) (fun _ hk => hk.1.2) (.int .i64 t103)) (fun _ hk => hk.1.2) (.slice Ao12 t104.length co12)) (fun _ hk => hk.2) (.int .i64 t107)) (fun _ hk => hk.2) (.int .i64 t108)) (fun _ hk => hk.2) (.int .i64 t109)) (fun _ hk => hk.2) (.slice Ao14 t110.length co14)) (fun _ h_ => h_.1)) (fun _ h_ => h_.1))))) (below_size (hb_ : Below w.heap.size w _))); replace HO106 := am_ (Kd.Q_elder' (by exact (Kd.Q_mono (Kd.Q_mono (Kd.Q_far (p := ⟨gb117, 3, none⟩) (Kd.Q_far (p := ⟨gb117, 2, none⟩) (Kd.Q_far (p := ⟨gb117, 1, none⟩) (Kd.Q_far (p := ⟨gb117, 0, none⟩) (Kd.Q_far (p := ⟨gb116, 3, none⟩) (Kd.Q_far (p := ⟨gb116, 2, none⟩) (Kd.Q_far (p := ⟨gb116, 1, none⟩) (Kd.Q_far (p := ⟨gb116, 0, none⟩) (Kd.Q_types (Kd.Q_types HO106.out BK116.out (by decide)) BK117.out (by decide)) (fun _ hk => hk.1.2) (.int .i64 t101)) (fun _ hk => hk.1.2) (.int .i64 t102)) (fun _ hk => hk.1.2) (.int .i64 t103)) (fun _ hk => hk.1.2) (.slice Ao12 t104.length co12)) (fun _ hk => hk.2) (.int .i64 t107)) (fun _ hk => hk.2) (.int .i64 t108)) (fun _ hk => hk.2) (.int .i64 t109)) (fun _ hk => hk.2) (.slice Ao14 t110.length co14)) (fun _ h_ => h_.1)) (fun _ h_ => h_.1))) (Kd.R_base ho0) hb); replace HO112 := am_ (Kd.Q_elder' (by exact (Kd.Q_mono (Kd.Q_mono (Kd.Q_far (p := ⟨gb117, 3, none⟩) (Kd.Q_far (p := ⟨gb117, 2, none⟩) (Kd.Q_far (p := ⟨gb117, 1, none⟩) (Kd.Q_far (p := ⟨gb117, 0, none⟩) (Kd.Q_far (p := ⟨gb116, 3, none⟩) (Kd.Q_far (p := ⟨gb116, 2, none⟩) (Kd.Q_far (p := ⟨gb116, 1, none⟩) (Kd.Q_far (p := ⟨gb116, 0, none⟩) (Kd.Q_types (Kd.Q_types HO112.out BK116.out (by decide)) BK117.out (by decide)) (fun _ hk => hk.1.2) (.int .i64 t101)) (fun _ hk => hk.1.2) (.int .i64 t102)) (fun _ hk => hk.1.2) (.int .i64 t103)) (fun _ hk => hk.1.2) (.slice Ao12 t104.length co12)) (fun _ hk => hk.2) (.int .i64 t107)) (fun _ hk => hk.2) (.int .i64 t108)) (fun _ hk => hk.2) (.int .i64 t109)) (fun _ hk => hk.2) (.slice Ao14 t110.length co14)) (fun _ h_ => h_.1)) (fun _ h_ => h_.1))) (Kd.R_base ho0) hb); replace BK116 := am_ (blk_below (g := gb116) (o := .cells #[.int .i64 t101, .int .i64 t102, .int .i64 t103, .slice Ao12 t104.length co12] 25 (0, 0)) (by (with_reducible repeat (first | refine blk_drewN ?_ _ | refine blk_drew ?_ | refine blk_alloc ?_ _)); refine blk_far ?_ NB116_117.out _; (with_reducible repeat (first | refine blk_drewN ?_ _ | refine blk_drew ?_ | refine blk_alloc ?_ _)); refine blk_far ?_ NB116_117.out _; (with_reducible repeat (first | refine blk_drewN ?_ _ | refine blk_drew ?_ | refine blk_alloc ?_ _)); refine blk_far ?_ NB116_117.out _; (with_reducible repeat (first | refine blk_drewN ?_ _ | refine blk_drew ?_ | refine blk_alloc ?_ _)); refine blk_far ?_ NB116_117.out _; (with_reducible repeat (first | refine blk_drewN ?_ _ | refine blk_drew ?_ | refine blk_alloc ?_ _)); refine blk_put (cs := #[.int .i64 t101, .int .i64 t102, .int .i64 t103, .slice none 0 0]) ?_ 3 _ rfl; (with_reducible repeat (first | refine blk_drewN ?_ _ | refine blk_drew ?_ | refine blk_alloc ?_ _)); refine blk_put (cs := #[.int .i64 t101, .int .i64 t102, .int .i64 0, .slice none 0 0]) ?_ 2 _ rfl; (with_reducible repeat (first | refine blk_drewN ?_ _ | refine blk_drew ?_ | refine blk_alloc ?_ _)); refine blk_put (cs := #[.int .i64 t101, .int .i64 0, .int .i64 0, .slice none 0 0]) ?_ 1 _ rfl; (with_reducible repeat (first | refine blk_drewN ?_ _ | refine blk_drew ?_ | refine blk_alloc ?_ _)); refine blk_put (cs := #[.int .i64 0, .int .i64 0, .int .i64 0, .slice none 0 0]) ?_ 0 _ rfl; (with_reducible repeat (first | refine blk_drewN ?_ _ | refine blk_drew ?_ | refine blk_alloc ?_ _)); exact BK116.out) hb); replace BK117 := am_ (blk_below (g := gb117) (o := .cells #[.int .i64 t107, .int .i64 t108, .int .i64 t109, .slice Ao14 t110.length co14] 25 (0, 0)) (by (with_reducible repeat (first | refine blk_drewN ?_ _ | refine blk_drew ?_ | refine blk_alloc ?_ _)); refine blk_put (cs := #[.int .i64 t107, .int .i64 t108, .int .i64 t109, .slice none 0 0]) ?_ 3 _ rfl; (with_reducible repeat (first | refine blk_drewN ?_ _ | refine blk_drew ?_ | refine blk_alloc ?_ _)); refine blk_put (cs := #[.int .i64 t107, .int .i64 t108, .int .i64 0, .slice none 0 0]) ?_ 2 _ rfl; (with_reducible repeat (first | refine blk_drewN ?_ _ | refine blk_drew ?_ | refine blk_alloc ?_ _)); refine blk_put (cs := #[.int .i64 t107, .int .i64 0, .int .i64 0, .slice none 0 0]) ?_ 1 _ rfl; (with_reducible repeat (first | refine blk_drewN ?_ _ | refine blk_drew ?_ | refine blk_alloc ?_ _)); refine blk_put (cs := #[.int .i64 0, .int .i64 0, .int .i64 0, .slice none 0 0]) ?_ 0 _ rfl; (with_reducible repeat (first | refine blk_drewN ?_ _ | refine blk_drew ?_ | refine blk_alloc ?_ _)); refine blk_far ?_ NB117_116.out _; (with_reducible repeat (first | refine blk_drewN ?_ _ | refine blk_drew ?_ | refine blk_alloc ?_ _)); refine blk_far ?_ NB117_116.out _; (with_reducible repeat (first | refine blk_drewN ?_ _ | refine blk_drew ?_ | refine blk_alloc ?_ _)); refine blk_far ?_ NB117_116.out _; (with_reducible repeat (first | refine blk_drewN ?_ _ | refine blk_drew ?_ | refine blk_alloc ?_ _)); refine blk_far ?_ NB117_116.out _; (with_reducible repeat (first | refine blk_drewN ?_ _ | refine blk_drew ?_ | refine blk_alloc ?_ _)); exact BK117.out) hb); replace HB := am_ (below_step (hb_ : Below w.heap.size w _) hb); (try clear hb); (try clear ho0)) | ((with_reducible refine gate_dst (N := 6) rfl ?_); refine box_event ?hg (N := 6) ?hd (cs := #[.int .i64 0, .int .i64 0, .int .i64 0, .slice none 0 0]) (t := 25) ?hr ?_; (case hd => rfl); (case hg => rfl); (case hr => first | (go_simp; done) | (go_simp; rfl)); intro gb125 hg w17 hbox hb; replace HO106 := am_ (Kd.Q_below (by exact HO106.out) hb); replace HO112 := am_ (Kd.Q_below (by exact HO112.out) hb); replace HO115 := rb_ HO115 hb; replace HO123 := rb_ HO123 hb; have BK125 := am_ (hbox); have GW125 := am_ ((by rw [hg]; exact (below_size (hb_ : Below w.heap.size w _)) : w.heap.size ≤ gb125)); have GE125 := GW125; replace HB := am_ (below_step (hb_ : Below w.heap.size w _) hb); have NB116_125 := nb_ hg BK116; have NB125_116 := nc_ NB116_125; replace BK116 := bb_ BK116 hb; have NB117_125 := nb_ hg BK117; have NB125_117 := nc_ NB117_125; replace BK117 := bb_ BK117 hb; clear hb hbox hg; have hnb18 := NB125_116.out; have hnc18 := NB116_125.out; have hnb19 := NB125_117.out; have hnc19 := NB117_125.out; obtain ⟨hcz20_0, hcz20_1, hcz20_2, hcz20_3, hfz20_0, hfz20_1, hfz20_2, hfz20_3⟩ := blk4_ BK125.out; obtain ⟨Ao21, co21, eo21⟩ := Kd.R_slice HO123.out; subst eo21; obtain ⟨hcz22_0, hcz22_1, hcz22_2, hcz22_3, hfz22_0, hfz22_1, hfz22_2, hfz22_3⟩ := blk4_ BK116.out; obtain ⟨hcz23_0, hcz23_1, hcz23_2, hcz23_3, hfz23_0, hfz23_1, hfz23_2, hfz23_3⟩ := blk4_ BK117.out) | ((with_reducible refine gate_callee (f := 7) rfl ?_); refine goesL_ (some 32) rfl rfl Try.func7 (by kernel_rfl) rfl #[.agg #[.int .i64 t101, .int .i64 t102, .int .i64 t103, .slice Ao12 t104.length co12], .agg #[.int .i64 t107, .int .i64 t108, .int .i64 t109, .slice Ao14 t110.length co14], .slice Ao15 t113.length co15] rfl (by simp only [List.map_toArray, List.map_cons, List.map_nil]; rfl) ?_; (with_reducible refine (spec_MaskImage.calls k t101 t102 t103 _ _ t104 t107 t108 t109 _ _ t110 _ _ t113 t126 t127 t128 t129 t132 _ ?side1 ?side2 ?side3 ?side4 ?side5 ?side6 A5.out).mono ?_); (case side1 => refine (Kd.Q_reads' (e := 3) (base := w.heap.size) (ok := fun k_ => (some k_ ≠ (.slice Ao14 t110.length co14 : Value).ownBlock ∧ some k_ ≠ (.slice Ao21 t121.length co21 : Value).ownBlock)) (n := t104.length) (c := co12) ?_).2.2; exact (by exact (Q4_ HO106.out BK125.out (by decide) _ _ _ _))); (case side2 => exact (Kd.Q_reads' HO106.out).2.1); (case side3 => refine (Kd.Q_reads' (e := 3) (base := w.heap.size) (ok := fun k_ => (some k_ ≠ (.slice Ao12 t104.length co12 : Value).ownBlock ∧ some k_ ≠ (.slice Ao21 t121.length co21 : Value).ownBlock)) (n := t110.length) (c := co14) ?_).2.2; exact (by exact (Q4_ HO112.out BK125.out (by decide) _ _ _ _))); (case side4 => exact (Kd.Q_reads' HO112.out).2.1); (case side5 => refine (Kd.R_reads' (e := 59) (base := w.heap.size) (ok := fun k_ => True) (n := t113.length) (c := co15) ?_).2.2; exact (by exact (R4_ HO115.out BK125.out (by decide) _ _ _ _))); (case side6 => exact (Kd.R_reads' HO115.out).2.1); rintro e w24 ⟨v130, rfl, ho0, hb⟩; refine ⟨_, rfl, ?_⟩; replace HO115 := am_ (Kd.R_below (by exact (R4_ HO115.out BK125.out (by decide) _ _ _ _)) hb); have HO131 := am_ (Kd.R_lower (Kd.R_new' (Kd.R_new' (Kd.R_new' ho0 (Kd.Q_lt (by exact (Q4_ HO106.out BK125.out (by decide) _ _ _ _)))) (Kd.Q_lt (by exact (Q4_ HO112.out BK125.out (by decide) _ _ _ _)))) (Kd.R_lt (by exact (R4_ HO123.out BK125.out (by decide) _ _ _ _)))) (below_size (hb_ : Below w.heap.size w _))); replace HO106 := am_ (Kd.Q_elder' (by exact (Q4_ HO106.out BK125.out (by decide) _ _ _ _)) (Kd.R_base ho0) hb); replace HO112 := am_ (Kd.Q_elder' (by exact (Q4_ HO112.out BK125.out (by decide) _ _ _ _)) (Kd.R_base ho0) hb); replace HO123 := am_ (Kd.R_elder' (by exact (R4_ HO123.out BK125.out (by decide) _ _ _ _)) (Kd.R_base ho0) hb); replace BK116 := am_ (blk_below (by exact far4_ BK116.out NB116_125.out _ _ _ _) hb); replace BK117 := am_ (blk_below (by exact far4_ BK117.out NB117_125.out _ _ _ _) hb); replace BK125 := am_ (blk_below (by exact put4_ BK125.out _ _ _ _) hb); replace HB := am_ (below_step (hb_ : Below w.heap.size w _) hb); (try clear hb); (try clear ho0)) | ((with_reducible refine gate_dst (N := 8) rfl ?_); refine box_event ?hg (N := 8) ?hd (cs := #[.int .i64 0, .int .i64 0, .int .i64 0, .slice none 0 0]) (t := 25) ?hr ?_; (case hd => rfl); (case hg => rfl); (case hr => first | (go_simp; done) | (go_simp; rfl)); intro gb133 hg w25 hbox hb; replace HO106 := am_ (Kd.Q_below (by exact HO106.out) hb); replace HO112 := am_ (Kd.Q_below (by exact HO112.out) hb); replace HO115 := rb_ HO115 hb; replace HO123 := rb_ HO123 hb; replace HO131 := rb_ HO131 hb; have BK133 := am_ (hbox); have GW133 := am_ ((by rw [hg]; exact (below_size (hb_ : Below w.heap.size w _)) : w.heap.size ≤ gb133)); have GE133 := GW133; replace HB := am_ (below_step (hb_ : Below w.heap.size w _) hb); have NB116_133 := nb_ hg BK116; have NB133_116 := nc_ NB116_133; replace BK116 := bb_ BK116 hb; have NB117_133 := nb_ hg BK117; have NB133_117 := nc_ NB117_133; replace BK117 := bb_ BK117 hb; have NB125_133 := nb_ hg BK125; have NB133_125 := nc_ NB125_133; replace BK125 := bb_ BK125 hb; clear hb hbox hg; have hnb26 := NB133_116.out; have hnc26 := NB116_133.out; have hnb27 := NB133_117.out; have hnc27 := NB117_133.out; have hnb28 := NB133_125.out; have hnc28 := NB125_133.out; obtain ⟨hcz29_0, hcz29_1, hcz29_2, hcz29_3, hfz29_0, hfz29_1, hfz29_2, hfz29_3⟩ := blk4_ BK133.out; obtain ⟨Ao30, co30, eo30⟩ := Kd.R_slice HO131.out; subst eo30))
 (try simp only [Act.put, List.setIfInBounds_toArray, List.set_cons_zero, List.set_cons_succ])
 go_cut [47] (fun v47 wc => ∃ (kq : Nat) (x47_5 : Bool), v47 = .bool x47_5 ∧ Aside0 (laws_FnMaskImageChanged.j0 kq t124 t132 x47_5 t101 t102 t103 t104 t107 t108 t109 t110 t118 t119 t120 t121 t126 t127 t128 t129 = some r) ∧ Aside0 (kq ≤ k) ∧ Aside0 (Kd.Q (Kd.int .i64) 3 wc w.heap.size (fun k_ => some k_ ≠ ((.slice Ao14 t110.length co14) : Value).ownBlock ∧ some k_ ≠ ((.slice Ao21 t121.length co21) : Value).ownBlock ∧ some k_ ≠ ((.slice Ao30 t129.length co30) : Value).ownBlock) (.slice Ao12 t104.length co12) t104) ∧ Aside0 (Kd.Q (Kd.int .i64) 3 wc w.heap.size (fun k_ => some k_ ≠ ((.slice Ao12 t104.length co12) : Value).ownBlock ∧ some k_ ≠ ((.slice Ao21 t121.length co21) : Value).ownBlock ∧ some k_ ≠ ((.slice Ao30 t129.length co30) : Value).ownBlock) (.slice Ao14 t110.length co14) t110) ∧ Aside0 (Kd.Q (Kd.int .i64) 3 wc w.heap.size (fun k_ => some k_ ≠ ((.slice Ao12 t104.length co12) : Value).ownBlock ∧ some k_ ≠ ((.slice Ao14 t110.length co14) : Value).ownBlock ∧ some k_ ≠ ((.slice Ao30 t129.length co30) : Value).ownBlock) (.slice Ao21 t121.length co21) t121) ∧ Aside0 (Kd.Q (Kd.int .i64) 3 wc w.heap.size (fun k_ => some k_ ≠ ((.slice Ao12 t104.length co12) : Value).ownBlock ∧ some k_ ≠ ((.slice Ao14 t110.length co14) : Value).ownBlock ∧ some k_ ≠ ((.slice Ao21 t121.length co21) : Value).ownBlock) (.slice Ao30 t129.length co30) t129) ∧ Aside0 (wc.heap[gb116]? = some (.cells #[.int .i64 t101, .int .i64 t102, .int .i64 t103, (.slice Ao12 t104.length co12)] 25 (0, 0))) ∧ Aside0 (wc.heap[gb117]? = some (.cells #[.int .i64 t107, .int .i64 t108, .int .i64 t109, (.slice Ao14 t110.length co14)] 25 (0, 0))) ∧ Aside0 (wc.heap[gb125]? = some (.cells #[.int .i64 t118, .int .i64 t119, .int .i64 t120, (.slice Ao21 t121.length co21)] 25 (0, 0))) ∧ Aside0 (wc.heap[gb133]? = some (.cells #[.int .i64 t126, .int .i64 t127, .int .i64 t128, (.slice Ao30 t129.length co30)] 25 (0, 0))) ∧ Aside0 (Below w.heap.size w wc))
 case first =>
  have H := HC6.out
  clear HC6
  replace H := Option.bind_eq_some_iff.mp H
  obtain ⟨t134, A310, H⟩ := H
  (try dsimp only at H)
  have A31 := Aside0.mk A310
  clear A310
  by_cases c32 : t134 = true
  rotate_left
  ·
   replace c32 := Bool.eq_false_iff.mpr c32
   subst c32
   have H1 : (none) = some r := by rw [if_neg (show ¬ (false = true) by decide)] at H; exact H
   exact absurd H1 (by simp)
  subst c32
  rw [if_pos rfl] at H
  by_cases c33 : (t124 != t132) = true
  ·
   rw [if_pos c33] at H
   exact absurd H (by simp)
  rw [if_neg c33] at H
  have c33b0 : (t124 != t132) = false := by simpa using c33
  (try (have c33b1 : decide (t124 = t132) = true := by simpa using c33))
  (try (have c33b2 : (t124 == t132) = true := by simpa using c33))
  clear c33
  (first | rw [c33b0] | (simp only [i64_w, i32_w]; rw [c33b0]) | skip)
  have H' := Aside0.mk H
  clear H
  have hnb42 := NB125_116.out
  have hnc42 := NB116_125.out
  have hnb43 := NB125_117.out
  have hnc43 := NB117_125.out
  have hnb44 := NB125_133.out
  have hnc44 := NB133_125.out
  obtain ⟨hcz45_0, hcz45_1, hcz45_2, hcz45_3, hfz45_0, hfz45_1, hfz45_2, hfz45_3⟩ := blk4_ BK125.out
  have hnb46 := NB133_116.out
  have hnc46 := NB116_133.out
  have hnb47 := NB133_117.out
  have hnc47 := NB117_133.out
  obtain ⟨hcz48_0, hcz48_1, hcz48_2, hcz48_3, hfz48_0, hfz48_1, hfz48_2, hfz48_3⟩ := blk4_ BK133.out
  go_wp2_with (first | ((with_reducible refine gate_callee (f := 8) rfl ?_); refine goesL_ (some 37) rfl rfl Try.func8 (by kernel_rfl) rfl #[.agg #[.int .i64 t118, .int .i64 t119, .int .i64 t120, .slice Ao21 t121.length co21], .agg #[.int .i64 t126, .int .i64 t127, .int .i64 t128, .slice Ao30 t129.length co30]] rfl (by simp only [List.map_toArray, List.map_cons, List.map_nil]; rfl) ?_; (with_reducible refine (laws_equalImage.calls k t118 t119 t120 _ _ t121 t126 t127 t128 _ _ t129 true _ ?side1 ?side2 ?side3 ?side4 A31.out).mono ?_); (case side1 => refine (Kd.R_reads' (e := 3) (base := w.heap.size) (ok := fun k_ => (((True ∧ some k_ ≠ (.slice Ao12 t104.length co12 : Value).ownBlock) ∧ some k_ ≠ (.slice Ao14 t110.length co14 : Value).ownBlock) ∧ some k_ ≠ (.slice Ao30 t129.length co30 : Value).ownBlock)) (n := t121.length) (c := co21) ?_).2.2; exact (by exact (R4_ HO123.out BK133.out (by decide) _ _ _ _))); (case side2 => exact (Kd.R_reads' HO123.out).2.1); (case side3 => refine (Kd.R_reads' (e := 3) (base := w.heap.size) (ok := fun k_ => (((True ∧ some k_ ≠ (.slice Ao12 t104.length co12 : Value).ownBlock) ∧ some k_ ≠ (.slice Ao14 t110.length co14 : Value).ownBlock) ∧ some k_ ≠ (.slice Ao21 t121.length co21 : Value).ownBlock)) (n := t129.length) (c := co30) ?_).2.2; exact (by exact (R4_ HO131.out BK133.out (by decide) _ _ _ _))); (case side4 => exact (Kd.R_reads' HO131.out).2.1); rintro e w49 ⟨rfl, hb⟩; refine ⟨_, rfl, ?_⟩; replace HO106 := am_ (Kd.Q_below (by exact (Q4_ HO106.out BK133.out (by decide) _ _ _ _)) hb); replace HO112 := am_ (Kd.Q_below (by exact (Q4_ HO112.out BK133.out (by decide) _ _ _ _)) hb); replace HO115 := am_ (Kd.R_below (by exact (R4_ HO115.out BK133.out (by decide) _ _ _ _)) hb); replace HO123 := am_ (Kd.R_below (by exact (R4_ HO123.out BK133.out (by decide) _ _ _ _)) hb); replace HO131 := am_ (Kd.R_below (by exact (R4_ HO131.out BK133.out (by decide) _ _ _ _)) hb); replace BK116 := am_ (blk_below (by exact far4_ BK116.out NB116_133.out _ _ _ _) hb); replace BK117 := am_ (blk_below (by exact far4_ BK117.out NB117_133.out _ _ _ _) hb); replace BK125 := am_ (blk_below (by exact far4_ BK125.out NB125_133.out _ _ _ _) hb); replace BK133 := am_ (blk_below (by exact put4_ BK133.out _ _ _ _) hb); replace HB := am_ (below_step (hb_ : Below w.heap.size w _) hb); (try clear hb)))
  go_meet
  case rel => exact ⟨_, (!t124), (by first | rfl | (simp; done) | (simp [*]; done)), H', ⟨by first | omega | exact Nat.le_refl _⟩, ⟨by exact Kd.Q_mono HO106.out (fun _ hk => ⟨hk.1.1, ⟨hk.1.2, hk.2⟩⟩)⟩, ⟨by exact Kd.Q_mono HO112.out (fun _ hk => ⟨hk.1.1, ⟨hk.1.2, hk.2⟩⟩)⟩, ⟨Kd.Q_of_R (by exact Kd.R_mono HO123.out (fun _ hk => ⟨hk.1.1.2, ⟨hk.1.2, hk.2⟩⟩))⟩, ⟨Kd.Q_of_R (by exact Kd.R_mono HO131.out (fun _ hk => ⟨hk.1.1.2, ⟨hk.1.2, hk.2⟩⟩))⟩, ⟨by exact BK116.out⟩, ⟨by exact BK117.out⟩, ⟨by exact BK125.out⟩, ⟨by exact BK133.out⟩, ⟨by repeat (first | (with_reducible first | exact HB.out | apply below_alloc | apply pw_below_drewN | apply below_drew1 | refine below_set ?_ GE116.out | refine below_set ?_ GE117.out | refine below_set ?_ GE125.out | refine below_set ?_ GE133.out) | exact HB.out)⟩⟩
 case rest =>
  clear HC6
  try clear c1
  try clear c2
  try clear c2b0
  try clear c2b1
  try clear p2
  try clear c3
  try clear c4
  try clear c5
  try clear c6
  try clear c7
  try clear c8
  try clear c10
  try clear c18
  try clear c19
  try clear c26
  try clear c27
  try clear c28
  try clear c32
  try clear c33
  try clear c33b0
  try clear c33b1
  try clear c33b2
  try clear c34
  try clear c35
  try clear c36
  try clear c38
  try clear c39
  try clear c42
  try clear c43
  try clear c44
  try clear c46
  try clear c47
  try clear c50
  try clear c51
  try clear c52
  try clear c54
  try clear c55
  try clear hcz11_0
  try clear hcz11_1
  try clear hcz11_2
  try clear hcz11_3
  try clear hcz13_0
  try clear hcz13_1
  try clear hcz13_2
  try clear hcz13_3
  try clear hcz20_0
  try clear hcz20_1
  try clear hcz20_2
  try clear hcz20_3
  try clear hcz22_0
  try clear hcz22_1
  try clear hcz22_2
  try clear hcz22_3
  try clear hcz23_0
  try clear hcz23_1
  try clear hcz23_2
  try clear hcz23_3
  try clear hcz29_0
  try clear hcz29_1
  try clear hcz29_2
  try clear hcz29_3
  try clear hcz37_0
  try clear hcz37_1
  try clear hcz37_2
  try clear hcz37_3
  try clear hcz40_0
  try clear hcz40_1
  try clear hcz40_2
  try clear hcz40_3
  try clear hcz45_0
  try clear hcz45_1
  try clear hcz45_2
  try clear hcz45_3
  try clear hcz48_0
  try clear hcz48_1
  try clear hcz48_2
  try clear hcz48_3
  try clear hcz53_0
  try clear hcz53_1
  try clear hcz53_2
  try clear hcz53_3
  try clear hcz56_0
  try clear hcz56_1
  try clear hcz56_2
  try clear hcz56_3
  try clear hfz11_0
  try clear hfz11_1
  try clear hfz11_2
  try clear hfz11_3
  try clear hfz13_0
  try clear hfz13_1
  try clear hfz13_2
  try clear hfz13_3
  try clear hfz20_0
  try clear hfz20_1
  try clear hfz20_2
  try clear hfz20_3
  try clear hfz22_0
  try clear hfz22_1
  try clear hfz22_2
  try clear hfz22_3
  try clear hfz23_0
  try clear hfz23_1
  try clear hfz23_2
  try clear hfz23_3
  try clear hfz29_0
  try clear hfz29_1
  try clear hfz29_2
  try clear hfz29_3
  try clear hfz37_0
  try clear hfz37_1
  try clear hfz37_2
  try clear hfz37_3
  try clear hfz40_0
  try clear hfz40_1
  try clear hfz40_2
  try clear hfz40_3
  try clear hfz45_0
  try clear hfz45_1
  try clear hfz45_2
  try clear hfz45_3
  try clear hfz48_0
  try clear hfz48_1
  try clear hfz48_2
  try clear hfz48_3
  try clear hfz53_0
  try clear hfz53_1
  try clear hfz53_2
  try clear hfz53_3
  try clear hfz56_0
  try clear hfz56_1
  try clear hfz56_2
  try clear hfz56_3
  obtain ⟨kq, x47_5, rfl, HA, HJ5, HO_117003, HO_118003, HO_126003, HO_134003, BK116, BK117, BK125, BK133, HB⟩ := hcut
  cases kq with
  | zero => exact absurd HA.out (by simp [laws_FnMaskImageChanged.j0])
  | succ kj5 =>
   have H := HA.out
   clear HA
   simp only [laws_FnMaskImageChanged.j0] at H
   by_cases c58 : x47_5 = true
   ·
    subst c58
    rw [if_pos rfl] at H
    replace H := Option.bind_eq_some_iff.mp H
    obtain ⟨t135, A590, H⟩ := H
    (try dsimp only at H)
    have A59 := Aside0.mk A590
    clear A590
    by_cases c60 : t135 = true
    ·
     subst c60
     rw [if_pos rfl] at H
     obtain rfl := Option.some.inj H
     have hnb61 := NB125_116.out
     have hnc61 := NB116_125.out
     have hnb62 := NB125_117.out
     have hnc62 := NB117_125.out
     have hnb63 := NB125_133.out
     have hnc63 := NB133_125.out
     obtain ⟨hcz64_0, hcz64_1, hcz64_2, hcz64_3, hfz64_0, hfz64_1, hfz64_2, hfz64_3⟩ := blk4_ BK125.out
     have hnb65 := NB133_116.out
     have hnc65 := NB116_133.out
     have hnb66 := NB133_117.out
     have hnc66 := NB117_133.out
     obtain ⟨hcz67_0, hcz67_1, hcz67_2, hcz67_3, hfz67_0, hfz67_1, hfz67_2, hfz67_3⟩ := blk4_ BK133.out
     go_wp2_with (first | ((with_reducible refine gate_callee (f := 8) rfl ?_); refine goesL_ (some 50) rfl rfl Try.func8 (by kernel_rfl) rfl #[.agg #[.int .i64 t118, .int .i64 t119, .int .i64 t120, .slice Ao21 t121.length co21], .agg #[.int .i64 t126, .int .i64 t127, .int .i64 t128, .slice Ao30 t129.length co30]] rfl (by simp only [List.map_toArray, List.map_cons, List.map_nil]; rfl) ?_; (with_reducible refine (laws_equalImage.calls kj5 t118 t119 t120 _ _ t121 t126 t127 t128 _ _ t129 true _ ?side1 ?side2 ?side3 ?side4 A59.out).mono ?_); (case side1 => repeat (first | exact (Kd.Q_reads' HO_126003.out).2.2 | (with_reducible refine Kd.C_alloc ?_ _) | (with_reducible refine Kd.C_drewN ?_ _) | (with_reducible refine Kd.C_drew ?_))); (case side2 => exact (Kd.Q_reads' HO_126003.out).2.1); (case side3 => repeat (first | exact (Kd.Q_reads' HO_134003.out).2.2 | (with_reducible refine Kd.C_alloc ?_ _) | (with_reducible refine Kd.C_drewN ?_ _) | (with_reducible refine Kd.C_drew ?_))); (case side4 => exact (Kd.Q_reads' HO_134003.out).2.1); rintro e w68 ⟨rfl, hb⟩; refine ⟨_, rfl, ?_⟩; replace HO_117003 := am_ (Kd.Q_below (by exact HO_117003.out) hb); replace HO_118003 := am_ (Kd.Q_below (by exact HO_118003.out) hb); replace HO_126003 := am_ (Kd.Q_below (by exact HO_126003.out) hb); replace HO_134003 := am_ (Kd.Q_below (by exact HO_134003.out) hb); replace BK116 := bb_ BK116 hb; replace BK117 := bb_ BK117 hb; replace BK125 := bb_ BK125 hb; replace BK133 := bb_ BK133 hb; replace HB := am_ (below_step (hb_ : Below w.heap.size w _) hb); (try clear hb)))
     go_ret
     exact ⟨by first | rfl | (simp [errW_none, errW_some] <;> rfl) | (simp [*, errW_none, errW_some] <;> rfl), by repeat (first | (with_reducible first | exact HB.out | apply below_alloc | apply pw_below_drewN | apply below_drew1 | refine below_set ?_ GE116.out | refine below_set ?_ GE117.out | refine below_set ?_ GE125.out | refine below_set ?_ GE133.out) | exact HB.out)⟩
    replace c60 := Bool.eq_false_iff.mpr c60
    subst c60
    have H1 : (none) = some r := by rw [if_neg (show ¬ (false = true) by decide)] at H; exact H
    exact absurd H1 (by simp)
   replace c58 := Bool.eq_false_iff.mpr c58
   subst c58
   rw [if_neg (show ¬ (false = true) by decide)] at H
   replace H := Option.bind_eq_some_iff.mp H
   obtain ⟨t136, A770, H⟩ := H
   (try dsimp only at H)
   have A77 := Aside0.mk A770
   clear A770
   replace H := Option.bind_eq_some_iff.mp H
   obtain ⟨⟨t139, t140, t141, t142, t145⟩, A780, H⟩ := H
   (try dsimp only at H)
   have A78 := Aside0.mk A780
   clear A780
   by_cases c79 : t145 = true
   ·
    subst c79
    rw [if_pos rfl] at H
    replace H := Option.bind_eq_some_iff.mp H
    obtain ⟨t147, A800, H⟩ := H
    (try dsimp only at H)
    have A80 := Aside0.mk A800
    clear A800
    obtain rfl := Option.some.inj H
    try go_wp2
    replace HO_117003 := am_ (Kd.Q_drew HO_117003.out)
    replace HO_118003 := am_ (Kd.Q_drew HO_118003.out)
    replace HO_126003 := am_ (Kd.Q_drew HO_126003.out)
    replace HO_134003 := am_ (Kd.Q_drew HO_134003.out)
    replace BK116 := am_ (blk_drew BK116.out)
    replace BK117 := am_ (blk_drew BK117.out)
    replace BK125 := am_ (blk_drew BK125.out)
    replace BK133 := am_ (blk_drew BK133.out)
    replace HB := am_ (below_drew1 HB.out)
    refine start_ (n := 12) (S := fun w' => w'.cell? ⟨gb116, 0, none⟩ = some (.int .i64 t101) ∧ w'.cell? ⟨gb116, 1, none⟩ = some (.int .i64 t102) ∧ w'.cell? ⟨gb116, 2, none⟩ = some (.int .i64 t103) ∧ w'.cell? ⟨gb116, 3, none⟩ = some (.slice Ao12 t104.length co12) ∧ w'.cell? ⟨gb117, 0, none⟩ = some (.int .i64 t107) ∧ w'.cell? ⟨gb117, 1, none⟩ = some (.int .i64 t108) ∧ w'.cell? ⟨gb117, 2, none⟩ = some (.int .i64 t109) ∧ w'.cell? ⟨gb117, 3, none⟩ = some (.slice Ao14 t110.length co14)) (ds := []) #[false, false, false, false, false, false, false, false, false, false, false, false] (by kernel_rfl) rfl rfl (s8_ BK116 BK117) (fun hHeld => ?_); refine with_tabW laws_FnMaskImageChanged.tab8 laws_FnMaskImageChanged.bits8 (fun HT_ HW_ => ?_)
    generalize wc.drew = w81 at HO_117003 HO_118003 HO_126003 HO_134003 BK116 BK117 BK125 BK133 HB hHeld ⊢
    refine take_ (i := 0) (N := some 57) (v := ?_) (a' := ?_) #[true, false, false, false, false, false, false, false, false, false, false, false] rfl rfl (take_ofW HT_.out HW_.out (by kernel_rfl)) (fun _ _ _ h => h) (Or.inl ⟨by rfl, ?_⟩) hHeld ?_ ?_
    rotate_left
    ·
     rintro w' ⟨s0, s1, s2, s3, s4, s5, s6, s7⟩
     go_simp
     with_reducible rfl
    rotate_left
    ·
     simp only [Act.put, List.setIfInBounds_toArray, List.set_cons_zero, List.set_cons_succ, i64_w, i32_w]
     rfl
    refine take_ (i := 1) (N := some 58) (v := ?_) (a' := ?_) #[true, true, false, false, false, false, false, false, false, false, false, false] rfl rfl (take_ofW HT_.out HW_.out (by kernel_rfl)) (fun _ _ _ h => h) (Or.inl ⟨by rfl, ?_⟩) hHeld ?_ ?_
    rotate_left
    ·
     rintro w' ⟨s0, s1, s2, s3, s4, s5, s6, s7⟩
     go_simp
     with_reducible rfl
    rotate_left
    ·
     simp only [Act.put, List.setIfInBounds_toArray, List.set_cons_zero, List.set_cons_succ, i64_w, i32_w]
     rfl
    refine take_ (i := 2) (N := some 59) (v := ?_) (a' := ?_) #[true, true, true, false, false, false, false, false, false, false, false, false] rfl rfl (take_ofW HT_.out HW_.out (by kernel_rfl)) (fun _ _ _ h => h) (Or.inl ⟨by rfl, ?_⟩) hHeld ?_ ?_
    rotate_left
    ·
     rintro w' ⟨s0, s1, s2, s3, s4, s5, s6, s7⟩
     go_simp
     with_reducible rfl
    rotate_left
    ·
     simp only [Act.put, List.setIfInBounds_toArray, List.set_cons_zero, List.set_cons_succ, i64_w, i32_w]
     rfl
    refine take_ (i := 3) (N := some 60) (v := ?_) (a' := ?_) #[true, true, true, true, false, false, false, false, false, false, false, false] rfl rfl (take_ofW HT_.out HW_.out (by kernel_rfl)) (fun _ _ _ h => h) (Or.inl ⟨by rfl, ?_⟩) hHeld ?_ ?_
    rotate_left
    ·
     rintro w' ⟨s0, s1, s2, s3, s4, s5, s6, s7⟩
     go_simp
     with_reducible rfl
    rotate_left
    ·
     simp only [Act.put, List.setIfInBounds_toArray, List.set_cons_zero, List.set_cons_succ, i64_w, i32_w]
     rfl
    refine join_ (σ := Value × Value × Nat) 2 #[true, true, true, true, true, true, true, true, true, true, false, false] (fun s_ => [(61, s_.1), (62, .tuple #[.agg #[.int .i64 t139, .int .i64 t140, .int .i64 t141, s_.2.1], .bool true]), (10, .pointer (some ⟨s_.2.2, 0, none⟩)), (56, .tuple #[.agg #[.int .i64 t139, .int .i64 t140, .int .i64 t141, s_.2.1], .bool true]), (63, .agg #[.int .i64 t139, .int .i64 t140, .int .i64 t141, s_.2.1]), (64, .bool true)]) (fun s_ w' => (w'.cell? ⟨gb116, 0, none⟩ = some (.int .i64 t101) ∧ w'.cell? ⟨gb116, 1, none⟩ = some (.int .i64 t102) ∧ w'.cell? ⟨gb116, 2, none⟩ = some (.int .i64 t103) ∧ w'.cell? ⟨gb116, 3, none⟩ = some (.slice Ao12 t104.length co12) ∧ w'.cell? ⟨gb117, 0, none⟩ = some (.int .i64 t107) ∧ w'.cell? ⟨gb117, 1, none⟩ = some (.int .i64 t108) ∧ w'.cell? ⟨gb117, 2, none⟩ = some (.int .i64 t109) ∧ w'.cell? ⟨gb117, 3, none⟩ = some (.slice Ao14 t110.length co14)) ∧ (Kd.R k59 59 w' w.heap.size (fun _ => True) s_.1 t136) ∧ (Kd.R (Kd.int .i64) 3 w' w.heap.size (fun k_ => some k_ ≠ (.slice Ao12 t104.length co12 : Value).ownBlock ∧ some k_ ≠ (.slice Ao14 t110.length co14 : Value).ownBlock ∧ some k_ ≠ (.slice Ao21 t121.length co21 : Value).ownBlock ∧ some k_ ≠ (.slice Ao30 t129.length co30 : Value).ownBlock) s_.2.1 t142) ∧ (Kd.Q (Kd.int .i64) 3 w' w.heap.size (fun k_ => some k_ ≠ (s_.2.1 : Value).ownBlock ∧ some k_ ≠ (.slice Ao14 t110.length co14 : Value).ownBlock ∧ some k_ ≠ (.slice Ao21 t121.length co21 : Value).ownBlock ∧ some k_ ≠ (.slice Ao30 t129.length co30 : Value).ownBlock) (.slice Ao12 t104.length co12) t104) ∧ (Kd.Q (Kd.int .i64) 3 w' w.heap.size (fun k_ => some k_ ≠ (s_.2.1 : Value).ownBlock ∧ some k_ ≠ (.slice Ao12 t104.length co12 : Value).ownBlock ∧ some k_ ≠ (.slice Ao21 t121.length co21 : Value).ownBlock ∧ some k_ ≠ (.slice Ao30 t129.length co30 : Value).ownBlock) (.slice Ao14 t110.length co14) t110) ∧ (Kd.Q (Kd.int .i64) 3 w' w.heap.size (fun k_ => some k_ ≠ (s_.2.1 : Value).ownBlock ∧ some k_ ≠ (.slice Ao12 t104.length co12 : Value).ownBlock ∧ some k_ ≠ (.slice Ao14 t110.length co14 : Value).ownBlock ∧ some k_ ≠ (.slice Ao30 t129.length co30 : Value).ownBlock) (.slice Ao21 t121.length co21) t121) ∧ (Kd.Q (Kd.int .i64) 3 w' w.heap.size (fun k_ => some k_ ≠ (s_.2.1 : Value).ownBlock ∧ some k_ ≠ (.slice Ao12 t104.length co12 : Value).ownBlock ∧ some k_ ≠ (.slice Ao14 t110.length co14 : Value).ownBlock ∧ some k_ ≠ (.slice Ao21 t121.length co21 : Value).ownBlock) (.slice Ao30 t129.length co30) t129) ∧ (w'.heap[gb116]? = some (.cells #[.int .i64 t101, .int .i64 t102, .int .i64 t103, .slice Ao12 t104.length co12] 25 (0, 0))) ∧ (w'.heap[gb117]? = some (.cells #[.int .i64 t107, .int .i64 t108, .int .i64 t109, .slice Ao14 t110.length co14] 25 (0, 0))) ∧ (w'.heap[gb125]? = some (.cells #[.int .i64 t118, .int .i64 t119, .int .i64 t120, .slice Ao21 t121.length co21] 25 (0, 0))) ∧ (w'.heap[gb133]? = some (.cells #[.int .i64 t126, .int .i64 t127, .int .i64 t128, .slice Ao30 t129.length co30] 25 (0, 0))) ∧ (w'.heap[s_.2.2]? = some (.cells #[.int .i64 0, .int .i64 0, .int .i64 0, .slice none 0 0] 25 (0, 0))) ∧ (w.heap.size ≤ s_.2.2) ∧ (w.heap.size ≤ s_.2.2) ∧ (gb116 ≠ s_.2.2) ∧ (s_.2.2 ≠ gb116) ∧ (gb117 ≠ s_.2.2) ∧ (s_.2.2 ≠ gb117) ∧ (gb125 ≠ s_.2.2) ∧ (s_.2.2 ≠ gb125) ∧ (gb133 ≠ s_.2.2) ∧ (s_.2.2 ≠ gb133) ∧ (Below w.heap.size w w')) ?_ ?_
    rotate_left
    ·
     intro hCont
     refine two_ (i := 4) (j := 9) (Ni := some 61) (Nj := some 10) #[true, true, true, true, true, false, false, false, false, false, false, false] #[true, true, true, true, false, false, false, false, false, true, false, false] rfl rfl rfl rfl (two_of HT_.out (by kernel_rfl)) (by decide) (by decide) (fun K hK => ?_) (fun K hK => ?_)
     ·
      skip
      refine goes_ Try.func9 (by kernel_rfl) rfl #[.agg #[.int .i64 t101, .int .i64 t102, .int .i64 t103, .slice Ao12 t104.length co12], .agg #[.int .i64 t107, .int .i64 t108, .int .i64 t109, .slice Ao14 t110.length co14]] (by rfl) rfl rfl (by simp only [List.map_toArray, List.map_cons, List.map_nil]; rfl) ?_
      with_reducible refine (impl_ChangedRegion.calls t101 t102 t103 _ _ t104 t107 t108 t109 _ _ t110 t136 _ ?side1 ?side2 ?side3 ?side4 A77.out).mono ?_
      (case side1 => repeat (first | exact (Kd.Q_reads' HO_117003.out).2.2 | (with_reducible refine Kd.C_alloc ?_ _) | (with_reducible refine Kd.C_drewN ?_ _) | (with_reducible refine Kd.C_drew ?_)))
      (case side2 => exact (Kd.Q_reads' HO_117003.out).2.1)
      (case side3 => repeat (first | exact (Kd.Q_reads' HO_118003.out).2.2 | (with_reducible refine Kd.C_alloc ?_ _) | (with_reducible refine Kd.C_drewN ?_ _) | (with_reducible refine Kd.C_drew ?_)))
      (case side4 => exact (Kd.Q_reads' HO_118003.out).2.1)
      rintro e w82 ⟨v137, rfl, ho0, hb⟩
      refine ⟨_, rfl, ?_⟩
      replace HO_117003 := am_ (Kd.Q_below (by exact HO_117003.out) hb)
      replace HO_118003 := am_ (Kd.Q_below (by exact HO_118003.out) hb)
      replace HO_126003 := am_ (Kd.Q_below (by exact HO_126003.out) hb)
      replace HO_134003 := am_ (Kd.Q_below (by exact HO_134003.out) hb)
      have HO138 := am_ (Kd.R_lower ho0 (below_size (hb_ : Below w.heap.size w _)))
      replace BK116 := bb_ BK116 hb
      replace BK117 := bb_ BK117 hb
      replace BK125 := bb_ BK125 hb
      replace BK133 := bb_ BK133 hb
      replace HB := am_ (below_step (hb_ : Below w.heap.size w _) hb)
      (try clear hb)
      (try clear hb2)
      (try clear hk)
      (try clear hi)
      (try clear ho0)
      obtain ⟨Ao83, co83, eo83⟩ := Kd.R_slice HO138.out
      (first | subst eo83 | (injection eo83 with f1_ f2_ f3_; have f4_ := f1_.symm; have f5_ := f3_.symm; clear f1_ f2_ f3_; subst f4_; subst f5_))
      refine hK.out _ _ (s8_ BK116 BK117) (fun hHeld => ?_)
      clear hK K
      refine norm_ (a' := ?_) ?_ ?_
      rotate_left
      ·
       show Act.put _ (some 61) _ = _
       simp only [Act.put, List.setIfInBounds_toArray, List.set_cons_zero, List.set_cons_succ, i64_w, i32_w]
       rfl
      refine two_ (i := 5) (j := 9) (Ni := some 62) (Nj := some 10) #[true, true, true, true, true, true, false, false, false, false, false, false] #[true, true, true, true, true, false, false, false, false, true, false, false] rfl rfl rfl rfl (two_of HT_.out (by kernel_rfl)) (by decide) (by decide) (fun K hK => ?_) (fun K hK => ?_)
      ·
       skip
       refine goes_ Try.func6 (by kernel_rfl) rfl #[.agg #[.int .i64 t101, .int .i64 t102, .int .i64 t103, .slice Ao12 t104.length co12], .agg #[.int .i64 t107, .int .i64 t108, .int .i64 t109, .slice Ao14 t110.length co14], .slice Ao83 t136.length co83] (by rfl) rfl rfl (by simp only [List.map_toArray, List.map_cons, List.map_nil]; rfl) ?_
       with_reducible refine (impl_MaskImage.calls t101 t102 t103 _ _ t104 t107 t108 t109 _ _ t110 _ _ t136 t139 t140 t141 t142 true _ ?side1 ?side2 ?side3 ?side4 ?side5 ?side6 A78.out).mono ?_
       (case side1 => repeat (first | exact (Kd.Q_reads' HO_117003.out).2.2 | (with_reducible refine Kd.C_alloc ?_ _) | (with_reducible refine Kd.C_drewN ?_ _) | (with_reducible refine Kd.C_drew ?_)))
       (case side2 => exact (Kd.Q_reads' HO_117003.out).2.1)
       (case side3 => repeat (first | exact (Kd.Q_reads' HO_118003.out).2.2 | (with_reducible refine Kd.C_alloc ?_ _) | (with_reducible refine Kd.C_drewN ?_ _) | (with_reducible refine Kd.C_drew ?_)))
       (case side4 => exact (Kd.Q_reads' HO_118003.out).2.1)
       (case side5 => repeat (first | exact (Kd.R_reads' HO138.out).2.2 | (with_reducible refine Kd.C_alloc ?_ _) | (with_reducible refine Kd.C_drewN ?_ _) | (with_reducible refine Kd.C_drew ?_)))
       (case side6 => exact (Kd.R_reads' HO138.out).2.1)
       rintro e w84 ⟨v143, rfl, ho0, hb⟩
       refine ⟨_, rfl, ?_⟩
       replace HO138 := rb_ HO138 hb
       have HO144 := am_ (Kd.R_lower (Kd.R_new' (Kd.R_new' (Kd.R_new' (Kd.R_new' ho0 (Kd.Q_lt (by exact HO_117003.out))) (Kd.Q_lt (by exact HO_118003.out))) (Kd.Q_lt (by exact HO_126003.out))) (Kd.Q_lt (by exact HO_134003.out))) (below_size (hb_ : Below w.heap.size w _)))
       replace HO_117003 := am_ (Kd.Q_elder' (by exact HO_117003.out) (Kd.R_base ho0) hb)
       replace HO_118003 := am_ (Kd.Q_elder' (by exact HO_118003.out) (Kd.R_base ho0) hb)
       replace HO_126003 := am_ (Kd.Q_elder' (by exact HO_126003.out) (Kd.R_base ho0) hb)
       replace HO_134003 := am_ (Kd.Q_elder' (by exact HO_134003.out) (Kd.R_base ho0) hb)
       replace BK116 := bb_ BK116 hb
       replace BK117 := bb_ BK117 hb
       replace BK125 := bb_ BK125 hb
       replace BK133 := bb_ BK133 hb
       replace HB := am_ (below_step (hb_ : Below w.heap.size w _) hb)
       (try clear hb)
       (try clear hb2)
       (try clear hk)
       (try clear hi)
       (try clear ho0)
       refine hK.out _ _ (s8_ BK116 BK117) (fun hHeld => ?_)
       clear hK K
       refine norm_ (a' := ?_) ?_ ?_
       rotate_left
       ·
        show Act.put _ (some 62) _ = _
        simp only [Act.put, List.setIfInBounds_toArray, List.set_cons_zero, List.set_cons_succ, i64_w, i32_w]
        rfl
       refine pure_ (i := 6) (N := some 56) (v := ?_) (a' := ?_) #[true, true, true, true, true, true, true, false, false, false, false, false] rfl rfl (any_of HT_.out (by kernel_rfl)) (fun _ _ _ h => h) (Or.inl ⟨by rfl, ?_⟩) ?_ ?_
       rotate_left
       ·
        intro w'
        go_simp
        with_reducible rfl
       rotate_left
       ·
        simp only [Act.put, List.setIfInBounds_toArray, List.set_cons_zero, List.set_cons_succ, i64_w, i32_w]
        rfl
       refine pure_ (i := 7) (N := some 63) (v := ?_) (a' := ?_) #[true, true, true, true, true, true, true, true, false, false, false, false] rfl rfl (any_of HT_.out (by kernel_rfl)) (fun _ _ _ h => h) (Or.inl ⟨by rfl, ?_⟩) ?_ ?_
       rotate_left
       ·
        intro w'
        go_simp
        with_reducible rfl
       rotate_left
       ·
        simp only [Act.put, List.setIfInBounds_toArray, List.set_cons_zero, List.set_cons_succ, i64_w, i32_w]
        rfl
       refine pure_ (i := 8) (N := some 64) (v := ?_) (a' := ?_) #[true, true, true, true, true, true, true, true, true, false, false, false] rfl rfl (any_of HT_.out (by kernel_rfl)) (fun _ _ _ h => h) (Or.inl ⟨by rfl, ?_⟩) ?_ ?_
       rotate_left
       ·
        intro w'
        go_simp
        with_reducible rfl
       rotate_left
       ·
        simp only [Act.put, List.setIfInBounds_toArray, List.set_cons_zero, List.set_cons_succ, i64_w, i32_w]
        rfl
       refine one_ (i := 9) (N := some 10) #[true, true, true, true, true, true, true, true, true, true, false, false] rfl rfl (one_of HT_.out (by kernel_rfl)) (by decide) (fun K hK => ?_)
       refine box_step ?hg (N := 10) ?hd (cs := #[.int .i64 0, .int .i64 0, .int .i64 0, .slice none 0 0]) (t := 25) ?hr ?_; (case hd => rfl); (case hg => rfl); (case hr => first | (go_simp; done) | (go_simp; rfl))
       intro gb146 hg w85 hbox hb
       replace HO_117003 := am_ (Kd.Q_below (by exact HO_117003.out) hb)
       replace HO_118003 := am_ (Kd.Q_below (by exact HO_118003.out) hb)
       replace HO_126003 := am_ (Kd.Q_below (by exact HO_126003.out) hb)
       replace HO_134003 := am_ (Kd.Q_below (by exact HO_134003.out) hb)
       replace HO138 := rb_ HO138 hb
       replace HO144 := rb_ HO144 hb
       have BK146 := am_ (hbox)
       have GW146 := am_ ((by rw [hg]; exact (below_size (hb_ : Below w.heap.size w _)) : w.heap.size ≤ gb146))
       have GE146 := GW146
       replace HB := am_ (below_step (hb_ : Below w.heap.size w _) hb)
       have NB116_146 := nb_ hg BK116
       have NB146_116 := nc_ NB116_146
       replace BK116 := bb_ BK116 hb
       have NB117_146 := nb_ hg BK117
       have NB146_117 := nc_ NB117_146
       replace BK117 := bb_ BK117 hb
       have NB125_146 := nb_ hg BK125
       have NB146_125 := nc_ NB125_146
       replace BK125 := bb_ BK125 hb
       have NB133_146 := nb_ hg BK133
       have NB146_133 := nc_ NB133_146
       replace BK133 := bb_ BK133 hb
       clear hb hbox hg
       refine hK.out _ _ (s8_ BK116 BK117) (fun hHeld => ?_)
       clear hK K
       refine norm_ (a' := ?_) ?_ ?_
       rotate_left
       ·
        show Act.put _ (some 10) _ = _
        simp only [Act.put, List.setIfInBounds_toArray, List.set_cons_zero, List.set_cons_succ, i64_w, i32_w]
        rfl
       exact norm_ (by simp only [putAll, Act.put, List.setIfInBounds_toArray, List.set_cons_zero, List.set_cons_succ]) (hCont (.slice Ao83 t136.length co83, v143, gb146) _ ⟨hHeld, (by exact HO138.out), (by exact Kd.R_mono HO144.out (fun _ hk => ⟨hk.1.1.1.2, ⟨hk.1.1.2, ⟨hk.1.2, hk.2⟩⟩⟩)), (by exact Kd.Q_mono HO_117003.out (fun _ hk => ⟨hk.2, ⟨hk.1.1, ⟨hk.1.2.1, hk.1.2.2⟩⟩⟩)), (by exact Kd.Q_mono HO_118003.out (fun _ hk => ⟨hk.2, ⟨hk.1.1, ⟨hk.1.2.1, hk.1.2.2⟩⟩⟩)), (by exact Kd.Q_mono HO_126003.out (fun _ hk => ⟨hk.2, ⟨hk.1.1, ⟨hk.1.2.1, hk.1.2.2⟩⟩⟩)), (by exact Kd.Q_mono HO_134003.out (fun _ hk => ⟨hk.2, ⟨hk.1.1, ⟨hk.1.2.1, hk.1.2.2⟩⟩⟩)), (by exact BK116.out), (by exact BK117.out), (by exact BK125.out), (by exact BK133.out), (by exact BK146.out), GW146.out, GE146.out, NB116_146.out, NB146_116.out, NB117_146.out, NB146_117.out, NB125_146.out, NB146_125.out, NB133_146.out, NB146_133.out, hb_⟩)
      skip
      refine box_step ?hg (N := 10) ?hd (cs := #[.int .i64 0, .int .i64 0, .int .i64 0, .slice none 0 0]) (t := 25) ?hr ?_; (case hd => rfl); (case hg => rfl); (case hr => first | (go_simp; done) | (go_simp; rfl))
      intro gb146 hg w83 hbox hb
      replace HO_117003 := am_ (Kd.Q_below (by exact HO_117003.out) hb)
      replace HO_118003 := am_ (Kd.Q_below (by exact HO_118003.out) hb)
      replace HO_126003 := am_ (Kd.Q_below (by exact HO_126003.out) hb)
      replace HO_134003 := am_ (Kd.Q_below (by exact HO_134003.out) hb)
      replace HO138 := rb_ HO138 hb
      have BK146 := am_ (hbox)
      have GW146 := am_ ((by rw [hg]; exact (below_size (hb_ : Below w.heap.size w _)) : w.heap.size ≤ gb146))
      have GE146 := GW146
      replace HB := am_ (below_step (hb_ : Below w.heap.size w _) hb)
      have NB116_146 := nb_ hg BK116
      have NB146_116 := nc_ NB116_146
      replace BK116 := bb_ BK116 hb
      have NB117_146 := nb_ hg BK117
      have NB146_117 := nc_ NB117_146
      replace BK117 := bb_ BK117 hb
      have NB125_146 := nb_ hg BK125
      have NB146_125 := nc_ NB125_146
      replace BK125 := bb_ BK125 hb
      have NB133_146 := nb_ hg BK133
      have NB146_133 := nc_ NB133_146
      replace BK133 := bb_ BK133 hb
      clear hb hbox hg
      obtain ⟨Ao84, co84, eo84⟩ := Kd.R_slice HO138.out
      (first | subst eo84 | (injection eo84 with f1_ f2_ f3_; have f4_ := f1_.symm; have f5_ := f3_.symm; clear f1_ f2_ f3_; subst f4_; subst f5_))
      refine hK.out _ _ (s8_ BK116 BK117) (fun hHeld => ?_)
      clear hK K
      refine norm_ (a' := ?_) ?_ ?_
      rotate_left
      ·
       show Act.put _ (some 10) _ = _
       simp only [Act.put, List.setIfInBounds_toArray, List.set_cons_zero, List.set_cons_succ, i64_w, i32_w]
       rfl
      refine one_ (i := 5) (N := some 62) #[true, true, true, true, true, true, false, false, false, true, false, false] rfl rfl (one_of HT_.out (by kernel_rfl)) (by decide) (fun K hK => ?_)
      refine goes_ Try.func6 (by kernel_rfl) rfl #[.agg #[.int .i64 t101, .int .i64 t102, .int .i64 t103, .slice Ao12 t104.length co12], .agg #[.int .i64 t107, .int .i64 t108, .int .i64 t109, .slice Ao14 t110.length co14], .slice Ao84 t136.length co84] (by rfl) rfl rfl (by simp only [List.map_toArray, List.map_cons, List.map_nil]; rfl) ?_
      with_reducible refine (impl_MaskImage.calls t101 t102 t103 _ _ t104 t107 t108 t109 _ _ t110 _ _ t136 t139 t140 t141 t142 true _ ?side1 ?side2 ?side3 ?side4 ?side5 ?side6 A78.out).mono ?_
      (case side1 => repeat (first | exact (Kd.Q_reads' HO_117003.out).2.2 | (with_reducible refine Kd.C_alloc ?_ _) | (with_reducible refine Kd.C_drewN ?_ _) | (with_reducible refine Kd.C_drew ?_)))
      (case side2 => exact (Kd.Q_reads' HO_117003.out).2.1)
      (case side3 => repeat (first | exact (Kd.Q_reads' HO_118003.out).2.2 | (with_reducible refine Kd.C_alloc ?_ _) | (with_reducible refine Kd.C_drewN ?_ _) | (with_reducible refine Kd.C_drew ?_)))
      (case side4 => exact (Kd.Q_reads' HO_118003.out).2.1)
      (case side5 => repeat (first | exact (Kd.R_reads' HO138.out).2.2 | (with_reducible refine Kd.C_alloc ?_ _) | (with_reducible refine Kd.C_drewN ?_ _) | (with_reducible refine Kd.C_drew ?_)))
      (case side6 => exact (Kd.R_reads' HO138.out).2.1)
      rintro e w85 ⟨v143, rfl, ho0, hb⟩
      refine ⟨_, rfl, ?_⟩
      replace HO138 := rb_ HO138 hb
      have HO144 := am_ (Kd.R_lower (Kd.R_new' (Kd.R_new' (Kd.R_new' (Kd.R_new' ho0 (Kd.Q_lt (by exact HO_117003.out))) (Kd.Q_lt (by exact HO_118003.out))) (Kd.Q_lt (by exact HO_126003.out))) (Kd.Q_lt (by exact HO_134003.out))) (below_size (hb_ : Below w.heap.size w _)))
      replace HO_117003 := am_ (Kd.Q_elder' (by exact HO_117003.out) (Kd.R_base ho0) hb)
      replace HO_118003 := am_ (Kd.Q_elder' (by exact HO_118003.out) (Kd.R_base ho0) hb)
      replace HO_126003 := am_ (Kd.Q_elder' (by exact HO_126003.out) (Kd.R_base ho0) hb)
      replace HO_134003 := am_ (Kd.Q_elder' (by exact HO_134003.out) (Kd.R_base ho0) hb)
      replace BK116 := bb_ BK116 hb
      replace BK117 := bb_ BK117 hb
      replace BK125 := bb_ BK125 hb
      replace BK133 := bb_ BK133 hb
      replace BK146 := bb_ BK146 hb
      replace HB := am_ (below_step (hb_ : Below w.heap.size w _) hb)
      (try clear hb)
      (try clear hb2)
      (try clear hk)
      (try clear hi)
      (try clear ho0)
      refine hK.out _ _ (s8_ BK116 BK117) (fun hHeld => ?_)
      clear hK K
      refine norm_ (a' := ?_) ?_ ?_
      rotate_left
      ·
       show Act.put _ (some 62) _ = _
       simp only [Act.put, List.setIfInBounds_toArray, List.set_cons_zero, List.set_cons_succ, i64_w, i32_w]
       rfl
      refine pure_ (i := 6) (N := some 56) (v := ?_) (a' := ?_) #[true, true, true, true, true, true, true, false, false, true, false, false] rfl rfl (any_of HT_.out (by kernel_rfl)) (fun _ _ _ h => h) (Or.inl ⟨by rfl, ?_⟩) ?_ ?_
      rotate_left
      ·
       intro w'
       go_simp
       with_reducible rfl
      rotate_left
      ·
       simp only [Act.put, List.setIfInBounds_toArray, List.set_cons_zero, List.set_cons_succ, i64_w, i32_w]
       rfl
      refine pure_ (i := 7) (N := some 63) (v := ?_) (a' := ?_) #[true, true, true, true, true, true, true, true, false, true, false, false] rfl rfl (any_of HT_.out (by kernel_rfl)) (fun _ _ _ h => h) (Or.inl ⟨by rfl, ?_⟩) ?_ ?_
      rotate_left
      ·
       intro w'
       go_simp
       with_reducible rfl
      rotate_left
      ·
       simp only [Act.put, List.setIfInBounds_toArray, List.set_cons_zero, List.set_cons_succ, i64_w, i32_w]
       rfl
      refine pure_ (i := 8) (N := some 64) (v := ?_) (a' := ?_) #[true, true, true, true, true, true, true, true, true, true, false, false] rfl rfl (any_of HT_.out (by kernel_rfl)) (fun _ _ _ h => h) (Or.inl ⟨by rfl, ?_⟩) ?_ ?_
      rotate_left
      ·
       intro w'
       go_simp
       with_reducible rfl
      rotate_left
      ·
       simp only [Act.put, List.setIfInBounds_toArray, List.set_cons_zero, List.set_cons_succ, i64_w, i32_w]
       rfl
      exact norm_ (by simp only [putAll, Act.put, List.setIfInBounds_toArray, List.set_cons_zero, List.set_cons_succ]) (hCont (.slice Ao84 t136.length co84, v143, gb146) _ ⟨hHeld, (by exact HO138.out), (by exact Kd.R_mono HO144.out (fun _ hk => ⟨hk.1.1.1.2, ⟨hk.1.1.2, ⟨hk.1.2, hk.2⟩⟩⟩)), (by exact Kd.Q_mono HO_117003.out (fun _ hk => ⟨hk.2, ⟨hk.1.1, ⟨hk.1.2.1, hk.1.2.2⟩⟩⟩)), (by exact Kd.Q_mono HO_118003.out (fun _ hk => ⟨hk.2, ⟨hk.1.1, ⟨hk.1.2.1, hk.1.2.2⟩⟩⟩)), (by exact Kd.Q_mono HO_126003.out (fun _ hk => ⟨hk.2, ⟨hk.1.1, ⟨hk.1.2.1, hk.1.2.2⟩⟩⟩)), (by exact Kd.Q_mono HO_134003.out (fun _ hk => ⟨hk.2, ⟨hk.1.1, ⟨hk.1.2.1, hk.1.2.2⟩⟩⟩)), (by exact BK116.out), (by exact BK117.out), (by exact BK125.out), (by exact BK133.out), (by exact BK146.out), GW146.out, GE146.out, NB116_146.out, NB146_116.out, NB117_146.out, NB146_117.out, NB125_146.out, NB146_125.out, NB133_146.out, NB146_133.out, hb_⟩)
     skip
     refine box_step ?hg (N := 10) ?hd (cs := #[.int .i64 0, .int .i64 0, .int .i64 0, .slice none 0 0]) (t := 25) ?hr ?_; (case hd => rfl); (case hg => rfl); (case hr => first | (go_simp; done) | (go_simp; rfl))
     intro gb146 hg w82 hbox hb
     replace HO_117003 := am_ (Kd.Q_below (by exact HO_117003.out) hb)
     replace HO_118003 := am_ (Kd.Q_below (by exact HO_118003.out) hb)
     replace HO_126003 := am_ (Kd.Q_below (by exact HO_126003.out) hb)
     replace HO_134003 := am_ (Kd.Q_below (by exact HO_134003.out) hb)
     have BK146 := am_ (hbox)
     have GW146 := am_ ((by rw [hg]; exact (below_size (hb_ : Below w.heap.size w _)) : w.heap.size ≤ gb146))
     have GE146 := GW146
     replace HB := am_ (below_step (hb_ : Below w.heap.size w _) hb)
     have NB116_146 := nb_ hg BK116
     have NB146_116 := nc_ NB116_146
     replace BK116 := bb_ BK116 hb
     have NB117_146 := nb_ hg BK117
     have NB146_117 := nc_ NB117_146
     replace BK117 := bb_ BK117 hb
     have NB125_146 := nb_ hg BK125
     have NB146_125 := nc_ NB125_146
     replace BK125 := bb_ BK125 hb
     have NB133_146 := nb_ hg BK133
     have NB146_133 := nc_ NB133_146
     replace BK133 := bb_ BK133 hb
     clear hb hbox hg
     refine hK.out _ _ (s8_ BK116 BK117) (fun hHeld => ?_)
     clear hK K
     refine norm_ (a' := ?_) ?_ ?_
     rotate_left
     ·
      show Act.put _ (some 10) _ = _
      simp only [Act.put, List.setIfInBounds_toArray, List.set_cons_zero, List.set_cons_succ, i64_w, i32_w]
      rfl
     refine one_ (i := 4) (N := some 61) #[true, true, true, true, true, false, false, false, false, true, false, false] rfl rfl (one_of HT_.out (by kernel_rfl)) (by decide) (fun K hK => ?_)
     refine goes_ Try.func9 (by kernel_rfl) rfl #[.agg #[.int .i64 t101, .int .i64 t102, .int .i64 t103, .slice Ao12 t104.length co12], .agg #[.int .i64 t107, .int .i64 t108, .int .i64 t109, .slice Ao14 t110.length co14]] (by rfl) rfl rfl (by simp only [List.map_toArray, List.map_cons, List.map_nil]; rfl) ?_
     with_reducible refine (impl_ChangedRegion.calls t101 t102 t103 _ _ t104 t107 t108 t109 _ _ t110 t136 _ ?side1 ?side2 ?side3 ?side4 A77.out).mono ?_
     (case side1 => repeat (first | exact (Kd.Q_reads' HO_117003.out).2.2 | (with_reducible refine Kd.C_alloc ?_ _) | (with_reducible refine Kd.C_drewN ?_ _) | (with_reducible refine Kd.C_drew ?_)))
     (case side2 => exact (Kd.Q_reads' HO_117003.out).2.1)
     (case side3 => repeat (first | exact (Kd.Q_reads' HO_118003.out).2.2 | (with_reducible refine Kd.C_alloc ?_ _) | (with_reducible refine Kd.C_drewN ?_ _) | (with_reducible refine Kd.C_drew ?_)))
     (case side4 => exact (Kd.Q_reads' HO_118003.out).2.1)
     rintro e w83 ⟨v137, rfl, ho0, hb⟩
     refine ⟨_, rfl, ?_⟩
     replace HO_117003 := am_ (Kd.Q_below (by exact HO_117003.out) hb)
     replace HO_118003 := am_ (Kd.Q_below (by exact HO_118003.out) hb)
     replace HO_126003 := am_ (Kd.Q_below (by exact HO_126003.out) hb)
     replace HO_134003 := am_ (Kd.Q_below (by exact HO_134003.out) hb)
     have HO138 := am_ (Kd.R_lower ho0 (below_size (hb_ : Below w.heap.size w _)))
     replace BK116 := bb_ BK116 hb
     replace BK117 := bb_ BK117 hb
     replace BK125 := bb_ BK125 hb
     replace BK133 := bb_ BK133 hb
     replace BK146 := bb_ BK146 hb
     replace HB := am_ (below_step (hb_ : Below w.heap.size w _) hb)
     (try clear hb)
     (try clear hb2)
     (try clear hk)
     (try clear hi)
     (try clear ho0)
     obtain ⟨Ao84, co84, eo84⟩ := Kd.R_slice HO138.out
     (first | subst eo84 | (injection eo84 with f1_ f2_ f3_; have f4_ := f1_.symm; have f5_ := f3_.symm; clear f1_ f2_ f3_; subst f4_; subst f5_))
     refine hK.out _ _ (s8_ BK116 BK117) (fun hHeld => ?_)
     clear hK K
     refine norm_ (a' := ?_) ?_ ?_
     rotate_left
     ·
      show Act.put _ (some 61) _ = _
      simp only [Act.put, List.setIfInBounds_toArray, List.set_cons_zero, List.set_cons_succ, i64_w, i32_w]
      rfl
     refine one_ (i := 5) (N := some 62) #[true, true, true, true, true, true, false, false, false, true, false, false] rfl rfl (one_of HT_.out (by kernel_rfl)) (by decide) (fun K hK => ?_)
     refine goes_ Try.func6 (by kernel_rfl) rfl #[.agg #[.int .i64 t101, .int .i64 t102, .int .i64 t103, .slice Ao12 t104.length co12], .agg #[.int .i64 t107, .int .i64 t108, .int .i64 t109, .slice Ao14 t110.length co14], .slice Ao84 t136.length co84] (by rfl) rfl rfl (by simp only [List.map_toArray, List.map_cons, List.map_nil]; rfl) ?_
     with_reducible refine (impl_MaskImage.calls t101 t102 t103 _ _ t104 t107 t108 t109 _ _ t110 _ _ t136 t139 t140 t141 t142 true _ ?side1 ?side2 ?side3 ?side4 ?side5 ?side6 A78.out).mono ?_
     (case side1 => repeat (first | exact (Kd.Q_reads' HO_117003.out).2.2 | (with_reducible refine Kd.C_alloc ?_ _) | (with_reducible refine Kd.C_drewN ?_ _) | (with_reducible refine Kd.C_drew ?_)))
     (case side2 => exact (Kd.Q_reads' HO_117003.out).2.1)
     (case side3 => repeat (first | exact (Kd.Q_reads' HO_118003.out).2.2 | (with_reducible refine Kd.C_alloc ?_ _) | (with_reducible refine Kd.C_drewN ?_ _) | (with_reducible refine Kd.C_drew ?_)))
     (case side4 => exact (Kd.Q_reads' HO_118003.out).2.1)
     (case side5 => repeat (first | exact (Kd.R_reads' HO138.out).2.2 | (with_reducible refine Kd.C_alloc ?_ _) | (with_reducible refine Kd.C_drewN ?_ _) | (with_reducible refine Kd.C_drew ?_)))
     (case side6 => exact (Kd.R_reads' HO138.out).2.1)
     rintro e w85 ⟨v143, rfl, ho0, hb⟩
     refine ⟨_, rfl, ?_⟩
     replace HO138 := rb_ HO138 hb
     have HO144 := am_ (Kd.R_lower (Kd.R_new' (Kd.R_new' (Kd.R_new' (Kd.R_new' ho0 (Kd.Q_lt (by exact HO_117003.out))) (Kd.Q_lt (by exact HO_118003.out))) (Kd.Q_lt (by exact HO_126003.out))) (Kd.Q_lt (by exact HO_134003.out))) (below_size (hb_ : Below w.heap.size w _)))
     replace HO_117003 := am_ (Kd.Q_elder' (by exact HO_117003.out) (Kd.R_base ho0) hb)
     replace HO_118003 := am_ (Kd.Q_elder' (by exact HO_118003.out) (Kd.R_base ho0) hb)
     replace HO_126003 := am_ (Kd.Q_elder' (by exact HO_126003.out) (Kd.R_base ho0) hb)
     replace HO_134003 := am_ (Kd.Q_elder' (by exact HO_134003.out) (Kd.R_base ho0) hb)
     replace BK116 := bb_ BK116 hb
     replace BK117 := bb_ BK117 hb
     replace BK125 := bb_ BK125 hb
     replace BK133 := bb_ BK133 hb
     replace BK146 := bb_ BK146 hb
     replace HB := am_ (below_step (hb_ : Below w.heap.size w _) hb)
     (try clear hb)
     (try clear hb2)
     (try clear hk)
     (try clear hi)
     (try clear ho0)
     refine hK.out _ _ (s8_ BK116 BK117) (fun hHeld => ?_)
     clear hK K
     refine norm_ (a' := ?_) ?_ ?_
     rotate_left
     ·
      show Act.put _ (some 62) _ = _
      simp only [Act.put, List.setIfInBounds_toArray, List.set_cons_zero, List.set_cons_succ, i64_w, i32_w]
      rfl
     refine pure_ (i := 6) (N := some 56) (v := ?_) (a' := ?_) #[true, true, true, true, true, true, true, false, false, true, false, false] rfl rfl (any_of HT_.out (by kernel_rfl)) (fun _ _ _ h => h) (Or.inl ⟨by rfl, ?_⟩) ?_ ?_
     rotate_left
     ·
      intro w'
      go_simp
      with_reducible rfl
     rotate_left
     ·
      simp only [Act.put, List.setIfInBounds_toArray, List.set_cons_zero, List.set_cons_succ, i64_w, i32_w]
      rfl
     refine pure_ (i := 7) (N := some 63) (v := ?_) (a' := ?_) #[true, true, true, true, true, true, true, true, false, true, false, false] rfl rfl (any_of HT_.out (by kernel_rfl)) (fun _ _ _ h => h) (Or.inl ⟨by rfl, ?_⟩) ?_ ?_
     rotate_left
     ·
      intro w'
      go_simp
      with_reducible rfl
     rotate_left
     ·
      simp only [Act.put, List.setIfInBounds_toArray, List.set_cons_zero, List.set_cons_succ, i64_w, i32_w]
      rfl
     refine pure_ (i := 8) (N := some 64) (v := ?_) (a' := ?_) #[true, true, true, true, true, true, true, true, true, true, false, false] rfl rfl (any_of HT_.out (by kernel_rfl)) (fun _ _ _ h => h) (Or.inl ⟨by rfl, ?_⟩) ?_ ?_
     rotate_left
     ·
      intro w'
      go_simp
      with_reducible rfl
     rotate_left
     ·
      simp only [Act.put, List.setIfInBounds_toArray, List.set_cons_zero, List.set_cons_succ, i64_w, i32_w]
      rfl
     exact norm_ (by simp only [putAll, Act.put, List.setIfInBounds_toArray, List.set_cons_zero, List.set_cons_succ]) (hCont (.slice Ao84 t136.length co84, v143, gb146) _ ⟨hHeld, (by exact HO138.out), (by exact Kd.R_mono HO144.out (fun _ hk => ⟨hk.1.1.1.2, ⟨hk.1.1.2, ⟨hk.1.2, hk.2⟩⟩⟩)), (by exact Kd.Q_mono HO_117003.out (fun _ hk => ⟨hk.2, ⟨hk.1.1, ⟨hk.1.2.1, hk.1.2.2⟩⟩⟩)), (by exact Kd.Q_mono HO_118003.out (fun _ hk => ⟨hk.2, ⟨hk.1.1, ⟨hk.1.2.1, hk.1.2.2⟩⟩⟩)), (by exact Kd.Q_mono HO_126003.out (fun _ hk => ⟨hk.2, ⟨hk.1.1, ⟨hk.1.2.1, hk.1.2.2⟩⟩⟩)), (by exact Kd.Q_mono HO_134003.out (fun _ hk => ⟨hk.2, ⟨hk.1.1, ⟨hk.1.2.1, hk.1.2.2⟩⟩⟩)), (by exact BK116.out), (by exact BK117.out), (by exact BK125.out), (by exact BK133.out), (by exact BK146.out), GW146.out, GE146.out, NB116_146.out, NB146_116.out, NB117_146.out, NB146_117.out, NB125_146.out, NB146_125.out, NB133_146.out, NB146_133.out, hb_⟩)
    rintro ⟨v137, v143, gb146⟩ w86 ⟨hS_, h0_, h1_, h2_, h3_, h4_, h5_, h6_, h7_, h8_, h9_, h10_, h11_, h12_, h13_, h14_, h15_, h16_, h17_, h18_, h19_, h20_, h21_⟩
    (try dsimp only at h0_ h1_ h2_ h3_ h4_ h5_ h6_ h7_ h8_ h9_ h10_ h11_ h12_ h13_ h14_ h15_ h16_ h17_ h18_ h19_ h20_ h21_)
    clear HO_117003 HO_118003 HO_126003 HO_134003 BK116 BK117 BK125 BK133 HB
    have HO138 := am_ h0_
    have HO144 := am_ h1_
    have HO_117003 := am_ h2_
    have HO_118003 := am_ h3_
    have HO_126003 := am_ h4_
    have HO_134003 := am_ h5_
    have BK116 := am_ h6_
    have BK117 := am_ h7_
    have BK125 := am_ h8_
    have BK133 := am_ h9_
    have BK146 := am_ h10_
    have GW146 := am_ h11_
    have GE146 := am_ h12_
    have NB116_146 := am_ h13_
    have NB146_116 := am_ h14_
    have NB117_146 := am_ h15_
    have NB146_117 := am_ h16_
    have NB125_146 := am_ h17_
    have NB146_125 := am_ h18_
    have NB133_146 := am_ h19_
    have NB146_133 := am_ h20_
    have HB := am_ h21_
    clear h0_ h1_ h2_ h3_ h4_ h5_ h6_ h7_ h8_ h9_ h10_ h11_ h12_ h13_ h14_ h15_ h16_ h17_ h18_ h19_ h20_ h21_
    have hHeld := hS_
    obtain ⟨Ao90, co90, eo90⟩ := Kd.R_slice HO144.out
    (first | subst eo90 | (injection eo90 with f1_ f2_ f3_; have f4_ := f1_.symm; have f5_ := f3_.symm; clear f1_ f2_ f3_; subst f4_; subst f5_))
    refine norm_ (a' := ?_) ?_ ?_
    rotate_left
    ·
     simp only [putAll, Act.put, List.setIfInBounds_toArray, List.set_cons_zero, List.set_cons_succ]
     rfl
    refine one_ (i := 10) (N := none) #[true, true, true, true, true, true, true, true, true, true, true, false] rfl rfl (one_of HT_.out (by kernel_rfl)) (by decide) (fun K hK => ?_)
    have hs87 : w86.cell? ⟨gb146, 0, none⟩ = some (.int .i64 0) := (blk_cell BK146.out 0).trans rfl
    have hfs87 := blk_frozen BK146.out 0
    have hns87_0 := NB116_146.out
    have hns87_1 := NB117_146.out
    have hns87_2 := NB125_146.out
    have hns87_3 := NB133_146.out
    have hms87_0 := NB146_116.out
    have hms87_1 := NB146_117.out
    have hms87_2 := NB146_125.out
    have hms87_3 := NB146_133.out
    have hs88 : w86.cell? ⟨gb146, 1, none⟩ = some (.int .i64 0) := (blk_cell BK146.out 1).trans rfl
    have hfs88 := blk_frozen BK146.out 1
    have hns88_0 := NB116_146.out
    have hns88_1 := NB117_146.out
    have hns88_2 := NB125_146.out
    have hns88_3 := NB133_146.out
    have hms88_0 := NB146_116.out
    have hms88_1 := NB146_117.out
    have hms88_2 := NB146_125.out
    have hms88_3 := NB146_133.out
    have hs89 : w86.cell? ⟨gb146, 2, none⟩ = some (.int .i64 0) := (blk_cell BK146.out 2).trans rfl
    have hfs89 := blk_frozen BK146.out 2
    have hns89_0 := NB116_146.out
    have hns89_1 := NB117_146.out
    have hns89_2 := NB125_146.out
    have hns89_3 := NB133_146.out
    have hms89_0 := NB146_116.out
    have hms89_1 := NB146_117.out
    have hms89_2 := NB146_125.out
    have hms89_3 := NB146_133.out
    have hs91 : w86.cell? ⟨gb146, 3, none⟩ = some (.slice none 0 0) := (blk_cell BK146.out 3).trans rfl
    have hfs91 := blk_frozen BK146.out 3
    have hns91_0 := NB116_146.out
    have hns91_1 := NB117_146.out
    have hns91_2 := NB125_146.out
    have hns91_3 := NB133_146.out
    have hms91_0 := NB146_116.out
    have hms91_1 := NB146_117.out
    have hms91_2 := NB146_125.out
    have hms91_3 := NB146_133.out
    refine skip_ (w1 := ?_) (by rfl) rfl ?_ ?_
    rotate_left
    ·
     go_simp
     rfl
    refine hK.out _ _ ⟨((cell_far (p := ⟨gb146, _, none⟩) NB116_146.out _).trans (((cell_far (p := ⟨gb146, _, none⟩) NB116_146.out _).trans (((cell_far (p := ⟨gb146, _, none⟩) NB116_146.out _).trans (((cell_far (p := ⟨gb146, _, none⟩) NB116_146.out _).trans (hHeld.1)))))))), ((cell_far (p := ⟨gb146, _, none⟩) NB116_146.out _).trans (((cell_far (p := ⟨gb146, _, none⟩) NB116_146.out _).trans (((cell_far (p := ⟨gb146, _, none⟩) NB116_146.out _).trans (((cell_far (p := ⟨gb146, _, none⟩) NB116_146.out _).trans (hHeld.2.1)))))))), ((cell_far (p := ⟨gb146, _, none⟩) NB116_146.out _).trans (((cell_far (p := ⟨gb146, _, none⟩) NB116_146.out _).trans (((cell_far (p := ⟨gb146, _, none⟩) NB116_146.out _).trans (((cell_far (p := ⟨gb146, _, none⟩) NB116_146.out _).trans (hHeld.2.2.1)))))))), ((cell_far (p := ⟨gb146, _, none⟩) NB116_146.out _).trans (((cell_far (p := ⟨gb146, _, none⟩) NB116_146.out _).trans (((cell_far (p := ⟨gb146, _, none⟩) NB116_146.out _).trans (((cell_far (p := ⟨gb146, _, none⟩) NB116_146.out _).trans (hHeld.2.2.2.1)))))))), ((cell_far (p := ⟨gb146, _, none⟩) NB117_146.out _).trans (((cell_far (p := ⟨gb146, _, none⟩) NB117_146.out _).trans (((cell_far (p := ⟨gb146, _, none⟩) NB117_146.out _).trans (((cell_far (p := ⟨gb146, _, none⟩) NB117_146.out _).trans (hHeld.2.2.2.2.1)))))))), ((cell_far (p := ⟨gb146, _, none⟩) NB117_146.out _).trans (((cell_far (p := ⟨gb146, _, none⟩) NB117_146.out _).trans (((cell_far (p := ⟨gb146, _, none⟩) NB117_146.out _).trans (((cell_far (p := ⟨gb146, _, none⟩) NB117_146.out _).trans (hHeld.2.2.2.2.2.1)))))))), ((cell_far (p := ⟨gb146, _, none⟩) NB117_146.out _).trans (((cell_far (p := ⟨gb146, _, none⟩) NB117_146.out _).trans (((cell_far (p := ⟨gb146, _, none⟩) NB117_146.out _).trans (((cell_far (p := ⟨gb146, _, none⟩) NB117_146.out _).trans (hHeld.2.2.2.2.2.2.1)))))))), ((cell_far (p := ⟨gb146, _, none⟩) NB117_146.out _).trans (((cell_far (p := ⟨gb146, _, none⟩) NB117_146.out _).trans (((cell_far (p := ⟨gb146, _, none⟩) NB117_146.out _).trans (((cell_far (p := ⟨gb146, _, none⟩) NB117_146.out _).trans (hHeld.2.2.2.2.2.2.2))))))))⟩ (fun hHeld => ?_)
    clear hK K
    refine pure_ (i := 11) (N := some 11) (v := ?_) (a' := ?_) #[true, true, true, true, true, true, true, true, true, true, true, true] rfl rfl (any_of HT_.out (by kernel_rfl)) (fun _ _ _ h => h) (Or.inl ⟨by rfl, ?_⟩) ?_ ?_
    rotate_left
    ·
     intro w'
     go_simp
     with_reducible rfl
    rotate_left
    ·
     simp only [Act.put, List.setIfInBounds_toArray, List.set_cons_zero, List.set_cons_succ, i64_w, i32_w]
     rfl
    refine done_ (done_of HT_.out (by kernel_rfl)) ?_
    have hnb92 := NB146_116.out
    have hnc92 := NB116_146.out
    have hnb93 := NB146_117.out
    have hnc93 := NB117_146.out
    have hnb94 := NB146_125.out
    have hnc94 := NB125_146.out
    have hnb95 := NB146_133.out
    have hnc95 := NB133_146.out
    obtain ⟨hcz96_0, hcz96_1, hcz96_2, hcz96_3, hfz96_0, hfz96_1, hfz96_2, hfz96_3⟩ := blk4_ BK146.out
    have hnb97 := NB117_116.out
    have hnc97 := NB116_117.out
    have hnb98 := NB117_125.out
    have hnc98 := NB125_117.out
    have hnb99 := NB117_133.out
    have hnc99 := NB133_117.out
    obtain ⟨hcz100_0, hcz100_1, hcz100_2, hcz100_3, hfz100_0, hfz100_1, hfz100_2, hfz100_3⟩ := blk4_ BK117.out
    try go_wp2_with (first | (go_at_call 8; (with_reducible refine (laws_equalImage.calls kj5 t139 t140 t141 _ _ t142 t107 t108 t109 _ _ t110 t147 _ ?side1 ?side2 ?side3 ?side4 A80.out).mono ?_); (case side1 => refine (Kd.R_reads' (e := 3) (base := w.heap.size) (ok := fun k_ => (some k_ ≠ (.slice Ao12 t104.length co12 : Value).ownBlock ∧ (some k_ ≠ (.slice Ao14 t110.length co14 : Value).ownBlock ∧ (some k_ ≠ (.slice Ao21 t121.length co21 : Value).ownBlock ∧ some k_ ≠ (.slice Ao30 t129.length co30 : Value).ownBlock)))) (n := t142.length) (c := co90) ?_).2.2; exact (by exact (R4_ HO144.out BK146.out (by decide) _ _ _ _))); (case side2 => exact (Kd.R_reads' HO144.out).2.1); (case side3 => refine (Kd.Q_reads' (e := 3) (base := w.heap.size) (ok := fun k_ => (some k_ ≠ (.slice Ao90 t142.length co90 : Value).ownBlock ∧ (some k_ ≠ (.slice Ao12 t104.length co12 : Value).ownBlock ∧ (some k_ ≠ (.slice Ao21 t121.length co21 : Value).ownBlock ∧ some k_ ≠ (.slice Ao30 t129.length co30 : Value).ownBlock)))) (n := t110.length) (c := co14) ?_).2.2; exact (by exact (Q4_ HO_118003.out BK146.out (by decide) _ _ _ _))); (case side4 => exact (Kd.Q_reads' HO_118003.out).2.1); rintro e w101 ⟨rfl, hb⟩; replace HO_117003 := am_ (Kd.Q_below (by exact (Q4_ HO_117003.out BK146.out (by decide) _ _ _ _)) hb); replace HO_118003 := am_ (Kd.Q_below (by exact (Q4_ HO_118003.out BK146.out (by decide) _ _ _ _)) hb); replace HO_126003 := am_ (Kd.Q_below (by exact (Q4_ HO_126003.out BK146.out (by decide) _ _ _ _)) hb); replace HO_134003 := am_ (Kd.Q_below (by exact (Q4_ HO_134003.out BK146.out (by decide) _ _ _ _)) hb); replace HO138 := am_ (Kd.R_below (by exact (R4_ HO138.out BK146.out (by decide) _ _ _ _)) hb); replace HO144 := am_ (Kd.R_below (by exact (R4_ HO144.out BK146.out (by decide) _ _ _ _)) hb); replace BK116 := am_ (blk_below (by exact far4_ BK116.out NB116_146.out _ _ _ _) hb); replace BK117 := am_ (blk_below (by exact far4_ BK117.out NB117_146.out _ _ _ _) hb); replace BK125 := am_ (blk_below (by exact far4_ BK125.out NB125_146.out _ _ _ _) hb); replace BK133 := am_ (blk_below (by exact far4_ BK133.out NB133_146.out _ _ _ _) hb); replace BK146 := am_ (blk_below (by exact put4_ BK146.out _ _ _ _) hb); replace HB := am_ (below_step (hb_ : Below w.heap.size w _) hb); (try clear hb)))
    go_ret
    exact ⟨by first | rfl | (simp [errW_none, errW_some] <;> rfl) | (simp [*, errW_none, errW_some] <;> rfl), by repeat (first | (with_reducible first | exact HB.out | apply below_alloc | apply pw_below_drewN | apply below_drew1 | refine below_set ?_ GE116.out | refine below_set ?_ GE117.out | refine below_set ?_ GE125.out | refine below_set ?_ GE133.out | refine below_set ?_ GE146.out) | exact HB.out)⟩
   replace c79 := Bool.eq_false_iff.mpr c79
   subst c79
   have H1 : (none) = some r := by rw [if_neg (show ¬ (false = true) by decide)] at H; exact H
   exact absurd H1 (by simp)

/-- THE ONE PURE STATEMENT of laws_FnMaskImageChanged: yours. -/
def laws_FnMaskImageChanged.Pure : Prop := ∀ (l0 : List Int), l0.length ≤ maxLen → l0.length * 1 ≤ 140737488351232 → (∀ x ∈ l0, (Lit.int .u8 x).wf = true) → ∃ k, laws_FnMaskImageChanged.f k l0 = some true
theorem laws_FnMaskImageChanged.walk (P : laws_FnMaskImageChanged.Pure) (a0 : Option Addr) (len0 cap0 : Nat) (z0 : List Int) (w : World) (w0 : (a0 = none ∧ len0 = 0 ∧ cap0 = 0 ∧ z0 = []) ∨ ∃ x, a0 = some x ∧ len0 ≤ cap0 ∧ cap0 ≤ maxLen ∧ z0.length = cap0 ∧ (∀ i, i < z0.length → w.cell? (x.add i) = some (.int .u8 (z0.getD i 0))) ∧ ∀ n ∈ z0, (Lit.int .u8 n).wf = true) (y0 : len0 * 1 ≤ 140737488351232) :
  Calls Try.prog 3 #[.slice a0 len0 cap0] w fun e w' => e = .returned (.bool true) ∧ Below w.heap.size w w' := by
 obtain ⟨l0, rfl, hr0, hm0, hw0, hc0⟩ := ReadsInt.ofRowC w0
 obtain ⟨k, h⟩ := P l0 hm0 y0 hw0
 refine (laws_FnMaskImageChanged.calls k _ _ l0 true w (Kd.C_of_reads (d := (0 : Int)) (h1 := fun _ => rfl) hr0) hc0 h).mono ?_
 rintro e w' ⟨rfl, hd⟩
 exact ⟨rfl, hd⟩

end Go.Proofs.Ytbkhhlifpknbeaa.Print
