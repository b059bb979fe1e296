-- laid by hp.py (a program of this work over the kit's print), with contracts by hand for what the print does not take
import Derived.Test.YtceoecmjccakgaaPrint0
import Derived.Test.YtceoecmjccakgaaPrintHx0
import Derived.Test.YtceoecmjccakgaaPrintR0x0
import Derived.Test.YtceoecmjccakgaaPrintR1x0
import Derived.Test.YtceoecmjccakgaaPrintR1x1
import Derived.Test.YtceoecmjccakgaaPrintR1x2
import Derived.Test.YtceoecmjccakgaaPrintR1x4
import Derived.Test.YtceoecmjccakgaaPrintR1x5
namespace Go.Proofs.Ytceoecmjccakgaa.Print
open Go.RowKit Go.Proofs.YtceoecmjccakgaaW.PrintWords Go.Proofs.YtceoecmjccakgaaW.PrintLast Go.Proofs.YtceoecmjccakgaaW.PrintMore
attribute [local go_sem] max2_int min2_int max_two min_two max_three min_three max_four min_four   -- for this text's walks alone
set_option linter.unusedVariables false
set_option linter.unusedSimpArgs false

/-! ### impl_AreaOf: function 11 -/
def impl_AreaOf.l0 : Nat → Int → List (S45) → Int → Int → Option (Int)
 | 0, _, _, _, _ => none
 | k + 1, x3, x9, x10, x11 => if x11 < x10 then (if 0 ≤ x11 then (if x11 < (x9.length : Int) then (impl_AreaOf.l0 k (wrap64 (x3 + (wrap64 (((rd_T45 x9 x11).f2) - ((rd_T45 x9 x11).f1))))) x9 x10 (wrap64 (x11 + 1))) else (none)) else (none)) else (some x3)
def impl_AreaOf.f (k : Nat) (l0 : List (S45)) : Option (Int) := (impl_isRegion.f k l0).bind fun t101 => (if t101 = true then (impl_AreaOf.l0 k 0 l0 (l0.length : Int) 0) else (some (-1)))
theorem impl_AreaOf.mono_l : ∀ k, (∀ y0 y1 y2 y3, LeO (impl_AreaOf.l0 k y0 y1 y2 y3) (impl_AreaOf.l0 (k + 1) y0 y1 y2 y3))
 | 0 => fun _ _ _ _ r h => by simp [impl_AreaOf.l0] at h
 | k + 1 => by
  have ih0 := impl_AreaOf.mono_l k
  intro y0 y1 y2 y3
  unfold impl_AreaOf.l0
  repeat' first
  | (with_reducible exact ih0 _ _ _ _)
  | (with_reducible exact impl_isRegion.mono _ _)
  | (with_reducible exact LeO.refl _)
  | (with_reducible exact LeO.none _)
  | (with_reducible refine LeO.ite ?_ ?_)
  | (with_reducible refine LeO.bind ?_ (fun _ => ?_))
  | exact ih0 _ _ _ _
  | exact impl_isRegion.mono _ _
  | exact LeO.none _
  | refine LeO.ite ?_ ?_
  | refine LeO.bind ?_ (fun _ => ?_)
theorem impl_AreaOf.mono : ∀ a0 k, LeO (impl_AreaOf.f k a0) (impl_AreaOf.f (k + 1) a0) := by
 intro a0 k
 have ih0 := impl_AreaOf.mono_l k
 unfold impl_AreaOf.f
 repeat' first
   | (with_reducible exact ih0 _ _ _ _)
   | (with_reducible exact impl_isRegion.mono _ _)
   | (with_reducible exact LeO.refl _)
   | (with_reducible exact LeO.none _)
   | (with_reducible refine LeO.ite ?_ ?_)
   | (with_reducible refine LeO.bind ?_ (fun _ => ?_))
   | exact ih0 _ _ _ _
   | exact impl_isRegion.mono _ _
   | exact LeO.none _
   | refine LeO.ite ?_ ?_
   | refine LeO.bind ?_ (fun _ => ?_)
set_option maxHeartbeats 8000000 in
set_option maxRecDepth 100000 in
theorem impl_AreaOf.calls (k : Nat) (A0 : Option Addr) (c0 : Nat) (l0 : List (S45)) (r : Int) (w : World) (hr0 : Kd.C k45 w A0 l0.length l0) (hc0 : l0.length ≤ c0) (h : impl_AreaOf.f k l0 = some r) :
  Calls Try.prog 11 #[.slice A0 l0.length c0] w fun e w' => e = .returned (.int .i64 r) ∧ Below w.heap.size w w' := by
 have hu45 := Try.underlying45
 have HR0 := Aside0.mk hr0
 have HC0 := Aside0.mk hc0
 clear hr0 hc0
 have HB := Aside0.mk (Below.refl w.heap.size w)
 have H : ((impl_isRegion.f k l0).bind fun t101 => (if t101 = true then (impl_AreaOf.l0 k 0 l0 (l0.length : Int) 0) else (some (-1)))) = some r := h
 clear h
 replace H := Option.bind_eq_some_iff.mp H
 obtain ⟨t101, A20, H⟩ := H
 replace H : (if t101 = true then (impl_AreaOf.l0 k 0 l0 (l0.length : Int) 0) else (some (-1))) = some r := H
 have A2 := Aside0.mk A20
 clear A20
 by_cases c3 : t101 = true
 rotate_left
 ·
  replace c3 := Bool.eq_false_iff.mpr c3
  subst c3
  have H1 : (some (-1)) = some r := by rw [if_neg (show ¬ (false = true) by decide)] at H; exact H
  clear H
  have H := H1
  clear H1
  obtain rfl := Option.some.inj H
  go_enter Try.func11, Try.ntmps11
  go_wp2_with (first | ((with_reducible refine gate_callee (f := 25) rfl ?_); refine goesL_ (some 7) rfl rfl Try.func25 (by kernel_rfl) rfl #[.slice A0 l0.length c0] rfl (by simp only [List.map_toArray, List.map_cons, List.map_nil]; rfl) ?_; (with_reducible refine (impl_isRegion.calls k _ _ l0 false _ ?side1 ?side2 A2.out).mono ?_); (case side1 => repeat (first | exact HR0.out | (with_reducible refine Kd.C_alloc ?_ _) | (with_reducible refine Kd.C_drewN ?_ _) | (with_reducible refine Kd.C_drew ?_))); (case side2 => exact HC0.out); rintro e w10 ⟨rfl, hb⟩; refine ⟨_, rfl, ?_⟩; replace HB := am_ (below_step (by repeat (first | (with_reducible first | exact HB.out | apply below_alloc | apply pw_below_drewN | apply below_drew1) | exact HB.out)) hb); (try clear hb); (try clear hb2); (try clear hk); (try clear hi)))
  go_ret
  exact ⟨by first | rfl | (simp [errW_none, errW_some] <;> rfl) | (simp [*, errW_none, errW_some] <;> rfl), by repeat (first | (with_reducible first | exact HB.out | apply below_alloc | apply pw_below_drewN | apply below_drew1) | exact HB.out)⟩
 subst c3
 have H1 : (impl_AreaOf.l0 k 0 l0 (l0.length : Int) 0) = some r := by rw [if_pos rfl] at H; exact H
 clear H
 have H := H1
 clear H1
 have H' := Aside0.mk H
 clear H
 go_enter Try.func11, Try.ntmps11
 go_wp2_with (first | ((with_reducible refine gate_callee (f := 25) rfl ?_); refine goesL_ (some 7) rfl rfl Try.func25 (by kernel_rfl) rfl #[.slice A0 l0.length c0] rfl (by simp only [List.map_toArray, List.map_cons, List.map_nil]; rfl) ?_; (with_reducible refine (impl_isRegion.calls k _ _ l0 true _ ?side1 ?side2 A2.out).mono ?_); (case side1 => repeat (first | exact HR0.out | (with_reducible refine Kd.C_alloc ?_ _) | (with_reducible refine Kd.C_drewN ?_ _) | (with_reducible refine Kd.C_drew ?_))); (case side2 => exact HC0.out); rintro e w4 ⟨rfl, hb⟩; refine ⟨_, rfl, ?_⟩; replace HB := am_ (below_step (by repeat (first | (with_reducible first | exact HB.out | apply below_alloc | apply pw_below_drewN | apply below_drew1) | exact HB.out)) hb); (try clear hb); (try clear hb2); (try clear hk); (try clear hi)))
 go_loopg [3, 11] k (fun kq v3 v11 w' => ∃ (x3_1 : Int) (x11_1 : Int), v3 = .int .i64 x3_1 ∧ v11 = .int .i64 x11_1 ∧ Aside0 (impl_AreaOf.l0 kq x3_1 l0 (l0.length : Int) x11_1 = some r) ∧ Aside0 (kq ≤ k) ∧ Aside0 (Below w.heap.size w w'))
 case atStart => exact ⟨(0), (0), (by first | rfl | (simp; done) | (simp [*]; done)), (by first | rfl | (simp; done) | (simp [*]; done)), H', ⟨Nat.le_refl _⟩, ⟨by repeat (first | (with_reducible first | exact HB.out | apply below_alloc | apply pw_below_drewN | apply below_drew1) | exact HB.out)⟩⟩
 case round =>
  clear H'
  try clear c1
  try clear c2
  try clear p2
  try clear c3
  obtain ⟨x3_1, x11_1, rfl, rfl, HA, HK1, HB⟩ := hrel
  cases gk with
  | zero => exact absurd HA.out (by simp [impl_AreaOf.l0])
  | succ k1 =>
   have H := HA.out
   clear HA
   simp only [impl_AreaOf.l0] at H
   by_cases c5 : x11_1 < (l0.length : Int)
   rotate_left
   ·
    rw [if_neg c5] at H
    have c5b0 : decide (x11_1 < (l0.length : Int)) = false := decide_eq_false c5
    clear c5
    obtain rfl := Option.some.inj H
    go_wp2
    go_ret
    exact ⟨by first | rfl | (simp [errW_none, errW_some] <;> rfl) | (simp [*, errW_none, errW_some] <;> rfl), by repeat (first | (with_reducible first | exact HB.out | apply below_alloc | apply pw_below_drewN | apply below_drew1) | exact HB.out)⟩
   rw [if_pos c5] at H
   have c5b0 : decide (x11_1 < (l0.length : Int)) = true := decide_eq_true c5
   clear c5
   by_cases c6 : 0 ≤ x11_1
   rotate_left
   ·
    rw [if_neg c6] at H
    exact absurd H (by simp)
   rw [if_pos c6] at H
   have c6b0 : decide (0 ≤ x11_1) = true := decide_eq_true c6
   clear c6
   by_cases c7 : x11_1 < (l0.length : Int)
   rotate_left
   ·
    rw [if_neg c7] at H
    exact absurd H (by simp)
   rw [if_pos c7] at H
   have c7b0 : decide (x11_1 < (l0.length : Int)) = true := decide_eq_true c7
   clear c7
   have H' := Aside0.mk H
   clear H
   have p102 : 0 ≤ (x11_1 : Int) := of_decide_eq_true (by first | with_reducible assumption | assumption)
   have q102 : x11_1 < (l0.length : Int) := of_decide_eq_true (by first | with_reducible assumption | assumption)
   obtain ⟨ad102, e102, hx102_0, hx102_1, hx102_2⟩ := at_T45 HR0.out x11_1 p102 q102
   cases e102
   replace hx102_0 := (HB.out.cell (World.block_lt_of_cell? w _ hx102_0)).trans hx102_0
   replace hx102_1 := (HB.out.cell (World.block_lt_of_cell? w _ hx102_1)).trans hx102_1
   replace hx102_2 := (HB.out.cell (World.block_lt_of_cell? w _ hx102_2)).trans hx102_2
   replace p102 := eq_true p102
   replace q102 := eq_true q102
   go_wp2_with (first | ((with_reducible refine gate_dst (N := 5) rfl ?_); refine box_event ?hg (N := 5) ?hd (cs := #[.int .i64 0, .int .i64 0, .int .i64 0]) (t := 45) ?hr ?_; (case hd => rfl); (case hg => rfl); (case hr => first | (go_simp; done) | (go_simp; rfl)); intro gb103 hg w8 hbox hb; have BK103 := am_ (hbox); have GW103 := am_ ((by rw [hg]; exact (below_size (by repeat (first | (with_reducible first | exact HB.out | apply below_alloc | apply pw_below_drewN | apply below_drew1) | exact HB.out))) : w.heap.size ≤ gb103)); have GE103 := GW103; replace HB := am_ (below_step (by repeat (first | (with_reducible first | exact HB.out | apply below_alloc | apply pw_below_drewN | apply below_drew1) | exact HB.out)) hb); clear hb hbox hg; have hcz9_0 : w8.cell? ⟨gb103, 0, none⟩ = some (.int .i64 0) := (blk_cell BK103.out 0).trans rfl; have hcz9_1 : w8.cell? ⟨gb103, 1, none⟩ = some (.int .i64 0) := (blk_cell BK103.out 1).trans rfl; have hcz9_2 : w8.cell? ⟨gb103, 2, none⟩ = some (.int .i64 0) := (blk_cell BK103.out 2).trans rfl; have hfz9_0 := blk_frozen BK103.out 0; have hfz9_1 := blk_frozen BK103.out 1; have hfz9_2 := blk_frozen BK103.out 2))
   go_roundg k1
   case measure => have := HK1.out; omega
   case rel => exact ⟨(wrap64 (x3_1 + (wrap64 (((rd_T45 l0 x11_1).f2) - ((rd_T45 l0 x11_1).f1))))), (wrap64 (x11_1 + 1)), (by first | rfl | (simp; done) | (simp [*]; done)), (by first | rfl | (simp; done) | (simp [*]; done)), H', ⟨by have := HK1.out; omega⟩, ⟨by repeat (first | (with_reducible first | exact HB.out | apply below_alloc | apply pw_below_drewN | apply below_drew1 | refine below_set ?_ GE103.out) | exact HB.out)⟩⟩

/-! ### spec_DrawShiftRegion: function 15 -/
def spec_DrawShiftRegion.f (k : Nat) (l0 : List Int) : Option ((List (S45)) × Int × Int) := (spec_newReader.f l0).bind fun bt101 => ((spec_anyRegion.f k bt101.1 bt101.2).bind fun bt104 => ((spec_reader_one.f k bt101.1 bt104.2 (([0, 1, (-1), 3, (-5), 16, 17] : List Int))).bind fun bt111 => ((spec_reader_one.f k bt101.1 bt111.2 (([0, 1, (-1), 2, (-16), (-17)] : List Int))).bind fun bt116 => (some (bt104.1, bt111.1, bt116.1)))))
theorem spec_DrawShiftRegion.mono : ∀ a0 k, LeO (spec_DrawShiftRegion.f k a0) (spec_DrawShiftRegion.f (k + 1) a0) := by
 intro a0 k
 unfold spec_DrawShiftRegion.f
 repeat' first
   | (with_reducible exact spec_anyRegion.mono _ _ _)
   | (with_reducible exact spec_reader_one.mono _ _ _ _)
   | (with_reducible exact LeO.refl _)
   | (with_reducible exact LeO.none _)
   | (with_reducible refine LeO.ite ?_ ?_)
   | (with_reducible refine LeO.bind ?_ (fun _ => ?_))
   | exact spec_anyRegion.mono _ _ _
   | exact spec_reader_one.mono _ _ _ _
   | exact LeO.none _
   | refine LeO.ite ?_ ?_
   | refine LeO.bind ?_ (fun _ => ?_)
set_option maxHeartbeats 8000000 in
set_option maxRecDepth 100000 in
theorem spec_DrawShiftRegion.calls (k : Nat) (A0 : Option Addr) (c0 : Nat) (l0 : List Int) (r1 : List (S45)) (r2 : Int) (r3 : Int) (w : World) (hr0 : Kd.C (Kd.int .u8) w A0 l0.length l0) (hc0 : l0.length ≤ c0) (h : spec_DrawShiftRegion.f k l0 = some (r1, r2, r3)) :
  Calls Try.prog 15 #[.slice A0 l0.length c0] w fun e w' => ∃ v0_ : Value, e = .returned (.tuple #[v0_, .int .i64 r2, .int .i64 r3]) ∧ Kd.R k45 45 w' w.heap.size (fun _ => True) v0_ r1 ∧ Below w.heap.size w w' := by
 have HR0 := Aside0.mk hr0
 have HC0 := Aside0.mk hc0
 clear hr0 hc0
 have HB := Aside0.mk (Below.refl w.heap.size w)
 have H : ((spec_newReader.f l0).bind fun bt101 => ((spec_anyRegion.f k bt101.1 bt101.2).bind fun bt104 => ((spec_reader_one.f k bt101.1 bt104.2 (([0, 1, (-1), 3, (-5), 16, 17] : List Int))).bind fun bt111 => ((spec_reader_one.f k bt101.1 bt111.2 (([0, 1, (-1), 2, (-16), (-17)] : List Int))).bind fun bt116 => (some (bt104.1, bt111.1, bt116.1)))))) = some (r1, r2, r3) := h
 clear h
 replace H := Option.bind_eq_some_iff.mp H
 obtain ⟨⟨t101, t102⟩, A20, H⟩ := H
 replace H : ((spec_anyRegion.f k t101 t102).bind fun bt104 => ((spec_reader_one.f k t101 bt104.2 (([0, 1, (-1), 3, (-5), 16, 17] : List Int))).bind fun bt111 => ((spec_reader_one.f k t101 bt111.2 (([0, 1, (-1), 2, (-16), (-17)] : List Int))).bind fun bt116 => (some (bt104.1, bt111.1, bt116.1))))) = some (r1, r2, r3) := H
 have A2 := Aside0.mk A20
 clear A20
 replace H := Option.bind_eq_some_iff.mp H
 obtain ⟨⟨t104, t107⟩, A30, H⟩ := H
 replace H : ((spec_reader_one.f k t101 t107 (([0, 1, (-1), 3, (-5), 16, 17] : List Int))).bind fun bt111 => ((spec_reader_one.f k t101 bt111.2 (([0, 1, (-1), 2, (-16), (-17)] : List Int))).bind fun bt116 => (some (t104, bt111.1, bt116.1)))) = some (r1, r2, r3) := H
 have A3 := Aside0.mk A30
 clear A30
 obtain ⟨y108, hy108⟩ : ∃ y_ : List Int, y_ = (([0, 1, (-1), 3, (-5), 16, 17] : List Int)) := ⟨_, rfl⟩
 replace H : ((spec_reader_one.f k t101 t107 y108).bind fun bt111 => ((spec_reader_one.f k t101 bt111.2 (([0, 1, (-1), 2, (-16), (-17)] : List Int))).bind fun bt116 => (some (t104, bt111.1, bt116.1)))) = some (r1, r2, r3) := by first | (rw [hy108]; with_reducible exact H) | (have H2_ := (Option.bind_some _ _).symm.trans H; rw [hy108]; with_reducible exact H2_) | (have H2_ := (Option.bind_some _ _).symm.trans H; with_reducible exact H2_) | with_reducible exact H | (rw [hy108]; exact H) | exact H
 have Ny108 := Aside0.mk hy108
 clear hy108
 replace H := Option.bind_eq_some_iff.mp H
 obtain ⟨⟨t111, t112⟩, A40, H⟩ := H
 replace H : ((spec_reader_one.f k t101 t112 (([0, 1, (-1), 2, (-16), (-17)] : List Int))).bind fun bt116 => (some (t104, t111, bt116.1))) = some (r1, r2, r3) := H
 have A4 := Aside0.mk A40
 clear A40
 obtain ⟨y113, hy113⟩ : ∃ y_ : List Int, y_ = (([0, 1, (-1), 2, (-16), (-17)] : List Int)) := ⟨_, rfl⟩
 replace H : ((spec_reader_one.f k t101 t112 y113).bind fun bt116 => (some (t104, t111, bt116.1))) = some (r1, r2, r3) := by first | (rw [hy113]; with_reducible exact H) | (have H2_ := (Option.bind_some _ _).symm.trans H; rw [hy113]; with_reducible exact H2_) | (have H2_ := (Option.bind_some _ _).symm.trans H; with_reducible exact H2_) | with_reducible exact H | (rw [hy113]; exact H) | exact H
 have Ny113 := Aside0.mk hy113
 clear hy113
 replace H := Option.bind_eq_some_iff.mp H
 obtain ⟨⟨t116, t117⟩, A50, H⟩ := H
 replace H : (some (t104, t111, t116)) = some (r1, r2, r3) := H
 have A5 := Aside0.mk A50
 clear A50
 simp only [Option.some.injEq, Prod.mk.injEq] at H
 obtain ⟨rfl, rfl, rfl⟩ := H
 go_enter Try.func15, Try.ntmps15
 go_wp2_with (first | ((with_reducible refine gate_callee (f := 24) rfl ?_); refine goesL_ (some 9) rfl rfl Try.func24 (by kernel_rfl) rfl #[.slice A0 l0.length c0] rfl (by simp only [List.map_toArray, List.map_cons, List.map_nil]; rfl) ?_; (with_reducible refine (spec_newReader.calls _ _ l0 t101 t102 w _ ?side1 ?side2 ?side3 A2.out).mono ?_); (case side1 => repeat (first | (with_reducible first | exact HB.out | apply below_alloc | apply pw_below_drewN | apply below_drew1) | exact HB.out)); (case side2 => exact HR0.out); (case side3 => exact HC0.out); rintro e w6 ⟨g103, rfl, hi, hb, hb2⟩; refine ⟨_, rfl, ?_⟩; replace HB := am_ (hb); have HI103 := am_ (hi); (try clear hb); (try clear hb2); (try clear hk); (try clear hi)) | ((with_reducible refine gate_callee (f := 23) rfl ?_); refine goesL_ (some 11) rfl rfl Try.func23 (by kernel_rfl) rfl #[.pointer (some ⟨g103, 0, none⟩)] rfl (by simp only [List.map_toArray, List.map_cons, List.map_nil]; rfl) ?_; (with_reducible refine (spec_anyRegion.calls k g103 t101 t102 t104 t107 w _ ?side1 ?side2 A3.out).mono ?_); (case side1 => repeat (first | (with_reducible first | exact HI103.out | apply IsS64.alloc | apply IsS64.drewN | apply IsS64.drew | apply IsS64.set_1) | exact HI103.out)); (case side2 => repeat (first | (with_reducible first | exact HB.out | apply below_alloc | apply pw_below_drewN | apply below_drew1 | refine below_set ?_ (IsS64.ge HI103.out)) | exact HB.out)); rintro e w7 ⟨v105, rfl, ho0, hi, hb, hk⟩; refine ⟨_, rfl, ?_⟩; have HO106 := am_ (Kd.R_lower ho0 (below_size (by repeat (first | (with_reducible first | exact HB.out | apply below_alloc | apply pw_below_drewN | apply below_drew1 | refine below_set ?_ (IsS64.ge HI103.out)) | exact HB.out)))); replace HB := am_ (hb); replace HI103 := am_ (hi); (try clear hb); (try clear hb2); (try clear hk); (try clear hi); (try clear ho0)) | ((with_reducible refine gate_dst (N := 13) rfl ?_); refine Kd.R_lit (Kd.int .i64) _ 3 ?hg (N := 13) ?hd (xs := ([0, 1, (-1), 3, (-5), 16, 17] : List Int)) (inner := [.int .i64 0, .int .i64 1, .int .i64 (-1), .int .i64 3, .int .i64 (-5), .int .i64 16, .int .i64 17]) (ok := fun _ => True) (okp := fun _ => True) ?hr ?hp (fun _ hk => hk) trivial (Below.refl _ _) (Nat.le_refl _) (by simp) ?_; (case hd => rfl); (case hg => rfl); (case hr => first | (go_simp; done) | (go_simp; rfl)); (case hp => exact (Reps.one (show Kd.M (Kd.int .i64) _ _ _ 0 [.int .i64 0] from rfl) (Reps.one (show Kd.M (Kd.int .i64) _ _ _ 1 [.int .i64 1] from rfl) (Reps.one (show Kd.M (Kd.int .i64) _ _ _ (-1) [.int .i64 (-1)] from rfl) (Reps.one (show Kd.M (Kd.int .i64) _ _ _ 3 [.int .i64 3] from rfl) (Reps.one (show Kd.M (Kd.int .i64) _ _ _ (-5) [.int .i64 (-5)] from rfl) (Reps.one (show Kd.M (Kd.int .i64) _ _ _ 16 [.int .i64 16] from rfl) (Reps.one (show Kd.M (Kd.int .i64) _ _ _ 17 [.int .i64 17] from rfl) (Reps.none _ _))))))))); intro v109 w8 ho9 hb hg_ hnew_; clear hg_ hnew_; (first | rw [← Ny108.out] at ho9 | (simp only [Int.reduceToNat] at ho9; rw [← Ny108.out] at ho9)); replace HO106 := am_ (Kd.R_below (by exact HO106.out) hb); have HO110 := am_ (Kd.R_lower ho9 (below_size (by repeat (first | (with_reducible first | exact HB.out | apply below_alloc | apply pw_below_drewN | apply below_drew1 | refine below_set ?_ (IsS64.ge HI103.out)) | exact HB.out)))); replace HB := am_ (below_step (by repeat (first | (with_reducible first | exact HB.out | apply below_alloc | apply pw_below_drewN | apply below_drew1 | refine below_set ?_ (IsS64.ge HI103.out)) | exact HB.out)) hb); replace HI103 := am_ (IsS64.below (by repeat (first | (with_reducible first | exact HI103.out | apply IsS64.alloc | apply IsS64.drewN | apply IsS64.drew | apply IsS64.set_1) | exact HI103.out)) hb); clear hb ho9; obtain ⟨Ao10, co10, eo10⟩ := Kd.R_slice HO110.out; subst eo10) | ((with_reducible refine gate_callee (f := 33) rfl ?_); refine goesL_ (some 14) rfl rfl Try.func33 (by kernel_rfl) rfl #[.pointer (some ⟨g103, 0, none⟩), .slice Ao10 y108.length co10] rfl (by simp only [List.map_toArray, List.map_cons, List.map_nil]; rfl) ?_; (with_reducible refine (spec_reader_one.calls k g103 t101 t107 _ _ y108 t111 t112 w _ ?side1 ?side2 ?side3 ?side4 ?side5 A4.out).mono ?_); (case side1 => repeat (first | (with_reducible first | exact HI103.out | apply IsS64.alloc | apply IsS64.drewN | apply IsS64.drew | apply IsS64.set_1) | exact HI103.out)); (case side2 => repeat (first | (with_reducible first | exact HB.out | apply below_alloc | apply pw_below_drewN | apply below_drew1 | refine below_set ?_ (IsS64.ge HI103.out)) | exact HB.out)); (case side3 => repeat (first | exact (Kd.R_reads' HO110.out).2.2 | (with_reducible refine Kd.C_alloc ?_ _) | (with_reducible refine Kd.C_drewN ?_ _) | (with_reducible refine Kd.C_drew ?_))); (case side4 => exact (Kd.R_reads' HO110.out).2.1); (case side5 => exact far_slice (IsS64.own_ne HI103.out HO110.out (by decide))); rintro e w11 ⟨rfl, hi, hb, hk⟩; refine ⟨_, rfl, ?_⟩; replace HO106 := am_ (Kd.R_mono (Kd.R_keep (IsS64.apart (show IsS64 w _ g103 t101 t107 from by repeat (first | (with_reducible first | exact HI103.out | apply IsS64.alloc | apply IsS64.drewN | apply IsS64.drew | apply IsS64.set_1) | exact HI103.out)) (by exact HO106.out) (by decide)) hk (fun _ h => h.2)) (fun _ h => h.1)); replace HO110 := am_ (Kd.R_mono (Kd.R_keep (IsS64.apart (show IsS64 w _ g103 t101 t107 from by repeat (first | (with_reducible first | exact HI103.out | apply IsS64.alloc | apply IsS64.drewN | apply IsS64.drew | apply IsS64.set_1) | exact HI103.out)) (by exact HO110.out) (by decide)) hk (fun _ h => h.2)) (fun _ h => h.1)); replace HB := am_ (hb); replace HI103 := am_ (hi); (try clear hb); (try clear hb2); (try clear hk); (try clear hi)) | ((with_reducible refine gate_dst (N := 18) rfl ?_); refine Kd.R_lit (Kd.int .i64) _ 3 ?hg (N := 18) ?hd (xs := ([0, 1, (-1), 2, (-16), (-17)] : List Int)) (inner := [.int .i64 0, .int .i64 1, .int .i64 (-1), .int .i64 2, .int .i64 (-16), .int .i64 (-17)]) (ok := fun _ => True) (okp := fun _ => True) ?hr ?hp (fun _ hk => hk) trivial (Below.refl _ _) (Nat.le_refl _) (by simp) ?_; (case hd => rfl); (case hg => rfl); (case hr => first | (go_simp; done) | (go_simp; rfl)); (case hp => exact (Reps.one (show Kd.M (Kd.int .i64) _ _ _ 0 [.int .i64 0] from rfl) (Reps.one (show Kd.M (Kd.int .i64) _ _ _ 1 [.int .i64 1] from rfl) (Reps.one (show Kd.M (Kd.int .i64) _ _ _ (-1) [.int .i64 (-1)] from rfl) (Reps.one (show Kd.M (Kd.int .i64) _ _ _ 2 [.int .i64 2] from rfl) (Reps.one (show Kd.M (Kd.int .i64) _ _ _ (-16) [.int .i64 (-16)] from rfl) (Reps.one (show Kd.M (Kd.int .i64) _ _ _ (-17) [.int .i64 (-17)] from rfl) (Reps.none _ _)))))))); intro v114 w12 ho13 hb hg_ hnew_; clear hg_ hnew_; (first | rw [← Ny113.out] at ho13 | (simp only [Int.reduceToNat] at ho13; rw [← Ny113.out] at ho13)); replace HO106 := am_ (Kd.R_below (by exact HO106.out) hb); have HO115 := am_ (Kd.R_lower (Kd.R_new' ho13 (Kd.R_lt (by exact HO110.out))) (below_size (by repeat (first | (with_reducible first | exact HB.out | apply below_alloc | apply pw_below_drewN | apply below_drew1 | refine below_set ?_ (IsS64.ge HI103.out)) | exact HB.out)))); replace HO110 := am_ (Kd.R_elder' (by exact HO110.out) (Kd.R_base ho13) hb); replace HB := am_ (below_step (by repeat (first | (with_reducible first | exact HB.out | apply below_alloc | apply pw_below_drewN | apply below_drew1 | refine below_set ?_ (IsS64.ge HI103.out)) | exact HB.out)) hb); replace HI103 := am_ (IsS64.below (by repeat (first | (with_reducible first | exact HI103.out | apply IsS64.alloc | apply IsS64.drewN | apply IsS64.drew | apply IsS64.set_1) | exact HI103.out)) hb); clear hb ho13; obtain ⟨Ao14, co14, eo14⟩ := Kd.R_slice HO115.out; subst eo14) | ((with_reducible refine gate_callee (f := 33) rfl ?_); refine goesL_ (some 19) rfl rfl Try.func33 (by kernel_rfl) rfl #[.pointer (some ⟨g103, 0, none⟩), .slice Ao14 y113.length co14] rfl (by simp only [List.map_toArray, List.map_cons, List.map_nil]; rfl) ?_; (with_reducible refine (spec_reader_one.calls k g103 t101 t112 _ _ y113 t116 t117 w _ ?side1 ?side2 ?side3 ?side4 ?side5 A5.out).mono ?_); (case side1 => repeat (first | (with_reducible first | exact HI103.out | apply IsS64.alloc | apply IsS64.drewN | apply IsS64.drew | apply IsS64.set_1) | exact HI103.out)); (case side2 => repeat (first | (with_reducible first | exact HB.out | apply below_alloc | apply pw_below_drewN | apply below_drew1 | refine below_set ?_ (IsS64.ge HI103.out)) | exact HB.out)); (case side3 => repeat (first | exact (Kd.R_reads' HO115.out).2.2 | (with_reducible refine Kd.C_alloc ?_ _) | (with_reducible refine Kd.C_drewN ?_ _) | (with_reducible refine Kd.C_drew ?_))); (case side4 => exact (Kd.R_reads' HO115.out).2.1); (case side5 => exact far_slice (IsS64.own_ne HI103.out HO115.out (by decide))); rintro e w15 ⟨rfl, hi, hb, hk⟩; refine ⟨_, rfl, ?_⟩; replace HO106 := am_ (Kd.R_mono (Kd.R_keep (IsS64.apart (show IsS64 w _ g103 t101 t112 from by repeat (first | (with_reducible first | exact HI103.out | apply IsS64.alloc | apply IsS64.drewN | apply IsS64.drew | apply IsS64.set_1) | exact HI103.out)) (by exact HO106.out) (by decide)) hk (fun _ h => h.2)) (fun _ h => h.1)); replace HO110 := am_ (Kd.R_mono (Kd.R_keep (IsS64.apart (show IsS64 w _ g103 t101 t112 from by repeat (first | (with_reducible first | exact HI103.out | apply IsS64.alloc | apply IsS64.drewN | apply IsS64.drew | apply IsS64.set_1) | exact HI103.out)) (by exact HO110.out) (by decide)) hk (fun _ h => h.2)) (fun _ h => h.1)); replace HO115 := am_ (Kd.R_mono (Kd.R_keep (IsS64.apart (show IsS64 w _ g103 t101 t112 from by repeat (first | (with_reducible first | exact HI103.out | apply IsS64.alloc | apply IsS64.drewN | apply IsS64.drew | apply IsS64.set_1) | exact HI103.out)) (by exact HO115.out) (by decide)) hk (fun _ h => h.2)) (fun _ h => h.1)); replace HB := am_ (hb); replace HI103 := am_ (hi); (try clear hb); (try clear hb2); (try clear hk); (try clear hi)))
 go_ret3
 exact ⟨_, by first | rfl | (simp [errW_none, errW_some] <;> rfl) | (simp [*, errW_none, errW_some] <;> rfl), by exact HO106.out, by repeat (first | (with_reducible first | exact HB.out | apply below_alloc | apply pw_below_drewN | apply below_drew1 | refine below_set ?_ (IsS64.ge HI103.out)) | exact HB.out)⟩

/-! ### spec_ShiftRegion: function 17 -/
mutual
def spec_ShiftRegion.j0 : Nat → List (S45) → Int → Int → List Bool → Bool → Option ((List (S45)))
 | 0, _, _, _, _, _ => none
 | k + 1, x0, x1, x2, x7, x25 => if x25 = true then (some ([] : List (S45))) else ((spec_gridOf.f k x0).bind fun t107 => (spec_ShiftRegion.l0 k x1 x2 x7 t107 0))
def spec_ShiftRegion.l0 : Nat → Int → Int → List Bool → List Bool → Int → Option ((List (S45)))
 | 0, _, _, _, _, _ => none
 | k + 1, x1, x2, x7, x8, x9 => if x9 < (x8.length : Int) then (if 0 ≤ x9 then (if rdOf false x8 x9 = true then ((spec_inRange.f (wrap64 ((Int.tmod x9 16) + x1)) 0 15).bind fun t114 => (if t114 = true then ((spec_inRange.f (wrap64 ((wrap64 (Int.tdiv x9 16)) + x2)) 0 15).bind fun t115 => (if t115 = true then (if 0 ≤ (wrap64 ((wrap64 ((wrap64 ((wrap64 (Int.tdiv x9 16)) + x2)) * 16)) + (wrap64 ((Int.tmod x9 16) + x1)))) then (if (wrap64 ((wrap64 ((wrap64 ((wrap64 (Int.tdiv x9 16)) + x2)) * 16)) + (wrap64 ((Int.tmod x9 16) + x1)))) < (x7.length : Int) then (spec_ShiftRegion.l0 k x1 x2 (x7.set ((wrap64 ((wrap64 ((wrap64 ((wrap64 (Int.tdiv x9 16)) + x2)) * 16)) + (wrap64 ((Int.tmod x9 16) + x1)))) : Int).toNat true) x8 (wrap64 (x9 + 1))) else (none)) else (none)) else (spec_ShiftRegion.l0 k x1 x2 x7 x8 (wrap64 (x9 + 1))))) else (spec_ShiftRegion.l0 k x1 x2 x7 x8 (wrap64 (x9 + 1))))) else (spec_ShiftRegion.l0 k x1 x2 x7 x8 (wrap64 (x9 + 1)))) else (none)) else ((spec_runsOf.f k x7).bind fun t110 => (some t110))
end
def spec_ShiftRegion.f (k : Nat) (l0 : List (S45)) (a1 : Int) (a2 : Int) : Option ((List (S45))) := if 256 ≤ 281474976710656 then ((some (List.replicate 256 false : List Bool)).bind fun y101 => ((spec_validRuns.f k l0).bind fun t104 => (if t104 = true then ((spec_inRange.f a1 (-16) 16).bind fun t105 => (if t105 = true then ((spec_inRange.f a2 (-16) 16).bind fun t106 => (spec_ShiftRegion.j0 k l0 a1 a2 y101 (!t106))) else (spec_ShiftRegion.j0 k l0 a1 a2 y101 true))) else (spec_ShiftRegion.j0 k l0 a1 a2 y101 true)))) else (none)
theorem spec_ShiftRegion.mono_l : ∀ k, (∀ y0 y1 y2 y3 y4, LeO (spec_ShiftRegion.j0 k y0 y1 y2 y3 y4) (spec_ShiftRegion.j0 (k + 1) y0 y1 y2 y3 y4)) ∧ (∀ y0 y1 y2 y3 y4, LeO (spec_ShiftRegion.l0 k y0 y1 y2 y3 y4) (spec_ShiftRegion.l0 (k + 1) y0 y1 y2 y3 y4))
 | 0 => ⟨fun _ _ _ _ _ r h => by simp [spec_ShiftRegion.j0] at h, fun _ _ _ _ _ r h => by simp [spec_ShiftRegion.l0] at h⟩
 | k + 1 => by
  obtain ⟨ih0, ih1⟩ := spec_ShiftRegion.mono_l k
  refine ⟨?_, ?_⟩
  ·
   intro y0 y1 y2 y3 y4
   unfold spec_ShiftRegion.j0
   repeat' first
   | (with_reducible exact ih0 _ _ _ _ _)
   | (with_reducible exact ih1 _ _ _ _ _)
   | (with_reducible exact spec_gridOf.mono _ _)
   | (with_reducible exact spec_runsOf.mono _ _)
   | (with_reducible exact spec_validRuns.mono _ _)
   | (with_reducible exact LeO.refl _)
   | (with_reducible exact LeO.none _)
   | (with_reducible refine LeO.ite ?_ ?_)
   | (with_reducible refine LeO.bind ?_ (fun _ => ?_))
   | exact ih0 _ _ _ _ _
   | exact ih1 _ _ _ _ _
   | exact spec_gridOf.mono _ _
   | exact spec_runsOf.mono _ _
   | exact spec_validRuns.mono _ _
   | exact LeO.none _
   | refine LeO.ite ?_ ?_
   | refine LeO.bind ?_ (fun _ => ?_)
  intro y0 y1 y2 y3 y4
  unfold spec_ShiftRegion.l0
  repeat' first
  | (with_reducible exact ih0 _ _ _ _ _)
  | (with_reducible exact ih1 _ _ _ _ _)
  | (with_reducible exact spec_gridOf.mono _ _)
  | (with_reducible exact spec_runsOf.mono _ _)
  | (with_reducible exact spec_validRuns.mono _ _)
  | (with_reducible exact LeO.refl _)
  | (with_reducible exact LeO.none _)
  | (with_reducible refine LeO.ite ?_ ?_)
  | (with_reducible refine LeO.bind ?_ (fun _ => ?_))
  | exact ih0 _ _ _ _ _
  | exact ih1 _ _ _ _ _
  | exact spec_gridOf.mono _ _
  | exact spec_runsOf.mono _ _
  | exact spec_validRuns.mono _ _
  | exact LeO.none _
  | refine LeO.ite ?_ ?_
  | refine LeO.bind ?_ (fun _ => ?_)
theorem spec_ShiftRegion.mono : ∀ a0 a1 a2 k, LeO (spec_ShiftRegion.f k a0 a1 a2) (spec_ShiftRegion.f (k + 1) a0 a1 a2) := by
 intro a0 a1 a2 k
 obtain ⟨ih0, ih1⟩ := spec_ShiftRegion.mono_l k
 unfold spec_ShiftRegion.f
 repeat' first
   | (with_reducible exact ih0 _ _ _ _ _)
   | (with_reducible exact ih1 _ _ _ _ _)
   | (with_reducible exact spec_gridOf.mono _ _)
   | (with_reducible exact spec_runsOf.mono _ _)
   | (with_reducible exact spec_validRuns.mono _ _)
   | (with_reducible exact LeO.refl _)
   | (with_reducible exact LeO.none _)
   | (with_reducible refine LeO.ite ?_ ?_)
   | (with_reducible refine LeO.bind ?_ (fun _ => ?_))
   | exact ih0 _ _ _ _ _
   | exact ih1 _ _ _ _ _
   | exact spec_gridOf.mono _ _
   | exact spec_runsOf.mono _ _
   | exact spec_validRuns.mono _ _
   | exact LeO.none _
   | refine LeO.ite ?_ ?_
   | refine LeO.bind ?_ (fun _ => ?_)
set_option maxHeartbeats 8000000 in
set_option maxRecDepth 100000 in
theorem spec_ShiftRegion.calls (k : Nat) (A0 : Option Addr) (c0 : Nat) (l0 : List (S45)) (a1 : Int) (a2 : Int) (r : List (S45)) (w : World) (hr0 : Kd.C k45 w A0 l0.length l0) (hc0 : l0.length ≤ c0) (h : spec_ShiftRegion.f k l0 a1 a2 = some r) :
  Calls Try.prog 17 #[.slice A0 l0.length c0, .int .i64 a1, .int .i64 a2] w fun e w' => ∃ v0_ : Value, e = .returned (v0_) ∧ Kd.R k45 45 w' w.heap.size (fun _ => True) v0_ r ∧ Below w.heap.size w w' := by
 have HR0 := Aside0.mk hr0
 have HC0 := Aside0.mk hc0
 clear hr0 hc0
 have HB := Aside0.mk (Below.refl w.heap.size w)
 have H : (if 256 ≤ 281474976710656 then ((some (List.replicate 256 false : List Bool)).bind fun y101 => ((spec_validRuns.f k l0).bind fun t104 => (if t104 = true then ((spec_inRange.f a1 (-16) 16).bind fun t105 => (if t105 = true then ((spec_inRange.f a2 (-16) 16).bind fun t106 => (spec_ShiftRegion.j0 k l0 a1 a2 y101 (!t106))) else (spec_ShiftRegion.j0 k l0 a1 a2 y101 true))) else (spec_ShiftRegion.j0 k l0 a1 a2 y101 true)))) else (none)) = some r := h
 clear h
 by_cases c4 : 256 ≤ 281474976710656
 rotate_left
 ·
  rw [if_neg c4] at H
  exact absurd H (by simp)
 rw [if_pos c4] at H
 have c4b0 := eq_true c4
 have c4b1 : decide (256 ≤ 281474976710656) = true := decide_eq_true c4
 clear c4
 obtain ⟨y101, hy101⟩ : ∃ y_ : List Bool, y_ = (List.replicate 256 false) := ⟨_, rfl⟩
 replace H : ((spec_validRuns.f k l0).bind fun t104 => (if t104 = true then ((spec_inRange.f a1 (-16) 16).bind fun t105 => (if t105 = true then ((spec_inRange.f a2 (-16) 16).bind fun t106 => (spec_ShiftRegion.j0 k l0 a1 a2 y101 (!t106))) else (spec_ShiftRegion.j0 k l0 a1 a2 y101 true))) else (spec_ShiftRegion.j0 k l0 a1 a2 y101 true))) = some r := by first | (rw [hy101]; with_reducible exact H) | (have H2_ := (Option.bind_some _ _).symm.trans H; rw [hy101]; with_reducible exact H2_) | (have H2_ := (Option.bind_some _ _).symm.trans H; with_reducible exact H2_) | with_reducible exact H | (rw [hy101]; exact H) | exact H
 have Ny101 := Aside0.mk hy101
 clear hy101
 have HC5 := Aside0.mk H
 clear H
 go_enter Try.func17, Try.ntmps17
 go_upto_region 2 with (first | ((with_reducible refine gate_dst (N := 12) rfl ?_); refine Kd.R_make Kd.bool _ 4 rfl (N := 12) rfl 58 _ _ rfl 256 rfl rfl Try.underlying58 (.bool false) 1 info4 rfl (by decide) (by omega) false (ok := fun _ => True) (okp := fun _ => True) rfl (fun _ hk => hk) trivial (by omega) (by omega) (Below.refl _ _) (Nat.le_refl _) ?_; intro v102 w6 ho7 hb hg_ hnew_; clear hg_ hnew_; (first | rw [← Ny101.out] at ho7 | (simp only [Int.reduceToNat] at ho7; rw [← Ny101.out] at ho7)); have HO103 := am_ (Kd.R_lower ho7 (below_size (by repeat (first | (with_reducible first | exact HB.out | apply below_alloc | apply pw_below_drewN | apply below_drew1) | exact HB.out)))); replace HB := am_ (below_step (by repeat (first | (with_reducible first | exact HB.out | apply below_alloc | apply pw_below_drewN | apply below_drew1) | exact HB.out)) hb); clear hb ho7))
 (try simp only [Act.put, List.setIfInBounds_toArray, List.set_cons_zero, List.set_cons_succ])
 go_cut [25] (fun v25 wc => ∃ (kq : Nat) (x25_4 : Bool), v25 = .bool x25_4 ∧ Aside0 (spec_ShiftRegion.j0 kq l0 a1 a2 y101 x25_4 = some r) ∧ Aside0 (kq ≤ k) ∧ Aside0 (Kd.R Kd.bool 4 wc w.heap.size (fun _ => True) v102 y101) ∧ Aside0 (Below w.heap.size w wc))
 case first =>
  have H := HC5.out
  clear HC5
  replace H := Option.bind_eq_some_iff.mp H
  obtain ⟨t104, A80, H⟩ := H
  replace H : (if t104 = true then ((spec_inRange.f a1 (-16) 16).bind fun t105 => (if t105 = true then ((spec_inRange.f a2 (-16) 16).bind fun t106 => (spec_ShiftRegion.j0 k l0 a1 a2 y101 (!t106))) else (spec_ShiftRegion.j0 k l0 a1 a2 y101 true))) else (spec_ShiftRegion.j0 k l0 a1 a2 y101 true)) = some r := H
  have A8 := Aside0.mk A80
  clear A80
  by_cases c9 : t104 = true
  rotate_left
  ·
   replace c9 := Bool.eq_false_iff.mpr c9
   subst c9
   have H1 : (spec_ShiftRegion.j0 k l0 a1 a2 y101 true) = some r := by rw [if_neg (show ¬ (false = true) by decide)] at H; exact H
   clear H
   have H := H1
   clear H1
   have H' := Aside0.mk H
   clear H
   go_wp2_with (first | ((with_reducible refine gate_callee (f := 27) rfl ?_); refine goesL_ (some 14) rfl rfl Try.func27 (by kernel_rfl) rfl #[.slice A0 l0.length c0] rfl (by simp only [List.map_toArray, List.map_cons, List.map_nil]; rfl) ?_; (with_reducible refine (spec_validRuns.calls k _ _ l0 false _ ?side1 ?side2 A8.out).mono ?_); (case side1 => repeat (first | exact (Kd.C_below HR0.out HB.out) | (with_reducible refine Kd.C_alloc ?_ _) | (with_reducible refine Kd.C_drewN ?_ _) | (with_reducible refine Kd.C_drew ?_))); (case side2 => exact HC0.out); rintro e w15 ⟨rfl, hb⟩; refine ⟨_, rfl, ?_⟩; replace HO103 := am_ (Kd.R_below (by exact HO103.out) hb); replace HB := am_ (below_step (by repeat (first | (with_reducible first | exact HB.out | apply below_alloc | apply pw_below_drewN | apply below_drew1) | exact HB.out)) hb); (try clear hb); (try clear hb2); (try clear hk); (try clear hi)))
   go_meet
   case rel => exact ⟨_, (true), (by first | rfl | (simp; done) | (simp [*]; done)), H', ⟨by first | omega | exact Nat.le_refl _⟩, ⟨by exact HO103.out⟩, ⟨by repeat (first | (with_reducible first | exact HB.out | apply below_alloc | apply pw_below_drewN | apply below_drew1) | exact HB.out)⟩⟩
  subst c9
  have H1 : ((spec_inRange.f a1 (-16) 16).bind fun t105 => (if t105 = true then ((spec_inRange.f a2 (-16) 16).bind fun t106 => (spec_ShiftRegion.j0 k l0 a1 a2 y101 (!t106))) else (spec_ShiftRegion.j0 k l0 a1 a2 y101 true))) = some r := by rw [if_pos rfl] at H; exact H
  clear H
  have H := H1
  clear H1
  replace H := Option.bind_eq_some_iff.mp H
  obtain ⟨t105, A100, H⟩ := H
  replace H : (if t105 = true then ((spec_inRange.f a2 (-16) 16).bind fun t106 => (spec_ShiftRegion.j0 k l0 a1 a2 y101 (!t106))) else (spec_ShiftRegion.j0 k l0 a1 a2 y101 true)) = some r := H
  have A10 := Aside0.mk A100
  clear A100
  by_cases c11 : t105 = true
  ·
   subst c11
   have H1 : ((spec_inRange.f a2 (-16) 16).bind fun t106 => (spec_ShiftRegion.j0 k l0 a1 a2 y101 (!t106))) = some r := by rw [if_pos rfl] at H; exact H
   clear H
   have H := H1
   clear H1
   replace H := Option.bind_eq_some_iff.mp H
   obtain ⟨t106, A120, H⟩ := H
   replace H : (spec_ShiftRegion.j0 k l0 a1 a2 y101 (!t106)) = some r := H
   have A12 := Aside0.mk A120
   clear A120
   have H' := Aside0.mk H
   clear H
   go_wp2_with (first | ((with_reducible refine gate_callee (f := 27) rfl ?_); refine goesL_ (some 14) rfl rfl Try.func27 (by kernel_rfl) rfl #[.slice A0 l0.length c0] rfl (by simp only [List.map_toArray, List.map_cons, List.map_nil]; rfl) ?_; (with_reducible refine (spec_validRuns.calls k _ _ l0 true _ ?side1 ?side2 A8.out).mono ?_); (case side1 => repeat (first | exact (Kd.C_below HR0.out HB.out) | (with_reducible refine Kd.C_alloc ?_ _) | (with_reducible refine Kd.C_drewN ?_ _) | (with_reducible refine Kd.C_drew ?_))); (case side2 => exact HC0.out); rintro e w13 ⟨rfl, hb⟩; refine ⟨_, rfl, ?_⟩; replace HO103 := am_ (Kd.R_below (by exact HO103.out) hb); replace HB := am_ (below_step (by repeat (first | (with_reducible first | exact HB.out | apply below_alloc | apply pw_below_drewN | apply below_drew1) | exact HB.out)) hb); (try clear hb); (try clear hb2); (try clear hk); (try clear hi)) | (go_at_call 37; (with_reducible refine (spec_inRange.calls a1 (-16) 16 true _ A10.out).mono ?_); rintro e w' ⟨rfl, ⟨nd, rfl⟩⟩) | (go_at_call 37; (with_reducible refine (spec_inRange.calls a2 (-16) 16 t106 _ A12.out).mono ?_); rintro e w' ⟨rfl, ⟨nd, rfl⟩⟩))
   go_meet
   case rel => exact ⟨_, (!t106), (by first | rfl | (simp; done) | (simp [*]; done)), H', ⟨by first | omega | exact Nat.le_refl _⟩, ⟨by exact HO103.out⟩, ⟨by repeat (first | (with_reducible first | exact HB.out | apply below_alloc | apply pw_below_drewN | apply below_drew1) | exact HB.out)⟩⟩
  replace c11 := Bool.eq_false_iff.mpr c11
  subst c11
  have H1 : (spec_ShiftRegion.j0 k l0 a1 a2 y101 true) = some r := by rw [if_neg (show ¬ (false = true) by decide)] at H; exact H
  clear H
  have H := H1
  clear H1
  have H' := Aside0.mk H
  clear H
  go_wp2_with (first | ((with_reducible refine gate_callee (f := 27) rfl ?_); refine goesL_ (some 14) rfl rfl Try.func27 (by kernel_rfl) rfl #[.slice A0 l0.length c0] rfl (by simp only [List.map_toArray, List.map_cons, List.map_nil]; rfl) ?_; (with_reducible refine (spec_validRuns.calls k _ _ l0 true _ ?side1 ?side2 A8.out).mono ?_); (case side1 => repeat (first | exact (Kd.C_below HR0.out HB.out) | (with_reducible refine Kd.C_alloc ?_ _) | (with_reducible refine Kd.C_drewN ?_ _) | (with_reducible refine Kd.C_drew ?_))); (case side2 => exact HC0.out); rintro e w14 ⟨rfl, hb⟩; refine ⟨_, rfl, ?_⟩; replace HO103 := am_ (Kd.R_below (by exact HO103.out) hb); replace HB := am_ (below_step (by repeat (first | (with_reducible first | exact HB.out | apply below_alloc | apply pw_below_drewN | apply below_drew1) | exact HB.out)) hb); (try clear hb); (try clear hb2); (try clear hk); (try clear hi)) | (go_at_call 37; (with_reducible refine (spec_inRange.calls a1 (-16) 16 false _ A10.out).mono ?_); rintro e w' ⟨rfl, ⟨nd, rfl⟩⟩))
  go_meet
  case rel => exact ⟨_, (true), (by first | rfl | (simp; done) | (simp [*]; done)), H', ⟨by first | omega | exact Nat.le_refl _⟩, ⟨by exact HO103.out⟩, ⟨by repeat (first | (with_reducible first | exact HB.out | apply below_alloc | apply pw_below_drewN | apply below_drew1) | exact HB.out)⟩⟩
 case rest =>
  clear HC5
  try clear c1
  try clear c2
  try clear p2
  try clear c4
  try clear c4b0
  try clear c4b1
  try clear c9
  try clear c11
  obtain ⟨kq, x25_4, rfl, HA, HJ4, HO_7, HB⟩ := hcut
  cases kq with
  | zero => exact absurd HA.out (by simp [spec_ShiftRegion.j0])
  | succ kj4 =>
   have H := HA.out
   clear HA
   simp only [spec_ShiftRegion.j0] at H
   by_cases c16 : x25_4 = true
   ·
    subst c16
    have H1 : (some ([] : List (S45))) = some r := by rw [if_pos rfl] at H; exact H
    clear H
    have H := H1
    clear H1
    obtain rfl := Option.some.inj H
    go_wp2
    go_ret
    exact ⟨_, by first | rfl | (simp [errW_none, errW_some] <;> rfl) | (simp [*, errW_none, errW_some] <;> rfl), by first | exact Kd.R_nil _ _ _ _ _ | exact Kd.N_nil _ _ _ _ _ | exact Kd.V_nil _ _ _ _ _ | exact Kd.Q_nil _ _ _ _ _ | exact Kd.S_nil _ _ _ _ _, by repeat (first | (with_reducible first | exact HB.out | apply below_alloc | apply pw_below_drewN | apply below_drew1) | exact HB.out)⟩
   replace c16 := Bool.eq_false_iff.mpr c16
   subst c16
   have H1 : ((spec_gridOf.f kj4 l0).bind fun t107 => (spec_ShiftRegion.l0 kj4 a1 a2 y101 t107 0)) = some r := by rw [if_neg (show ¬ (false = true) by decide)] at H; exact H
   clear H
   have H := H1
   clear H1
   replace H := Option.bind_eq_some_iff.mp H
   obtain ⟨t107, A170, H⟩ := H
   replace H : (spec_ShiftRegion.l0 kj4 a1 a2 y101 t107 0) = some r := H
   have A17 := Aside0.mk A170
   clear A170
   have H' := Aside0.mk H
   clear H
   go_wp2_with (first | ((with_reducible refine gate_callee (f := 38) rfl ?_); refine goesL_ (some 27) rfl rfl Try.func38 (by kernel_rfl) rfl #[.slice A0 l0.length c0] rfl (by simp only [List.map_toArray, List.map_cons, List.map_nil]; rfl) ?_; (with_reducible refine (spec_gridOf.calls kj4 _ _ l0 t107 _ ?side1 ?side2 A17.out).mono ?_); (case side1 => repeat (first | exact (Kd.C_below HR0.out HB.out) | (with_reducible refine Kd.C_alloc ?_ _) | (with_reducible refine Kd.C_drewN ?_ _) | (with_reducible refine Kd.C_drew ?_))); (case side2 => exact HC0.out); rintro e w18 ⟨v108, rfl, ho0, hb⟩; refine ⟨_, rfl, ?_⟩; have HO109 := am_ (Kd.R_lower (Kd.R_new' ho0 (Kd.R_lt (by exact HO_7.out))) (below_size (by repeat (first | (with_reducible first | exact HB.out | apply below_alloc | apply pw_below_drewN | apply below_drew1) | exact HB.out)))); replace HO_7 := am_ (Kd.R_elder' (by exact HO_7.out) (Kd.R_base ho0) hb); replace HB := am_ (below_step (by repeat (first | (with_reducible first | exact HB.out | apply below_alloc | apply pw_below_drewN | apply below_drew1) | exact HB.out)) hb); (try clear hb); (try clear hb2); (try clear hk); (try clear hi); (try clear ho0)))
   go_loopg [9] kj4 (fun kq v9 w' => ∃ (x7_2 : List Bool) (x9_2 : Int), v9 = .int .i64 x9_2 ∧ Aside0 (spec_ShiftRegion.l0 kq a1 a2 x7_2 t107 x9_2 = some r) ∧ Aside0 (kq ≤ kj4) ∧ Aside0 (Kd.R Kd.bool 4 w' w.heap.size (fun k_ => some k_ ≠ (v108 : Value).ownBlock) v102 x7_2) ∧ Aside0 (Kd.R Kd.bool 4 w' w.heap.size (fun k_ => some k_ ≠ (v102 : Value).ownBlock) v108 t107) ∧ Aside0 (Below w.heap.size w w'))
   case atStart => exact ⟨(y101), (0), (by first | rfl | (simp; done) | (simp [*]; done)), H', ⟨Nat.le_refl _⟩, ⟨by exact Kd.R_mono HO_7.out (fun _ hk => hk.2)⟩, ⟨by exact Kd.R_mono HO109.out (fun _ hk => hk.2)⟩, ⟨by repeat (first | (with_reducible first | exact HB.out | apply below_alloc | apply pw_below_drewN | apply below_drew1) | exact HB.out)⟩⟩
   case round =>
    clear H'
    try clear c1
    try clear c2
    try clear p2
    try clear c3
    try clear c4
    try clear c4b0
    try clear c4b1
    try clear c9
    try clear c11
    try clear c16
    try clear c17
    try clear p2
    obtain ⟨x7_2, x9_2, rfl, HA, HK2, HO_7, HO_8, HB⟩ := hrel
    cases gk with
    | zero => exact absurd HA.out (by simp [spec_ShiftRegion.l0])
    | succ k2 =>
     have H := HA.out
     clear HA
     simp only [spec_ShiftRegion.l0] at H
     by_cases c19 : x9_2 < (t107.length : Int)
     rotate_left
     ·
      rw [if_neg c19] at H
      have c19b0 : decide (x9_2 < (t107.length : Int)) = false := decide_eq_false c19
      clear c19
      replace H := Option.bind_eq_some_iff.mp H
      obtain ⟨t110, A370, H⟩ := H
      replace H : (some t110) = some r := H
      have A37 := Aside0.mk A370
      clear A370
      obtain rfl := Option.some.inj H
      obtain ⟨Ao38, co38, eo38⟩ := Kd.R_slice HO_8.out
      subst eo38
      obtain ⟨Ao39, co39, eo39⟩ := Kd.R_slice HO_7.out
      subst eo39
      go_wp2_with (first | ((with_reducible refine gate_callee (f := 39) rfl ?_); refine goesL_ (some 61) rfl rfl Try.func39 (by kernel_rfl) rfl #[.slice Ao39 x7_2.length co39] rfl (by simp only [List.map_toArray, List.map_cons, List.map_nil]; rfl) ?_; (with_reducible refine (spec_runsOf.calls k2 _ _ x7_2 t110 _ ?side1 ?side2 A37.out).mono ?_); (case side1 => repeat (first | exact (Kd.R_reads' HO_7.out).2.2 | (with_reducible refine Kd.C_alloc ?_ _) | (with_reducible refine Kd.C_drewN ?_ _) | (with_reducible refine Kd.C_drew ?_))); (case side2 => exact (Kd.R_reads' HO_7.out).2.1); rintro e w40 ⟨v111, rfl, ho0, hb⟩; refine ⟨_, rfl, ?_⟩; replace HO_7 := am_ (Kd.R_below (by exact HO_7.out) hb); replace HO_8 := am_ (Kd.R_below (by exact HO_8.out) hb); have HO112 := am_ (Kd.R_lower ho0 (below_size (by repeat (first | (with_reducible first | exact HB.out | apply below_alloc | apply pw_below_drewN | apply below_drew1) | exact HB.out)))); replace HB := am_ (below_step (by repeat (first | (with_reducible first | exact HB.out | apply below_alloc | apply pw_below_drewN | apply below_drew1) | exact HB.out)) hb); (try clear hb); (try clear hb2); (try clear hk); (try clear hi); (try clear ho0)))
      go_ret
      exact ⟨_, by first | rfl | (simp [errW_none, errW_some] <;> rfl) | (simp [*, errW_none, errW_some] <;> rfl), by exact HO112.out, by repeat (first | (with_reducible first | exact HB.out | apply below_alloc | apply pw_below_drewN | apply below_drew1) | exact HB.out)⟩
     rw [if_pos c19] at H
     have c19b0 : decide (x9_2 < (t107.length : Int)) = true := decide_eq_true c19
     clear c19
     by_cases c20 : 0 ≤ x9_2
     rotate_left
     ·
      rw [if_neg c20] at H
      exact absurd H (by simp)
     rw [if_pos c20] at H
     have c20b0 : decide (0 ≤ x9_2) = true := decide_eq_true c20
     clear c20
     obtain ⟨bq21, hbq21⟩ : ∃ b_ : Bool, b_ = (rdOf false t107 x9_2) := ⟨_, rfl⟩
     replace H : (if bq21 = true then ((spec_inRange.f (wrap64 ((Int.tmod x9_2 16) + a1)) 0 15).bind fun t114 => (if t114 = true then ((spec_inRange.f (wrap64 ((wrap64 (Int.tdiv x9_2 16)) + a2)) 0 15).bind fun t115 => (if t115 = true then (if 0 ≤ (wrap64 ((wrap64 ((wrap64 ((wrap64 (Int.tdiv x9_2 16)) + a2)) * 16)) + (wrap64 ((Int.tmod x9_2 16) + a1)))) then (if (wrap64 ((wrap64 ((wrap64 ((wrap64 (Int.tdiv x9_2 16)) + a2)) * 16)) + (wrap64 ((Int.tmod x9_2 16) + a1)))) < (x7_2.length : Int) then (spec_ShiftRegion.l0 k2 a1 a2 (x7_2.set ((wrap64 ((wrap64 ((wrap64 ((wrap64 (Int.tdiv x9_2 16)) + a2)) * 16)) + (wrap64 ((Int.tmod x9_2 16) + a1)))) : Int).toNat true) t107 (wrap64 (x9_2 + 1))) else (none)) else (none)) else (spec_ShiftRegion.l0 k2 a1 a2 x7_2 t107 (wrap64 (x9_2 + 1))))) else (spec_ShiftRegion.l0 k2 a1 a2 x7_2 t107 (wrap64 (x9_2 + 1))))) else (spec_ShiftRegion.l0 k2 a1 a2 x7_2 t107 (wrap64 (x9_2 + 1)))) = some r := by rw [← hbq21] at H; exact H
     have Nbq21 := Aside0.mk hbq21
     clear hbq21
     by_cases c22 : bq21 = true
     rotate_left
     ·
      replace c22 := Bool.eq_false_iff.mpr c22
      subst c22
      have H1 : (spec_ShiftRegion.l0 k2 a1 a2 x7_2 t107 (wrap64 (x9_2 + 1))) = some r := by rw [if_neg (show ¬ (false = true) by decide)] at H; exact H
      clear H
      have H := H1
      clear H1
      have H' := Aside0.mk H
      clear H
      obtain ⟨Ao36, co36, eo36⟩ := Kd.R_slice HO_8.out
      subst eo36
      have p113 : 0 ≤ (x9_2 : Int) := of_decide_eq_true (by first | with_reducible assumption | assumption)
      have q113 : x9_2 < (t107.length : Int) := of_decide_eq_true (by first | with_reducible assumption | assumption)
      obtain ⟨ad113, e113, hx113_0⟩ := Kd.at_bool (Kd.R_reads' HO_8.out).2.2 x9_2 p113 q113
      (try rw [← Nbq21.out] at hx113_0)
      cases e113
      replace p113 := eq_true p113
      replace q113 := eq_true q113
      go_wp2
      go_roundg k2
      case measure => have := HJ4.out; have := HK2.out; omega
      case rel => exact ⟨(x7_2), (wrap64 (x9_2 + 1)), (by first | rfl | (simp; done) | (simp [*]; done)), H', ⟨by have := HJ4.out; have := HK2.out; omega⟩, ⟨by exact HO_7.out⟩, ⟨by exact HO_8.out⟩, ⟨by repeat (first | (with_reducible first | exact HB.out | apply below_alloc | apply pw_below_drewN | apply below_drew1) | exact HB.out)⟩⟩
     subst c22
     have H1 : ((spec_inRange.f (wrap64 ((Int.tmod x9_2 16) + a1)) 0 15).bind fun t114 => (if t114 = true then ((spec_inRange.f (wrap64 ((wrap64 (Int.tdiv x9_2 16)) + a2)) 0 15).bind fun t115 => (if t115 = true then (if 0 ≤ (wrap64 ((wrap64 ((wrap64 ((wrap64 (Int.tdiv x9_2 16)) + a2)) * 16)) + (wrap64 ((Int.tmod x9_2 16) + a1)))) then (if (wrap64 ((wrap64 ((wrap64 ((wrap64 (Int.tdiv x9_2 16)) + a2)) * 16)) + (wrap64 ((Int.tmod x9_2 16) + a1)))) < (x7_2.length : Int) then (spec_ShiftRegion.l0 k2 a1 a2 (x7_2.set ((wrap64 ((wrap64 ((wrap64 ((wrap64 (Int.tdiv x9_2 16)) + a2)) * 16)) + (wrap64 ((Int.tmod x9_2 16) + a1)))) : Int).toNat true) t107 (wrap64 (x9_2 + 1))) else (none)) else (none)) else (spec_ShiftRegion.l0 k2 a1 a2 x7_2 t107 (wrap64 (x9_2 + 1))))) else (spec_ShiftRegion.l0 k2 a1 a2 x7_2 t107 (wrap64 (x9_2 + 1))))) = some r := by rw [if_pos rfl] at H; exact H
     clear H
     have H := H1
     clear H1
     replace H := Option.bind_eq_some_iff.mp H
     obtain ⟨t114, A230, H⟩ := H
     replace H : (if t114 = true then ((spec_inRange.f (wrap64 ((wrap64 (Int.tdiv x9_2 16)) + a2)) 0 15).bind fun t115 => (if t115 = true then (if 0 ≤ (wrap64 ((wrap64 ((wrap64 ((wrap64 (Int.tdiv x9_2 16)) + a2)) * 16)) + (wrap64 ((Int.tmod x9_2 16) + a1)))) then (if (wrap64 ((wrap64 ((wrap64 ((wrap64 (Int.tdiv x9_2 16)) + a2)) * 16)) + (wrap64 ((Int.tmod x9_2 16) + a1)))) < (x7_2.length : Int) then (spec_ShiftRegion.l0 k2 a1 a2 (x7_2.set ((wrap64 ((wrap64 ((wrap64 ((wrap64 (Int.tdiv x9_2 16)) + a2)) * 16)) + (wrap64 ((Int.tmod x9_2 16) + a1)))) : Int).toNat true) t107 (wrap64 (x9_2 + 1))) else (none)) else (none)) else (spec_ShiftRegion.l0 k2 a1 a2 x7_2 t107 (wrap64 (x9_2 + 1))))) else (spec_ShiftRegion.l0 k2 a1 a2 x7_2 t107 (wrap64 (x9_2 + 1)))) = some r := H
     have A23 := Aside0.mk A230
     clear A230
     by_cases c24 : t114 = true
     rotate_left
     ·
      replace c24 := Bool.eq_false_iff.mpr c24
      subst c24
      have H1 : (spec_ShiftRegion.l0 k2 a1 a2 x7_2 t107 (wrap64 (x9_2 + 1))) = some r := by rw [if_neg (show ¬ (false = true) by decide)] at H; exact H
      clear H
      have H := H1
      clear H1
      have H' := Aside0.mk H
      clear H
      obtain ⟨Ao35, co35, eo35⟩ := Kd.R_slice HO_8.out
      subst eo35
      have p113 : 0 ≤ (x9_2 : Int) := of_decide_eq_true (by first | with_reducible assumption | assumption)
      have q113 : x9_2 < (t107.length : Int) := of_decide_eq_true (by first | with_reducible assumption | assumption)
      obtain ⟨ad113, e113, hx113_0⟩ := Kd.at_bool (Kd.R_reads' HO_8.out).2.2 x9_2 p113 q113
      (try rw [← Nbq21.out] at hx113_0)
      cases e113
      replace p113 := eq_true p113
      replace q113 := eq_true q113
      go_wp2_with (first | (go_at_call 37; (with_reducible refine (spec_inRange.calls (wrap64 ((Int.tmod x9_2 16) + a1)) 0 15 false _ A23.out).mono ?_); rintro e w' ⟨rfl, ⟨nd, rfl⟩⟩))
      go_roundg k2
      case measure => have := HJ4.out; have := HK2.out; omega
      case rel => exact ⟨(x7_2), (wrap64 (x9_2 + 1)), (by first | rfl | (simp; done) | (simp [*]; done)), H', ⟨by have := HJ4.out; have := HK2.out; omega⟩, ⟨by exact HO_7.out⟩, ⟨by exact HO_8.out⟩, ⟨by repeat (first | (with_reducible first | exact HB.out | apply below_alloc | apply pw_below_drewN | apply below_drew1) | exact HB.out)⟩⟩
     subst c24
     have H1 : ((spec_inRange.f (wrap64 ((wrap64 (Int.tdiv x9_2 16)) + a2)) 0 15).bind fun t115 => (if t115 = true then (if 0 ≤ (wrap64 ((wrap64 ((wrap64 ((wrap64 (Int.tdiv x9_2 16)) + a2)) * 16)) + (wrap64 ((Int.tmod x9_2 16) + a1)))) then (if (wrap64 ((wrap64 ((wrap64 ((wrap64 (Int.tdiv x9_2 16)) + a2)) * 16)) + (wrap64 ((Int.tmod x9_2 16) + a1)))) < (x7_2.length : Int) then (spec_ShiftRegion.l0 k2 a1 a2 (x7_2.set ((wrap64 ((wrap64 ((wrap64 ((wrap64 (Int.tdiv x9_2 16)) + a2)) * 16)) + (wrap64 ((Int.tmod x9_2 16) + a1)))) : Int).toNat true) t107 (wrap64 (x9_2 + 1))) else (none)) else (none)) else (spec_ShiftRegion.l0 k2 a1 a2 x7_2 t107 (wrap64 (x9_2 + 1))))) = some r := by rw [if_pos rfl] at H; exact H
     clear H
     have H := H1
     clear H1
     replace H := Option.bind_eq_some_iff.mp H
     obtain ⟨t115, A250, H⟩ := H
     replace H : (if t115 = true then (if 0 ≤ (wrap64 ((wrap64 ((wrap64 ((wrap64 (Int.tdiv x9_2 16)) + a2)) * 16)) + (wrap64 ((Int.tmod x9_2 16) + a1)))) then (if (wrap64 ((wrap64 ((wrap64 ((wrap64 (Int.tdiv x9_2 16)) + a2)) * 16)) + (wrap64 ((Int.tmod x9_2 16) + a1)))) < (x7_2.length : Int) then (spec_ShiftRegion.l0 k2 a1 a2 (x7_2.set ((wrap64 ((wrap64 ((wrap64 ((wrap64 (Int.tdiv x9_2 16)) + a2)) * 16)) + (wrap64 ((Int.tmod x9_2 16) + a1)))) : Int).toNat true) t107 (wrap64 (x9_2 + 1))) else (none)) else (none)) else (spec_ShiftRegion.l0 k2 a1 a2 x7_2 t107 (wrap64 (x9_2 + 1)))) = some r := H
     have A25 := Aside0.mk A250
     clear A250
     by_cases c26 : t115 = true
     ·
      subst c26
      have H1 : (if 0 ≤ (wrap64 ((wrap64 ((wrap64 ((wrap64 (Int.tdiv x9_2 16)) + a2)) * 16)) + (wrap64 ((Int.tmod x9_2 16) + a1)))) then (if (wrap64 ((wrap64 ((wrap64 ((wrap64 (Int.tdiv x9_2 16)) + a2)) * 16)) + (wrap64 ((Int.tmod x9_2 16) + a1)))) < (x7_2.length : Int) then (spec_ShiftRegion.l0 k2 a1 a2 (x7_2.set ((wrap64 ((wrap64 ((wrap64 ((wrap64 (Int.tdiv x9_2 16)) + a2)) * 16)) + (wrap64 ((Int.tmod x9_2 16) + a1)))) : Int).toNat true) t107 (wrap64 (x9_2 + 1))) else (none)) else (none)) = some r := by rw [if_pos rfl] at H; exact H
      clear H
      have H := H1
      clear H1
      obtain ⟨ji27, hji27⟩ : ∃ j_ : Int, (wrap64 ((wrap64 ((wrap64 ((wrap64 (Int.tdiv x9_2 16)) + a2)) * 16)) + (wrap64 ((Int.tmod x9_2 16) + a1)))) = j_ := ⟨_, rfl⟩
      replace H : (if 0 ≤ (ji27) then (if (ji27) < (x7_2.length : Int) then (spec_ShiftRegion.l0 k2 a1 a2 (x7_2.set ((ji27) : Int).toNat true) t107 (wrap64 (x9_2 + 1))) else (none)) else (none)) = some r := by first | (rw [hji27] at H; exact H) | (simp only [hji27] at H ⊢; exact H)
      (try rw [hji27] at A23)
      (try rw [hji27] at A25)
      have hji27w : (IntKind.i64.wrap ((wrap64 ((wrap64 ((wrap64 (Int.tdiv x9_2 16)) + a2)) * 16)) + (wrap64 ((Int.tmod x9_2 16) + a1)))) = ji27 := (i64_w _).trans hji27
      by_cases c28 : 0 ≤ (ji27)
      rotate_left
      ·
       rw [if_neg c28] at H
       exact absurd H (by simp)
      rw [if_pos c28] at H
      have c28b0 : decide (0 ≤ (ji27)) = true := decide_eq_true c28
      clear c28
      by_cases c29 : (ji27) < (x7_2.length : Int)
      rotate_left
      ·
       rw [if_neg c29] at H
       exact absurd H (by simp)
      rw [if_pos c29] at H
      have c29b0 : decide ((ji27) < (x7_2.length : Int)) = true := decide_eq_true c29
      clear c29
      obtain ⟨y116, hy116⟩ : ∃ y_ : List Bool, y_ = (x7_2.set ((ji27) : Int).toNat true) := ⟨_, rfl⟩
      replace H : (spec_ShiftRegion.l0 k2 a1 a2 y116 t107 (wrap64 (x9_2 + 1))) = some r := by first | (rw [hy116]; with_reducible exact H) | (have H2_ := (Option.bind_some _ _).symm.trans H; rw [hy116]; with_reducible exact H2_) | (have H2_ := (Option.bind_some _ _).symm.trans H; with_reducible exact H2_) | with_reducible exact H | (rw [hy116]; exact H) | exact H
      have Ny116 := Aside0.mk hy116
      clear hy116
      have H' := Aside0.mk H
      clear H
      obtain ⟨Ao31, co31, eo31⟩ := Kd.R_slice HO_8.out
      subst eo31
      have p113 : 0 ≤ (x9_2 : Int) := of_decide_eq_true (by first | with_reducible assumption | assumption)
      have q113 : x9_2 < (t107.length : Int) := of_decide_eq_true (by first | with_reducible assumption | assumption)
      obtain ⟨ad113, e113, hx113_0⟩ := Kd.at_bool (Kd.R_reads' HO_8.out).2.2 x9_2 p113 q113
      (try rw [← Nbq21.out] at hx113_0)
      cases e113
      replace p113 := eq_true p113
      replace q113 := eq_true q113
      go_wp2_with (first | (go_at_call 37; (with_reducible refine (spec_inRange.calls (wrap64 ((Int.tmod x9_2 16) + a1)) 0 15 true _ A23.out).mono ?_); rintro e w' ⟨rfl, ⟨nd, rfl⟩⟩; (try (rw [drewN_self wr]; generalize hq_ : World.drewN wr _ = wr; have n0_ : Aside0 (Kd.R Kd.bool 4 wr w.heap.size (fun k_ => some k_ ≠ (.slice (some ad113) t107.length co31 : Value).ownBlock) v102 x7_2) := ⟨by rw [← hq_]; exact (by exact HO_7.out)⟩; have n1_ : Aside0 (Kd.R Kd.bool 4 wr w.heap.size (fun k_ => some k_ ≠ (v102 : Value).ownBlock) (.slice (some ad113) t107.length co31) t107) := ⟨by rw [← hq_]; exact (by exact HO_8.out)⟩; have n2_ : Aside0 (Below w.heap.size w wr) := ⟨by rw [← hq_]; exact (by repeat (first | (with_reducible first | exact HB.out | apply below_alloc | apply pw_below_drewN | apply below_drew1) | exact HB.out))⟩; clear HO_7 HO_8 HB hq_; have HO_7 := n0_; have HO_8 := n1_; have HB := n2_; clear n0_ n1_ n2_))) | (go_at_call 37; (with_reducible refine (spec_inRange.calls (wrap64 ((wrap64 (Int.tdiv x9_2 16)) + a2)) 0 15 true _ A25.out).mono ?_); rintro e w' ⟨rfl, ⟨nd, rfl⟩⟩; (try (rw [drewN_self wr]; generalize hq_ : World.drewN wr _ = wr; have n0_ : Aside0 (Kd.R Kd.bool 4 wr w.heap.size (fun k_ => some k_ ≠ (.slice (some ad113) t107.length co31 : Value).ownBlock) v102 x7_2) := ⟨by rw [← hq_]; exact (by exact HO_7.out)⟩; have n1_ : Aside0 (Kd.R Kd.bool 4 wr w.heap.size (fun k_ => some k_ ≠ (v102 : Value).ownBlock) (.slice (some ad113) t107.length co31) t107) := ⟨by rw [← hq_]; exact (by exact HO_8.out)⟩; have n2_ : Aside0 (Below w.heap.size w wr) := ⟨by rw [← hq_]; exact (by repeat (first | (with_reducible first | exact HB.out | apply below_alloc | apply pw_below_drewN | apply below_drew1) | exact HB.out))⟩; clear HO_7 HO_8 HB hq_; have HO_7 := n0_; have HO_8 := n1_; have HB := n2_; clear n0_ n1_ n2_)); have p30 : 0 ≤ ((ji27) : Int) := of_decide_eq_true (by first | with_reducible assumption | assumption); have q30 : ((ji27) : Int) < ((x7_2.length : Int) : Int) := of_decide_eq_true (by first | with_reducible assumption | assumption); obtain ⟨go30, co30, eo30, gb30, gl30, cl30, HG30⟩ := Kd.R_form HO_7.out (by omega); (first | cases eo30 | (injection eo30 with ea_ en_ ec_; (first | subst ea_ | (injection ea_ with ea_; subst ea_)); subst ec_; clear en_)); have GB30 := Aside0.mk gb30; have GG30 := Aside0.mk HG30; clear gb30 gl30 HG30; obtain ⟨hx30_0, hf30_0⟩ := Kd.R_celln false HO_7.out ((ji27) : Int) p30 q30; replace p30 := eq_true p30; replace q30 := eq_true q30; obtain ⟨hy32_, hz32_⟩ := Kd.R_celln false HO_7.out ((ji27) : Int) (of_decide_eq_true (by first | with_reducible assumption | assumption)) (of_decide_eq_true (by first | with_reducible assumption | assumption)); have HP32 := Kd.R_putg HO_7.out ((ji27) : Int) true) | ((with_reducible refine gate_store (t := 4) (p := 59) rfl ?_); refine store_event (t := 4) (p := 59) (v := ?vo_w33) (w1 := (wr.setCell ⟨go30, ((ji27) : Int).toNat, none⟩ (.bool true))) ?hg ?ho ?hn ?hr ?_; (case ho => rfl); (case hg => rfl); (case hn => rfl); (case hr => first | (go_simp; done) | (go_simp; rfl)); intro w33 hw; have hg : wr.grownBy w33 (some go30) := (by rw [hw]; exact HP32.2); have hp_ : Kd.R Kd.bool 4 w33 w.heap.size (fun k_ => some k_ ≠ (.slice (some ad113) t107.length co31 : Value).ownBlock) (.slice (some ⟨go30, 0, none⟩) x7_2.length co30) y116 := (by rw [hw, Ny116.out]; exact HP32.1); clear HP32; replace HO_7 := am_ (hp_); replace HO_8 := am_ (Kd.R_after (v := (.slice (some ⟨go30, 0, none⟩) x7_2.length co30)) (v1 := (.slice (some ⟨go30, 0, none⟩) x7_2.length co30)) (ok := (fun _ => True)) (by exact Kd.R_mono HO_8.out (fun _ hk => ⟨trivial, hk⟩)) hg (.inl rfl)); replace HB := am_ ((by rw [hw]; exact below_set (HB.out) GB30.out : Below w.heap.size w w33)); clear hg hw hp_))
      go_roundg k2
      case measure => have := HJ4.out; have := HK2.out; omega
      case rel => exact ⟨(y116), (wrap64 (x9_2 + 1)), (by first | rfl | (simp; done) | (simp [*]; done)), H', ⟨by have := HJ4.out; have := HK2.out; omega⟩, ⟨by exact HO_7.out⟩, ⟨by exact Kd.R_mono HO_8.out (fun _ hk => hk.2)⟩, ⟨by repeat (first | (with_reducible first | exact HB.out | apply below_alloc | apply pw_below_drewN | apply below_drew1) | exact HB.out)⟩⟩
     replace c26 := Bool.eq_false_iff.mpr c26
     subst c26
     have H1 : (spec_ShiftRegion.l0 k2 a1 a2 x7_2 t107 (wrap64 (x9_2 + 1))) = some r := by rw [if_neg (show ¬ (false = true) by decide)] at H; exact H
     clear H
     have H := H1
     clear H1
     have H' := Aside0.mk H
     clear H
     obtain ⟨Ao34, co34, eo34⟩ := Kd.R_slice HO_8.out
     subst eo34
     have p113 : 0 ≤ (x9_2 : Int) := of_decide_eq_true (by first | with_reducible assumption | assumption)
     have q113 : x9_2 < (t107.length : Int) := of_decide_eq_true (by first | with_reducible assumption | assumption)
     obtain ⟨ad113, e113, hx113_0⟩ := Kd.at_bool (Kd.R_reads' HO_8.out).2.2 x9_2 p113 q113
     (try rw [← Nbq21.out] at hx113_0)
     cases e113
     replace p113 := eq_true p113
     replace q113 := eq_true q113
     go_wp2_with (first | (go_at_call 37; (with_reducible refine (spec_inRange.calls (wrap64 ((Int.tmod x9_2 16) + a1)) 0 15 true _ A23.out).mono ?_); rintro e w' ⟨rfl, ⟨nd, rfl⟩⟩) | (go_at_call 37; (with_reducible refine (spec_inRange.calls (wrap64 ((wrap64 (Int.tdiv x9_2 16)) + a2)) 0 15 false _ A25.out).mono ?_); rintro e w' ⟨rfl, ⟨nd, rfl⟩⟩))
     go_roundg k2
     case measure => have := HJ4.out; have := HK2.out; omega
     case rel => exact ⟨(x7_2), (wrap64 (x9_2 + 1)), (by first | rfl | (simp; done) | (simp [*]; done)), H', ⟨by have := HJ4.out; have := HK2.out; omega⟩, ⟨by exact HO_7.out⟩, ⟨by exact HO_8.out⟩, ⟨by repeat (first | (with_reducible first | exact HB.out | apply below_alloc | apply pw_below_drewN | apply below_drew1) | exact HB.out)⟩⟩

/-! ### impl_ValidRegion: function 18 -/
def impl_ValidRegion.f (k : Nat) (l0 : List (S45)) : Option (Bool) := (impl_isRegion.f k l0).bind fun t101 => (some t101)
theorem impl_ValidRegion.mono : ∀ a0 k, LeO (impl_ValidRegion.f k a0) (impl_ValidRegion.f (k + 1) a0) := by
 intro a0 k
 unfold impl_ValidRegion.f
 repeat' first
   | (with_reducible exact impl_isRegion.mono _ _)
   | (with_reducible exact LeO.refl _)
   | (with_reducible exact LeO.none _)
   | (with_reducible refine LeO.ite ?_ ?_)
   | (with_reducible refine LeO.bind ?_ (fun _ => ?_))
   | exact impl_isRegion.mono _ _
   | exact LeO.none _
   | refine LeO.ite ?_ ?_
   | refine LeO.bind ?_ (fun _ => ?_)
set_option maxHeartbeats 8000000 in
set_option maxRecDepth 100000 in
theorem impl_ValidRegion.calls (k : Nat) (A0 : Option Addr) (c0 : Nat) (l0 : List (S45)) (r : Bool) (w : World) (hr0 : Kd.C k45 w A0 l0.length l0) (hc0 : l0.length ≤ c0) (h : impl_ValidRegion.f k l0 = some r) :
  Calls Try.prog 18 #[.slice A0 l0.length c0] w fun e w' => e = .returned (.bool r) ∧ Below w.heap.size w w' := by
 have HR0 := Aside0.mk hr0
 have HC0 := Aside0.mk hc0
 clear hr0 hc0
 have HB := Aside0.mk (Below.refl w.heap.size w)
 have H : ((impl_isRegion.f k l0).bind fun t101 => (some t101)) = some r := h
 clear h
 replace H := Option.bind_eq_some_iff.mp H
 obtain ⟨t101, A20, H⟩ := H
 replace H : (some t101) = some r := H
 have A2 := Aside0.mk A20
 clear A20
 obtain rfl := Option.some.inj H
 go_enter Try.func18, Try.ntmps18
 go_wp2_with (first | ((with_reducible refine gate_callee (f := 25) rfl ?_); refine goesL_ (some 4) rfl rfl Try.func25 (by kernel_rfl) rfl #[.slice A0 l0.length c0] rfl (by simp only [List.map_toArray, List.map_cons, List.map_nil]; rfl) ?_; (with_reducible refine (impl_isRegion.calls k _ _ l0 t101 _ ?side1 ?side2 A2.out).mono ?_); (case side1 => repeat (first | exact HR0.out | (with_reducible refine Kd.C_alloc ?_ _) | (with_reducible refine Kd.C_drewN ?_ _) | (with_reducible refine Kd.C_drew ?_))); (case side2 => exact HC0.out); rintro e w3 ⟨rfl, hb⟩; refine ⟨_, rfl, ?_⟩; replace HB := am_ (below_step (by repeat (first | (with_reducible first | exact HB.out | apply below_alloc | apply pw_below_drewN | apply below_drew1) | exact HB.out)) hb); (try clear hb); (try clear hb2); (try clear hk); (try clear hi)))
 go_ret
 exact ⟨by first | rfl | (simp [errW_none, errW_some] <;> rfl) | (simp [*, errW_none, errW_some] <;> rfl), by repeat (first | (with_reducible first | exact HB.out | apply below_alloc | apply pw_below_drewN | apply below_drew1) | exact HB.out)⟩

end Go.Proofs.Ytceoecmjccakgaa.Print
