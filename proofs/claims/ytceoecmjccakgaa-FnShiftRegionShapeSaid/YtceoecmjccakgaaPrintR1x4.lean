-- laid by hp.py (a program of this work over the kit's print), with contracts by hand for what the print does not take
import Derived.Test.YtceoecmjccakgaaPrint0
import Derived.Test.YtceoecmjccakgaaPrintHx0
import Derived.Test.YtceoecmjccakgaaPrintR0x0
import Derived.Test.YtceoecmjccakgaaPrintR1x0
import Derived.Test.YtceoecmjccakgaaPrintR1x3
namespace Go.Proofs.Ytceoecmjccakgaa.Print
open Go.RowKit Go.Proofs.YtceoecmjccakgaaW.PrintWords Go.Proofs.YtceoecmjccakgaaW.PrintLast Go.Proofs.YtceoecmjccakgaaW.PrintMore
attribute [local go_sem] max2_int min2_int max_two min_two max_three min_three max_four min_four   -- for this text's walks alone
set_option linter.unusedVariables false
set_option linter.unusedSimpArgs false

/-! ### spec_anyRegion: function 23 -/
def spec_anyRegion.j0 : Nat → List (S45) → Bool → List Int → Int → Option ((List (S45)) × Int)
 | 0, _, _, _, _ => none
 | k + 1, x3, x13, x1000, x1001 => if x13 = true then ((spec_reader_pick.f k x1000 x1001 (x3.length : Int)).bind fun bt107 => ((spec_reader_one.f k x1000 bt107.2 (([(-1), 0, 15, 16] : List Int))).bind fun bt112 => ((spec_reader_one.f k x1000 bt112.2 (([(-1), 0, 15, 16] : List Int))).bind fun bt117 => ((spec_reader_one.f k x1000 bt117.2 (([0, 1, 16, 17] : List Int))).bind fun bt122 => (if 0 ≤ bt107.1 then (if bt107.1 < (x3.length : Int) then (some ((x3.set (bt107.1 : Int).toNat (⟨bt112.1, bt117.1, bt122.1⟩ : S45)), bt122.2)) else (none)) else (none)))))) else (some (x3, x1001))
def spec_anyRegion.f (k : Nat) (s0_0 : List Int) (s0_1 : Int) : Option ((List (S45)) × Int) := (spec_randomRegion.f k s0_0 s0_1).bind fun bt101 => (if (bt101.1.length : Int) > 0 then ((spec_reader_pick.f k s0_0 bt101.2 20).bind fun bt105 => (spec_anyRegion.j0 k bt101.1 (bt105.1 == 0) s0_0 bt105.2)) else (spec_anyRegion.j0 k bt101.1 false s0_0 bt101.2))
theorem spec_anyRegion.mono_l : ∀ k, (∀ y0 y1 y2 y3, LeO (spec_anyRegion.j0 k y0 y1 y2 y3) (spec_anyRegion.j0 (k + 1) y0 y1 y2 y3))
 | 0 => fun _ _ _ _ r h => by simp [spec_anyRegion.j0] at h
 | k + 1 => by
  have ih0 := spec_anyRegion.mono_l k
  intro y0 y1 y2 y3
  unfold spec_anyRegion.j0
  repeat' first
  | (with_reducible exact ih0 _ _ _ _)
  | (with_reducible exact spec_randomRegion.mono _ _ _)
  | (with_reducible exact spec_reader_one.mono _ _ _ _)
  | (with_reducible exact spec_reader_pick.mono _ _ _ _)
  | (with_reducible exact LeO.refl _)
  | (with_reducible exact LeO.none _)
  | (with_reducible refine LeO.ite ?_ ?_)
  | (with_reducible refine LeO.bind ?_ (fun _ => ?_))
  | exact ih0 _ _ _ _
  | exact spec_randomRegion.mono _ _ _
  | exact spec_reader_one.mono _ _ _ _
  | exact spec_reader_pick.mono _ _ _ _
  | exact LeO.none _
  | refine LeO.ite ?_ ?_
  | refine LeO.bind ?_ (fun _ => ?_)
theorem spec_anyRegion.mono : ∀ a0 a1 k, LeO (spec_anyRegion.f k a0 a1) (spec_anyRegion.f (k + 1) a0 a1) := by
 intro a0 a1 k
 have ih0 := spec_anyRegion.mono_l k
 unfold spec_anyRegion.f
 repeat' first
   | (with_reducible exact ih0 _ _ _ _)
   | (with_reducible exact spec_randomRegion.mono _ _ _)
   | (with_reducible exact spec_reader_one.mono _ _ _ _)
   | (with_reducible exact spec_reader_pick.mono _ _ _ _)
   | (with_reducible exact LeO.refl _)
   | (with_reducible exact LeO.none _)
   | (with_reducible refine LeO.ite ?_ ?_)
   | (with_reducible refine LeO.bind ?_ (fun _ => ?_))
   | exact ih0 _ _ _ _
   | exact spec_randomRegion.mono _ _ _
   | exact spec_reader_one.mono _ _ _ _
   | exact spec_reader_pick.mono _ _ _ _
   | exact LeO.none _
   | refine LeO.ite ?_ ?_
   | refine LeO.bind ?_ (fun _ => ?_)
set_option maxHeartbeats 8000000 in
set_option maxRecDepth 100000 in
theorem spec_anyRegion.calls (k : Nat) (g : Nat) (s0_0 : List Int) (s0_1 : Int) (r1 : List (S45)) (r2 : Int) (w0 w : World) (hI : IsS64 w0 w g s0_0 s0_1) (hB : Below w0.heap.size w0 w) (h : spec_anyRegion.f k s0_0 s0_1 = some (r1, r2)) :
  Calls Try.prog 23 #[.pointer (some ⟨g, 0, none⟩)] w fun e w' => ∃ v0_ : Value, e = .returned (v0_) ∧ Kd.R k45 45 w' w.heap.size (fun _ => True) v0_ r1 ∧ IsS64 w0 w' g s0_0 r2 ∧ Below w0.heap.size w0 w' ∧ KeepBut w w' g none := by
 have hu45 := Try.underlying45
 have HI0 := Aside0.mk hI
 have HK := Aside0.mk (KeepBut.refl w g none)
 have HL := Aside0.mk hB.size
 clear hI
 have HW0 := Aside0.mk hB.size
 have HB := Aside0.mk hB
 clear hB
 have H : ((spec_randomRegion.f k s0_0 s0_1).bind fun bt101 => (if (bt101.1.length : Int) > 0 then ((spec_reader_pick.f k s0_0 bt101.2 20).bind fun bt105 => (spec_anyRegion.j0 k bt101.1 (bt105.1 == 0) s0_0 bt105.2)) else (spec_anyRegion.j0 k bt101.1 false s0_0 bt101.2))) = some (r1, r2) := h
 clear h
 replace H := Option.bind_eq_some_iff.mp H
 obtain ⟨⟨t101, t104⟩, A20, H⟩ := H
 replace H : (if (t101.length : Int) > 0 then ((spec_reader_pick.f k s0_0 t104 20).bind fun bt105 => (spec_anyRegion.j0 k t101 (bt105.1 == 0) s0_0 bt105.2)) else (spec_anyRegion.j0 k t101 false s0_0 t104)) = some (r1, r2) := H
 have A2 := Aside0.mk A20
 clear A20
 have HC3 := Aside0.mk H
 clear H
 go_enter Try.func23, Try.ntmps23
 go_upto_region 2 with (first | ((with_reducible refine gate_callee (f := 43) rfl ?_); refine goesL_ (some 5) rfl rfl Try.func43 (by kernel_rfl) rfl #[.pointer (some ⟨g, 0, none⟩)] rfl (by simp only [List.map_toArray, List.map_cons, List.map_nil]; rfl) ?_; (with_reducible refine (spec_randomRegion.calls k g s0_0 s0_1 t101 t104 w0 _ ?side1 ?side2 A2.out).mono ?_); (case side1 => repeat (first | (with_reducible first | exact HI0.out | apply IsS64.alloc | apply IsS64.drewN | apply IsS64.drew | apply IsS64.set_1) | exact HI0.out)); (case side2 => repeat (first | (with_reducible first | exact HB.out | apply below_alloc | apply pw_below_drewN | apply below_drew1 | refine below_set ?_ (IsS64.ge HI0.out)) | exact HB.out)); rintro e w4 ⟨v102, rfl, ho0, hi, hb, hk⟩; refine ⟨_, rfl, ?_⟩; have HO103 := am_ (Kd.R_lower ho0 (keep_size (w := w) (g := g) (row := none) (by repeat (first | (with_reducible first | exact HK.out | apply KeepBut.set_ | apply keep_drewN | apply keep_drew | apply keep_alloc) | exact HK.out)))); replace HK := am_ (KeepBut.trans (by repeat (first | (with_reducible first | exact HK.out | apply KeepBut.set_ | apply keep_drewN | apply keep_drew | apply keep_alloc) | exact HK.out)) hk (.inl rfl)); replace HB := am_ (hb); replace HI0 := am_ (hi); (try clear hb); (try clear hb2); (try clear hk); (try clear hi); (try clear ho0)))
 (try simp only [Act.put, List.setIfInBounds_toArray, List.set_cons_zero, List.set_cons_succ])
 go_cut [13] (fun v13 wc => ∃ (kq : Nat) (x13_2 : Bool) (x1001_2 : Int), v13 = .bool x13_2 ∧ Aside0 (spec_anyRegion.j0 kq t101 x13_2 s0_0 x1001_2 = some (r1, r2)) ∧ Aside0 (kq ≤ k) ∧ Aside0 (Kd.R k45 45 wc w.heap.size (fun _ => True) v102 t101) ∧ Aside0 (IsS64 w0 wc g s0_0 x1001_2) ∧ Aside0 (KeepBut w wc g none) ∧ Aside0 (Below w0.heap.size w0 wc))
 case first =>
  have H := HC3.out
  clear HC3
  by_cases c5 : (t101.length : Int) > 0
  ·
   rw [if_pos c5] at H
   have c5b0 : decide (0 < (t101.length : Int)) = true := decide_eq_true c5
   have c5b1 : decide (0 < t101.length) = true := decide_eq_true (by omega)
   clear c5
   (first | rw [c5b0] | (simp only [i64_w, i32_w]; rw [c5b0]) | skip)
   replace H := Option.bind_eq_some_iff.mp H
   obtain ⟨⟨t105, t106⟩, A60, H⟩ := H
   replace H : (spec_anyRegion.j0 k t101 (t105 == 0) s0_0 t106) = some (r1, r2) := H
   have A6 := Aside0.mk A60
   clear A60
   have H' := Aside0.mk H
   clear H
   obtain ⟨Ao7, co7, eo7⟩ := Kd.R_slice HO103.out
   subst eo7
   go_wp2_with (first | (go_at_call 40; (with_reducible refine (spec_reader_pick.calls k g s0_0 t104 20 t105 t106 w0 _ ?side1 ?side2 A6.out).mono ?_); (case side1 => repeat (first | (with_reducible first | exact HI0.out | apply IsS64.alloc | apply IsS64.drewN | apply IsS64.drew | apply IsS64.set_1) | exact HI0.out)); (case side2 => repeat (first | (with_reducible first | exact HB.out | apply below_alloc | apply pw_below_drewN | apply below_drew1 | refine below_set ?_ (IsS64.ge HI0.out)) | exact HB.out)); rintro e w8 ⟨rfl, hi, hb, hk⟩; replace HO103 := am_ (Kd.R_mono (Kd.R_keep (IsS64.apart (show IsS64 w0 _ g s0_0 t104 from by repeat (first | (with_reducible first | exact HI0.out | apply IsS64.alloc | apply IsS64.drewN | apply IsS64.drew | apply IsS64.set_1) | exact HI0.out)) (by exact HO103.out) (by decide)) hk (fun _ h => h.2)) (fun _ h => h.1)); replace HK := am_ (KeepBut.trans (by repeat (first | (with_reducible first | exact HK.out | apply KeepBut.set_ | apply keep_drewN | apply keep_drew | apply keep_alloc) | exact HK.out)) hk (.inl rfl)); replace HB := am_ (hb); replace HI0 := am_ (hi); (try clear hb); (try clear hb2); (try clear hk); (try clear hi)))
   go_meet
   case rel => exact ⟨_, ((t105 == 0)), (t106), (by first | rfl | (simp; done) | (simp [*]; done)), H', ⟨by first | omega | exact Nat.le_refl _⟩, ⟨by exact HO103.out⟩, ⟨by repeat (first | (with_reducible first | exact HI0.out | apply IsS64.alloc | apply IsS64.drewN | apply IsS64.drew | apply IsS64.set_1) | exact HI0.out)⟩, ⟨by repeat (first | (with_reducible first | exact HK.out | apply KeepBut.set_ | apply keep_drewN | apply keep_drew | apply keep_alloc) | exact HK.out)⟩, ⟨by repeat (first | (with_reducible first | exact HB.out | apply below_alloc | apply pw_below_drewN | apply below_drew1 | refine below_set ?_ (IsS64.ge HI0.out)) | exact HB.out)⟩⟩
  rw [if_neg c5] at H
  have c5b0 : decide (0 < (t101.length : Int)) = false := decide_eq_false c5
  have c5b1 : decide (0 < t101.length) = false := decide_eq_false (by omega)
  clear c5
  (first | rw [c5b0] | (simp only [i64_w, i32_w]; rw [c5b0]) | skip)
  have H' := Aside0.mk H
  clear H
  obtain ⟨Ao9, co9, eo9⟩ := Kd.R_slice HO103.out
  subst eo9
  go_wp2
  go_meet
  case rel => exact ⟨_, (false), (t104), (by first | rfl | (simp; done) | (simp [*]; done)), H', ⟨by first | omega | exact Nat.le_refl _⟩, ⟨by exact HO103.out⟩, ⟨by repeat (first | (with_reducible first | exact HI0.out | apply IsS64.alloc | apply IsS64.drewN | apply IsS64.drew | apply IsS64.set_1) | exact HI0.out)⟩, ⟨by repeat (first | (with_reducible first | exact HK.out | apply KeepBut.set_ | apply keep_drewN | apply keep_drew | apply keep_alloc) | exact HK.out)⟩, ⟨by repeat (first | (with_reducible first | exact HB.out | apply below_alloc | apply pw_below_drewN | apply below_drew1 | refine below_set ?_ (IsS64.ge HI0.out)) | exact HB.out)⟩⟩
 case rest =>
  clear HC3
  try clear c2
  try clear p2
  try clear c4
  try clear c5
  try clear c5b0
  try clear c5b1
  obtain ⟨kq, x13_2, x1001_2, rfl, HA, HJ2, HO_3, HI0, HK, HB⟩ := hcut
  cases kq with
  | zero => exact absurd HA.out (by simp [spec_anyRegion.j0])
  | succ kj2 =>
   have H := HA.out
   clear HA
   simp only [spec_anyRegion.j0] at H
   by_cases c10 : x13_2 = true
   rotate_left
   ·
    replace c10 := Bool.eq_false_iff.mpr c10
    subst c10
    have H1 : (some (t101, x1001_2)) = some (r1, r2) := by rw [if_neg (show ¬ (false = true) by decide)] at H; exact H
    clear H
    have H := H1
    clear H1
    simp only [Option.some.injEq, Prod.mk.injEq] at H
    obtain ⟨rfl, rfl⟩ := H
    go_wp2
    go_ret
    exact ⟨_, by first | rfl | (simp [errW_none, errW_some] <;> rfl) | (simp [*, errW_none, errW_some] <;> rfl), by exact HO_3.out, by repeat (first | (with_reducible first | exact HI0.out | apply IsS64.alloc | apply IsS64.drewN | apply IsS64.drew | apply IsS64.set_1) | exact HI0.out), by repeat (first | (with_reducible first | exact HB.out | apply below_alloc | apply pw_below_drewN | apply below_drew1 | refine below_set ?_ (IsS64.ge HI0.out)) | exact HB.out), by repeat (first | (with_reducible first | exact HK.out | apply KeepBut.set_ | apply keep_drewN | apply keep_drew | apply keep_alloc) | exact HK.out)⟩
   subst c10
   have H1 : ((spec_reader_pick.f kj2 s0_0 x1001_2 (t101.length : Int)).bind fun bt107 => ((spec_reader_one.f kj2 s0_0 bt107.2 (([(-1), 0, 15, 16] : List Int))).bind fun bt112 => ((spec_reader_one.f kj2 s0_0 bt112.2 (([(-1), 0, 15, 16] : List Int))).bind fun bt117 => ((spec_reader_one.f kj2 s0_0 bt117.2 (([0, 1, 16, 17] : List Int))).bind fun bt122 => (if 0 ≤ bt107.1 then (if bt107.1 < (t101.length : Int) then (some ((t101.set (bt107.1 : Int).toNat (⟨bt112.1, bt117.1, bt122.1⟩ : S45)), bt122.2)) else (none)) else (none)))))) = some (r1, r2) := by rw [if_pos rfl] at H; exact H
   clear H
   have H := H1
   clear H1
   replace H := Option.bind_eq_some_iff.mp H
   obtain ⟨⟨t107, t108⟩, A110, H⟩ := H
   replace H : ((spec_reader_one.f kj2 s0_0 t108 (([(-1), 0, 15, 16] : List Int))).bind fun bt112 => ((spec_reader_one.f kj2 s0_0 bt112.2 (([(-1), 0, 15, 16] : List Int))).bind fun bt117 => ((spec_reader_one.f kj2 s0_0 bt117.2 (([0, 1, 16, 17] : List Int))).bind fun bt122 => (if 0 ≤ t107 then (if t107 < (t101.length : Int) then (some ((t101.set (t107 : Int).toNat (⟨bt112.1, bt117.1, bt122.1⟩ : S45)), bt122.2)) else (none)) else (none))))) = some (r1, r2) := H
   have A11 := Aside0.mk A110
   clear A110
   obtain ⟨y109, hy109⟩ : ∃ y_ : List Int, y_ = (([(-1), 0, 15, 16] : List Int)) := ⟨_, rfl⟩
   replace H : ((spec_reader_one.f kj2 s0_0 t108 y109).bind fun bt112 => ((spec_reader_one.f kj2 s0_0 bt112.2 (([(-1), 0, 15, 16] : List Int))).bind fun bt117 => ((spec_reader_one.f kj2 s0_0 bt117.2 (([0, 1, 16, 17] : List Int))).bind fun bt122 => (if 0 ≤ t107 then (if t107 < (t101.length : Int) then (some ((t101.set (t107 : Int).toNat (⟨bt112.1, bt117.1, bt122.1⟩ : S45)), bt122.2)) else (none)) else (none))))) = some (r1, r2) := by first | (rw [hy109]; with_reducible exact H) | (have H2_ := (Option.bind_some _ _).symm.trans H; rw [hy109]; with_reducible exact H2_) | (have H2_ := (Option.bind_some _ _).symm.trans H; with_reducible exact H2_) | with_reducible exact H | (rw [hy109]; exact H) | exact H
   have Ny109 := Aside0.mk hy109
   clear hy109
   replace H := Option.bind_eq_some_iff.mp H
   obtain ⟨⟨t112, t113⟩, A120, H⟩ := H
   replace H : ((spec_reader_one.f kj2 s0_0 t113 (([(-1), 0, 15, 16] : List Int))).bind fun bt117 => ((spec_reader_one.f kj2 s0_0 bt117.2 (([0, 1, 16, 17] : List Int))).bind fun bt122 => (if 0 ≤ t107 then (if t107 < (t101.length : Int) then (some ((t101.set (t107 : Int).toNat (⟨t112, bt117.1, bt122.1⟩ : S45)), bt122.2)) else (none)) else (none)))) = some (r1, r2) := H
   have A12 := Aside0.mk A120
   clear A120
   obtain ⟨y114, hy114⟩ : ∃ y_ : List Int, y_ = (([(-1), 0, 15, 16] : List Int)) := ⟨_, rfl⟩
   replace H : ((spec_reader_one.f kj2 s0_0 t113 y114).bind fun bt117 => ((spec_reader_one.f kj2 s0_0 bt117.2 (([0, 1, 16, 17] : List Int))).bind fun bt122 => (if 0 ≤ t107 then (if t107 < (t101.length : Int) then (some ((t101.set (t107 : Int).toNat (⟨t112, bt117.1, bt122.1⟩ : S45)), bt122.2)) else (none)) else (none)))) = some (r1, r2) := by first | (rw [hy114]; with_reducible exact H) | (have H2_ := (Option.bind_some _ _).symm.trans H; rw [hy114]; with_reducible exact H2_) | (have H2_ := (Option.bind_some _ _).symm.trans H; with_reducible exact H2_) | with_reducible exact H | (rw [hy114]; exact H) | exact H
   have Ny114 := Aside0.mk hy114
   clear hy114
   replace H := Option.bind_eq_some_iff.mp H
   obtain ⟨⟨t117, t118⟩, A130, H⟩ := H
   replace H : ((spec_reader_one.f kj2 s0_0 t118 (([0, 1, 16, 17] : List Int))).bind fun bt122 => (if 0 ≤ t107 then (if t107 < (t101.length : Int) then (some ((t101.set (t107 : Int).toNat (⟨t112, t117, bt122.1⟩ : S45)), bt122.2)) else (none)) else (none))) = some (r1, r2) := H
   have A13 := Aside0.mk A130
   clear A130
   obtain ⟨y119, hy119⟩ : ∃ y_ : List Int, y_ = (([0, 1, 16, 17] : List Int)) := ⟨_, rfl⟩
   replace H : ((spec_reader_one.f kj2 s0_0 t118 y119).bind fun bt122 => (if 0 ≤ t107 then (if t107 < (t101.length : Int) then (some ((t101.set (t107 : Int).toNat (⟨t112, t117, bt122.1⟩ : S45)), bt122.2)) else (none)) else (none))) = some (r1, r2) := by first | (rw [hy119]; with_reducible exact H) | (have H2_ := (Option.bind_some _ _).symm.trans H; rw [hy119]; with_reducible exact H2_) | (have H2_ := (Option.bind_some _ _).symm.trans H; with_reducible exact H2_) | with_reducible exact H | (rw [hy119]; exact H) | exact H
   have Ny119 := Aside0.mk hy119
   clear hy119
   replace H := Option.bind_eq_some_iff.mp H
   obtain ⟨⟨t122, t123⟩, A140, H⟩ := H
   replace H : (if 0 ≤ t107 then (if t107 < (t101.length : Int) then (some ((t101.set (t107 : Int).toNat (⟨t112, t117, t122⟩ : S45)), t123)) else (none)) else (none)) = some (r1, r2) := H
   have A14 := Aside0.mk A140
   clear A140
   by_cases c15 : 0 ≤ t107
   rotate_left
   ·
    rw [if_neg c15] at H
    exact absurd H (by simp)
   rw [if_pos c15] at H
   have c15b0 : decide (0 ≤ t107) = true := decide_eq_true c15
   clear c15
   by_cases c16 : t107 < (t101.length : Int)
   rotate_left
   ·
    rw [if_neg c16] at H
    exact absurd H (by simp)
   rw [if_pos c16] at H
   have c16b0 : decide (t107 < (t101.length : Int)) = true := decide_eq_true c16
   clear c16
   obtain ⟨y124, hy124⟩ : ∃ y_ : List (S45), y_ = (t101.set (t107 : Int).toNat (⟨t112, t117, t122⟩ : S45)) := ⟨_, rfl⟩
   replace H : (some (y124, t123)) = some (r1, r2) := by first | (rw [hy124]; with_reducible exact H) | (have H2_ := (Option.bind_some _ _).symm.trans H; rw [hy124]; with_reducible exact H2_) | (have H2_ := (Option.bind_some _ _).symm.trans H; with_reducible exact H2_) | with_reducible exact H | (rw [hy124]; exact H) | exact H
   have Ny124 := Aside0.mk hy124
   clear hy124
   simp only [Option.some.injEq, Prod.mk.injEq] at H
   obtain ⟨rfl, rfl⟩ := H
   obtain ⟨Ao18, co18, eo18⟩ := Kd.R_slice HO_3.out
   subst eo18
   go_wp2_with (first | ((with_reducible refine gate_callee (f := 40) rfl ?_); refine goesL_ (some 18) rfl rfl Try.func40 (by kernel_rfl) rfl #[.pointer (some ⟨g, 0, none⟩), .int .i64 (t101.length : Int)] rfl (by simp only [List.map_toArray, List.map_cons, List.map_nil]; rfl) ?_; (with_reducible refine (spec_reader_pick.calls kj2 g s0_0 x1001_2 (t101.length : Int) t107 t108 w0 _ ?side1 ?side2 A11.out).mono ?_); (case side1 => repeat (first | (with_reducible first | exact HI0.out | apply IsS64.alloc | apply IsS64.drewN | apply IsS64.drew | apply IsS64.set_1) | exact HI0.out)); (case side2 => repeat (first | (with_reducible first | exact HB.out | apply below_alloc | apply pw_below_drewN | apply below_drew1 | refine below_set ?_ (IsS64.ge HI0.out)) | exact HB.out)); rintro e w19 ⟨rfl, hi, hb, hk⟩; refine ⟨_, rfl, ?_⟩; replace HO_3 := am_ (Kd.R_mono (Kd.R_keep (IsS64.apart (show IsS64 w0 _ g s0_0 x1001_2 from by repeat (first | (with_reducible first | exact HI0.out | apply IsS64.alloc | apply IsS64.drewN | apply IsS64.drew | apply IsS64.set_1) | exact HI0.out)) (by exact HO_3.out) (by decide)) hk (fun _ h => h.2)) (fun _ h => h.1)); replace HK := am_ (KeepBut.trans (by repeat (first | (with_reducible first | exact HK.out | apply KeepBut.set_ | apply keep_drewN | apply keep_drew | apply keep_alloc) | exact HK.out)) hk (.inl rfl)); replace HB := am_ (hb); replace HI0 := am_ (hi); (try clear hb); (try clear hb2); (try clear hk); (try clear hi)) | ((with_reducible refine gate_dst (N := 20) rfl ?_); refine Kd.R_lit (Kd.int .i64) _ 3 ?hg (N := 20) ?hd (xs := ([(-1), 0, 15, 16] : List Int)) (inner := [.int .i64 (-1), .int .i64 0, .int .i64 15, .int .i64 16]) (ok := fun _ => True) (okp := fun _ => True) ?hr ?hp (fun _ hk => hk) trivial (Below.refl _ _) (Nat.le_refl _) (by simp) ?_; (case hd => rfl); (case hg => rfl); (case hr => first | (go_simp; done) | (go_simp; rfl)); (case hp => exact (Reps.one (show Kd.M (Kd.int .i64) _ _ _ (-1) [.int .i64 (-1)] from rfl) (Reps.one (show Kd.M (Kd.int .i64) _ _ _ 0 [.int .i64 0] from rfl) (Reps.one (show Kd.M (Kd.int .i64) _ _ _ 15 [.int .i64 15] from rfl) (Reps.one (show Kd.M (Kd.int .i64) _ _ _ 16 [.int .i64 16] from rfl) (Reps.none _ _)))))); intro v110 w20 ho21 hb hg_ hnew_; clear hg_ hnew_; (first | rw [← Ny109.out] at ho21 | (simp only [Int.reduceToNat] at ho21; rw [← Ny109.out] at ho21)); replace HO_3 := am_ (Kd.R_below (by exact HO_3.out) hb); have HO111 := am_ (Kd.R_lower ho21 (keep_size (w := w) (g := g) (row := none) (by repeat (first | (with_reducible first | exact HK.out | apply KeepBut.set_ | apply keep_drewN | apply keep_drew | apply keep_alloc) | exact HK.out)))); replace HK := am_ (KeepBut.trans (by repeat (first | (with_reducible first | exact HK.out | apply KeepBut.set_ | apply keep_drewN | apply keep_drew | apply keep_alloc) | exact HK.out)) (KeepBut.of_below hb g none) (.inl rfl)); replace HB := am_ (below_step (by repeat (first | (with_reducible first | exact HB.out | apply below_alloc | apply pw_below_drewN | apply below_drew1 | refine below_set ?_ (IsS64.ge HI0.out)) | exact HB.out)) hb); replace HI0 := am_ (IsS64.below (by repeat (first | (with_reducible first | exact HI0.out | apply IsS64.alloc | apply IsS64.drewN | apply IsS64.drew | apply IsS64.set_1) | exact HI0.out)) hb); clear hb ho21; obtain ⟨Ao22, co22, eo22⟩ := Kd.R_slice HO111.out; subst eo22) | ((with_reducible refine gate_callee (f := 33) rfl ?_); refine goesL_ (some 21) rfl rfl Try.func33 (by kernel_rfl) rfl #[.pointer (some ⟨g, 0, none⟩), .slice Ao22 y109.length co22] rfl (by simp only [List.map_toArray, List.map_cons, List.map_nil]; rfl) ?_; (with_reducible refine (spec_reader_one.calls kj2 g s0_0 t108 _ _ y109 t112 t113 w0 _ ?side1 ?side2 ?side3 ?side4 ?side5 A12.out).mono ?_); (case side1 => repeat (first | (with_reducible first | exact HI0.out | apply IsS64.alloc | apply IsS64.drewN | apply IsS64.drew | apply IsS64.set_1) | exact HI0.out)); (case side2 => repeat (first | (with_reducible first | exact HB.out | apply below_alloc | apply pw_below_drewN | apply below_drew1 | refine below_set ?_ (IsS64.ge HI0.out)) | exact HB.out)); (case side3 => repeat (first | exact (Kd.R_reads' HO111.out).2.2 | (with_reducible refine Kd.C_alloc ?_ _) | (with_reducible refine Kd.C_drewN ?_ _) | (with_reducible refine Kd.C_drew ?_))); (case side4 => exact (Kd.R_reads' HO111.out).2.1); (case side5 => exact far_slice (IsS64.own_ne HI0.out HO111.out (by decide))); rintro e w23 ⟨rfl, hi, hb, hk⟩; refine ⟨_, rfl, ?_⟩; replace HO_3 := am_ (Kd.R_mono (Kd.R_keep (IsS64.apart (show IsS64 w0 _ g s0_0 t108 from by repeat (first | (with_reducible first | exact HI0.out | apply IsS64.alloc | apply IsS64.drewN | apply IsS64.drew | apply IsS64.set_1) | exact HI0.out)) (by exact HO_3.out) (by decide)) hk (fun _ h => h.2)) (fun _ h => h.1)); replace HO111 := am_ (Kd.R_mono (Kd.R_keep (IsS64.apart (show IsS64 w0 _ g s0_0 t108 from by repeat (first | (with_reducible first | exact HI0.out | apply IsS64.alloc | apply IsS64.drewN | apply IsS64.drew | apply IsS64.set_1) | exact HI0.out)) (by exact HO111.out) (by decide)) hk (fun _ h => h.2)) (fun _ h => h.1)); replace HK := am_ (KeepBut.trans (by repeat (first | (with_reducible first | exact HK.out | apply KeepBut.set_ | apply keep_drewN | apply keep_drew | apply keep_alloc) | exact HK.out)) hk (.inl rfl)); replace HB := am_ (hb); replace HI0 := am_ (hi); (try clear hb); (try clear hb2); (try clear hk); (try clear hi)) | ((with_reducible refine gate_dst (N := 23) rfl ?_); refine Kd.R_lit (Kd.int .i64) _ 3 ?hg (N := 23) ?hd (xs := ([(-1), 0, 15, 16] : List Int)) (inner := [.int .i64 (-1), .int .i64 0, .int .i64 15, .int .i64 16]) (ok := fun _ => True) (okp := fun _ => True) ?hr ?hp (fun _ hk => hk) trivial (Below.refl _ _) (Nat.le_refl _) (by simp) ?_; (case hd => rfl); (case hg => rfl); (case hr => first | (go_simp; done) | (go_simp; rfl)); (case hp => exact (Reps.one (show Kd.M (Kd.int .i64) _ _ _ (-1) [.int .i64 (-1)] from rfl) (Reps.one (show Kd.M (Kd.int .i64) _ _ _ 0 [.int .i64 0] from rfl) (Reps.one (show Kd.M (Kd.int .i64) _ _ _ 15 [.int .i64 15] from rfl) (Reps.one (show Kd.M (Kd.int .i64) _ _ _ 16 [.int .i64 16] from rfl) (Reps.none _ _)))))); intro v115 w24 ho25 hb hg_ hnew_; clear hg_ hnew_; (first | rw [← Ny114.out] at ho25 | (simp only [Int.reduceToNat] at ho25; rw [← Ny114.out] at ho25)); replace HO_3 := am_ (Kd.R_below (by exact HO_3.out) hb); have HO116 := am_ (Kd.R_lower (Kd.R_new' ho25 (Kd.R_lt (by exact HO111.out))) (keep_size (w := w) (g := g) (row := none) (by repeat (first | (with_reducible first | exact HK.out | apply KeepBut.set_ | apply keep_drewN | apply keep_drew | apply keep_alloc) | exact HK.out)))); replace HO111 := am_ (Kd.R_elder' (by exact HO111.out) (Kd.R_base ho25) hb); replace HK := am_ (KeepBut.trans (by repeat (first | (with_reducible first | exact HK.out | apply KeepBut.set_ | apply keep_drewN | apply keep_drew | apply keep_alloc) | exact HK.out)) (KeepBut.of_below hb g none) (.inl rfl)); replace HB := am_ (below_step (by repeat (first | (with_reducible first | exact HB.out | apply below_alloc | apply pw_below_drewN | apply below_drew1 | refine below_set ?_ (IsS64.ge HI0.out)) | exact HB.out)) hb); replace HI0 := am_ (IsS64.below (by repeat (first | (with_reducible first | exact HI0.out | apply IsS64.alloc | apply IsS64.drewN | apply IsS64.drew | apply IsS64.set_1) | exact HI0.out)) hb); clear hb ho25; obtain ⟨Ao26, co26, eo26⟩ := Kd.R_slice HO116.out; subst eo26) | ((with_reducible refine gate_callee (f := 33) rfl ?_); refine goesL_ (some 24) rfl rfl Try.func33 (by kernel_rfl) rfl #[.pointer (some ⟨g, 0, none⟩), .slice Ao26 y114.length co26] rfl (by simp only [List.map_toArray, List.map_cons, List.map_nil]; rfl) ?_; (with_reducible refine (spec_reader_one.calls kj2 g s0_0 t113 _ _ y114 t117 t118 w0 _ ?side1 ?side2 ?side3 ?side4 ?side5 A13.out).mono ?_); (case side1 => repeat (first | (with_reducible first | exact HI0.out | apply IsS64.alloc | apply IsS64.drewN | apply IsS64.drew | apply IsS64.set_1) | exact HI0.out)); (case side2 => repeat (first | (with_reducible first | exact HB.out | apply below_alloc | apply pw_below_drewN | apply below_drew1 | refine below_set ?_ (IsS64.ge HI0.out)) | exact HB.out)); (case side3 => repeat (first | exact (Kd.R_reads' HO116.out).2.2 | (with_reducible refine Kd.C_alloc ?_ _) | (with_reducible refine Kd.C_drewN ?_ _) | (with_reducible refine Kd.C_drew ?_))); (case side4 => exact (Kd.R_reads' HO116.out).2.1); (case side5 => exact far_slice (IsS64.own_ne HI0.out HO116.out (by decide))); rintro e w27 ⟨rfl, hi, hb, hk⟩; refine ⟨_, rfl, ?_⟩; replace HO_3 := am_ (Kd.R_mono (Kd.R_keep (IsS64.apart (show IsS64 w0 _ g s0_0 t113 from by repeat (first | (with_reducible first | exact HI0.out | apply IsS64.alloc | apply IsS64.drewN | apply IsS64.drew | apply IsS64.set_1) | exact HI0.out)) (by exact HO_3.out) (by decide)) hk (fun _ h => h.2)) (fun _ h => h.1)); replace HO111 := am_ (Kd.R_mono (Kd.R_keep (IsS64.apart (show IsS64 w0 _ g s0_0 t113 from by repeat (first | (with_reducible first | exact HI0.out | apply IsS64.alloc | apply IsS64.drewN | apply IsS64.drew | apply IsS64.set_1) | exact HI0.out)) (by exact HO111.out) (by decide)) hk (fun _ h => h.2)) (fun _ h => h.1)); replace HO116 := am_ (Kd.R_mono (Kd.R_keep (IsS64.apart (show IsS64 w0 _ g s0_0 t113 from by repeat (first | (with_reducible first | exact HI0.out | apply IsS64.alloc | apply IsS64.drewN | apply IsS64.drew | apply IsS64.set_1) | exact HI0.out)) (by exact HO116.out) (by decide)) hk (fun _ h => h.2)) (fun _ h => h.1)); replace HK := am_ (KeepBut.trans (by repeat (first | (with_reducible first | exact HK.out | apply KeepBut.set_ | apply keep_drewN | apply keep_drew | apply keep_alloc) | exact HK.out)) hk (.inl rfl)); replace HB := am_ (hb); replace HI0 := am_ (hi); (try clear hb); (try clear hb2); (try clear hk); (try clear hi)) | ((with_reducible refine gate_dst (N := 26) rfl ?_); refine Kd.R_lit (Kd.int .i64) _ 3 ?hg (N := 26) ?hd (xs := ([0, 1, 16, 17] : List Int)) (inner := [.int .i64 0, .int .i64 1, .int .i64 16, .int .i64 17]) (ok := fun _ => True) (okp := fun _ => True) ?hr ?hp (fun _ hk => hk) trivial (Below.refl _ _) (Nat.le_refl _) (by simp) ?_; (case hd => rfl); (case hg => rfl); (case hr => first | (go_simp; done) | (go_simp; rfl)); (case hp => exact (Reps.one (show Kd.M (Kd.int .i64) _ _ _ 0 [.int .i64 0] from rfl) (Reps.one (show Kd.M (Kd.int .i64) _ _ _ 1 [.int .i64 1] from rfl) (Reps.one (show Kd.M (Kd.int .i64) _ _ _ 16 [.int .i64 16] from rfl) (Reps.one (show Kd.M (Kd.int .i64) _ _ _ 17 [.int .i64 17] from rfl) (Reps.none _ _)))))); intro v120 w28 ho29 hb hg_ hnew_; clear hg_ hnew_; (first | rw [← Ny119.out] at ho29 | (simp only [Int.reduceToNat] at ho29; rw [← Ny119.out] at ho29)); replace HO_3 := am_ (Kd.R_below (by exact HO_3.out) hb); have HO121 := am_ (Kd.R_lower (Kd.R_new' (Kd.R_new' ho29 (Kd.R_lt (by exact HO111.out))) (Kd.R_lt (by exact HO116.out))) (keep_size (w := w) (g := g) (row := none) (by repeat (first | (with_reducible first | exact HK.out | apply KeepBut.set_ | apply keep_drewN | apply keep_drew | apply keep_alloc) | exact HK.out)))); replace HO111 := am_ (Kd.R_elder' (by exact HO111.out) (Kd.R_base ho29) hb); replace HO116 := am_ (Kd.R_elder' (by exact HO116.out) (Kd.R_base ho29) hb); replace HK := am_ (KeepBut.trans (by repeat (first | (with_reducible first | exact HK.out | apply KeepBut.set_ | apply keep_drewN | apply keep_drew | apply keep_alloc) | exact HK.out)) (KeepBut.of_below hb g none) (.inl rfl)); replace HB := am_ (below_step (by repeat (first | (with_reducible first | exact HB.out | apply below_alloc | apply pw_below_drewN | apply below_drew1 | refine below_set ?_ (IsS64.ge HI0.out)) | exact HB.out)) hb); replace HI0 := am_ (IsS64.below (by repeat (first | (with_reducible first | exact HI0.out | apply IsS64.alloc | apply IsS64.drewN | apply IsS64.drew | apply IsS64.set_1) | exact HI0.out)) hb); clear hb ho29; obtain ⟨Ao30, co30, eo30⟩ := Kd.R_slice HO121.out; subst eo30) | ((with_reducible refine gate_callee (f := 33) rfl ?_); refine goesL_ (some 27) rfl rfl Try.func33 (by kernel_rfl) rfl #[.pointer (some ⟨g, 0, none⟩), .slice Ao30 y119.length co30] rfl (by simp only [List.map_toArray, List.map_cons, List.map_nil]; rfl) ?_; (with_reducible refine (spec_reader_one.calls kj2 g s0_0 t118 _ _ y119 t122 t123 w0 _ ?side1 ?side2 ?side3 ?side4 ?side5 A14.out).mono ?_); (case side1 => repeat (first | (with_reducible first | exact HI0.out | apply IsS64.alloc | apply IsS64.drewN | apply IsS64.drew | apply IsS64.set_1) | exact HI0.out)); (case side2 => repeat (first | (with_reducible first | exact HB.out | apply below_alloc | apply pw_below_drewN | apply below_drew1 | refine below_set ?_ (IsS64.ge HI0.out)) | exact HB.out)); (case side3 => repeat (first | exact (Kd.R_reads' HO121.out).2.2 | (with_reducible refine Kd.C_alloc ?_ _) | (with_reducible refine Kd.C_drewN ?_ _) | (with_reducible refine Kd.C_drew ?_))); (case side4 => exact (Kd.R_reads' HO121.out).2.1); (case side5 => exact far_slice (IsS64.own_ne HI0.out HO121.out (by decide))); rintro e w31 ⟨rfl, hi, hb, hk⟩; refine ⟨_, rfl, ?_⟩; replace HO_3 := am_ (Kd.R_mono (Kd.R_keep (IsS64.apart (show IsS64 w0 _ g s0_0 t118 from by repeat (first | (with_reducible first | exact HI0.out | apply IsS64.alloc | apply IsS64.drewN | apply IsS64.drew | apply IsS64.set_1) | exact HI0.out)) (by exact HO_3.out) (by decide)) hk (fun _ h => h.2)) (fun _ h => h.1)); replace HO111 := am_ (Kd.R_mono (Kd.R_keep (IsS64.apart (show IsS64 w0 _ g s0_0 t118 from by repeat (first | (with_reducible first | exact HI0.out | apply IsS64.alloc | apply IsS64.drewN | apply IsS64.drew | apply IsS64.set_1) | exact HI0.out)) (by exact HO111.out) (by decide)) hk (fun _ h => h.2)) (fun _ h => h.1)); replace HO116 := am_ (Kd.R_mono (Kd.R_keep (IsS64.apart (show IsS64 w0 _ g s0_0 t118 from by repeat (first | (with_reducible first | exact HI0.out | apply IsS64.alloc | apply IsS64.drewN | apply IsS64.drew | apply IsS64.set_1) | exact HI0.out)) (by exact HO116.out) (by decide)) hk (fun _ h => h.2)) (fun _ h => h.1)); replace HO121 := am_ (Kd.R_mono (Kd.R_keep (IsS64.apart (show IsS64 w0 _ g s0_0 t118 from by repeat (first | (with_reducible first | exact HI0.out | apply IsS64.alloc | apply IsS64.drewN | apply IsS64.drew | apply IsS64.set_1) | exact HI0.out)) (by exact HO121.out) (by decide)) hk (fun _ h => h.2)) (fun _ h => h.1)); replace HK := am_ (KeepBut.trans (by repeat (first | (with_reducible first | exact HK.out | apply KeepBut.set_ | apply keep_drewN | apply keep_drew | apply keep_alloc) | exact HK.out)) hk (.inl rfl)); replace HB := am_ (hb); replace HI0 := am_ (hi); (try clear hb); (try clear hb2); (try clear hk); (try clear hi); have p17 : 0 ≤ (t107 : Int) := of_decide_eq_true (by first | with_reducible assumption | assumption); have q17 : (t107 : Int) < ((t101.length : Int) : Int) := of_decide_eq_true (by first | with_reducible assumption | assumption); obtain ⟨go17, co17, eo17, gb17, gl17, cl17, HG17⟩ := Kd.R_form HO_3.out (by omega); (first | cases eo17 | (injection eo17 with ea_ en_ ec_; (first | subst ea_ | (injection ea_ with ea_; subst ea_)); subst ec_; clear en_)); have GB17 := Aside0.mk gb17; have GG17 := Aside0.mk HG17; clear gb17 gl17 HG17; obtain ⟨ce17, hcl17, hM17, hcc17, hfr17⟩ := Kd.R_elem HO_3.out z45 (t107 : Int) p17 q17; obtain rfl := k45_openM hM17; have hx17_0 : w31.cell? ⟨go17, (t107 : Int).toNat * 3, none⟩ = some (.int .i64 ((rd_T45 t101 t107).f0)) := hcc17 0 _ rfl; have hx17_1 : w31.cell? ⟨go17, (t107 : Int).toNat * 3 + 1, none⟩ = some (.int .i64 ((rd_T45 t101 t107).f1)) := hcc17 1 _ rfl; have hx17_2 : w31.cell? ⟨go17, (t107 : Int).toNat * 3 + 2, none⟩ = some (.int .i64 ((rd_T45 t101 t107).f2)) := hcc17 2 _ rfl; have hf17_0 : w31.frozen? ⟨go17, (t107 : Int).toNat * 3, none⟩ = false := hfr17 0; have hf17_1 : w31.frozen? ⟨go17, (t107 : Int).toNat * 3 + 1, none⟩ = false := hfr17 1; have hf17_2 : w31.frozen? ⟨go17, (t107 : Int).toNat * 3 + 2, none⟩ = false := hfr17 2; clear hcl17 hcc17 hfr17 hM17; replace p17 := eq_true p17; replace q17 := eq_true q17; have HX32 := Aside0.mk (show Kd.R k45 45 w31 w.heap.size (fun _ => True) (.slice (some ⟨go17, 0, none⟩) t101.length co18) t101 from (by exact HO_3.out)); obtain ⟨ce32, hcl32, hM32, hcc32, hfr32⟩ := Kd.R_elem HX32.out z45 (t107 : Int) (of_decide_eq_true (by first | with_reducible assumption | assumption)) (by have h_ : (t107 : Int) < ((t101.length : Int) : Int) := of_decide_eq_true (by first | with_reducible assumption | assumption); first | exact h_ | (have e_ := (Kd.R_reads' HO_3.out).1; omega) | simpa using h_); obtain rfl := k45_openM hM32; have HP32 := Kd.R_seg HX32.out (t107 : Int) (of_decide_eq_true (by first | with_reducible assumption | assumption)) (by have h_ : (t107 : Int) < ((t101.length : Int) : Int) := of_decide_eq_true (by first | with_reducible assumption | assumption); first | exact h_ | (have e_ := (Kd.R_reads' HO_3.out).1; omega) | simpa using h_) (seg := [.int .i64 t112, .int .i64 t117, .int .i64 t122]) (j := 0) hcl32 hcc32 (show 3 ≤ 3 from by decide) (x' := (⟨t112, t117, t122⟩ : S45)) (k45_mkM _ _ _ (⟨t112, t117, t122⟩ : S45) ) (fun _ hk => hk); have hx32_0 := hcc32 0 _ rfl; (try simp only [show (k45).sz = 3 from rfl, Nat.mul_one, Nat.add_zero] at hx32_0); have hf32_0 := hfr32 0; (try simp only [show (k45).sz = 3 from rfl, Nat.mul_one, Nat.add_zero] at hf32_0); have hx32_1 := hcc32 1 _ rfl; (try simp only [show (k45).sz = 3 from rfl, Nat.mul_one, Nat.add_zero] at hx32_1); have hf32_1 := hfr32 1; (try simp only [show (k45).sz = 3 from rfl, Nat.mul_one, Nat.add_zero] at hf32_1); have hx32_2 := hcc32 2 _ rfl; (try simp only [show (k45).sz = 3 from rfl, Nat.mul_one, Nat.add_zero] at hx32_2); have hf32_2 := hfr32 2; (try simp only [show (k45).sz = 3 from rfl, Nat.mul_one, Nat.add_zero] at hf32_2); clear hcl32 hcc32 hfr32 hM32) | ((with_reducible refine gate_store (t := 45) (p := 29) rfl ?_); refine store_event (t := 45) (p := 29) (v := ?vo_w33) (w1 := (((w31.setCell ⟨go17, (t107 : Int).toNat * 3, none⟩ (.int .i64 t112)).setCell ⟨go17, (t107 : Int).toNat * 3 + 1, none⟩ (.int .i64 t117)).setCell ⟨go17, (t107 : Int).toNat * 3 + 2, none⟩ (.int .i64 t122))) ?hg ?ho ?hn ?hr ?_; (case ho => rfl); (case hg => rfl); (case hn => rfl); (case hr => first | (go_simp; done) | (go_simp; rfl)); intro w33 hw; have hg : w31.grownBy w33 (some go17) := (by rw [hw]; exact HP32.2); have hp_ : Kd.R k45 45 w33 w.heap.size (fun _ => True) (.slice (some ⟨go17, 0, none⟩) t101.length co18) y124 := (by rw [hw, Ny124.out]; exact HP32.1); clear HP32; replace HI0 := am_ (IsS64.grown (by repeat (first | (with_reducible first | exact HI0.out | apply IsS64.alloc | apply IsS64.drewN | apply IsS64.drew | apply IsS64.set_1) | exact HI0.out)) hg (IsS64.own_ne HI0.out HO_3.out (by decide))); replace HO111 := am_ (Kd.R_over' (v := (.slice (some ⟨go17, 0, none⟩) t101.length co18)) (by exact HO111.out) (Kd.R_typed HO_3.out) (by decide) hg); replace HO116 := am_ (Kd.R_over' (v := (.slice (some ⟨go17, 0, none⟩) t101.length co18)) (by exact HO116.out) (Kd.R_typed HO_3.out) (by decide) hg); replace HO121 := am_ (Kd.R_over' (v := (.slice (some ⟨go17, 0, none⟩) t101.length co18)) (by exact HO121.out) (Kd.R_typed HO_3.out) (by decide) hg); replace HB := am_ ((by rw [hw]; exact below_set (below_set (below_set (HB.out) (Nat.le_trans HL.out GB17.out)) (Nat.le_trans HL.out GB17.out)) (Nat.le_trans HL.out GB17.out) : Below w0.heap.size w0 w33)); replace HK := am_ (KeepBut.trans (by repeat (first | (with_reducible first | exact HK.out | apply KeepBut.set_ | apply keep_drewN | apply keep_drew | apply keep_alloc) | exact HK.out)) (KeepBut.of_grown hg g) (Kd.R_base2 HO_3.out)); replace HO_3 := am_ (hp_); clear hg hw hp_))
   go_ret
   exact ⟨_, by first | rfl | (simp [errW_none, errW_some] <;> rfl) | (simp [*, errW_none, errW_some] <;> rfl), by exact HO_3.out, by repeat (first | (with_reducible first | exact HI0.out | apply IsS64.alloc | apply IsS64.drewN | apply IsS64.drew | apply IsS64.set_1) | exact HI0.out), by repeat (first | (with_reducible first | exact HB.out | apply below_alloc | apply pw_below_drewN | apply below_drew1 | refine below_set ?_ (IsS64.ge HI0.out)) | exact HB.out), by repeat (first | (with_reducible first | exact HK.out | apply KeepBut.set_ | apply keep_drewN | apply keep_drew | apply keep_alloc) | exact HK.out)⟩

/-! ### spec_validRuns: function 27 -/
mutual
def spec_validRuns.l0 : Nat → List (S45) → Int → Option (Bool)
 | 0, _, _ => none
 | k + 1, x0, x3 => if x3 < (x0.length : Int) then (if 0 ≤ x3 then ((spec_inRange.f ((rd_T45 x0 x3).f0) 0 15).bind fun t103 => (if t103 = true then ((spec_inRange.f ((rd_T45 x0 x3).f1) 0 15).bind fun t104 => (if t104 = true then ((spec_inRange.f ((rd_T45 x0 x3).f2) (wrap64 (((rd_T45 x0 x3).f1) + 1)) 16).bind fun t105 => (spec_validRuns.j1 k x0 x3 (!t105) ((rd_T45 x0 x3).f0) ((rd_T45 x0 x3).f1) ((rd_T45 x0 x3).f2))) else (spec_validRuns.j1 k x0 x3 true ((rd_T45 x0 x3).f0) ((rd_T45 x0 x3).f1) ((rd_T45 x0 x3).f2)))) else (spec_validRuns.j1 k x0 x3 true ((rd_T45 x0 x3).f0) ((rd_T45 x0 x3).f1) ((rd_T45 x0 x3).f2)))) else (none)) else (some true)
def spec_validRuns.j1 : Nat → List (S45) → Int → Bool → Int → Int → Int → Option (Bool)
 | 0, _, _, _, _, _, _ => none
 | k + 1, x0, x3, x33, x103000, x103001, x103002 => if x33 = true then (some false) else (if x3 > 0 then (if 0 ≤ (wrap64 (x3 - 1)) then (if (wrap64 (x3 - 1)) < (x0.length : Int) then (if x103000 < ((rd_T45 x0 (wrap64 (x3 - 1))).f0) then (some false) else (if x103000 = ((rd_T45 x0 (wrap64 (x3 - 1))).f0) then (if x103001 ≤ ((rd_T45 x0 (wrap64 (x3 - 1))).f2) then (some false) else (spec_validRuns.l0 k x0 (wrap64 (x3 + 1)))) else (spec_validRuns.l0 k x0 (wrap64 (x3 + 1))))) else (none)) else (none)) else (spec_validRuns.l0 k x0 (wrap64 (x3 + 1))))
end
def spec_validRuns.f (k : Nat) (l0 : List (S45)) : Option (Bool) := spec_validRuns.l0 k l0 0
theorem spec_validRuns.mono_l : ∀ k, (∀ y0 y1, LeO (spec_validRuns.l0 k y0 y1) (spec_validRuns.l0 (k + 1) y0 y1)) ∧ (∀ y0 y1 y2 y3 y4 y5, LeO (spec_validRuns.j1 k y0 y1 y2 y3 y4 y5) (spec_validRuns.j1 (k + 1) y0 y1 y2 y3 y4 y5))
 | 0 => ⟨fun _ _ r h => by simp [spec_validRuns.l0] at h, fun _ _ _ _ _ _ r h => by simp [spec_validRuns.j1] at h⟩
 | k + 1 => by
  obtain ⟨ih0, ih1⟩ := spec_validRuns.mono_l k
  refine ⟨?_, ?_⟩
  ·
   intro y0 y1
   unfold spec_validRuns.l0
   repeat' first
   | (with_reducible exact ih0 _ _)
   | (with_reducible exact ih1 _ _ _ _ _ _)
   | (with_reducible exact LeO.refl _)
   | (with_reducible exact LeO.none _)
   | (with_reducible refine LeO.ite ?_ ?_)
   | (with_reducible refine LeO.bind ?_ (fun _ => ?_))
   | exact ih0 _ _
   | exact ih1 _ _ _ _ _ _
   | exact LeO.none _
   | refine LeO.ite ?_ ?_
   | refine LeO.bind ?_ (fun _ => ?_)
  intro y0 y1 y2 y3 y4 y5
  unfold spec_validRuns.j1
  repeat' first
  | (with_reducible exact ih0 _ _)
  | (with_reducible exact ih1 _ _ _ _ _ _)
  | (with_reducible exact LeO.refl _)
  | (with_reducible exact LeO.none _)
  | (with_reducible refine LeO.ite ?_ ?_)
  | (with_reducible refine LeO.bind ?_ (fun _ => ?_))
  | exact ih0 _ _
  | exact ih1 _ _ _ _ _ _
  | exact LeO.none _
  | refine LeO.ite ?_ ?_
  | refine LeO.bind ?_ (fun _ => ?_)
theorem spec_validRuns.mono : ∀ a0 k, LeO (spec_validRuns.f k a0) (spec_validRuns.f (k + 1) a0) := by
 intro a0 k
 obtain ⟨ih0, ih1⟩ := spec_validRuns.mono_l k
 unfold spec_validRuns.f
 repeat' first
   | (with_reducible exact ih0 _ _)
   | (with_reducible exact ih1 _ _ _ _ _ _)
   | (with_reducible exact LeO.refl _)
   | (with_reducible exact LeO.none _)
   | (with_reducible refine LeO.ite ?_ ?_)
   | (with_reducible refine LeO.bind ?_ (fun _ => ?_))
   | exact ih0 _ _
   | exact ih1 _ _ _ _ _ _
   | exact LeO.none _
   | refine LeO.ite ?_ ?_
   | refine LeO.bind ?_ (fun _ => ?_)
set_option maxHeartbeats 8000000 in
set_option maxRecDepth 100000 in
theorem spec_validRuns.calls (k : Nat) (A0 : Option Addr) (c0 : Nat) (l0 : List (S45)) (r : Bool) (w : World) (hr0 : Kd.C k45 w A0 l0.length l0) (hc0 : l0.length ≤ c0) (h : spec_validRuns.f k l0 = some r) :
  Calls Try.prog 27 #[.slice A0 l0.length c0] w fun e w' => e = .returned (.bool r) ∧ Below w.heap.size w w' := by
 have hu45 := Try.underlying45
 have HR0 := Aside0.mk hr0
 have HC0 := Aside0.mk hc0
 clear hr0 hc0
 have HB := Aside0.mk (Below.refl w.heap.size w)
 have H : (spec_validRuns.l0 k l0 0) = some r := h
 clear h
 have H' := Aside0.mk H
 clear H
 go_enter Try.func27, Try.ntmps27
 go_wp2
 repeat (go_quiet (fail); try go_wp2)
 go_loopg [3] k (fun kq v3 w' => ∃ (x3_1 : Int), v3 = .int .i64 x3_1 ∧ Aside0 (spec_validRuns.l0 kq l0 x3_1 = some r) ∧ Aside0 (kq ≤ k) ∧ Aside0 (Below w.heap.size w w'))
 case atStart => exact ⟨(0), (by first | rfl | (simp; done) | (simp [*]; done)), H', ⟨Nat.le_refl _⟩, ⟨by repeat (first | (with_reducible first | exact HB.out | apply below_alloc | apply pw_below_drewN | apply below_drew1) | exact HB.out)⟩⟩
 case round =>
  clear H'
  obtain ⟨x3_1, rfl, HA, HK1, HB⟩ := hrel
  cases gk with
  | zero => exact absurd HA.out (by simp [spec_validRuns.l0])
  | succ k1 =>
   have H := HA.out
   clear HA
   simp only [spec_validRuns.l0] at H
   by_cases c2 : x3_1 < (l0.length : Int)
   rotate_left
   ·
    rw [if_neg c2] at H
    have c2b0 : decide (x3_1 < (l0.length : Int)) = false := decide_eq_false c2
    clear c2
    obtain rfl := Option.some.inj H
    go_wp2
    repeat (go_quiet (fail); try go_wp2)
    go_ret
    exact ⟨by first | rfl | (simp [errW_none, errW_some] <;> rfl) | (simp [*, errW_none, errW_some] <;> rfl), by repeat (first | (with_reducible first | exact HB.out | apply below_alloc | apply pw_below_drewN | apply below_drew1) | exact HB.out)⟩
   rw [if_pos c2] at H
   have c2b0 : decide (x3_1 < (l0.length : Int)) = true := decide_eq_true c2
   clear c2
   by_cases c3 : 0 ≤ x3_1
   rotate_left
   ·
    rw [if_neg c3] at H
    exact absurd H (by simp)
   rw [if_pos c3] at H
   have c3b0 : decide (0 ≤ x3_1) = true := decide_eq_true c3
   clear c3
   have HC4 := Aside0.mk H
   clear H
   have p101 : 0 ≤ (x3_1 : Int) := of_decide_eq_true (by first | with_reducible assumption | assumption)
   have q101 : x3_1 < (l0.length : Int) := of_decide_eq_true (by first | with_reducible assumption | assumption)
   obtain ⟨ad101, e101, hx101_0, hx101_1, hx101_2⟩ := at_T45 HR0.out x3_1 p101 q101
   cases e101
   replace hx101_0 := (HB.out.cell (World.block_lt_of_cell? w _ hx101_0)).trans hx101_0
   replace hx101_1 := (HB.out.cell (World.block_lt_of_cell? w _ hx101_1)).trans hx101_1
   replace hx101_2 := (HB.out.cell (World.block_lt_of_cell? w _ hx101_2)).trans hx101_2
   replace p101 := eq_true p101
   replace q101 := eq_true q101
   go_upto_region 5 with (first | ((with_reducible refine gate_dst (N := 4) rfl ?_); refine box_event ?hg (N := 4) ?hd (cs := #[.int .i64 0, .int .i64 0, .int .i64 0]) (t := 45) ?hr ?_; (case hd => rfl); (case hg => rfl); (case hr => first | (go_simp; done) | (go_simp; rfl)); intro gb102 hg w5 hbox hb; have BK102 := am_ (hbox); have GW102 := am_ ((by rw [hg]; exact (below_size (by repeat (first | (with_reducible first | exact HB.out | apply below_alloc | apply pw_below_drewN | apply below_drew1) | exact HB.out))) : w.heap.size ≤ gb102)); have GE102 := GW102; replace HB := am_ (below_step (by repeat (first | (with_reducible first | exact HB.out | apply below_alloc | apply pw_below_drewN | apply below_drew1) | exact HB.out)) hb); clear hb hbox hg; have hcz6_0 : w5.cell? ⟨gb102, 0, none⟩ = some (.int .i64 0) := (blk_cell BK102.out 0).trans rfl; have hcz6_1 : w5.cell? ⟨gb102, 1, none⟩ = some (.int .i64 0) := (blk_cell BK102.out 1).trans rfl; have hcz6_2 : w5.cell? ⟨gb102, 2, none⟩ = some (.int .i64 0) := (blk_cell BK102.out 2).trans rfl; have hfz6_0 := blk_frozen BK102.out 0; have hfz6_1 := blk_frozen BK102.out 1; have hfz6_2 := blk_frozen BK102.out 2))
   repeat (go_quiet (first | ((with_reducible refine gate_dst (N := 4) rfl ?_); refine box_event ?hg (N := 4) ?hd (cs := #[.int .i64 0, .int .i64 0, .int .i64 0]) (t := 45) ?hr ?_; (case hd => rfl); (case hg => rfl); (case hr => first | (go_simp; done) | (go_simp; rfl)); intro gb102 hg w5 hbox hb; have n0_ := Aside0.mk (below_step (by repeat (first | (with_reducible first | exact HB.out | apply below_alloc | apply pw_below_drewN | apply below_drew1) | exact HB.out)) hb); have n1_ := Aside0.mk (hbox); have n2_ := Aside0.mk ((by rw [hg]; exact (below_size (by repeat (first | (with_reducible first | exact HB.out | apply below_alloc | apply pw_below_drewN | apply below_drew1) | exact HB.out))) : w.heap.size ≤ gb102)); have n3_ := Aside0.mk ((by rw [hg]; exact (below_size (by repeat (first | (with_reducible first | exact HB.out | apply below_alloc | apply pw_below_drewN | apply below_drew1) | exact HB.out))) : w.heap.size ≤ gb102)); clear HB; have HB := n0_; have BK102 := n1_; have GW102 := n2_; have GE102 := n3_; clear n0_ n1_ n2_ n3_; clear hb hbox hg; have hcz6_0 : w5.cell? ⟨gb102, 0, none⟩ = some (.int .i64 0) := (blk_cell BK102.out 0).trans rfl; have hcz6_1 : w5.cell? ⟨gb102, 1, none⟩ = some (.int .i64 0) := (blk_cell BK102.out 1).trans rfl; have hcz6_2 : w5.cell? ⟨gb102, 2, none⟩ = some (.int .i64 0) := (blk_cell BK102.out 2).trans rfl; have hfz6_0 := blk_frozen BK102.out 0; have hfz6_1 := blk_frozen BK102.out 1; have hfz6_2 := blk_frozen BK102.out 2)); go_upto_region 5 with (first | ((with_reducible refine gate_dst (N := 4) rfl ?_); refine box_event ?hg (N := 4) ?hd (cs := #[.int .i64 0, .int .i64 0, .int .i64 0]) (t := 45) ?hr ?_; (case hd => rfl); (case hg => rfl); (case hr => first | (go_simp; done) | (go_simp; rfl)); intro gb102 hg w5 hbox hb; have n0_ := Aside0.mk (below_step (by repeat (first | (with_reducible first | exact HB.out | apply below_alloc | apply pw_below_drewN | apply below_drew1) | exact HB.out)) hb); have n1_ := Aside0.mk (hbox); have n2_ := Aside0.mk ((by rw [hg]; exact (below_size (by repeat (first | (with_reducible first | exact HB.out | apply below_alloc | apply pw_below_drewN | apply below_drew1) | exact HB.out))) : w.heap.size ≤ gb102)); have n3_ := Aside0.mk ((by rw [hg]; exact (below_size (by repeat (first | (with_reducible first | exact HB.out | apply below_alloc | apply pw_below_drewN | apply below_drew1) | exact HB.out))) : w.heap.size ≤ gb102)); clear HB; have HB := n0_; have BK102 := n1_; have GW102 := n2_; have GE102 := n3_; clear n0_ n1_ n2_ n3_; clear hb hbox hg; have hcz6_0 : w5.cell? ⟨gb102, 0, none⟩ = some (.int .i64 0) := (blk_cell BK102.out 0).trans rfl; have hcz6_1 : w5.cell? ⟨gb102, 1, none⟩ = some (.int .i64 0) := (blk_cell BK102.out 1).trans rfl; have hcz6_2 : w5.cell? ⟨gb102, 2, none⟩ = some (.int .i64 0) := (blk_cell BK102.out 2).trans rfl; have hfz6_0 := blk_frozen BK102.out 0; have hfz6_1 := blk_frozen BK102.out 1; have hfz6_2 := blk_frozen BK102.out 2)))
   (try simp only [Act.put, List.setIfInBounds_toArray, List.set_cons_zero, List.set_cons_succ])
   go_cut [33] (fun v33 wc => ∃ (kq : Nat) (x33_3 : Bool), v33 = .bool x33_3 ∧ Aside0 (spec_validRuns.j1 kq l0 x3_1 x33_3 ((rd_T45 l0 x3_1).f0) ((rd_T45 l0 x3_1).f1) ((rd_T45 l0 x3_1).f2) = some r) ∧ Aside0 (kq ≤ k1) ∧ Aside0 (wc.heap[gb102]? = some (.cells #[.int .i64 ((rd_T45 l0 x3_1).f0), .int .i64 ((rd_T45 l0 x3_1).f1), .int .i64 ((rd_T45 l0 x3_1).f2)] 45 (0, 0))) ∧ Aside0 (Below w.heap.size w wc))
   case first =>
    have H := HC4.out
    clear HC4
    replace H := Option.bind_eq_some_iff.mp H
    obtain ⟨t103, A70, H⟩ := H
    replace H : (if t103 = true then ((spec_inRange.f ((rd_T45 l0 x3_1).f1) 0 15).bind fun t104 => (if t104 = true then ((spec_inRange.f ((rd_T45 l0 x3_1).f2) (wrap64 (((rd_T45 l0 x3_1).f1) + 1)) 16).bind fun t105 => (spec_validRuns.j1 k1 l0 x3_1 (!t105) ((rd_T45 l0 x3_1).f0) ((rd_T45 l0 x3_1).f1) ((rd_T45 l0 x3_1).f2))) else (spec_validRuns.j1 k1 l0 x3_1 true ((rd_T45 l0 x3_1).f0) ((rd_T45 l0 x3_1).f1) ((rd_T45 l0 x3_1).f2)))) else (spec_validRuns.j1 k1 l0 x3_1 true ((rd_T45 l0 x3_1).f0) ((rd_T45 l0 x3_1).f1) ((rd_T45 l0 x3_1).f2))) = some r := H
    have A7 := Aside0.mk A70
    clear A70
    by_cases c8 : t103 = true
    rotate_left
    ·
     replace c8 := Bool.eq_false_iff.mpr c8
     subst c8
     have H1 : (spec_validRuns.j1 k1 l0 x3_1 true ((rd_T45 l0 x3_1).f0) ((rd_T45 l0 x3_1).f1) ((rd_T45 l0 x3_1).f2)) = some r := by rw [if_neg (show ¬ (false = true) by decide)] at H; exact H
     clear H
     have H := H1
     clear H1
     have H' := Aside0.mk H
     clear H
     have hcz14_0 : w5.cell? ⟨gb102, 0, none⟩ = some (.int .i64 0) := (blk_cell BK102.out 0).trans rfl
     have hcz14_1 : w5.cell? ⟨gb102, 1, none⟩ = some (.int .i64 0) := (blk_cell BK102.out 1).trans rfl
     have hcz14_2 : w5.cell? ⟨gb102, 2, none⟩ = some (.int .i64 0) := (blk_cell BK102.out 2).trans rfl
     have hfz14_0 := blk_frozen BK102.out 0
     have hfz14_1 := blk_frozen BK102.out 1
     have hfz14_2 := blk_frozen BK102.out 2
     go_wp2_with (first | (go_at_call 37; (with_reducible refine (spec_inRange.calls ((rd_T45 l0 x3_1).f0) 0 15 false _ A7.out).mono ?_); rintro e w' ⟨rfl, ⟨nd, rfl⟩⟩; (try first | exact ⟨rfl, _, World.drewN_drewN _ _ _⟩ | exact ⟨rfl, _, Eq.trans (World.drewN_drewN _ _ _) (congrArg (World.drewN _) (Nat.add_assoc _ _ _))⟩)))
     repeat (go_quiet (first | (go_at_call 37; (with_reducible refine (spec_inRange.calls ((rd_T45 l0 x3_1).f0) 0 15 false _ A7.out).mono ?_); rintro e w' ⟨rfl, ⟨nd, rfl⟩⟩; (try first | exact ⟨rfl, _, World.drewN_drewN _ _ _⟩ | exact ⟨rfl, _, Eq.trans (World.drewN_drewN _ _ _) (congrArg (World.drewN _) (Nat.add_assoc _ _ _))⟩))); try go_wp2_with (first | (go_at_call 37; (with_reducible refine (spec_inRange.calls ((rd_T45 l0 x3_1).f0) 0 15 false _ A7.out).mono ?_); rintro e w' ⟨rfl, ⟨nd, rfl⟩⟩; (try first | exact ⟨rfl, _, World.drewN_drewN _ _ _⟩ | exact ⟨rfl, _, Eq.trans (World.drewN_drewN _ _ _) (congrArg (World.drewN _) (Nat.add_assoc _ _ _))⟩))))
     go_meet
     case rel => exact ⟨_, (true), (by first | rfl | (simp; done) | (simp [*]; done)), H', ⟨by have := HK1.out; first | omega | exact Nat.le_refl _⟩, ⟨by exact put3_3 BK102.out _ _ _⟩, ⟨by repeat (first | (with_reducible first | exact HB.out | apply below_alloc | apply pw_below_drewN | apply below_drew1 | refine below_set ?_ GE102.out) | exact HB.out)⟩⟩
    subst c8
    have H1 : ((spec_inRange.f ((rd_T45 l0 x3_1).f1) 0 15).bind fun t104 => (if t104 = true then ((spec_inRange.f ((rd_T45 l0 x3_1).f2) (wrap64 (((rd_T45 l0 x3_1).f1) + 1)) 16).bind fun t105 => (spec_validRuns.j1 k1 l0 x3_1 (!t105) ((rd_T45 l0 x3_1).f0) ((rd_T45 l0 x3_1).f1) ((rd_T45 l0 x3_1).f2))) else (spec_validRuns.j1 k1 l0 x3_1 true ((rd_T45 l0 x3_1).f0) ((rd_T45 l0 x3_1).f1) ((rd_T45 l0 x3_1).f2)))) = some r := by rw [if_pos rfl] at H; exact H
    clear H
    have H := H1
    clear H1
    replace H := Option.bind_eq_some_iff.mp H
    obtain ⟨t104, A90, H⟩ := H
    replace H : (if t104 = true then ((spec_inRange.f ((rd_T45 l0 x3_1).f2) (wrap64 (((rd_T45 l0 x3_1).f1) + 1)) 16).bind fun t105 => (spec_validRuns.j1 k1 l0 x3_1 (!t105) ((rd_T45 l0 x3_1).f0) ((rd_T45 l0 x3_1).f1) ((rd_T45 l0 x3_1).f2))) else (spec_validRuns.j1 k1 l0 x3_1 true ((rd_T45 l0 x3_1).f0) ((rd_T45 l0 x3_1).f1) ((rd_T45 l0 x3_1).f2))) = some r := H
    have A9 := Aside0.mk A90
    clear A90
    by_cases c10 : t104 = true
    ·
     subst c10
     have H1 : ((spec_inRange.f ((rd_T45 l0 x3_1).f2) (wrap64 (((rd_T45 l0 x3_1).f1) + 1)) 16).bind fun t105 => (spec_validRuns.j1 k1 l0 x3_1 (!t105) ((rd_T45 l0 x3_1).f0) ((rd_T45 l0 x3_1).f1) ((rd_T45 l0 x3_1).f2))) = some r := by rw [if_pos rfl] at H; exact H
     clear H
     have H := H1
     clear H1
     replace H := Option.bind_eq_some_iff.mp H
     obtain ⟨t105, A110, H⟩ := H
     replace H : (spec_validRuns.j1 k1 l0 x3_1 (!t105) ((rd_T45 l0 x3_1).f0) ((rd_T45 l0 x3_1).f1) ((rd_T45 l0 x3_1).f2)) = some r := H
     have A11 := Aside0.mk A110
     clear A110
     have H' := Aside0.mk H
     clear H
     have hcz12_0 : w5.cell? ⟨gb102, 0, none⟩ = some (.int .i64 0) := (blk_cell BK102.out 0).trans rfl
     have hcz12_1 : w5.cell? ⟨gb102, 1, none⟩ = some (.int .i64 0) := (blk_cell BK102.out 1).trans rfl
     have hcz12_2 : w5.cell? ⟨gb102, 2, none⟩ = some (.int .i64 0) := (blk_cell BK102.out 2).trans rfl
     have hfz12_0 := blk_frozen BK102.out 0
     have hfz12_1 := blk_frozen BK102.out 1
     have hfz12_2 := blk_frozen BK102.out 2
     go_wp2_with (first | (go_at_call 37; (with_reducible refine (spec_inRange.calls ((rd_T45 l0 x3_1).f0) 0 15 true _ A7.out).mono ?_); rintro e w' ⟨rfl, ⟨nd, rfl⟩⟩; (try first | exact ⟨rfl, _, World.drewN_drewN _ _ _⟩ | exact ⟨rfl, _, Eq.trans (World.drewN_drewN _ _ _) (congrArg (World.drewN _) (Nat.add_assoc _ _ _))⟩)) | (go_at_call 37; (with_reducible refine (spec_inRange.calls ((rd_T45 l0 x3_1).f1) 0 15 true _ A9.out).mono ?_); rintro e w' ⟨rfl, ⟨nd, rfl⟩⟩; (try first | exact ⟨rfl, _, World.drewN_drewN _ _ _⟩ | exact ⟨rfl, _, Eq.trans (World.drewN_drewN _ _ _) (congrArg (World.drewN _) (Nat.add_assoc _ _ _))⟩)) | (go_at_call 37; (with_reducible refine (spec_inRange.calls ((rd_T45 l0 x3_1).f2) (wrap64 (((rd_T45 l0 x3_1).f1) + 1)) 16 t105 _ A11.out).mono ?_); rintro e w' ⟨rfl, ⟨nd, rfl⟩⟩; (try first | exact ⟨rfl, _, World.drewN_drewN _ _ _⟩ | exact ⟨rfl, _, Eq.trans (World.drewN_drewN _ _ _) (congrArg (World.drewN _) (Nat.add_assoc _ _ _))⟩)))
     repeat (go_quiet (first | (go_at_call 37; (with_reducible refine (spec_inRange.calls ((rd_T45 l0 x3_1).f0) 0 15 true _ A7.out).mono ?_); rintro e w' ⟨rfl, ⟨nd, rfl⟩⟩; (try first | exact ⟨rfl, _, World.drewN_drewN _ _ _⟩ | exact ⟨rfl, _, Eq.trans (World.drewN_drewN _ _ _) (congrArg (World.drewN _) (Nat.add_assoc _ _ _))⟩)) | (go_at_call 37; (with_reducible refine (spec_inRange.calls ((rd_T45 l0 x3_1).f1) 0 15 true _ A9.out).mono ?_); rintro e w' ⟨rfl, ⟨nd, rfl⟩⟩; (try first | exact ⟨rfl, _, World.drewN_drewN _ _ _⟩ | exact ⟨rfl, _, Eq.trans (World.drewN_drewN _ _ _) (congrArg (World.drewN _) (Nat.add_assoc _ _ _))⟩)) | (go_at_call 37; (with_reducible refine (spec_inRange.calls ((rd_T45 l0 x3_1).f2) (wrap64 (((rd_T45 l0 x3_1).f1) + 1)) 16 t105 _ A11.out).mono ?_); rintro e w' ⟨rfl, ⟨nd, rfl⟩⟩; (try first | exact ⟨rfl, _, World.drewN_drewN _ _ _⟩ | exact ⟨rfl, _, Eq.trans (World.drewN_drewN _ _ _) (congrArg (World.drewN _) (Nat.add_assoc _ _ _))⟩))); try go_wp2_with (first | (go_at_call 37; (with_reducible refine (spec_inRange.calls ((rd_T45 l0 x3_1).f0) 0 15 true _ A7.out).mono ?_); rintro e w' ⟨rfl, ⟨nd, rfl⟩⟩; (try first | exact ⟨rfl, _, World.drewN_drewN _ _ _⟩ | exact ⟨rfl, _, Eq.trans (World.drewN_drewN _ _ _) (congrArg (World.drewN _) (Nat.add_assoc _ _ _))⟩)) | (go_at_call 37; (with_reducible refine (spec_inRange.calls ((rd_T45 l0 x3_1).f1) 0 15 true _ A9.out).mono ?_); rintro e w' ⟨rfl, ⟨nd, rfl⟩⟩; (try first | exact ⟨rfl, _, World.drewN_drewN _ _ _⟩ | exact ⟨rfl, _, Eq.trans (World.drewN_drewN _ _ _) (congrArg (World.drewN _) (Nat.add_assoc _ _ _))⟩)) | (go_at_call 37; (with_reducible refine (spec_inRange.calls ((rd_T45 l0 x3_1).f2) (wrap64 (((rd_T45 l0 x3_1).f1) + 1)) 16 t105 _ A11.out).mono ?_); rintro e w' ⟨rfl, ⟨nd, rfl⟩⟩; (try first | exact ⟨rfl, _, World.drewN_drewN _ _ _⟩ | exact ⟨rfl, _, Eq.trans (World.drewN_drewN _ _ _) (congrArg (World.drewN _) (Nat.add_assoc _ _ _))⟩))))
     go_meet
     case rel => exact ⟨_, (!t105), (by first | rfl | (simp; done) | (simp [*]; done)), H', ⟨by have := HK1.out; first | omega | exact Nat.le_refl _⟩, ⟨by exact put3_3 BK102.out _ _ _⟩, ⟨by repeat (first | (with_reducible first | exact HB.out | apply below_alloc | apply pw_below_drewN | apply below_drew1 | refine below_set ?_ GE102.out) | exact HB.out)⟩⟩
    replace c10 := Bool.eq_false_iff.mpr c10
    subst c10
    have H1 : (spec_validRuns.j1 k1 l0 x3_1 true ((rd_T45 l0 x3_1).f0) ((rd_T45 l0 x3_1).f1) ((rd_T45 l0 x3_1).f2)) = some r := by rw [if_neg (show ¬ (false = true) by decide)] at H; exact H
    clear H
    have H := H1
    clear H1
    have H' := Aside0.mk H
    clear H
    have hcz13_0 : w5.cell? ⟨gb102, 0, none⟩ = some (.int .i64 0) := (blk_cell BK102.out 0).trans rfl
    have hcz13_1 : w5.cell? ⟨gb102, 1, none⟩ = some (.int .i64 0) := (blk_cell BK102.out 1).trans rfl
    have hcz13_2 : w5.cell? ⟨gb102, 2, none⟩ = some (.int .i64 0) := (blk_cell BK102.out 2).trans rfl
    have hfz13_0 := blk_frozen BK102.out 0
    have hfz13_1 := blk_frozen BK102.out 1
    have hfz13_2 := blk_frozen BK102.out 2
    go_wp2_with (first | (go_at_call 37; (with_reducible refine (spec_inRange.calls ((rd_T45 l0 x3_1).f0) 0 15 true _ A7.out).mono ?_); rintro e w' ⟨rfl, ⟨nd, rfl⟩⟩; (try first | exact ⟨rfl, _, World.drewN_drewN _ _ _⟩ | exact ⟨rfl, _, Eq.trans (World.drewN_drewN _ _ _) (congrArg (World.drewN _) (Nat.add_assoc _ _ _))⟩)) | (go_at_call 37; (with_reducible refine (spec_inRange.calls ((rd_T45 l0 x3_1).f1) 0 15 false _ A9.out).mono ?_); rintro e w' ⟨rfl, ⟨nd, rfl⟩⟩; (try first | exact ⟨rfl, _, World.drewN_drewN _ _ _⟩ | exact ⟨rfl, _, Eq.trans (World.drewN_drewN _ _ _) (congrArg (World.drewN _) (Nat.add_assoc _ _ _))⟩)))
    repeat (go_quiet (first | (go_at_call 37; (with_reducible refine (spec_inRange.calls ((rd_T45 l0 x3_1).f0) 0 15 true _ A7.out).mono ?_); rintro e w' ⟨rfl, ⟨nd, rfl⟩⟩; (try first | exact ⟨rfl, _, World.drewN_drewN _ _ _⟩ | exact ⟨rfl, _, Eq.trans (World.drewN_drewN _ _ _) (congrArg (World.drewN _) (Nat.add_assoc _ _ _))⟩)) | (go_at_call 37; (with_reducible refine (spec_inRange.calls ((rd_T45 l0 x3_1).f1) 0 15 false _ A9.out).mono ?_); rintro e w' ⟨rfl, ⟨nd, rfl⟩⟩; (try first | exact ⟨rfl, _, World.drewN_drewN _ _ _⟩ | exact ⟨rfl, _, Eq.trans (World.drewN_drewN _ _ _) (congrArg (World.drewN _) (Nat.add_assoc _ _ _))⟩))); try go_wp2_with (first | (go_at_call 37; (with_reducible refine (spec_inRange.calls ((rd_T45 l0 x3_1).f0) 0 15 true _ A7.out).mono ?_); rintro e w' ⟨rfl, ⟨nd, rfl⟩⟩; (try first | exact ⟨rfl, _, World.drewN_drewN _ _ _⟩ | exact ⟨rfl, _, Eq.trans (World.drewN_drewN _ _ _) (congrArg (World.drewN _) (Nat.add_assoc _ _ _))⟩)) | (go_at_call 37; (with_reducible refine (spec_inRange.calls ((rd_T45 l0 x3_1).f1) 0 15 false _ A9.out).mono ?_); rintro e w' ⟨rfl, ⟨nd, rfl⟩⟩; (try first | exact ⟨rfl, _, World.drewN_drewN _ _ _⟩ | exact ⟨rfl, _, Eq.trans (World.drewN_drewN _ _ _) (congrArg (World.drewN _) (Nat.add_assoc _ _ _))⟩))))
    go_meet
    case rel => exact ⟨_, (true), (by first | rfl | (simp; done) | (simp [*]; done)), H', ⟨by have := HK1.out; first | omega | exact Nat.le_refl _⟩, ⟨by exact put3_3 BK102.out _ _ _⟩, ⟨by repeat (first | (with_reducible first | exact HB.out | apply below_alloc | apply pw_below_drewN | apply below_drew1 | refine below_set ?_ GE102.out) | exact HB.out)⟩⟩
   case rest =>
    clear HC4
    try clear c1
    try clear p1
    try clear q1
    try clear hx1
    try clear c2
    try clear c2b0
    try clear p2
    try clear c3
    try clear c3b0
    try clear p6
    try clear c8
    try clear c10
    try clear p10
    try clear q10
    try clear hx10
    try clear hcz12_0
    try clear hcz12_1
    try clear hcz12_2
    try clear hcz13_0
    try clear hcz13_1
    try clear hcz13_2
    try clear hcz14_0
    try clear hcz14_1
    try clear hcz14_2
    try clear hcz6_0
    try clear hcz6_1
    try clear hcz6_2
    try clear hfz12_0
    try clear hfz12_1
    try clear hfz12_2
    try clear hfz13_0
    try clear hfz13_1
    try clear hfz13_2
    try clear hfz14_0
    try clear hfz14_1
    try clear hfz14_2
    try clear hfz6_0
    try clear hfz6_1
    try clear hfz6_2
    try clear hx101_0
    try clear hx101_1
    try clear hx101_2
    try clear p101
    try clear q101
    obtain ⟨kq, x33_3, rfl, HA, HJ3, BK102, HB⟩ := hcut
    cases kq with
    | zero => exact absurd HA.out (by simp [spec_validRuns.j1])
    | succ kj3 =>
     have H := HA.out
     clear HA
     simp only [spec_validRuns.j1] at H
     by_cases c15 : x33_3 = true
     ·
      subst c15
      have H1 : (some false) = some r := by rw [if_pos rfl] at H; exact H
      clear H
      have H := H1
      clear H1
      obtain rfl := Option.some.inj H
      go_wp2
      repeat (go_quiet (fail); try go_wp2)
      go_ret
      exact ⟨by first | rfl | (simp [errW_none, errW_some] <;> rfl) | (simp [*, errW_none, errW_some] <;> rfl), by repeat (first | (with_reducible first | exact HB.out | apply below_alloc | apply pw_below_drewN | apply below_drew1 | refine below_set ?_ GE102.out) | exact HB.out)⟩
     replace c15 := Bool.eq_false_iff.mpr c15
     subst c15
     have H1 : (if x3_1 > 0 then (if 0 ≤ (wrap64 (x3_1 - 1)) then (if (wrap64 (x3_1 - 1)) < (l0.length : Int) then (if ((rd_T45 l0 x3_1).f0) < ((rd_T45 l0 (wrap64 (x3_1 - 1))).f0) then (some false) else (if ((rd_T45 l0 x3_1).f0) = ((rd_T45 l0 (wrap64 (x3_1 - 1))).f0) then (if ((rd_T45 l0 x3_1).f1) ≤ ((rd_T45 l0 (wrap64 (x3_1 - 1))).f2) then (some false) else (spec_validRuns.l0 kj3 l0 (wrap64 (x3_1 + 1)))) else (spec_validRuns.l0 kj3 l0 (wrap64 (x3_1 + 1))))) else (none)) else (none)) else (spec_validRuns.l0 kj3 l0 (wrap64 (x3_1 + 1)))) = some r := by rw [if_neg (show ¬ (false = true) by decide)] at H; exact H
     clear H
     have H := H1
     clear H1
     by_cases c16 : x3_1 > 0
     rotate_left
     ·
      rw [if_neg c16] at H
      have c16b0 : decide (0 < x3_1) = false := decide_eq_false c16
      clear c16
      have H' := Aside0.mk H
      clear H
      go_wp2
      repeat (go_quiet (fail); try go_wp2)
      go_roundg kj3
      case measure => have := HK1.out; have := HJ3.out; omega
      case rel => exact ⟨(wrap64 (x3_1 + 1)), (by first | rfl | (simp; done) | (simp [*]; done)), H', ⟨by have := HK1.out; have := HJ3.out; omega⟩, ⟨by repeat (first | (with_reducible first | exact HB.out | apply below_alloc | apply pw_below_drewN | apply below_drew1 | refine below_set ?_ GE102.out) | exact HB.out)⟩⟩
     rw [if_pos c16] at H
     have c16b0 : decide (0 < x3_1) = true := decide_eq_true c16
     clear c16
     obtain ⟨ji17, hji17⟩ : ∃ j_ : Int, (wrap64 (x3_1 - 1)) = j_ := ⟨_, rfl⟩
     replace H : (if 0 ≤ (ji17) then (if (ji17) < (l0.length : Int) then (if ((rd_T45 l0 x3_1).f0) < ((rd_T45 l0 (ji17)).f0) then (some false) else (if ((rd_T45 l0 x3_1).f0) = ((rd_T45 l0 (ji17)).f0) then (if ((rd_T45 l0 x3_1).f1) ≤ ((rd_T45 l0 (ji17)).f2) then (some false) else (spec_validRuns.l0 kj3 l0 (wrap64 (x3_1 + 1)))) else (spec_validRuns.l0 kj3 l0 (wrap64 (x3_1 + 1))))) else (none)) else (none)) = some r := by first | (rw [hji17] at H; exact H) | (simp only [hji17] at H ⊢; exact H)
     have hji17w : (IntKind.i64.wrap (x3_1 - 1)) = ji17 := (i64_w _).trans hji17
     by_cases c18 : 0 ≤ (ji17)
     rotate_left
     ·
      rw [if_neg c18] at H
      exact absurd H (by simp)
     rw [if_pos c18] at H
     have c18b0 : decide (0 ≤ (ji17)) = true := decide_eq_true c18
     clear c18
     by_cases c19 : (ji17) < (l0.length : Int)
     rotate_left
     ·
      rw [if_neg c19] at H
      exact absurd H (by simp)
     rw [if_pos c19] at H
     have c19b0 : decide ((ji17) < (l0.length : Int)) = true := decide_eq_true c19
     clear c19
     by_cases c20 : ((rd_T45 l0 x3_1).f0) < ((rd_T45 l0 (ji17)).f0)
     ·
      rw [if_pos c20] at H
      have c20b0 : decide (((rd_T45 l0 x3_1).f0) < ((rd_T45 l0 (ji17)).f0)) = true := decide_eq_true c20
      clear c20
      obtain rfl := Option.some.inj H
      have hcz21_0 : wc.cell? ⟨gb102, 0, none⟩ = some (.int .i64 ((rd_T45 l0 x3_1).f0)) := (blk_cell BK102.out 0).trans rfl
      have hcz21_1 : wc.cell? ⟨gb102, 1, none⟩ = some (.int .i64 ((rd_T45 l0 x3_1).f1)) := (blk_cell BK102.out 1).trans rfl
      have hcz21_2 : wc.cell? ⟨gb102, 2, none⟩ = some (.int .i64 ((rd_T45 l0 x3_1).f2)) := (blk_cell BK102.out 2).trans rfl
      have hfz21_0 := blk_frozen BK102.out 0
      have hfz21_1 := blk_frozen BK102.out 1
      have hfz21_2 := blk_frozen BK102.out 2
      have p106 : 0 ≤ ((ji17) : Int) := of_decide_eq_true (by first | with_reducible assumption | assumption)
      have q106 : (ji17) < (l0.length : Int) := of_decide_eq_true (by first | with_reducible assumption | assumption)
      obtain ⟨ad106, e106, hx106_0, hx106_1, hx106_2⟩ := at_T45 HR0.out (ji17) p106 q106
      obtain rfl : ad101 = ad106 := (by injection e106)
      replace hx106_0 := (HB.out.cell (World.block_lt_of_cell? w _ hx106_0)).trans hx106_0
      replace hx106_1 := (HB.out.cell (World.block_lt_of_cell? w _ hx106_1)).trans hx106_1
      replace hx106_2 := (HB.out.cell (World.block_lt_of_cell? w _ hx106_2)).trans hx106_2
      replace p106 := eq_true p106
      replace q106 := eq_true q106
      go_wp2
      repeat (go_quiet (fail); try go_wp2)
      go_ret
      exact ⟨by first | rfl | (simp [errW_none, errW_some] <;> rfl) | (simp only [← hji17]; first | rfl | (simp [errW_none, errW_some] <;> rfl)) | (simp [*, errW_none, errW_some] <;> rfl), by repeat (first | (with_reducible first | exact HB.out | apply below_alloc | apply pw_below_drewN | apply below_drew1 | refine below_set ?_ GE102.out) | exact HB.out)⟩
     rw [if_neg c20] at H
     have c20b0 : decide (((rd_T45 l0 x3_1).f0) < ((rd_T45 l0 (ji17)).f0)) = false := decide_eq_false c20
     clear c20
     by_cases c22 : ((rd_T45 l0 x3_1).f0) = ((rd_T45 l0 (ji17)).f0)
     rotate_left
     ·
      rw [if_neg c22] at H
      have c22b0 : (((rd_T45 l0 x3_1).f0) == ((rd_T45 l0 (ji17)).f0)) = false := beq_eq_false_iff_ne.mpr c22
      have c22b1 : (((rd_T45 l0 x3_1).f0) != ((rd_T45 l0 (ji17)).f0)) = true := bne_iff_ne.mpr c22
      have H' := Aside0.mk H
      clear H
      have hcz26_0 : wc.cell? ⟨gb102, 0, none⟩ = some (.int .i64 ((rd_T45 l0 x3_1).f0)) := (blk_cell BK102.out 0).trans rfl
      have hcz26_1 : wc.cell? ⟨gb102, 1, none⟩ = some (.int .i64 ((rd_T45 l0 x3_1).f1)) := (blk_cell BK102.out 1).trans rfl
      have hcz26_2 : wc.cell? ⟨gb102, 2, none⟩ = some (.int .i64 ((rd_T45 l0 x3_1).f2)) := (blk_cell BK102.out 2).trans rfl
      have hfz26_0 := blk_frozen BK102.out 0
      have hfz26_1 := blk_frozen BK102.out 1
      have hfz26_2 := blk_frozen BK102.out 2
      have p106 : 0 ≤ ((ji17) : Int) := of_decide_eq_true (by first | with_reducible assumption | assumption)
      have q106 : (ji17) < (l0.length : Int) := of_decide_eq_true (by first | with_reducible assumption | assumption)
      obtain ⟨ad106, e106, hx106_0, hx106_1, hx106_2⟩ := at_T45 HR0.out (ji17) p106 q106
      obtain rfl : ad101 = ad106 := (by injection e106)
      replace hx106_0 := (HB.out.cell (World.block_lt_of_cell? w _ hx106_0)).trans hx106_0
      replace hx106_1 := (HB.out.cell (World.block_lt_of_cell? w _ hx106_1)).trans hx106_1
      replace hx106_2 := (HB.out.cell (World.block_lt_of_cell? w _ hx106_2)).trans hx106_2
      replace p106 := eq_true p106
      replace q106 := eq_true q106
      have p107 : 0 ≤ ((ji17) : Int) := of_decide_eq_true (by first | with_reducible assumption | assumption)
      have q107 : (ji17) < (l0.length : Int) := of_decide_eq_true (by first | with_reducible assumption | assumption)
      obtain ⟨ad107, e107, hx107_0, hx107_1, hx107_2⟩ := at_T45 HR0.out (ji17) p107 q107
      obtain rfl : ad101 = ad107 := (by injection e107)
      replace hx107_0 := (HB.out.cell (World.block_lt_of_cell? w _ hx107_0)).trans hx107_0
      replace hx107_1 := (HB.out.cell (World.block_lt_of_cell? w _ hx107_1)).trans hx107_1
      replace hx107_2 := (HB.out.cell (World.block_lt_of_cell? w _ hx107_2)).trans hx107_2
      replace p107 := eq_true p107
      replace q107 := eq_true q107
      go_wp2
      repeat (go_quiet (fail); try go_wp2)
      go_roundg kj3
      case measure => have := HK1.out; have := HJ3.out; omega
      case rel => exact ⟨(wrap64 (x3_1 + 1)), (by first | rfl | (simp; done) | (simp [*]; done)), H', ⟨by have := HK1.out; have := HJ3.out; omega⟩, ⟨by repeat (first | (with_reducible first | exact HB.out | apply below_alloc | apply pw_below_drewN | apply below_drew1 | refine below_set ?_ GE102.out) | exact HB.out)⟩⟩
     rw [if_pos c22] at H
     have c22b0 : (((rd_T45 l0 x3_1).f0) == ((rd_T45 l0 (ji17)).f0)) = true := beq_iff_eq.mpr c22
     have c22b1 : (((rd_T45 l0 x3_1).f0) != ((rd_T45 l0 (ji17)).f0)) = false := bne_eq_false_iff_eq.mpr c22
     clear c22
     by_cases c23 : ((rd_T45 l0 x3_1).f1) ≤ ((rd_T45 l0 (ji17)).f2)
     ·
      rw [if_pos c23] at H
      have c23b0 : decide (((rd_T45 l0 x3_1).f1) ≤ ((rd_T45 l0 (ji17)).f2)) = true := decide_eq_true c23
      clear c23
      obtain rfl := Option.some.inj H
      have hcz24_0 : wc.cell? ⟨gb102, 0, none⟩ = some (.int .i64 ((rd_T45 l0 x3_1).f0)) := (blk_cell BK102.out 0).trans rfl
      have hcz24_1 : wc.cell? ⟨gb102, 1, none⟩ = some (.int .i64 ((rd_T45 l0 x3_1).f1)) := (blk_cell BK102.out 1).trans rfl
      have hcz24_2 : wc.cell? ⟨gb102, 2, none⟩ = some (.int .i64 ((rd_T45 l0 x3_1).f2)) := (blk_cell BK102.out 2).trans rfl
      have hfz24_0 := blk_frozen BK102.out 0
      have hfz24_1 := blk_frozen BK102.out 1
      have hfz24_2 := blk_frozen BK102.out 2
      have p106 : 0 ≤ ((ji17) : Int) := of_decide_eq_true (by first | with_reducible assumption | assumption)
      have q106 : (ji17) < (l0.length : Int) := of_decide_eq_true (by first | with_reducible assumption | assumption)
      obtain ⟨ad106, e106, hx106_0, hx106_1, hx106_2⟩ := at_T45 HR0.out (ji17) p106 q106
      obtain rfl : ad101 = ad106 := (by injection e106)
      replace hx106_0 := (HB.out.cell (World.block_lt_of_cell? w _ hx106_0)).trans hx106_0
      replace hx106_1 := (HB.out.cell (World.block_lt_of_cell? w _ hx106_1)).trans hx106_1
      replace hx106_2 := (HB.out.cell (World.block_lt_of_cell? w _ hx106_2)).trans hx106_2
      replace p106 := eq_true p106
      replace q106 := eq_true q106
      have p107 : 0 ≤ ((ji17) : Int) := of_decide_eq_true (by first | with_reducible assumption | assumption)
      have q107 : (ji17) < (l0.length : Int) := of_decide_eq_true (by first | with_reducible assumption | assumption)
      obtain ⟨ad107, e107, hx107_0, hx107_1, hx107_2⟩ := at_T45 HR0.out (ji17) p107 q107
      obtain rfl : ad101 = ad107 := (by injection e107)
      replace hx107_0 := (HB.out.cell (World.block_lt_of_cell? w _ hx107_0)).trans hx107_0
      replace hx107_1 := (HB.out.cell (World.block_lt_of_cell? w _ hx107_1)).trans hx107_1
      replace hx107_2 := (HB.out.cell (World.block_lt_of_cell? w _ hx107_2)).trans hx107_2
      replace p107 := eq_true p107
      replace q107 := eq_true q107
      have p108 : 0 ≤ ((ji17) : Int) := of_decide_eq_true (by first | with_reducible assumption | assumption)
      have q108 : (ji17) < (l0.length : Int) := of_decide_eq_true (by first | with_reducible assumption | assumption)
      obtain ⟨ad108, e108, hx108_0, hx108_1, hx108_2⟩ := at_T45 HR0.out (ji17) p108 q108
      obtain rfl : ad101 = ad108 := (by injection e108)
      replace hx108_0 := (HB.out.cell (World.block_lt_of_cell? w _ hx108_0)).trans hx108_0
      replace hx108_1 := (HB.out.cell (World.block_lt_of_cell? w _ hx108_1)).trans hx108_1
      replace hx108_2 := (HB.out.cell (World.block_lt_of_cell? w _ hx108_2)).trans hx108_2
      replace p108 := eq_true p108
      replace q108 := eq_true q108
      go_wp2
      repeat (go_quiet (fail); try go_wp2)
      go_ret
      exact ⟨by first | rfl | (simp [errW_none, errW_some] <;> rfl) | (simp only [← hji17]; first | rfl | (simp [errW_none, errW_some] <;> rfl)) | (simp [*, errW_none, errW_some] <;> rfl), by repeat (first | (with_reducible first | exact HB.out | apply below_alloc | apply pw_below_drewN | apply below_drew1 | refine below_set ?_ GE102.out) | exact HB.out)⟩
     rw [if_neg c23] at H
     have c23b0 : decide (((rd_T45 l0 x3_1).f1) ≤ ((rd_T45 l0 (ji17)).f2)) = false := decide_eq_false c23
     clear c23
     have H' := Aside0.mk H
     clear H
     have hcz25_0 : wc.cell? ⟨gb102, 0, none⟩ = some (.int .i64 ((rd_T45 l0 x3_1).f0)) := (blk_cell BK102.out 0).trans rfl
     have hcz25_1 : wc.cell? ⟨gb102, 1, none⟩ = some (.int .i64 ((rd_T45 l0 x3_1).f1)) := (blk_cell BK102.out 1).trans rfl
     have hcz25_2 : wc.cell? ⟨gb102, 2, none⟩ = some (.int .i64 ((rd_T45 l0 x3_1).f2)) := (blk_cell BK102.out 2).trans rfl
     have hfz25_0 := blk_frozen BK102.out 0
     have hfz25_1 := blk_frozen BK102.out 1
     have hfz25_2 := blk_frozen BK102.out 2
     have p106 : 0 ≤ ((ji17) : Int) := of_decide_eq_true (by first | with_reducible assumption | assumption)
     have q106 : (ji17) < (l0.length : Int) := of_decide_eq_true (by first | with_reducible assumption | assumption)
     obtain ⟨ad106, e106, hx106_0, hx106_1, hx106_2⟩ := at_T45 HR0.out (ji17) p106 q106
     obtain rfl : ad101 = ad106 := (by injection e106)
     replace hx106_0 := (HB.out.cell (World.block_lt_of_cell? w _ hx106_0)).trans hx106_0
     replace hx106_1 := (HB.out.cell (World.block_lt_of_cell? w _ hx106_1)).trans hx106_1
     replace hx106_2 := (HB.out.cell (World.block_lt_of_cell? w _ hx106_2)).trans hx106_2
     replace p106 := eq_true p106
     replace q106 := eq_true q106
     have p107 : 0 ≤ ((ji17) : Int) := of_decide_eq_true (by first | with_reducible assumption | assumption)
     have q107 : (ji17) < (l0.length : Int) := of_decide_eq_true (by first | with_reducible assumption | assumption)
     obtain ⟨ad107, e107, hx107_0, hx107_1, hx107_2⟩ := at_T45 HR0.out (ji17) p107 q107
     obtain rfl : ad101 = ad107 := (by injection e107)
     replace hx107_0 := (HB.out.cell (World.block_lt_of_cell? w _ hx107_0)).trans hx107_0
     replace hx107_1 := (HB.out.cell (World.block_lt_of_cell? w _ hx107_1)).trans hx107_1
     replace hx107_2 := (HB.out.cell (World.block_lt_of_cell? w _ hx107_2)).trans hx107_2
     replace p107 := eq_true p107
     replace q107 := eq_true q107
     have p108 : 0 ≤ ((ji17) : Int) := of_decide_eq_true (by first | with_reducible assumption | assumption)
     have q108 : (ji17) < (l0.length : Int) := of_decide_eq_true (by first | with_reducible assumption | assumption)
     obtain ⟨ad108, e108, hx108_0, hx108_1, hx108_2⟩ := at_T45 HR0.out (ji17) p108 q108
     obtain rfl : ad101 = ad108 := (by injection e108)
     replace hx108_0 := (HB.out.cell (World.block_lt_of_cell? w _ hx108_0)).trans hx108_0
     replace hx108_1 := (HB.out.cell (World.block_lt_of_cell? w _ hx108_1)).trans hx108_1
     replace hx108_2 := (HB.out.cell (World.block_lt_of_cell? w _ hx108_2)).trans hx108_2
     replace p108 := eq_true p108
     replace q108 := eq_true q108
     go_wp2
     repeat (go_quiet (fail); try go_wp2)
     go_roundg kj3
     case measure => have := HK1.out; have := HJ3.out; omega
     case rel => exact ⟨(wrap64 (x3_1 + 1)), (by first | rfl | (simp; done) | (simp [*]; done)), H', ⟨by have := HK1.out; have := HJ3.out; omega⟩, ⟨by repeat (first | (with_reducible first | exact HB.out | apply below_alloc | apply pw_below_drewN | apply below_drew1 | refine below_set ?_ GE102.out) | exact HB.out)⟩⟩

end Go.Proofs.Ytceoecmjccakgaa.Print
