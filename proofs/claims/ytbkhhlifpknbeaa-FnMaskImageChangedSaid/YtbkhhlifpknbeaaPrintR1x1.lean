-- laid by hp.py (a program of this work over the kit's print), with contracts by hand for what the print does not take
import Derived.Test.YtbkhhlifpknbeaaPrint0
import Derived.Test.YtbkhhlifpknbeaaPrintHx0
import Derived.Test.YtbkhhlifpknbeaaPrintR0x0
import Derived.Test.YtbkhhlifpknbeaaPrintR1x0
namespace Go.Proofs.Ytbkhhlifpknbeaa.Print
open Go.RowKit Go.Proofs.YtbkhhlifpknbeaaW.PrintWords Go.Proofs.YtbkhhlifpknbeaaW.PrintLast Go.Proofs.YtbkhhlifpknbeaaW.PrintMore
attribute [local go_sem] max2_int min2_int max_two min_two max_three min_three max_four min_four   -- for this text's walks alone
set_option linter.unusedVariables false
set_option linter.unusedSimpArgs false

/-! ### spec_twoImages: function 20 -/
mutual
def spec_twoImages.l0 : Nat → Int → List Int → Int → Int → Int → Int → List Int → Int → Int → Int → List Int → Option (Int × Int × Int × List Int × Int × Int × Int × List Int × Int)
 | 0, _, _, _, _, _, _, _, _, _, _, _ => none
 | k + 1, x6, x1000, x1001, x111000, x111001, x111002, x111003, x115000, x115001, x115002, x115003 => if x6 > 0 then (spec_twoImages.j1 k x6 (decide ((x115003.length : Int) > 0)) x1000 x1001 x111000 x111001 x111002 x111003 x115000 x115001 x115002 x115003) else (spec_twoImages.j1 k x6 false x1000 x1001 x111000 x111001 x111002 x111003 x115000 x115001 x115002 x115003)
def spec_twoImages.j1 : Nat → Int → Bool → List Int → Int → Int → Int → Int → List Int → Int → Int → Int → List Int → Option (Int × Int × Int × List Int × Int × Int × Int × List Int × Int)
 | 0, _, _, _, _, _, _, _, _, _, _, _, _ => none
 | k + 1, x6, x28, x1000, x1001, x111000, x111001, x111002, x111003, x115000, x115001, x115002, x115003 => if x28 = true then ((spec_reader_pick.f k x1000 x1001 (x115003.length : Int)).bind fun bt117 => ((spec_reader_pick.f k x1000 bt117.2 256).bind fun bt119 => (if 0 ≤ bt117.1 then (if bt117.1 < (x115003.length : Int) then (spec_twoImages.l0 k (wrap64 (x6 - 1)) x1000 bt119.2 x111000 x111001 x111002 x111003 x115000 x115001 x115002 (x115003.set (bt117.1 : Int).toNat bt119.1)) else (none)) else (none)))) else ((spec_reader_pick.f k x1000 x1001 16).bind fun bt122 => (if bt122.1 = 0 then ((spec_anyImage.f k x1000 bt122.2).bind fun bt124 => (some (x111000, x111001, x111002, x111003, bt124.1, bt124.2.1, bt124.2.2.1, bt124.2.2.2.1, bt124.2.2.2.2))) else (some (x111000, x111001, x111002, x111003, x115000, x115001, x115002, x115003, bt122.2))))
end
def spec_twoImages.f (k : Nat) (s0_0 : List Int) (s0_1 : Int) : Option (Int × Int × Int × List Int × Int × Int × Int × List Int × Int) := (spec_anyImage.f k s0_0 s0_1).bind fun bt103 => ((spec_copyInts.f bt103.2.2.2.1).bind fun t111 => ((spec_reader_pick.f k s0_0 bt103.2.2.2.2 6).bind fun bt115 => (spec_twoImages.l0 k bt115.1 s0_0 bt115.2 bt103.1 bt103.2.1 bt103.2.2.1 bt103.2.2.2.1 bt103.1 bt103.2.1 bt103.2.2.1 t111)))
theorem spec_twoImages.mono_l : ∀ k, (∀ y0 y1 y2 y3 y4 y5 y6 y7 y8 y9 y10, LeO (spec_twoImages.l0 k y0 y1 y2 y3 y4 y5 y6 y7 y8 y9 y10) (spec_twoImages.l0 (k + 1) y0 y1 y2 y3 y4 y5 y6 y7 y8 y9 y10)) ∧ (∀ y0 y1 y2 y3 y4 y5 y6 y7 y8 y9 y10 y11, LeO (spec_twoImages.j1 k y0 y1 y2 y3 y4 y5 y6 y7 y8 y9 y10 y11) (spec_twoImages.j1 (k + 1) y0 y1 y2 y3 y4 y5 y6 y7 y8 y9 y10 y11))
 | 0 => ⟨fun _ _ _ _ _ _ _ _ _ _ _ r h => by simp [spec_twoImages.l0] at h, fun _ _ _ _ _ _ _ _ _ _ _ _ r h => by simp [spec_twoImages.j1] at h⟩
 | k + 1 => by
  obtain ⟨ih0, ih1⟩ := spec_twoImages.mono_l k
  refine ⟨?_, ?_⟩
  ·
   intro y0 y1 y2 y3 y4 y5 y6 y7 y8 y9 y10
   unfold spec_twoImages.l0
   repeat' first
   | (with_reducible exact ih0 _ _ _ _ _ _ _ _ _ _ _)
   | (with_reducible exact ih1 _ _ _ _ _ _ _ _ _ _ _ _)
   | (with_reducible exact spec_anyImage.mono _ _ _)
   | (with_reducible exact spec_reader_pick.mono _ _ _ _)
   | (with_reducible exact LeO.refl _)
   | (with_reducible exact LeO.none _)
   | (with_reducible refine LeO.ite ?_ ?_)
   | (with_reducible refine LeO.bind ?_ (fun _ => ?_))
   | exact ih0 _ _ _ _ _ _ _ _ _ _ _
   | exact ih1 _ _ _ _ _ _ _ _ _ _ _ _
   | exact spec_anyImage.mono _ _ _
   | exact spec_reader_pick.mono _ _ _ _
   | exact LeO.none _
   | refine LeO.ite ?_ ?_
   | refine LeO.bind ?_ (fun _ => ?_)
  intro y0 y1 y2 y3 y4 y5 y6 y7 y8 y9 y10 y11
  unfold spec_twoImages.j1
  repeat' first
  | (with_reducible exact ih0 _ _ _ _ _ _ _ _ _ _ _)
  | (with_reducible exact ih1 _ _ _ _ _ _ _ _ _ _ _ _)
  | (with_reducible exact spec_anyImage.mono _ _ _)
  | (with_reducible exact spec_reader_pick.mono _ _ _ _)
  | (with_reducible exact LeO.refl _)
  | (with_reducible exact LeO.none _)
  | (with_reducible refine LeO.ite ?_ ?_)
  | (with_reducible refine LeO.bind ?_ (fun _ => ?_))
  | exact ih0 _ _ _ _ _ _ _ _ _ _ _
  | exact ih1 _ _ _ _ _ _ _ _ _ _ _ _
  | exact spec_anyImage.mono _ _ _
  | exact spec_reader_pick.mono _ _ _ _
  | exact LeO.none _
  | refine LeO.ite ?_ ?_
  | refine LeO.bind ?_ (fun _ => ?_)
theorem spec_twoImages.mono : ∀ a0 a1 k, LeO (spec_twoImages.f k a0 a1) (spec_twoImages.f (k + 1) a0 a1) := by
 intro a0 a1 k
 obtain ⟨ih0, ih1⟩ := spec_twoImages.mono_l k
 unfold spec_twoImages.f
 repeat' first
   | (with_reducible exact ih0 _ _ _ _ _ _ _ _ _ _ _)
   | (with_reducible exact ih1 _ _ _ _ _ _ _ _ _ _ _ _)
   | (with_reducible exact spec_anyImage.mono _ _ _)
   | (with_reducible exact spec_reader_pick.mono _ _ _ _)
   | (with_reducible exact LeO.refl _)
   | (with_reducible exact LeO.none _)
   | (with_reducible refine LeO.ite ?_ ?_)
   | (with_reducible refine LeO.bind ?_ (fun _ => ?_))
   | exact ih0 _ _ _ _ _ _ _ _ _ _ _
   | exact ih1 _ _ _ _ _ _ _ _ _ _ _ _
   | exact spec_anyImage.mono _ _ _
   | exact spec_reader_pick.mono _ _ _ _
   | exact LeO.none _
   | refine LeO.ite ?_ ?_
   | refine LeO.bind ?_ (fun _ => ?_)
def spec_twoImages.T2 : Bool × List (List Nat × List Nat) := (true, [([], []), ([0], [0]), ([], []), ([2], [2]), ([], []), ([4], [4]), ([], []), ([6], [6]), ([7], [7]), ([1, 3, 5, 8], [1, 3, 5, 8]), ([], []), ([10, 9, 8, 0, 1, 2, 3, 4, 5, 6, 7, 8, 9, 10], [9, 10])])
def spec_twoImages.B2 : List Nat := [0, 1, 0, 4, 0, 16, 0, 64, 192, 511, 0, 2047]
theorem spec_twoImages.tab2 : rtab .any (opsOf Try.f20 2) = spec_twoImages.T2 := by kernel_rfl
theorem spec_twoImages.bits2 : waitsOk spec_twoImages.T2.2 spec_twoImages.B2 = true := by kernel_rfl
def spec_twoImages.T6 : Bool × List (List Nat × List Nat) := (true, [([], []), ([0], [0]), ([], []), ([], []), ([3], [3]), ([4], [4]), ([2, 5], [2, 5]), ([], []), ([7, 6], [7]), ([1, 6, 0, 1, 2, 3, 4, 5, 6, 7, 8], [1, 6]), ([9, 8, 8, 0, 1, 2, 3, 4, 5, 6, 7, 8], [8, 9])])
def spec_twoImages.B6 : List Nat := [0, 1, 0, 0, 8, 24, 60, 0, 252, 511, 1023]
theorem spec_twoImages.tab6 : rtab .any (opsOf Try.f20 6) = spec_twoImages.T6 := by kernel_rfl
theorem spec_twoImages.bits6 : waitsOk spec_twoImages.T6.2 spec_twoImages.B6 = true := by kernel_rfl
set_option maxHeartbeats 8000000 in
set_option maxRecDepth 100000 in
theorem spec_twoImages.calls (k : Nat) (g : Nat) (s0_0 : List Int) (s0_1 : Int) (r1 : Int) (r2 : Int) (r3 : Int) (r4 : List Int) (r5 : Int) (r6 : Int) (r7 : Int) (r8 : List Int) (r9 : Int) (w0 w : World) (hI : IsS70 w0 w g s0_0 s0_1) (hB : Below w0.heap.size w0 w) (h : spec_twoImages.f k s0_0 s0_1 = some (r1, r2, r3, r4, r5, r6, r7, r8, r9)) :
  Calls Try.prog 20 #[.pointer (some ⟨g, 0, none⟩)] w fun e w' => ∃ v3_ v7_ : Value, e = .returned (.tuple #[.agg #[.int .i64 r1, .int .i64 r2, .int .i64 r3, v3_], .agg #[.int .i64 r5, .int .i64 r6, .int .i64 r7, v7_]]) ∧ Kd.Q (Kd.int .i64) 3 w' w.heap.size (fun k_ => some k_ ≠ (v7_ : Value).ownBlock) v3_ r4 ∧ Kd.Q (Kd.int .i64) 3 w' w.heap.size (fun k_ => some k_ ≠ (v3_ : Value).ownBlock) v7_ r8 ∧ IsS70 w0 w' g s0_0 r9 ∧ Below w0.heap.size w0 w' ∧ KeepBut w w' g none := by
 have hu25 := Try.underlying25
 have HI0 := Aside0.mk hI
 have HK := Aside0.mk (KeepBut.refl w g none)
 have HL := Aside0.mk hB.size
 clear hI
 have HW0 := Aside0.mk hB.size
 have HB := Aside0.mk hB
 clear hB
 have H : ((spec_anyImage.f k s0_0 s0_1).bind fun bt103 => ((spec_copyInts.f bt103.2.2.2.1).bind fun t111 => ((spec_reader_pick.f k s0_0 bt103.2.2.2.2 6).bind fun bt115 => (spec_twoImages.l0 k bt115.1 s0_0 bt115.2 bt103.1 bt103.2.1 bt103.2.2.1 bt103.2.2.2.1 bt103.1 bt103.2.1 bt103.2.2.1 t111)))) = some (r1, r2, r3, r4, r5, r6, r7, r8, r9) := h
 clear h
 replace H := Option.bind_eq_some_iff.mp H
 obtain ⟨⟨t103, t104, t105, t106, t109⟩, A20, H⟩ := H
 replace H : ((spec_copyInts.f t106).bind fun t111 => ((spec_reader_pick.f k s0_0 t109 6).bind fun bt115 => (spec_twoImages.l0 k bt115.1 s0_0 bt115.2 t103 t104 t105 t106 t103 t104 t105 t111))) = some (r1, r2, r3, r4, r5, r6, r7, r8, r9) := H
 have A2 := Aside0.mk A20
 clear A20
 replace H := Option.bind_eq_some_iff.mp H
 obtain ⟨t111, A30, H⟩ := H
 replace H : ((spec_reader_pick.f k s0_0 t109 6).bind fun bt115 => (spec_twoImages.l0 k bt115.1 s0_0 bt115.2 t103 t104 t105 t106 t103 t104 t105 t111)) = some (r1, r2, r3, r4, r5, r6, r7, r8, r9) := H
 have A3 := Aside0.mk A30
 clear A30
 replace H := Option.bind_eq_some_iff.mp H
 obtain ⟨⟨t115, t116⟩, A40, H⟩ := H
 replace H : (spec_twoImages.l0 k t115 s0_0 t116 t103 t104 t105 t106 t103 t104 t105 t111) = some (r1, r2, r3, r4, r5, r6, r7, r8, r9) := H
 have A4 := Aside0.mk A40
 clear A40
 have H' := Aside0.mk H
 clear H
 go_enter Try.func20, Try.ntmps20
 try go_wp2_with (first | ((with_reducible refine gate_dst (N := 2) rfl ?_); (try (refine gate_guard (by rfl) ?_; dsimp only)); refine box_event ?hg (N := 2) ?hd (cs := #[.int .i64 0, .int .i64 0, .int .i64 0, .slice none 0 0]) (t := 25) ?hr ?_; (case hd => rfl); (case hg => rfl); (case hr => first | (go_simp; done) | (go_simp; rfl)); intro gb101 hg w5 hbox hb; replace HB := am_ (below_step (by repeat (first | (with_reducible first | exact HB.out | apply below_alloc | apply pw_below_drewN | apply below_drew1 | refine below_set ?_ (IsS70.ge HI0.out)) | exact HB.out)) hb); have BK101 := am_ (hbox); have GW101 := am_ ((by rw [hg]; exact (keep_size (w := w) (g := g) (row := none) (by repeat (first | (with_reducible first | exact HK.out | apply KeepBut.set_ | apply keep_drewN | apply keep_drew | apply keep_alloc) | exact HK.out))) : w.heap.size ≤ gb101)); have GE101 := am_ ((Nat.le_trans HW0.out (by rw [hg]; exact (keep_size (w := w) (g := g) (row := none) (by repeat (first | (with_reducible first | exact HK.out | apply KeepBut.set_ | apply keep_drewN | apply keep_drew | apply keep_alloc) | exact HK.out))) : w.heap.size ≤ gb101) : w0.heap.size ≤ gb101)); replace HK := am_ (KeepBut.trans (by repeat (first | (with_reducible first | exact HK.out | apply KeepBut.set_ | apply keep_drewN | apply keep_drew | apply keep_alloc) | exact HK.out)) (KeepBut.of_below hb g none) (.inl rfl)); have NB0_101 := am_ ((by rw [hg]; exact Nat.ne_of_lt (IsS70.lt (show IsS70 w0 _ g s0_0 s0_1 from by repeat (first | (with_reducible first | exact HI0.out | apply IsS70.alloc | apply IsS70.drewN | apply IsS70.drew | apply IsS70.set_1) | exact HI0.out))) : g ≠ gb101)); have NB101_0 := am_ ((by rw [hg]; exact Nat.ne_of_gt (IsS70.lt (show IsS70 w0 _ g s0_0 s0_1 from by repeat (first | (with_reducible first | exact HI0.out | apply IsS70.alloc | apply IsS70.drewN | apply IsS70.drew | apply IsS70.set_1) | exact HI0.out))) : gb101 ≠ g)); replace HI0 := am_ (IsS70.below (by repeat (first | (with_reducible first | exact HI0.out | apply IsS70.alloc | apply IsS70.drewN | apply IsS70.drew | apply IsS70.set_1) | exact HI0.out)) hb); clear hb hbox hg) | ((with_reducible refine gate_dst (N := 3) rfl ?_); (try (refine gate_guard (by rfl) ?_; dsimp only)); refine box_event ?hg (N := 3) ?hd (cs := #[.int .i64 0, .int .i64 0, .int .i64 0, .slice none 0 0]) (t := 25) ?hr ?_; (case hd => rfl); (case hg => rfl); (case hr => first | (go_simp; done) | (go_simp; rfl)); intro gb102 hg w6 hbox hb; replace HB := am_ (below_step (by repeat (first | (with_reducible first | exact HB.out | apply below_alloc | apply pw_below_drewN | apply below_drew1 | refine below_set ?_ (IsS70.ge HI0.out) | refine below_set ?_ GE101.out) | exact HB.out)) hb); have BK102 := am_ (hbox); have GW102 := am_ ((by rw [hg]; exact (keep_size (w := w) (g := g) (row := none) (by repeat (first | (with_reducible first | exact HK.out | apply KeepBut.set_ | apply keep_drewN | apply keep_drew | apply keep_alloc | refine keep_far ?_ GW101.out _) | exact HK.out))) : w.heap.size ≤ gb102)); have GE102 := am_ ((Nat.le_trans HW0.out (by rw [hg]; exact (keep_size (w := w) (g := g) (row := none) (by repeat (first | (with_reducible first | exact HK.out | apply KeepBut.set_ | apply keep_drewN | apply keep_drew | apply keep_alloc | refine keep_far ?_ GW101.out _) | exact HK.out))) : w.heap.size ≤ gb102) : w0.heap.size ≤ gb102)); replace HK := am_ (KeepBut.trans (by repeat (first | (with_reducible first | exact HK.out | apply KeepBut.set_ | apply keep_drewN | apply keep_drew | apply keep_alloc | refine keep_far ?_ GW101.out _) | exact HK.out)) (KeepBut.of_below hb g none) (.inl rfl)); have NB101_102 := am_ ((by rw [hg]; exact Nat.ne_of_lt (blk_lt (by exact BK101.out)) : gb101 ≠ gb102)); have NB102_101 := am_ ((by rw [hg]; exact Nat.ne_of_gt (blk_lt (by exact BK101.out)) : gb102 ≠ gb101)); replace BK101 := am_ (blk_below (by exact BK101.out) hb); have NB0_102 := am_ ((by rw [hg]; exact Nat.ne_of_lt (IsS70.lt (show IsS70 w0 _ g s0_0 s0_1 from by repeat (first | (with_reducible first | exact HI0.out | apply IsS70.alloc | apply IsS70.drewN | apply IsS70.drew | apply IsS70.set_1 | refine IsS70.far ?_ NB0_101.out _) | exact HI0.out))) : g ≠ gb102)); have NB102_0 := am_ ((by rw [hg]; exact Nat.ne_of_gt (IsS70.lt (show IsS70 w0 _ g s0_0 s0_1 from by repeat (first | (with_reducible first | exact HI0.out | apply IsS70.alloc | apply IsS70.drewN | apply IsS70.drew | apply IsS70.set_1 | refine IsS70.far ?_ NB0_101.out _) | exact HI0.out))) : gb102 ≠ g)); replace HI0 := am_ (IsS70.below (by repeat (first | (with_reducible first | exact HI0.out | apply IsS70.alloc | apply IsS70.drewN | apply IsS70.drew | apply IsS70.set_1 | refine IsS70.far ?_ NB0_101.out _) | exact HI0.out)) hb); clear hb hbox hg) | ((with_reducible refine gate_callee (f := 44) rfl ?_); refine goesL_ (some 8) rfl rfl Try.func44 (by kernel_rfl) rfl #[.pointer (some ⟨g, 0, none⟩)] rfl (by simp only [List.map_toArray, List.map_cons, List.map_nil]; rfl) ?_; (with_reducible refine (spec_anyImage.calls k g s0_0 s0_1 t103 t104 t105 t106 t109 w0 _ ?side1 ?side2 A2.out).mono ?_); (case side1 => repeat (first | (with_reducible first | exact HI0.out | apply IsS70.alloc | apply IsS70.drewN | apply IsS70.drew | apply IsS70.set_1 | refine IsS70.far ?_ NB0_101.out _ | refine IsS70.far ?_ NB0_102.out _) | exact HI0.out)); (case side2 => repeat (first | (with_reducible first | exact HB.out | apply below_alloc | apply pw_below_drewN | apply below_drew1 | refine below_set ?_ (IsS70.ge HI0.out) | refine below_set ?_ GE101.out | refine below_set ?_ GE102.out) | exact HB.out)); rintro e w7 ⟨v107, rfl, ho0, hi, hb, hk⟩; refine ⟨_, rfl, ?_⟩; replace BK101 := am_ (KeepBut.blk hk (by exact BK101.out) NB101_0.out (by simp)); replace BK102 := am_ (KeepBut.blk hk (by exact BK102.out) NB102_0.out (by simp)); have HO108 := am_ (Kd.Q_lower ho0 (keep_size (w := w) (g := g) (row := none) (by repeat (first | (with_reducible first | exact HK.out | apply KeepBut.set_ | apply keep_drewN | apply keep_drew | apply keep_alloc | refine keep_far ?_ GW101.out _ | refine keep_far ?_ GW102.out _) | exact HK.out)))); replace HK := am_ (KeepBut.trans (by repeat (first | (with_reducible first | exact HK.out | apply KeepBut.set_ | apply keep_drewN | apply keep_drew | apply keep_alloc | refine keep_far ?_ GW101.out _ | refine keep_far ?_ GW102.out _) | exact HK.out)) hk (.inl rfl)); replace HB := am_ (hb); replace HI0 := am_ (hi); (try clear hb); (try clear hb2); (try clear hk); (try clear hi); (try clear ho0)) | ((with_reducible refine gate_dst (N := 4) rfl ?_); (try (refine gate_guard (by rfl) ?_; dsimp only)); refine box_event ?hg (N := 4) ?hd (cs := #[.int .i64 0, .int .i64 0, .int .i64 0, .slice none 0 0]) (t := 25) ?hr ?_; (case hd => rfl); (case hg => rfl); (case hr => first | (go_simp; done) | (go_simp; rfl)); intro gb110 hg w8 hbox hb; replace HO108 := am_ (Kd.Q_below (by exact HO108.out) hb); replace HB := am_ (below_step (by repeat (first | (with_reducible first | exact HB.out | apply below_alloc | apply pw_below_drewN | apply below_drew1 | refine below_set ?_ (IsS70.ge HI0.out) | refine below_set ?_ GE101.out | refine below_set ?_ GE102.out) | exact HB.out)) hb); have BK110 := am_ (hbox); have GW110 := am_ ((by rw [hg]; exact (keep_size (w := w) (g := g) (row := none) (by repeat (first | (with_reducible first | exact HK.out | apply KeepBut.set_ | apply keep_drewN | apply keep_drew | apply keep_alloc | refine keep_far ?_ GW101.out _ | refine keep_far ?_ GW102.out _) | exact HK.out))) : w.heap.size ≤ gb110)); have GE110 := am_ ((Nat.le_trans HW0.out (by rw [hg]; exact (keep_size (w := w) (g := g) (row := none) (by repeat (first | (with_reducible first | exact HK.out | apply KeepBut.set_ | apply keep_drewN | apply keep_drew | apply keep_alloc | refine keep_far ?_ GW101.out _ | refine keep_far ?_ GW102.out _) | exact HK.out))) : w.heap.size ≤ gb110) : w0.heap.size ≤ gb110)); replace HK := am_ (KeepBut.trans (by repeat (first | (with_reducible first | exact HK.out | apply KeepBut.set_ | apply keep_drewN | apply keep_drew | apply keep_alloc | refine keep_far ?_ GW101.out _ | refine keep_far ?_ GW102.out _) | exact HK.out)) (KeepBut.of_below hb g none) (.inl rfl)); have NB101_110 := am_ ((by rw [hg]; exact Nat.ne_of_lt (blk_lt (by exact BK101.out)) : gb101 ≠ gb110)); have NB110_101 := am_ ((by rw [hg]; exact Nat.ne_of_gt (blk_lt (by exact BK101.out)) : gb110 ≠ gb101)); replace BK101 := am_ (blk_below (by exact BK101.out) hb); have NB102_110 := am_ ((by rw [hg]; exact Nat.ne_of_lt (blk_lt (by exact BK102.out)) : gb102 ≠ gb110)); have NB110_102 := am_ ((by rw [hg]; exact Nat.ne_of_gt (blk_lt (by exact BK102.out)) : gb110 ≠ gb102)); replace BK102 := am_ (blk_below (by exact BK102.out) hb); have NB0_110 := am_ ((by rw [hg]; exact Nat.ne_of_lt (IsS70.lt (show IsS70 w0 _ g s0_0 t109 from by repeat (first | (with_reducible first | exact HI0.out | apply IsS70.alloc | apply IsS70.drewN | apply IsS70.drew | apply IsS70.set_1 | refine IsS70.far ?_ NB0_101.out _ | refine IsS70.far ?_ NB0_102.out _) | exact HI0.out))) : g ≠ gb110)); have NB110_0 := am_ ((by rw [hg]; exact Nat.ne_of_gt (IsS70.lt (show IsS70 w0 _ g s0_0 t109 from by repeat (first | (with_reducible first | exact HI0.out | apply IsS70.alloc | apply IsS70.drewN | apply IsS70.drew | apply IsS70.set_1 | refine IsS70.far ?_ NB0_101.out _ | refine IsS70.far ?_ NB0_102.out _) | exact HI0.out))) : gb110 ≠ g)); replace HI0 := am_ (IsS70.below (by repeat (first | (with_reducible first | exact HI0.out | apply IsS70.alloc | apply IsS70.drewN | apply IsS70.drew | apply IsS70.set_1 | refine IsS70.far ?_ NB0_101.out _ | refine IsS70.far ?_ NB0_102.out _) | exact HI0.out)) hb); clear hb hbox hg; have hnb9 := NB110_101.out; have hnc9 := NB101_110.out; have hnb10 := NB110_102.out; have hnc10 := NB102_110.out; have hnb11 := NB110_0.out; have hnc11 := NB0_110.out; obtain ⟨hcz12_0, hcz12_1, hcz12_2, hcz12_3, hfz12_0, hfz12_1, hfz12_2, hfz12_3⟩ := blk4_ BK110.out; obtain ⟨Ao13, co13, eo13, _⟩ := Kd.Q_slice HO108.out; subst eo13))
 have n0_ : Aside0 (Kd.Q (Kd.int .i64) 3 ((((w8.setCell ⟨gb110, 0, none⟩ (.int .i64 t103)).setCell ⟨gb110, 1, none⟩ (.int .i64 t104)).setCell ⟨gb110, 2, none⟩ (.int .i64 t105)).setCell ⟨gb110, 3, none⟩ (.slice Ao13 t106.length co13)) w.heap.size (fun _ => True) (.slice Ao13 t106.length co13) t106) := ⟨by exact Kd.Q_mono (Kd.Q_far (p := ⟨gb110, 3, none⟩) (Kd.Q_far (p := ⟨gb110, 2, none⟩) (Kd.Q_far (p := ⟨gb110, 1, none⟩) (Kd.Q_far (p := ⟨gb110, 0, none⟩) (Kd.Q_types HO108.out BK110.out (by decide)) (fun _ hk => hk.2) (.int .i64 t103)) (fun _ hk => hk.2) (.int .i64 t104)) (fun _ hk => hk.2) (.int .i64 t105)) (fun _ hk => hk.2) (.slice Ao13 t106.length co13)) (fun _ hk => trivial)⟩
 have n1_ : Aside0 (((((w8.setCell ⟨gb110, 0, none⟩ (.int .i64 t103)).setCell ⟨gb110, 1, none⟩ (.int .i64 t104)).setCell ⟨gb110, 2, none⟩ (.int .i64 t105)).setCell ⟨gb110, 3, none⟩ (.slice Ao13 t106.length co13)).heap[gb101]? = some (.cells #[.int .i64 0, .int .i64 0, .int .i64 0, .slice none 0 0] 25 (0, 0))) := ⟨by exact far4_ BK101.out NB101_110.out _ _ _ _⟩
 have n2_ : Aside0 (((((w8.setCell ⟨gb110, 0, none⟩ (.int .i64 t103)).setCell ⟨gb110, 1, none⟩ (.int .i64 t104)).setCell ⟨gb110, 2, none⟩ (.int .i64 t105)).setCell ⟨gb110, 3, none⟩ (.slice Ao13 t106.length co13)).heap[gb102]? = some (.cells #[.int .i64 0, .int .i64 0, .int .i64 0, .slice none 0 0] 25 (0, 0))) := ⟨by exact far4_ BK102.out NB102_110.out _ _ _ _⟩
 have n3_ : Aside0 (((((w8.setCell ⟨gb110, 0, none⟩ (.int .i64 t103)).setCell ⟨gb110, 1, none⟩ (.int .i64 t104)).setCell ⟨gb110, 2, none⟩ (.int .i64 t105)).setCell ⟨gb110, 3, none⟩ (.slice Ao13 t106.length co13)).heap[gb110]? = some (.cells #[.int .i64 t103, .int .i64 t104, .int .i64 t105, .slice Ao13 t106.length co13] 25 (0, 0))) := ⟨by exact put4_ BK110.out _ _ _ _⟩
 have n4_ : Aside0 (IsS70 w0 ((((w8.setCell ⟨gb110, 0, none⟩ (.int .i64 t103)).setCell ⟨gb110, 1, none⟩ (.int .i64 t104)).setCell ⟨gb110, 2, none⟩ (.int .i64 t105)).setCell ⟨gb110, 3, none⟩ (.slice Ao13 t106.length co13)) g s0_0 t109) := ⟨by repeat (first | (with_reducible first | exact HI0.out | apply IsS70.alloc | apply IsS70.drewN | apply IsS70.drew | apply IsS70.set_1 | refine IsS70.far ?_ NB0_101.out _ | refine IsS70.far ?_ NB0_102.out _ | refine IsS70.far ?_ NB0_110.out _) | exact HI0.out)⟩
 have n5_ : Aside0 (KeepBut w ((((w8.setCell ⟨gb110, 0, none⟩ (.int .i64 t103)).setCell ⟨gb110, 1, none⟩ (.int .i64 t104)).setCell ⟨gb110, 2, none⟩ (.int .i64 t105)).setCell ⟨gb110, 3, none⟩ (.slice Ao13 t106.length co13)) g none) := ⟨by repeat (first | (with_reducible first | exact HK.out | apply KeepBut.set_ | apply keep_drewN | apply keep_drew | apply keep_alloc | refine keep_far ?_ GW101.out _ | refine keep_far ?_ GW102.out _ | refine keep_far ?_ GW110.out _) | exact HK.out)⟩
 have n6_ : Aside0 (Below w0.heap.size w0 ((((w8.setCell ⟨gb110, 0, none⟩ (.int .i64 t103)).setCell ⟨gb110, 1, none⟩ (.int .i64 t104)).setCell ⟨gb110, 2, none⟩ (.int .i64 t105)).setCell ⟨gb110, 3, none⟩ (.slice Ao13 t106.length co13))) := ⟨by repeat (first | (with_reducible first | exact HB.out | apply below_alloc | apply pw_below_drewN | apply below_drew1 | refine below_set ?_ (IsS70.ge HI0.out) | refine below_set ?_ GE101.out | refine below_set ?_ GE102.out | refine below_set ?_ GE110.out) | exact HB.out)⟩
 (try clear HO108)
 (try clear BK101)
 (try clear BK102)
 (try clear BK110)
 (try clear HI0)
 (try clear HK)
 (try clear HB)
 generalize ((((w8.setCell ⟨gb110, 0, none⟩ (.int .i64 t103)).setCell ⟨gb110, 1, none⟩ (.int .i64 t104)).setCell ⟨gb110, 2, none⟩ (.int .i64 t105)).setCell ⟨gb110, 3, none⟩ (.slice Ao13 t106.length co13)) = w14 at n0_ n1_ n2_ n3_ n4_ n5_ n6_ ⊢
 have HO108 := n0_
 have BK101 := n1_
 have BK102 := n2_
 have BK110 := n3_
 have HI0 := n4_
 have HK := n5_
 have HB := n6_
 clear n0_ n1_ n2_ n3_ n4_ n5_ n6_
 replace HO108 := am_ (Kd.Q_drew HO108.out)
 replace BK101 := am_ (blk_drew BK101.out)
 replace BK102 := am_ (blk_drew BK102.out)
 replace BK110 := am_ (blk_drew BK110.out)
 replace HI0 := am_ (IsS70.drew HI0.out)
 replace HK := am_ (keep_drew HK.out)
 replace HB := am_ (below_drew1 HB.out)
 refine start_ (n := 12) (S := fun w' => w'.cell? ⟨gb110, 0, none⟩ = some (.int .i64 t103) ∧ w'.cell? ⟨gb110, 1, none⟩ = some (.int .i64 t104) ∧ w'.cell? ⟨gb110, 2, none⟩ = some (.int .i64 t105) ∧ w'.cell? ⟨gb110, 3, none⟩ = some (.slice Ao13 t106.length co13)) (ds := []) #[false, false, false, false, false, false, false, false, false, false, false, false] (by kernel_rfl) rfl rfl ⟨(blk_cell BK110.out 0).trans rfl, (blk_cell BK110.out 1).trans rfl, (blk_cell BK110.out 2).trans rfl, (blk_cell BK110.out 3).trans rfl⟩ (fun hHeld => ?_); refine with_tabW spec_twoImages.tab2 spec_twoImages.bits2 (fun HT_ HW_ => ?_)
 generalize w14.drew = w15 at HO108 BK101 BK102 BK110 HI0 HK HB hHeld ⊢
 refine pure_ (i := 0) (N := some 9) (v := ?_) (a' := ?_) #[true, false, false, false, false, false, false, false, false, false, false, false] rfl rfl (any_of HT_.out (by kernel_rfl)) (fun _ _ _ h => h) (Or.inl ⟨by rfl, ?_⟩) ?_ ?_
 rotate_left
 ·
  intro w'
  go_simp
  with_reducible rfl
 rotate_left
 ·
  simp only [Act.put, List.setIfInBounds_toArray, List.set_cons_zero, List.set_cons_succ, i64_w, i32_w]
  rfl
 refine pure_ (i := 2) (N := some 11) (v := ?_) (a' := ?_) #[true, false, true, false, false, false, false, false, false, false, false, false] rfl rfl (any_of HT_.out (by kernel_rfl)) (fun _ _ _ h => h) (Or.inl ⟨by rfl, ?_⟩) ?_ ?_
 rotate_left
 ·
  intro w'
  go_simp
  with_reducible rfl
 rotate_left
 ·
  simp only [Act.put, List.setIfInBounds_toArray, List.set_cons_zero, List.set_cons_succ, i64_w, i32_w]
  rfl
 refine pure_ (i := 4) (N := some 13) (v := ?_) (a' := ?_) #[true, false, true, false, true, false, false, false, false, false, false, false] rfl rfl (any_of HT_.out (by kernel_rfl)) (fun _ _ _ h => h) (Or.inl ⟨by rfl, ?_⟩) ?_ ?_
 rotate_left
 ·
  intro w'
  go_simp
  with_reducible rfl
 rotate_left
 ·
  simp only [Act.put, List.setIfInBounds_toArray, List.set_cons_zero, List.set_cons_succ, i64_w, i32_w]
  rfl
 refine pure_ (i := 6) (N := some 15) (v := ?_) (a' := ?_) #[true, false, true, false, true, false, true, false, false, false, false, false] rfl rfl (any_of HT_.out (by kernel_rfl)) (fun _ _ _ h => h) (Or.inl ⟨by rfl, ?_⟩) ?_ ?_
 rotate_left
 ·
  intro w'
  go_simp
  with_reducible rfl
 rotate_left
 ·
  simp only [Act.put, List.setIfInBounds_toArray, List.set_cons_zero, List.set_cons_succ, i64_w, i32_w]
  rfl
 refine take_ (i := 1) (N := some 10) (v := ?_) (a' := ?_) #[true, true, true, false, true, false, true, false, false, false, false, false] rfl rfl (take_ofW HT_.out HW_.out (by kernel_rfl)) (fun _ _ _ h => h) (Or.inl ⟨by rfl, ?_⟩) hHeld ?_ ?_
 rotate_left
 ·
  rintro w' ⟨s0, s1, s2, s3⟩
  go_simp
  with_reducible rfl
 rotate_left
 ·
  simp only [Act.put, List.setIfInBounds_toArray, List.set_cons_zero, List.set_cons_succ, i64_w, i32_w]
  rfl
 refine take_ (i := 3) (N := some 12) (v := ?_) (a' := ?_) #[true, true, true, true, true, false, true, false, false, false, false, false] rfl rfl (take_ofW HT_.out HW_.out (by kernel_rfl)) (fun _ _ _ h => h) (Or.inl ⟨by rfl, ?_⟩) hHeld ?_ ?_
 rotate_left
 ·
  rintro w' ⟨s0, s1, s2, s3⟩
  go_simp
  with_reducible rfl
 rotate_left
 ·
  simp only [Act.put, List.setIfInBounds_toArray, List.set_cons_zero, List.set_cons_succ, i64_w, i32_w]
  rfl
 refine take_ (i := 5) (N := some 14) (v := ?_) (a' := ?_) #[true, true, true, true, true, true, true, false, false, false, false, false] rfl rfl (take_ofW HT_.out HW_.out (by kernel_rfl)) (fun _ _ _ h => h) (Or.inl ⟨by rfl, ?_⟩) hHeld ?_ ?_
 rotate_left
 ·
  rintro w' ⟨s0, s1, s2, s3⟩
  go_simp
  with_reducible rfl
 rotate_left
 ·
  simp only [Act.put, List.setIfInBounds_toArray, List.set_cons_zero, List.set_cons_succ, i64_w, i32_w]
  rfl
 refine take_ (i := 7) (N := some 16) (v := ?_) (a' := ?_) #[true, true, true, true, true, true, true, true, false, false, false, false] rfl rfl (take_ofW HT_.out HW_.out (by kernel_rfl)) (fun _ _ _ h => h) (Or.inl ⟨by rfl, ?_⟩) hHeld ?_ ?_
 rotate_left
 ·
  rintro w' ⟨s0, s1, s2, s3⟩
  go_simp
  with_reducible rfl
 rotate_left
 ·
  simp only [Act.put, List.setIfInBounds_toArray, List.set_cons_zero, List.set_cons_succ, i64_w, i32_w]
  rfl
 refine join_ (σ := Value × Nat) 1 #[true, true, true, true, true, true, true, true, true, true, true, false] (fun s_ => [(17, s_.1), (5, .pointer (some ⟨s_.2, 0, none⟩)), (18, .agg #[.int .i64 t103, .int .i64 t104, .int .i64 t105, s_.1])]) (fun s_ w' => (w'.cell? ⟨gb110, 0, none⟩ = some (.int .i64 t103) ∧ w'.cell? ⟨gb110, 1, none⟩ = some (.int .i64 t104) ∧ w'.cell? ⟨gb110, 2, none⟩ = some (.int .i64 t105) ∧ w'.cell? ⟨gb110, 3, none⟩ = some (.slice Ao13 t106.length co13)) ∧ (Kd.Q (Kd.int .i64) 3 w' w.heap.size (fun k_ => some k_ ≠ (s_.1 : Value).ownBlock) (.slice Ao13 t106.length co13) t106) ∧ (Kd.R (Kd.int .i64) 3 w' w.heap.size (fun k_ => some k_ ≠ (.slice Ao13 t106.length co13 : Value).ownBlock) s_.1 t111) ∧ (w'.heap[gb101]? = some (.cells #[.int .i64 0, .int .i64 0, .int .i64 0, .slice none 0 0] 25 (0, 0))) ∧ (w'.heap[gb102]? = some (.cells #[.int .i64 0, .int .i64 0, .int .i64 0, .slice none 0 0] 25 (0, 0))) ∧ (w'.heap[gb110]? = some (.cells #[.int .i64 t103, .int .i64 t104, .int .i64 t105, .slice Ao13 t106.length co13] 25 (0, 0))) ∧ (w'.heap[s_.2]? = some (.cells #[.int .i64 0, .int .i64 0, .int .i64 0, .slice none 0 0] 25 (0, 0))) ∧ (w.heap.size ≤ s_.2) ∧ (w0.heap.size ≤ s_.2) ∧ (g ≠ s_.2) ∧ (s_.2 ≠ g) ∧ (gb101 ≠ s_.2) ∧ (s_.2 ≠ gb101) ∧ (gb102 ≠ s_.2) ∧ (s_.2 ≠ gb102) ∧ (gb110 ≠ s_.2) ∧ (s_.2 ≠ gb110) ∧ (IsS70 w0 w' g s0_0 t109) ∧ (KeepBut w w' g none) ∧ (Below w0.heap.size w0 w')) ?_ ?_
 rotate_left
 ·
  intro hCont
  refine two_ (i := 8) (j := 10) (Ni := some 17) (Nj := some 5) #[true, true, true, true, true, true, true, true, true, false, false, false] #[true, true, true, true, true, true, true, true, false, false, true, false] rfl rfl rfl rfl (two_of HT_.out (by kernel_rfl)) (by decide) (by decide) (fun K hK => ?_) (fun K hK => ?_)
  ·
   skip
   refine goes_ Try.func45 (by kernel_rfl) rfl #[.slice Ao13 t106.length co13] (by rfl) rfl rfl (by simp only [List.map_toArray, List.map_cons, List.map_nil]; rfl) ?_
   with_reducible refine (spec_copyInts.calls _ _ t106 t111 _ ?side1 ?side2 A3.out).mono ?_
   (case side1 => repeat (first | exact (Kd.Q_reads' HO108.out).2.2 | (with_reducible refine Kd.C_alloc ?_ _) | (with_reducible refine Kd.C_drewN ?_ _) | (with_reducible refine Kd.C_drew ?_)))
   (case side2 => exact (Kd.Q_reads' HO108.out).2.1)
   rintro e w16 ⟨v112, rfl, ho0, hb⟩
   refine ⟨_, rfl, ?_⟩
   have HO113 := am_ (Kd.R_lower (Kd.R_new' ho0 (Kd.Q_lt (by exact HO108.out))) (keep_size (w := w) (g := g) (row := none) (by repeat (first | (with_reducible first | exact HK.out | apply KeepBut.set_ | apply keep_drewN | apply keep_drew | apply keep_alloc | refine keep_far ?_ GW101.out _ | refine keep_far ?_ GW102.out _ | refine keep_far ?_ GW110.out _) | exact HK.out))))
   replace HO108 := am_ (Kd.Q_elder' (by exact HO108.out) (Kd.R_base ho0) hb)
   replace BK101 := am_ (blk_below (by exact BK101.out) hb)
   replace BK102 := am_ (blk_below (by exact BK102.out) hb)
   replace BK110 := am_ (blk_below (by exact BK110.out) hb)
   replace HK := am_ (KeepBut.trans (by repeat (first | (with_reducible first | exact HK.out | apply KeepBut.set_ | apply keep_drewN | apply keep_drew | apply keep_alloc | refine keep_far ?_ GW101.out _ | refine keep_far ?_ GW102.out _ | refine keep_far ?_ GW110.out _) | exact HK.out)) (KeepBut.of_below hb g none) (.inl rfl))
   replace HB := am_ (below_step (by repeat (first | (with_reducible first | exact HB.out | apply below_alloc | apply pw_below_drewN | apply below_drew1 | refine below_set ?_ (IsS70.ge HI0.out) | refine below_set ?_ GE101.out | refine below_set ?_ GE102.out | refine below_set ?_ GE110.out) | exact HB.out)) hb)
   replace HI0 := am_ (IsS70.below (by repeat (first | (with_reducible first | exact HI0.out | apply IsS70.alloc | apply IsS70.drewN | apply IsS70.drew | apply IsS70.set_1 | refine IsS70.far ?_ NB0_101.out _ | refine IsS70.far ?_ NB0_102.out _ | refine IsS70.far ?_ NB0_110.out _) | exact HI0.out)) hb)
   (try clear hb)
   (try clear hb2)
   (try clear hk)
   (try clear hi)
   (try clear ho0)
   obtain ⟨Ao17, co17, eo17⟩ := Kd.R_slice HO113.out
   (first | subst eo17 | (injection eo17 with f1_ f2_ f3_; have f4_ := f1_.symm; have f5_ := f3_.symm; clear f1_ f2_ f3_; subst f4_; subst f5_))
   refine hK.out _ _ ⟨(blk_cell BK110.out 0).trans rfl, (blk_cell BK110.out 1).trans rfl, (blk_cell BK110.out 2).trans rfl, (blk_cell BK110.out 3).trans rfl⟩ (fun hHeld => ?_)
   clear hK K
   refine norm_ (a' := ?_) ?_ ?_
   rotate_left
   ·
    show Act.put _ (some 17) _ = _
    simp only [Act.put, List.setIfInBounds_toArray, List.set_cons_zero, List.set_cons_succ, i64_w, i32_w]
    rfl
   refine pure_ (i := 9) (N := some 18) (v := ?_) (a' := ?_) #[true, true, true, true, true, true, true, true, true, true, false, false] rfl rfl (any_of HT_.out (by kernel_rfl)) (fun _ _ _ h => h) (Or.inl ⟨by rfl, ?_⟩) ?_ ?_
   rotate_left
   ·
    intro w'
    go_simp
    with_reducible rfl
   rotate_left
   ·
    simp only [Act.put, List.setIfInBounds_toArray, List.set_cons_zero, List.set_cons_succ, i64_w, i32_w]
    rfl
   refine one_ (i := 10) (N := some 5) #[true, true, true, true, true, true, true, true, true, true, true, false] rfl rfl (one_of HT_.out (by kernel_rfl)) (by decide) (fun K hK => ?_)
   refine box_step ?hg (N := 5) ?hd (cs := #[.int .i64 0, .int .i64 0, .int .i64 0, .slice none 0 0]) (t := 25) ?hr ?_; (case hd => rfl); (case hg => rfl); (case hr => first | (go_simp; done) | (go_simp; rfl))
   intro gb114 hg w18 hbox hb
   replace HO108 := am_ (Kd.Q_below (by exact HO108.out) hb)
   replace HO113 := am_ (Kd.R_below (by exact HO113.out) hb)
   replace HB := am_ (below_step (by repeat (first | (with_reducible first | exact HB.out | apply below_alloc | apply pw_below_drewN | apply below_drew1 | refine below_set ?_ (IsS70.ge HI0.out) | refine below_set ?_ GE101.out | refine below_set ?_ GE102.out | refine below_set ?_ GE110.out) | exact HB.out)) hb)
   have BK114 := am_ (hbox)
   have GW114 := am_ ((by rw [hg]; exact (keep_size (w := w) (g := g) (row := none) (by repeat (first | (with_reducible first | exact HK.out | apply KeepBut.set_ | apply keep_drewN | apply keep_drew | apply keep_alloc | refine keep_far ?_ GW101.out _ | refine keep_far ?_ GW102.out _ | refine keep_far ?_ GW110.out _) | exact HK.out))) : w.heap.size ≤ gb114))
   have GE114 := am_ ((Nat.le_trans HW0.out (by rw [hg]; exact (keep_size (w := w) (g := g) (row := none) (by repeat (first | (with_reducible first | exact HK.out | apply KeepBut.set_ | apply keep_drewN | apply keep_drew | apply keep_alloc | refine keep_far ?_ GW101.out _ | refine keep_far ?_ GW102.out _ | refine keep_far ?_ GW110.out _) | exact HK.out))) : w.heap.size ≤ gb114) : w0.heap.size ≤ gb114))
   replace HK := am_ (KeepBut.trans (by repeat (first | (with_reducible first | exact HK.out | apply KeepBut.set_ | apply keep_drewN | apply keep_drew | apply keep_alloc | refine keep_far ?_ GW101.out _ | refine keep_far ?_ GW102.out _ | refine keep_far ?_ GW110.out _) | exact HK.out)) (KeepBut.of_below hb g none) (.inl rfl))
   have NB101_114 := am_ ((by rw [hg]; exact Nat.ne_of_lt (blk_lt (by exact BK101.out)) : gb101 ≠ gb114))
   have NB114_101 := am_ ((by rw [hg]; exact Nat.ne_of_gt (blk_lt (by exact BK101.out)) : gb114 ≠ gb101))
   replace BK101 := am_ (blk_below (by exact BK101.out) hb)
   have NB102_114 := am_ ((by rw [hg]; exact Nat.ne_of_lt (blk_lt (by exact BK102.out)) : gb102 ≠ gb114))
   have NB114_102 := am_ ((by rw [hg]; exact Nat.ne_of_gt (blk_lt (by exact BK102.out)) : gb114 ≠ gb102))
   replace BK102 := am_ (blk_below (by exact BK102.out) hb)
   have NB110_114 := am_ ((by rw [hg]; exact Nat.ne_of_lt (blk_lt (by exact BK110.out)) : gb110 ≠ gb114))
   have NB114_110 := am_ ((by rw [hg]; exact Nat.ne_of_gt (blk_lt (by exact BK110.out)) : gb114 ≠ gb110))
   replace BK110 := am_ (blk_below (by exact BK110.out) hb)
   have NB0_114 := am_ ((by rw [hg]; exact Nat.ne_of_lt (IsS70.lt (show IsS70 w0 _ g s0_0 t109 from by repeat (first | (with_reducible first | exact HI0.out | apply IsS70.alloc | apply IsS70.drewN | apply IsS70.drew | apply IsS70.set_1 | refine IsS70.far ?_ NB0_101.out _ | refine IsS70.far ?_ NB0_102.out _ | refine IsS70.far ?_ NB0_110.out _) | exact HI0.out))) : g ≠ gb114))
   have NB114_0 := am_ ((by rw [hg]; exact Nat.ne_of_gt (IsS70.lt (show IsS70 w0 _ g s0_0 t109 from by repeat (first | (with_reducible first | exact HI0.out | apply IsS70.alloc | apply IsS70.drewN | apply IsS70.drew | apply IsS70.set_1 | refine IsS70.far ?_ NB0_101.out _ | refine IsS70.far ?_ NB0_102.out _ | refine IsS70.far ?_ NB0_110.out _) | exact HI0.out))) : gb114 ≠ g))
   replace HI0 := am_ (IsS70.below (by repeat (first | (with_reducible first | exact HI0.out | apply IsS70.alloc | apply IsS70.drewN | apply IsS70.drew | apply IsS70.set_1 | refine IsS70.far ?_ NB0_101.out _ | refine IsS70.far ?_ NB0_102.out _ | refine IsS70.far ?_ NB0_110.out _) | exact HI0.out)) hb)
   clear hb hbox hg
   refine hK.out _ _ ⟨(blk_cell BK110.out 0).trans rfl, (blk_cell BK110.out 1).trans rfl, (blk_cell BK110.out 2).trans rfl, (blk_cell BK110.out 3).trans rfl⟩ (fun hHeld => ?_)
   clear hK K
   refine norm_ (a' := ?_) ?_ ?_
   rotate_left
   ·
    show Act.put _ (some 5) _ = _
    simp only [Act.put, List.setIfInBounds_toArray, List.set_cons_zero, List.set_cons_succ, i64_w, i32_w]
    rfl
   exact norm_ (by simp only [putAll, Act.put, List.setIfInBounds_toArray, List.set_cons_zero, List.set_cons_succ]) (hCont (.slice Ao17 t111.length co17, gb114) _ ⟨hHeld, (by exact Kd.Q_mono HO108.out (fun _ hk => hk.2)), (by exact Kd.R_mono HO113.out (fun _ hk => hk.2)), (by exact BK101.out), (by exact BK102.out), (by exact BK110.out), (by exact BK114.out), GW114.out, GE114.out, NB0_114.out, NB114_0.out, NB101_114.out, NB114_101.out, NB102_114.out, NB114_102.out, NB110_114.out, NB114_110.out, (by repeat (first | (with_reducible first | exact HI0.out | apply IsS70.alloc | apply IsS70.drewN | apply IsS70.drew | apply IsS70.set_1 | refine IsS70.far ?_ NB0_101.out _ | refine IsS70.far ?_ NB0_102.out _ | refine IsS70.far ?_ NB0_110.out _ | refine IsS70.far ?_ NB0_114.out _) | exact HI0.out)), (by repeat (first | (with_reducible first | exact HK.out | apply KeepBut.set_ | apply keep_drewN | apply keep_drew | apply keep_alloc | refine keep_far ?_ GW101.out _ | refine keep_far ?_ GW102.out _ | refine keep_far ?_ GW110.out _ | refine keep_far ?_ GW114.out _) | exact HK.out)), (by repeat (first | (with_reducible first | exact HB.out | apply below_alloc | apply pw_below_drewN | apply below_drew1 | refine below_set ?_ (IsS70.ge HI0.out) | refine below_set ?_ GE101.out | refine below_set ?_ GE102.out | refine below_set ?_ GE110.out | refine below_set ?_ GE114.out) | exact HB.out))⟩)
  skip
  refine box_step ?hg (N := 5) ?hd (cs := #[.int .i64 0, .int .i64 0, .int .i64 0, .slice none 0 0]) (t := 25) ?hr ?_; (case hd => rfl); (case hg => rfl); (case hr => first | (go_simp; done) | (go_simp; rfl))
  intro gb114 hg w16 hbox hb
  replace HO108 := am_ (Kd.Q_below (by exact HO108.out) hb)
  replace HB := am_ (below_step (by repeat (first | (with_reducible first | exact HB.out | apply below_alloc | apply pw_below_drewN | apply below_drew1 | refine below_set ?_ (IsS70.ge HI0.out) | refine below_set ?_ GE101.out | refine below_set ?_ GE102.out | refine below_set ?_ GE110.out) | exact HB.out)) hb)
  have BK114 := am_ (hbox)
  have GW114 := am_ ((by rw [hg]; exact (keep_size (w := w) (g := g) (row := none) (by repeat (first | (with_reducible first | exact HK.out | apply KeepBut.set_ | apply keep_drewN | apply keep_drew | apply keep_alloc | refine keep_far ?_ GW101.out _ | refine keep_far ?_ GW102.out _ | refine keep_far ?_ GW110.out _) | exact HK.out))) : w.heap.size ≤ gb114))
  have GE114 := am_ ((Nat.le_trans HW0.out (by rw [hg]; exact (keep_size (w := w) (g := g) (row := none) (by repeat (first | (with_reducible first | exact HK.out | apply KeepBut.set_ | apply keep_drewN | apply keep_drew | apply keep_alloc | refine keep_far ?_ GW101.out _ | refine keep_far ?_ GW102.out _ | refine keep_far ?_ GW110.out _) | exact HK.out))) : w.heap.size ≤ gb114) : w0.heap.size ≤ gb114))
  replace HK := am_ (KeepBut.trans (by repeat (first | (with_reducible first | exact HK.out | apply KeepBut.set_ | apply keep_drewN | apply keep_drew | apply keep_alloc | refine keep_far ?_ GW101.out _ | refine keep_far ?_ GW102.out _ | refine keep_far ?_ GW110.out _) | exact HK.out)) (KeepBut.of_below hb g none) (.inl rfl))
  have NB101_114 := am_ ((by rw [hg]; exact Nat.ne_of_lt (blk_lt (by exact BK101.out)) : gb101 ≠ gb114))
  have NB114_101 := am_ ((by rw [hg]; exact Nat.ne_of_gt (blk_lt (by exact BK101.out)) : gb114 ≠ gb101))
  replace BK101 := am_ (blk_below (by exact BK101.out) hb)
  have NB102_114 := am_ ((by rw [hg]; exact Nat.ne_of_lt (blk_lt (by exact BK102.out)) : gb102 ≠ gb114))
  have NB114_102 := am_ ((by rw [hg]; exact Nat.ne_of_gt (blk_lt (by exact BK102.out)) : gb114 ≠ gb102))
  replace BK102 := am_ (blk_below (by exact BK102.out) hb)
  have NB110_114 := am_ ((by rw [hg]; exact Nat.ne_of_lt (blk_lt (by exact BK110.out)) : gb110 ≠ gb114))
  have NB114_110 := am_ ((by rw [hg]; exact Nat.ne_of_gt (blk_lt (by exact BK110.out)) : gb114 ≠ gb110))
  replace BK110 := am_ (blk_below (by exact BK110.out) hb)
  have NB0_114 := am_ ((by rw [hg]; exact Nat.ne_of_lt (IsS70.lt (show IsS70 w0 _ g s0_0 t109 from by repeat (first | (with_reducible first | exact HI0.out | apply IsS70.alloc | apply IsS70.drewN | apply IsS70.drew | apply IsS70.set_1 | refine IsS70.far ?_ NB0_101.out _ | refine IsS70.far ?_ NB0_102.out _ | refine IsS70.far ?_ NB0_110.out _) | exact HI0.out))) : g ≠ gb114))
  have NB114_0 := am_ ((by rw [hg]; exact Nat.ne_of_gt (IsS70.lt (show IsS70 w0 _ g s0_0 t109 from by repeat (first | (with_reducible first | exact HI0.out | apply IsS70.alloc | apply IsS70.drewN | apply IsS70.drew | apply IsS70.set_1 | refine IsS70.far ?_ NB0_101.out _ | refine IsS70.far ?_ NB0_102.out _ | refine IsS70.far ?_ NB0_110.out _) | exact HI0.out))) : gb114 ≠ g))
  replace HI0 := am_ (IsS70.below (by repeat (first | (with_reducible first | exact HI0.out | apply IsS70.alloc | apply IsS70.drewN | apply IsS70.drew | apply IsS70.set_1 | refine IsS70.far ?_ NB0_101.out _ | refine IsS70.far ?_ NB0_102.out _ | refine IsS70.far ?_ NB0_110.out _) | exact HI0.out)) hb)
  clear hb hbox hg
  refine hK.out _ _ ⟨(blk_cell BK110.out 0).trans rfl, (blk_cell BK110.out 1).trans rfl, (blk_cell BK110.out 2).trans rfl, (blk_cell BK110.out 3).trans rfl⟩ (fun hHeld => ?_)
  clear hK K
  refine norm_ (a' := ?_) ?_ ?_
  rotate_left
  ·
   show Act.put _ (some 5) _ = _
   simp only [Act.put, List.setIfInBounds_toArray, List.set_cons_zero, List.set_cons_succ, i64_w, i32_w]
   rfl
  refine one_ (i := 8) (N := some 17) #[true, true, true, true, true, true, true, true, true, false, true, false] rfl rfl (one_of HT_.out (by kernel_rfl)) (by decide) (fun K hK => ?_)
  refine goes_ Try.func45 (by kernel_rfl) rfl #[.slice Ao13 t106.length co13] (by rfl) rfl rfl (by simp only [List.map_toArray, List.map_cons, List.map_nil]; rfl) ?_
  with_reducible refine (spec_copyInts.calls _ _ t106 t111 _ ?side1 ?side2 A3.out).mono ?_
  (case side1 => repeat (first | exact (Kd.Q_reads' HO108.out).2.2 | (with_reducible refine Kd.C_alloc ?_ _) | (with_reducible refine Kd.C_drewN ?_ _) | (with_reducible refine Kd.C_drew ?_)))
  (case side2 => exact (Kd.Q_reads' HO108.out).2.1)
  rintro e w17 ⟨v112, rfl, ho0, hb⟩
  refine ⟨_, rfl, ?_⟩
  have HO113 := am_ (Kd.R_lower (Kd.R_new' ho0 (Kd.Q_lt (by exact HO108.out))) (keep_size (w := w) (g := g) (row := none) (by repeat (first | (with_reducible first | exact HK.out | apply KeepBut.set_ | apply keep_drewN | apply keep_drew | apply keep_alloc | refine keep_far ?_ GW101.out _ | refine keep_far ?_ GW102.out _ | refine keep_far ?_ GW110.out _ | refine keep_far ?_ GW114.out _) | exact HK.out))))
  replace HO108 := am_ (Kd.Q_elder' (by exact HO108.out) (Kd.R_base ho0) hb)
  replace BK101 := am_ (blk_below (by exact BK101.out) hb)
  replace BK102 := am_ (blk_below (by exact BK102.out) hb)
  replace BK110 := am_ (blk_below (by exact BK110.out) hb)
  replace BK114 := am_ (blk_below (by exact BK114.out) hb)
  replace HK := am_ (KeepBut.trans (by repeat (first | (with_reducible first | exact HK.out | apply KeepBut.set_ | apply keep_drewN | apply keep_drew | apply keep_alloc | refine keep_far ?_ GW101.out _ | refine keep_far ?_ GW102.out _ | refine keep_far ?_ GW110.out _ | refine keep_far ?_ GW114.out _) | exact HK.out)) (KeepBut.of_below hb g none) (.inl rfl))
  replace HB := am_ (below_step (by repeat (first | (with_reducible first | exact HB.out | apply below_alloc | apply pw_below_drewN | apply below_drew1 | refine below_set ?_ (IsS70.ge HI0.out) | refine below_set ?_ GE101.out | refine below_set ?_ GE102.out | refine below_set ?_ GE110.out | refine below_set ?_ GE114.out) | exact HB.out)) hb)
  replace HI0 := am_ (IsS70.below (by repeat (first | (with_reducible first | exact HI0.out | apply IsS70.alloc | apply IsS70.drewN | apply IsS70.drew | apply IsS70.set_1 | refine IsS70.far ?_ NB0_101.out _ | refine IsS70.far ?_ NB0_102.out _ | refine IsS70.far ?_ NB0_110.out _ | refine IsS70.far ?_ NB0_114.out _) | exact HI0.out)) hb)
  (try clear hb)
  (try clear hb2)
  (try clear hk)
  (try clear hi)
  (try clear ho0)
  obtain ⟨Ao18, co18, eo18⟩ := Kd.R_slice HO113.out
  (first | subst eo18 | (injection eo18 with f1_ f2_ f3_; have f4_ := f1_.symm; have f5_ := f3_.symm; clear f1_ f2_ f3_; subst f4_; subst f5_))
  refine hK.out _ _ ⟨(blk_cell BK110.out 0).trans rfl, (blk_cell BK110.out 1).trans rfl, (blk_cell BK110.out 2).trans rfl, (blk_cell BK110.out 3).trans rfl⟩ (fun hHeld => ?_)
  clear hK K
  refine norm_ (a' := ?_) ?_ ?_
  rotate_left
  ·
   show Act.put _ (some 17) _ = _
   simp only [Act.put, List.setIfInBounds_toArray, List.set_cons_zero, List.set_cons_succ, i64_w, i32_w]
   rfl
  refine pure_ (i := 9) (N := some 18) (v := ?_) (a' := ?_) #[true, true, true, true, true, true, true, true, true, true, true, false] rfl rfl (any_of HT_.out (by kernel_rfl)) (fun _ _ _ h => h) (Or.inl ⟨by rfl, ?_⟩) ?_ ?_
  rotate_left
  ·
   intro w'
   go_simp
   with_reducible rfl
  rotate_left
  ·
   simp only [Act.put, List.setIfInBounds_toArray, List.set_cons_zero, List.set_cons_succ, i64_w, i32_w]
   rfl
  exact norm_ (by simp only [putAll, Act.put, List.setIfInBounds_toArray, List.set_cons_zero, List.set_cons_succ]) (hCont (.slice Ao18 t111.length co18, gb114) _ ⟨hHeld, (by exact Kd.Q_mono HO108.out (fun _ hk => hk.2)), (by exact Kd.R_mono HO113.out (fun _ hk => hk.2)), (by exact BK101.out), (by exact BK102.out), (by exact BK110.out), (by exact BK114.out), GW114.out, GE114.out, NB0_114.out, NB114_0.out, NB101_114.out, NB114_101.out, NB102_114.out, NB114_102.out, NB110_114.out, NB114_110.out, (by repeat (first | (with_reducible first | exact HI0.out | apply IsS70.alloc | apply IsS70.drewN | apply IsS70.drew | apply IsS70.set_1 | refine IsS70.far ?_ NB0_101.out _ | refine IsS70.far ?_ NB0_102.out _ | refine IsS70.far ?_ NB0_110.out _ | refine IsS70.far ?_ NB0_114.out _) | exact HI0.out)), (by repeat (first | (with_reducible first | exact HK.out | apply KeepBut.set_ | apply keep_drewN | apply keep_drew | apply keep_alloc | refine keep_far ?_ GW101.out _ | refine keep_far ?_ GW102.out _ | refine keep_far ?_ GW110.out _ | refine keep_far ?_ GW114.out _) | exact HK.out)), (by repeat (first | (with_reducible first | exact HB.out | apply below_alloc | apply pw_below_drewN | apply below_drew1 | refine below_set ?_ (IsS70.ge HI0.out) | refine below_set ?_ GE101.out | refine below_set ?_ GE102.out | refine below_set ?_ GE110.out | refine below_set ?_ GE114.out) | exact HB.out))⟩)
 rintro ⟨v112, gb114⟩ w19 ⟨hS_, h0_, h1_, h2_, h3_, h4_, h5_, h6_, h7_, h8_, h9_, h10_, h11_, h12_, h13_, h14_, h15_, h16_, h17_, h18_⟩
 have n0_ : Aside0 (Kd.Q (Kd.int .i64) 3 w19 w.heap.size (fun k_ => some k_ ≠ (v112 : Value).ownBlock) (.slice Ao13 t106.length co13) t106) := ⟨h0_⟩
 have n1_ : Aside0 (Kd.R (Kd.int .i64) 3 w19 w.heap.size (fun k_ => some k_ ≠ (.slice Ao13 t106.length co13 : Value).ownBlock) v112 t111) := ⟨h1_⟩
 have n2_ : Aside0 (w19.heap[gb101]? = some (.cells #[.int .i64 0, .int .i64 0, .int .i64 0, .slice none 0 0] 25 (0, 0))) := ⟨h2_⟩
 have n3_ : Aside0 (w19.heap[gb102]? = some (.cells #[.int .i64 0, .int .i64 0, .int .i64 0, .slice none 0 0] 25 (0, 0))) := ⟨h3_⟩
 have n4_ : Aside0 (w19.heap[gb110]? = some (.cells #[.int .i64 t103, .int .i64 t104, .int .i64 t105, .slice Ao13 t106.length co13] 25 (0, 0))) := ⟨h4_⟩
 have n5_ : Aside0 (w19.heap[gb114]? = some (.cells #[.int .i64 0, .int .i64 0, .int .i64 0, .slice none 0 0] 25 (0, 0))) := ⟨h5_⟩
 have n6_ : Aside0 (w.heap.size ≤ gb114) := ⟨h6_⟩
 have n7_ : Aside0 (w0.heap.size ≤ gb114) := ⟨h7_⟩
 have n8_ : Aside0 (g ≠ gb114) := ⟨h8_⟩
 have n9_ : Aside0 (gb114 ≠ g) := ⟨h9_⟩
 have n10_ : Aside0 (gb101 ≠ gb114) := ⟨h10_⟩
 have n11_ : Aside0 (gb114 ≠ gb101) := ⟨h11_⟩
 have n12_ : Aside0 (gb102 ≠ gb114) := ⟨h12_⟩
 have n13_ : Aside0 (gb114 ≠ gb102) := ⟨h13_⟩
 have n14_ : Aside0 (gb110 ≠ gb114) := ⟨h14_⟩
 have n15_ : Aside0 (gb114 ≠ gb110) := ⟨h15_⟩
 have n16_ : Aside0 (IsS70 w0 w19 g s0_0 t109) := ⟨h16_⟩
 have n17_ : Aside0 (KeepBut w w19 g none) := ⟨h17_⟩
 have n18_ : Aside0 (Below w0.heap.size w0 w19) := ⟨h18_⟩
 clear HO108
 clear BK101
 clear BK102
 clear BK110
 clear HI0
 clear HK
 clear HB
 clear h0_ h1_ h2_ h3_ h4_ h5_ h6_ h7_ h8_ h9_ h10_ h11_ h12_ h13_ h14_ h15_ h16_ h17_ h18_
 have HO108 := n0_
 have HO113 := n1_
 have BK101 := n2_
 have BK102 := n3_
 have BK110 := n4_
 have BK114 := n5_
 have GW114 := n6_
 have GE114 := n7_
 have NB0_114 := n8_
 have NB114_0 := n9_
 have NB101_114 := n10_
 have NB114_101 := n11_
 have NB102_114 := n12_
 have NB114_102 := n13_
 have NB110_114 := n14_
 have NB114_110 := n15_
 have HI0 := n16_
 have HK := n17_
 have HB := n18_
 clear n0_ n1_ n2_ n3_ n4_ n5_ n6_ n7_ n8_ n9_ n10_ n11_ n12_ n13_ n14_ n15_ n16_ n17_ n18_
 have hHeld : w19.cell? ⟨gb110, 0, none⟩ = some (.int .i64 t103) ∧ w19.cell? ⟨gb110, 1, none⟩ = some (.int .i64 t104) ∧ w19.cell? ⟨gb110, 2, none⟩ = some (.int .i64 t105) ∧ w19.cell? ⟨gb110, 3, none⟩ = some (.slice Ao13 t106.length co13) := hS_
 obtain ⟨Ao20, co20, eo20⟩ := Kd.R_slice HO113.out
 (first | subst eo20 | (injection eo20 with f1_ f2_ f3_; have f4_ := f1_.symm; have f5_ := f3_.symm; clear f1_ f2_ f3_; subst f4_; subst f5_))
 refine norm_ (a' := ?_) ?_ ?_
 rotate_left
 ·
  simp only [putAll, Act.put, List.setIfInBounds_toArray, List.set_cons_zero, List.set_cons_succ]
  rfl
 refine one_ (i := 11) (N := none) #[true, true, true, true, true, true, true, true, true, true, true, true] rfl rfl (one_of HT_.out (by kernel_rfl)) (by decide) (fun K hK => ?_)
 have hs21 : w19.cell? ⟨gb114, 0, none⟩ = some (.int .i64 0) := (blk_cell BK114.out 0).trans rfl
 have hfs21 := blk_frozen BK114.out 0
 have hns21_0 := NB101_114.out
 have hns21_1 := NB102_114.out
 have hns21_2 := NB110_114.out
 have hms21_0 := NB114_101.out
 have hms21_1 := NB114_102.out
 have hms21_2 := NB114_110.out
 have hs22 : w19.cell? ⟨gb114, 1, none⟩ = some (.int .i64 0) := (blk_cell BK114.out 1).trans rfl
 have hfs22 := blk_frozen BK114.out 1
 have hns22_0 := NB101_114.out
 have hns22_1 := NB102_114.out
 have hns22_2 := NB110_114.out
 have hms22_0 := NB114_101.out
 have hms22_1 := NB114_102.out
 have hms22_2 := NB114_110.out
 have hs23 : w19.cell? ⟨gb114, 2, none⟩ = some (.int .i64 0) := (blk_cell BK114.out 2).trans rfl
 have hfs23 := blk_frozen BK114.out 2
 have hns23_0 := NB101_114.out
 have hns23_1 := NB102_114.out
 have hns23_2 := NB110_114.out
 have hms23_0 := NB114_101.out
 have hms23_1 := NB114_102.out
 have hms23_2 := NB114_110.out
 have hs24 : w19.cell? ⟨gb114, 3, none⟩ = some (.slice none 0 0) := (blk_cell BK114.out 3).trans rfl
 have hfs24 := blk_frozen BK114.out 3
 have hns24_0 := NB101_114.out
 have hns24_1 := NB102_114.out
 have hns24_2 := NB110_114.out
 have hms24_0 := NB114_101.out
 have hms24_1 := NB114_102.out
 have hms24_2 := NB114_110.out
 refine skip_ (w1 := ?_) (by rfl) rfl ?_ ?_
 rotate_left
 ·
  go_simp
  rfl
 refine hK.out _ _ ⟨((cell_far (p := ⟨gb114, _, none⟩) NB110_114.out _).trans (((cell_far (p := ⟨gb114, _, none⟩) NB110_114.out _).trans (((cell_far (p := ⟨gb114, _, none⟩) NB110_114.out _).trans (((cell_far (p := ⟨gb114, _, none⟩) NB110_114.out _).trans (hHeld.1)))))))), ((cell_far (p := ⟨gb114, _, none⟩) NB110_114.out _).trans (((cell_far (p := ⟨gb114, _, none⟩) NB110_114.out _).trans (((cell_far (p := ⟨gb114, _, none⟩) NB110_114.out _).trans (((cell_far (p := ⟨gb114, _, none⟩) NB110_114.out _).trans (hHeld.2.1)))))))), ((cell_far (p := ⟨gb114, _, none⟩) NB110_114.out _).trans (((cell_far (p := ⟨gb114, _, none⟩) NB110_114.out _).trans (((cell_far (p := ⟨gb114, _, none⟩) NB110_114.out _).trans (((cell_far (p := ⟨gb114, _, none⟩) NB110_114.out _).trans (hHeld.2.2.1)))))))), ((cell_far (p := ⟨gb114, _, none⟩) NB110_114.out _).trans (((cell_far (p := ⟨gb114, _, none⟩) NB110_114.out _).trans (((cell_far (p := ⟨gb114, _, none⟩) NB110_114.out _).trans (((cell_far (p := ⟨gb114, _, none⟩) NB110_114.out _).trans (hHeld.2.2.2))))))))⟩ (fun hHeld => ?_)
 clear hK K
 refine done_ (done_of HT_.out (by kernel_rfl)) ?_
 try go_wp2_with (first | ((with_reducible refine gate_callee (f := 46) rfl ?_); refine goesL_ (some 20) rfl rfl Try.func46 (by kernel_rfl) rfl #[.pointer (some ⟨g, 0, none⟩), .int .i64 6] rfl (by simp only [List.map_toArray, List.map_cons, List.map_nil]; rfl) ?_; (with_reducible refine (spec_reader_pick.calls k g s0_0 t109 6 t115 t116 w0 _ ?side1 ?side2 A4.out).mono ?_); (case side1 => repeat (first | (with_reducible first | exact HI0.out | apply IsS70.alloc | apply IsS70.drewN | apply IsS70.drew | apply IsS70.set_1 | refine IsS70.far ?_ NB0_101.out _ | refine IsS70.far ?_ NB0_102.out _ | refine IsS70.far ?_ NB0_110.out _ | refine IsS70.far ?_ NB0_114.out _) | exact HI0.out)); (case side2 => repeat (first | (with_reducible first | exact HB.out | apply below_alloc | apply pw_below_drewN | apply below_drew1 | refine below_set ?_ (IsS70.ge HI0.out) | refine below_set ?_ GE101.out | refine below_set ?_ GE102.out | refine below_set ?_ GE110.out | refine below_set ?_ GE114.out) | exact HB.out)); rintro e w25 ⟨rfl, hi, hb, hk⟩; refine ⟨_, rfl, ?_⟩; replace BK101 := am_ (KeepBut.blk hk (by exact far4_ BK101.out NB101_114.out _ _ _ _) NB101_0.out (by simp)); replace BK102 := am_ (KeepBut.blk hk (by exact far4_ BK102.out NB102_114.out _ _ _ _) NB102_0.out (by simp)); replace HO108 := am_ (Kd.Q_mono (Kd.Q_keep (IsS70.apartQ (show IsS70 w0 _ g s0_0 t109 from by repeat (first | (with_reducible first | exact HI0.out | apply IsS70.alloc | apply IsS70.drewN | apply IsS70.drew | apply IsS70.set_1 | refine IsS70.far ?_ NB0_101.out _ | refine IsS70.far ?_ NB0_102.out _ | refine IsS70.far ?_ NB0_110.out _ | refine IsS70.far ?_ NB0_114.out _) | exact HI0.out)) (by exact (Q4_ HO108.out BK114.out (by decide) _ _ _ _)) (by decide)) hk (fun _ h => h.2)) (fun _ h => h.1)); replace BK110 := am_ (KeepBut.blk hk (by exact far4_ BK110.out NB110_114.out _ _ _ _) NB110_0.out (by simp)); replace HO113 := am_ (Kd.R_mono (Kd.R_keep (IsS70.apart (show IsS70 w0 _ g s0_0 t109 from by repeat (first | (with_reducible first | exact HI0.out | apply IsS70.alloc | apply IsS70.drewN | apply IsS70.drew | apply IsS70.set_1 | refine IsS70.far ?_ NB0_101.out _ | refine IsS70.far ?_ NB0_102.out _ | refine IsS70.far ?_ NB0_110.out _ | refine IsS70.far ?_ NB0_114.out _) | exact HI0.out)) (by exact (R4_ HO113.out BK114.out (by decide) _ _ _ _)) (by decide)) hk (fun _ h => h.2)) (fun _ h => h.1)); replace BK114 := am_ (KeepBut.blk hk (by exact put4_ BK114.out _ _ _ _) NB114_0.out (by simp)); replace HK := am_ (KeepBut.trans (by repeat (first | (with_reducible first | exact HK.out | apply KeepBut.set_ | apply keep_drewN | apply keep_drew | apply keep_alloc | refine keep_far ?_ GW101.out _ | refine keep_far ?_ GW102.out _ | refine keep_far ?_ GW110.out _ | refine keep_far ?_ GW114.out _) | exact HK.out)) hk (.inl rfl)); replace HB := am_ (hb); replace HI0 := am_ (hi); (try clear hb); (try clear hb2); (try clear hk); (try clear hi)))
 go_loopg [6] k (fun kq v6 w' => ∃ (x6_1 : Int) (x1001_1 : Int) (x111003_1 : List Int) (x115003_1 : List Int) (u111003 : Value) (u115003 : Value), v6 = .int .i64 x6_1 ∧ Aside0 (spec_twoImages.l0 kq x6_1 s0_0 x1001_1 t103 t104 t105 x111003_1 t103 t104 t105 x115003_1 = some (r1, r2, r3, r4, r5, r6, r7, r8, r9)) ∧ Aside0 (kq ≤ k) ∧ Aside0 (Kd.Q (Kd.int .i64) 3 w' w.heap.size (fun k_ => some k_ ≠ (u115003 : Value).ownBlock) u111003 x111003_1) ∧ Aside0 (Kd.Q (Kd.int .i64) 3 w' w.heap.size (fun k_ => some k_ ≠ (u111003 : Value).ownBlock) u115003 x115003_1) ∧ Aside0 (w'.heap[gb101]? = some (.cells #[.int .i64 0, .int .i64 0, .int .i64 0, (.slice none 0 0)] 25 (0, 0))) ∧ Aside0 (w'.heap[gb102]? = some (.cells #[.int .i64 0, .int .i64 0, .int .i64 0, (.slice none 0 0)] 25 (0, 0))) ∧ Aside0 (w'.heap[gb110]? = some (.cells #[.int .i64 t103, .int .i64 t104, .int .i64 t105, u111003] 25 (0, 0))) ∧ Aside0 (w'.heap[gb114]? = some (.cells #[.int .i64 t103, .int .i64 t104, .int .i64 t105, u115003] 25 (0, 0))) ∧ Aside0 (IsS70 w0 w' g s0_0 x1001_1) ∧ Aside0 (KeepBut w w' g none) ∧ Aside0 (Below w0.heap.size w0 w'))
 case atStart => exact ⟨(t115), (t116), (t106), (t111), (.slice Ao13 t106.length co13), (.slice Ao20 t111.length co20), (by first | rfl | (simp; done) | (simp [*]; done)), H', ⟨Nat.le_refl _⟩, ⟨by exact HO108.out⟩, ⟨Kd.Q_of_R (by exact HO113.out)⟩, ⟨by exact BK101.out⟩, ⟨by exact BK102.out⟩, ⟨by exact BK110.out⟩, ⟨by exact BK114.out⟩, ⟨by repeat (first | (with_reducible first | exact HI0.out | apply IsS70.alloc | apply IsS70.drewN | apply IsS70.drew | apply IsS70.set_1 | refine IsS70.far ?_ NB0_101.out _ | refine IsS70.far ?_ NB0_102.out _ | refine IsS70.far ?_ NB0_110.out _ | refine IsS70.far ?_ NB0_114.out _) | exact HI0.out)⟩, ⟨by repeat (first | (with_reducible first | exact HK.out | apply KeepBut.set_ | apply keep_drewN | apply keep_drew | apply keep_alloc | refine keep_far ?_ GW101.out _ | refine keep_far ?_ GW102.out _ | refine keep_far ?_ GW110.out _ | refine keep_far ?_ GW114.out _) | exact HK.out)⟩, ⟨by repeat (first | (with_reducible first | exact HB.out | apply below_alloc | apply pw_below_drewN | apply below_drew1 | refine below_set ?_ (IsS70.ge HI0.out) | refine below_set ?_ GE101.out | refine below_set ?_ GE102.out | refine below_set ?_ GE110.out | refine below_set ?_ GE114.out) | exact HB.out)⟩⟩
 case round =>
  clear H'
  try clear c1
  try clear c2
  try clear p2
  try clear c4
  try clear c9
  try clear c10
  try clear c11
  try clear c20
  try clear hcz12_0
  try clear hcz12_1
  try clear hcz12_2
  try clear hcz12_3
  try clear hfz12_0
  try clear hfz12_1
  try clear hfz12_2
  try clear hfz12_3
  obtain ⟨x6_1, x1001_1, x111003_1, x115003_1, u111003, u115003, rfl, HA, HK1, HO_111003, HO_115003, BK101, BK102, BK110, BK114, HI0, HK, HB⟩ := hrel
  cases gk with
  | zero => exact absurd HA.out (by simp [spec_twoImages.l0])
  | succ k1 =>
   have H := HA.out
   clear HA
   simp only [spec_twoImages.l0] at H
   have HC26 := Aside0.mk H
   clear H
   go_upto_region 4 with (fail)
   go_cut [28] (fun v28 wc => ∃ (kq : Nat) (x28_25 : Bool), v28 = .bool x28_25 ∧ Aside0 (spec_twoImages.j1 kq x6_1 x28_25 s0_0 x1001_1 t103 t104 t105 x111003_1 t103 t104 t105 x115003_1 = some (r1, r2, r3, r4, r5, r6, r7, r8, r9)) ∧ Aside0 (kq ≤ k1) ∧ Aside0 (Kd.Q (Kd.int .i64) 3 wc w.heap.size (fun k_ => some k_ ≠ (u115003 : Value).ownBlock) u111003 x111003_1) ∧ Aside0 (Kd.Q (Kd.int .i64) 3 wc w.heap.size (fun k_ => some k_ ≠ (u111003 : Value).ownBlock) u115003 x115003_1) ∧ Aside0 (wc.heap[gb101]? = some (.cells #[.int .i64 0, .int .i64 0, .int .i64 0, (.slice none 0 0)] 25 (0, 0))) ∧ Aside0 (wc.heap[gb102]? = some (.cells #[.int .i64 0, .int .i64 0, .int .i64 0, (.slice none 0 0)] 25 (0, 0))) ∧ Aside0 (wc.heap[gb110]? = some (.cells #[.int .i64 t103, .int .i64 t104, .int .i64 t105, u111003] 25 (0, 0))) ∧ Aside0 (wc.heap[gb114]? = some (.cells #[.int .i64 t103, .int .i64 t104, .int .i64 t105, u115003] 25 (0, 0))) ∧ Aside0 (IsS70 w0 wc g s0_0 x1001_1) ∧ Aside0 (KeepBut w wc g none) ∧ Aside0 (Below w0.heap.size w0 wc))
   case first =>
    have H := HC26.out
    clear HC26
    by_cases c27 : x6_1 > 0
    ·
     rw [if_pos c27] at H
     have c27b0 : decide (0 < x6_1) = true := decide_eq_true c27
     clear c27
     (first | rw [c27b0] | (simp only [i64_w, i32_w]; rw [c27b0]) | skip)
     have H' := Aside0.mk H
     clear H
     have hnb28 := NB114_101.out
     have hnc28 := NB101_114.out
     have hnb29 := NB114_102.out
     have hnc29 := NB102_114.out
     have hnb30 := NB114_110.out
     have hnc30 := NB110_114.out
     have hnb31 := NB114_0.out
     have hnc31 := NB0_114.out
     obtain ⟨hcz32_0, hcz32_1, hcz32_2, hcz32_3, hfz32_0, hfz32_1, hfz32_2, hfz32_3⟩ := blk4_ BK114.out
     obtain ⟨Ao33, co33, eo33, _⟩ := Kd.Q_slice HO_115003.out
     subst eo33
     go_wp2
     go_meet
     case rel => exact ⟨_, (decide ((x115003_1.length : Int) > 0)), (by first | rfl | (simp; done) | (simp [*]; done)), H', ⟨by have := HK1.out; first | omega | exact Nat.le_refl _⟩, ⟨by exact HO_111003.out⟩, ⟨by exact HO_115003.out⟩, ⟨by exact BK101.out⟩, ⟨by exact BK102.out⟩, ⟨by exact BK110.out⟩, ⟨by exact BK114.out⟩, ⟨by repeat (first | (with_reducible first | exact HI0.out | apply IsS70.alloc | apply IsS70.drewN | apply IsS70.drew | apply IsS70.set_1 | refine IsS70.far ?_ NB0_101.out _ | refine IsS70.far ?_ NB0_102.out _ | refine IsS70.far ?_ NB0_110.out _ | refine IsS70.far ?_ NB0_114.out _) | exact HI0.out)⟩, ⟨by repeat (first | (with_reducible first | exact HK.out | apply KeepBut.set_ | apply keep_drewN | apply keep_drew | apply keep_alloc | refine keep_far ?_ GW101.out _ | refine keep_far ?_ GW102.out _ | refine keep_far ?_ GW110.out _ | refine keep_far ?_ GW114.out _) | exact HK.out)⟩, ⟨by repeat (first | (with_reducible first | exact HB.out | apply below_alloc | apply pw_below_drewN | apply below_drew1 | refine below_set ?_ (IsS70.ge HI0.out) | refine below_set ?_ GE101.out | refine below_set ?_ GE102.out | refine below_set ?_ GE110.out | refine below_set ?_ GE114.out) | exact HB.out)⟩⟩
    rw [if_neg c27] at H
    have c27b0 : decide (0 < x6_1) = false := decide_eq_false c27
    clear c27
    (first | rw [c27b0] | (simp only [i64_w, i32_w]; rw [c27b0]) | skip)
    have H' := Aside0.mk H
    clear H
    go_wp2
    go_meet
    case rel => exact ⟨_, (false), (by first | rfl | (simp; done) | (simp [*]; done)), H', ⟨by have := HK1.out; first | omega | exact Nat.le_refl _⟩, ⟨by exact HO_111003.out⟩, ⟨by exact HO_115003.out⟩, ⟨by exact BK101.out⟩, ⟨by exact BK102.out⟩, ⟨by exact BK110.out⟩, ⟨by exact BK114.out⟩, ⟨by repeat (first | (with_reducible first | exact HI0.out | apply IsS70.alloc | apply IsS70.drewN | apply IsS70.drew | apply IsS70.set_1 | refine IsS70.far ?_ NB0_101.out _ | refine IsS70.far ?_ NB0_102.out _ | refine IsS70.far ?_ NB0_110.out _ | refine IsS70.far ?_ NB0_114.out _) | exact HI0.out)⟩, ⟨by repeat (first | (with_reducible first | exact HK.out | apply KeepBut.set_ | apply keep_drewN | apply keep_drew | apply keep_alloc | refine keep_far ?_ GW101.out _ | refine keep_far ?_ GW102.out _ | refine keep_far ?_ GW110.out _ | refine keep_far ?_ GW114.out _) | exact HK.out)⟩, ⟨by repeat (first | (with_reducible first | exact HB.out | apply below_alloc | apply pw_below_drewN | apply below_drew1 | refine below_set ?_ (IsS70.ge HI0.out) | refine below_set ?_ GE101.out | refine below_set ?_ GE102.out | refine below_set ?_ GE110.out | refine below_set ?_ GE114.out) | exact HB.out)⟩⟩
   case rest =>
    clear HC26
    try clear c1
    try clear c2
    try clear p2
    try clear c3
    try clear c4
    try clear c9
    try clear c10
    try clear c11
    try clear c20
    try clear c27
    try clear c27b0
    try clear c28
    try clear c29
    try clear c30
    try clear c31
    try clear hcz12_0
    try clear hcz12_1
    try clear hcz12_2
    try clear hcz12_3
    try clear hcz32_0
    try clear hcz32_1
    try clear hcz32_2
    try clear hcz32_3
    try clear hfz12_0
    try clear hfz12_1
    try clear hfz12_2
    try clear hfz12_3
    try clear hfz32_0
    try clear hfz32_1
    try clear hfz32_2
    try clear hfz32_3
    try clear p2
    obtain ⟨kq, x28_25, rfl, HA, HJ25, HO_111003, HO_115003, BK101, BK102, BK110, BK114, HI0, HK, HB⟩ := hcut
    cases kq with
    | zero => exact absurd HA.out (by simp [spec_twoImages.j1])
    | succ kj25 =>
     have H := HA.out
     clear HA
     simp only [spec_twoImages.j1] at H
     by_cases c34 : x28_25 = true
     ·
      subst c34
      have H1 : ((spec_reader_pick.f kj25 s0_0 x1001_1 (x115003_1.length : Int)).bind fun bt117 => ((spec_reader_pick.f kj25 s0_0 bt117.2 256).bind fun bt119 => (if 0 ≤ bt117.1 then (if bt117.1 < (x115003_1.length : Int) then (spec_twoImages.l0 kj25 (wrap64 (x6_1 - 1)) s0_0 bt119.2 t103 t104 t105 x111003_1 t103 t104 t105 (x115003_1.set (bt117.1 : Int).toNat bt119.1)) else (none)) else (none)))) = some (r1, r2, r3, r4, r5, r6, r7, r8, r9) := by rw [if_pos rfl] at H; exact H
      clear H
      have H := H1
      clear H1
      replace H := Option.bind_eq_some_iff.mp H
      obtain ⟨⟨t117, t118⟩, A350, H⟩ := H
      replace H : ((spec_reader_pick.f kj25 s0_0 t118 256).bind fun bt119 => (if 0 ≤ t117 then (if t117 < (x115003_1.length : Int) then (spec_twoImages.l0 kj25 (wrap64 (x6_1 - 1)) s0_0 bt119.2 t103 t104 t105 x111003_1 t103 t104 t105 (x115003_1.set (t117 : Int).toNat bt119.1)) else (none)) else (none))) = some (r1, r2, r3, r4, r5, r6, r7, r8, r9) := H
      have A35 := Aside0.mk A350
      clear A350
      replace H := Option.bind_eq_some_iff.mp H
      obtain ⟨⟨t119, t120⟩, A360, H⟩ := H
      replace H : (if 0 ≤ t117 then (if t117 < (x115003_1.length : Int) then (spec_twoImages.l0 kj25 (wrap64 (x6_1 - 1)) s0_0 t120 t103 t104 t105 x111003_1 t103 t104 t105 (x115003_1.set (t117 : Int).toNat t119)) else (none)) else (none)) = some (r1, r2, r3, r4, r5, r6, r7, r8, r9) := H
      have A36 := Aside0.mk A360
      clear A360
      by_cases c37 : 0 ≤ t117
      rotate_left
      ·
       rw [if_neg c37] at H
       exact absurd H (by simp)
      rw [if_pos c37] at H
      have c37b0 : decide (0 ≤ t117) = true := decide_eq_true c37
      clear c37
      by_cases c38 : t117 < (x115003_1.length : Int)
      rotate_left
      ·
       rw [if_neg c38] at H
       exact absurd H (by simp)
      rw [if_pos c38] at H
      have c38b0 : decide (t117 < (x115003_1.length : Int)) = true := decide_eq_true c38
      clear c38
      obtain ⟨y121, hy121⟩ : ∃ y_ : List Int, y_ = (x115003_1.set (t117 : Int).toNat t119) := ⟨_, rfl⟩
      replace H : (spec_twoImages.l0 kj25 (wrap64 (x6_1 - 1)) s0_0 t120 t103 t104 t105 x111003_1 t103 t104 t105 y121) = some (r1, r2, r3, r4, r5, r6, r7, r8, r9) := by first | (rw [hy121]; with_reducible exact H) | (have H2_ := (Option.bind_some _ _).symm.trans H; rw [hy121]; with_reducible exact H2_) | (have H2_ := (Option.bind_some _ _).symm.trans H; with_reducible exact H2_) | with_reducible exact H | (rw [hy121]; exact H) | exact H
      have Ny121 := Aside0.mk hy121
      clear hy121
      have H' := Aside0.mk H
      clear H
      try go_wp2
      replace HO_111003 := am_ (Kd.Q_drew HO_111003.out)
      replace HO_115003 := am_ (Kd.Q_drew HO_115003.out)
      replace BK101 := am_ (blk_drew BK101.out)
      replace BK102 := am_ (blk_drew BK102.out)
      replace BK110 := am_ (blk_drew BK110.out)
      replace BK114 := am_ (blk_drew BK114.out)
      replace HI0 := am_ (IsS70.drew HI0.out)
      replace HK := am_ (keep_drew HK.out)
      replace HB := am_ (below_drew1 HB.out)
      obtain ⟨Ao41, co41, eo41, _⟩ := Kd.Q_slice HO_115003.out
      (first | subst eo41 | (injection eo41 with f1_ f2_ f3_; have f4_ := f1_.symm; have f5_ := f3_.symm; clear f1_ f2_ f3_; subst f4_; subst f5_))
      refine start_ (n := 11) (S := fun w' => w'.cell? ⟨gb114, 0, none⟩ = some (.int .i64 t103) ∧ w'.cell? ⟨gb114, 1, none⟩ = some (.int .i64 t104) ∧ w'.cell? ⟨gb114, 2, none⟩ = some (.int .i64 t105) ∧ w'.cell? ⟨gb114, 3, none⟩ = some (.slice Ao41 x115003_1.length co41)) (ds := [10]) #[false, false, false, false, false, false, false, false, false, false, false] (by kernel_rfl) rfl rfl ⟨(blk_cell BK114.out 0).trans rfl, (blk_cell BK114.out 1).trans rfl, (blk_cell BK114.out 2).trans rfl, (blk_cell BK114.out 3).trans rfl⟩ (fun hHeld => ?_); refine with_tabW spec_twoImages.tab6 spec_twoImages.bits6 (fun HT_ HW_ => ?_)
      generalize wc.drew = w40 at HO_111003 HO_115003 BK101 BK102 BK110 BK114 HI0 HK HB hHeld ⊢
      refine pure_ (i := 0) (N := some 31) (v := ?_) (a' := ?_) #[true, false, false, false, false, false, false, false, false, false, false] rfl rfl (any_of HT_.out (by kernel_rfl)) (fun _ _ _ h => h) (Or.inl ⟨by rfl, ?_⟩) ?_ ?_
      rotate_left
      ·
       intro w'
       go_simp
       with_reducible rfl
      rotate_left
      ·
       simp only [Act.put, List.setIfInBounds_toArray, List.set_cons_zero, List.set_cons_succ, i64_w, i32_w]
       rfl
      refine pure_ (i := 2) (N := some 33) (v := ?_) (a' := ?_) #[true, false, true, false, false, false, false, false, false, false, false] rfl rfl (any_of HT_.out (by kernel_rfl)) (fun _ _ _ h => h) (Or.inl ⟨by rfl, ?_⟩) ?_ ?_
      rotate_left
      ·
       intro w'
       go_simp
       with_reducible rfl
      rotate_left
      ·
       simp only [Act.put, List.setIfInBounds_toArray, List.set_cons_zero, List.set_cons_succ, i64_w, i32_w]
       rfl
      refine pure_ (i := 3) (N := some 34) (v := ?_) (a' := ?_) #[true, false, true, true, false, false, false, false, false, false, false] rfl rfl (any_of HT_.out (by kernel_rfl)) (fun _ _ _ h => h) (Or.inl ⟨by rfl, ?_⟩) ?_ ?_
      rotate_left
      ·
       intro w'
       go_simp
       with_reducible rfl
      rotate_left
      ·
       simp only [Act.put, List.setIfInBounds_toArray, List.set_cons_zero, List.set_cons_succ, i64_w, i32_w]
       rfl
      refine pure_ (i := 7) (N := some 38) (v := ?_) (a' := ?_) #[true, false, true, true, false, false, false, true, false, false, false] rfl rfl (any_of HT_.out (by kernel_rfl)) (fun _ _ _ h => h) (Or.inl ⟨by rfl, ?_⟩) ?_ ?_
      rotate_left
      ·
       intro w'
       go_simp
       with_reducible rfl
      rotate_left
      ·
       simp only [Act.put, List.setIfInBounds_toArray, List.set_cons_zero, List.set_cons_succ, i64_w, i32_w]
       rfl
      refine take_ (i := 1) (N := some 32) (v := ?_) (a' := ?_) #[true, true, true, true, false, false, false, true, false, false, false] rfl rfl (take_ofW HT_.out HW_.out (by kernel_rfl)) (fun _ _ _ h => h) (Or.inl ⟨by rfl, ?_⟩) hHeld ?_ ?_
      rotate_left
      ·
       rintro w' ⟨s0, s1, s2, s3⟩
       go_simp
       with_reducible rfl
      rotate_left
      ·
       simp only [Act.put, List.setIfInBounds_toArray, List.set_cons_zero, List.set_cons_succ, i64_w, i32_w]
       rfl
      refine take_ (i := 4) (N := some 35) (v := ?_) (a' := ?_) #[true, true, true, true, true, false, false, true, false, false, false] rfl rfl (take_ofW HT_.out HW_.out (by kernel_rfl)) (fun _ _ _ h => h) (Or.inl ⟨by rfl, ?_⟩) hHeld ?_ ?_
      rotate_left
      ·
       rintro w' ⟨s0, s1, s2, s3⟩
       go_simp
       with_reducible rfl
      rotate_left
      ·
       simp only [Act.put, List.setIfInBounds_toArray, List.set_cons_zero, List.set_cons_succ, i64_w, i32_w]
       rfl
      refine pure_ (i := 5) (N := some 36) (v := ?_) (a' := ?_) #[true, true, true, true, true, true, false, true, false, false, false] rfl rfl (any_of HT_.out (by kernel_rfl)) (fun _ _ _ h => h) (Or.inl ⟨by rfl, ?_⟩) ?_ ?_
      rotate_left
      ·
       intro w'
       go_simp
       with_reducible rfl
      rotate_left
      ·
       simp only [Act.put, List.setIfInBounds_toArray, List.set_cons_zero, List.set_cons_succ, i64_w, i32_w]
       rfl
      refine one_ (i := 6) (N := some 37) #[true, true, true, true, true, true, true, true, false, false, false] rfl rfl (one_of HT_.out (by kernel_rfl)) (by decide) (fun K hK => ?_)
      refine goes_ Try.func46 (by kernel_rfl) rfl #[.pointer (some ⟨g, 0, none⟩), .int .i64 (x115003_1.length : Int)] (by rfl) rfl rfl (by simp only [List.map_toArray, List.map_cons, List.map_nil]; rfl) ?_
      with_reducible refine (spec_reader_pick.calls kj25 g s0_0 x1001_1 (x115003_1.length : Int) t117 t118 w0 _ ?side1 ?side2 A35.out).mono ?_
      (case side1 => repeat (first | (with_reducible first | exact HI0.out | apply IsS70.alloc | apply IsS70.drewN | apply IsS70.drew | apply IsS70.set_1 | refine IsS70.far ?_ NB0_101.out _ | refine IsS70.far ?_ NB0_102.out _ | refine IsS70.far ?_ NB0_110.out _ | refine IsS70.far ?_ NB0_114.out _) | exact HI0.out))
      (case side2 => repeat (first | (with_reducible first | exact HB.out | apply below_alloc | apply pw_below_drewN | apply below_drew1 | refine below_set ?_ (IsS70.ge HI0.out) | refine below_set ?_ GE101.out | refine below_set ?_ GE102.out | refine below_set ?_ GE110.out | refine below_set ?_ GE114.out) | exact HB.out))
      rintro e w42 ⟨rfl, hi, hb, hk⟩
      refine ⟨_, rfl, ?_⟩
      replace HO_111003 := am_ (Kd.Q_mono (Kd.Q_keep (IsS70.apartQ (show IsS70 w0 _ g s0_0 x1001_1 from by repeat (first | (with_reducible first | exact HI0.out | apply IsS70.alloc | apply IsS70.drewN | apply IsS70.drew | apply IsS70.set_1 | refine IsS70.far ?_ NB0_101.out _ | refine IsS70.far ?_ NB0_102.out _ | refine IsS70.far ?_ NB0_110.out _ | refine IsS70.far ?_ NB0_114.out _) | exact HI0.out)) (by exact HO_111003.out) (by decide)) hk (fun _ h => h.2)) (fun _ h => h.1))
      replace HO_115003 := am_ (Kd.Q_mono (Kd.Q_keep (IsS70.apartQ (show IsS70 w0 _ g s0_0 x1001_1 from by repeat (first | (with_reducible first | exact HI0.out | apply IsS70.alloc | apply IsS70.drewN | apply IsS70.drew | apply IsS70.set_1 | refine IsS70.far ?_ NB0_101.out _ | refine IsS70.far ?_ NB0_102.out _ | refine IsS70.far ?_ NB0_110.out _ | refine IsS70.far ?_ NB0_114.out _) | exact HI0.out)) (by exact HO_115003.out) (by decide)) hk (fun _ h => h.2)) (fun _ h => h.1))
      replace BK101 := am_ (KeepBut.blk hk (by exact BK101.out) NB101_0.out (by simp))
      replace BK102 := am_ (KeepBut.blk hk (by exact BK102.out) NB102_0.out (by simp))
      replace BK110 := am_ (KeepBut.blk hk (by exact BK110.out) NB110_0.out (by simp))
      replace BK114 := am_ (KeepBut.blk hk (by exact BK114.out) NB114_0.out (by simp))
      replace HK := am_ (KeepBut.trans (by repeat (first | (with_reducible first | exact HK.out | apply KeepBut.set_ | apply keep_drewN | apply keep_drew | apply keep_alloc | refine keep_far ?_ GW101.out _ | refine keep_far ?_ GW102.out _ | refine keep_far ?_ GW110.out _ | refine keep_far ?_ GW114.out _) | exact HK.out)) hk (.inl rfl))
      replace HB := am_ (hb)
      replace HI0 := am_ (hi)
      (try clear hb)
      (try clear hb2)
      (try clear hk)
      (try clear hi)
      refine hK.out _ _ ⟨(blk_cell BK114.out 0).trans rfl, (blk_cell BK114.out 1).trans rfl, (blk_cell BK114.out 2).trans rfl, (blk_cell BK114.out 3).trans rfl⟩ (fun hHeld => ?_)
      clear hK K
      refine norm_ (a' := ?_) ?_ ?_
      rotate_left
      ·
       show Act.put _ (some 37) _ = _
       simp only [Act.put, List.setIfInBounds_toArray, List.set_cons_zero, List.set_cons_succ, i64_w, i32_w]
       rfl
      refine one_ (i := 8) (N := some 39) #[true, true, true, true, true, true, true, true, true, false, false] rfl rfl (one_of HT_.out (by kernel_rfl)) (by decide) (fun K hK => ?_)
      refine goes_ Try.func46 (by kernel_rfl) rfl #[.pointer (some ⟨g, 0, none⟩), .int .i64 256] (by rfl) rfl rfl (by simp only [List.map_toArray, List.map_cons, List.map_nil]; rfl) ?_
      with_reducible refine (spec_reader_pick.calls kj25 g s0_0 t118 256 t119 t120 w0 _ ?side1 ?side2 A36.out).mono ?_
      (case side1 => repeat (first | (with_reducible first | exact HI0.out | apply IsS70.alloc | apply IsS70.drewN | apply IsS70.drew | apply IsS70.set_1 | refine IsS70.far ?_ NB0_101.out _ | refine IsS70.far ?_ NB0_102.out _ | refine IsS70.far ?_ NB0_110.out _ | refine IsS70.far ?_ NB0_114.out _) | exact HI0.out))
      (case side2 => repeat (first | (with_reducible first | exact HB.out | apply below_alloc | apply pw_below_drewN | apply below_drew1 | refine below_set ?_ (IsS70.ge HI0.out) | refine below_set ?_ GE101.out | refine below_set ?_ GE102.out | refine below_set ?_ GE110.out | refine below_set ?_ GE114.out) | exact HB.out))
      rintro e w43 ⟨rfl, hi, hb, hk⟩
      refine ⟨_, rfl, ?_⟩
      replace HO_111003 := am_ (Kd.Q_mono (Kd.Q_keep (IsS70.apartQ (show IsS70 w0 _ g s0_0 t118 from by repeat (first | (with_reducible first | exact HI0.out | apply IsS70.alloc | apply IsS70.drewN | apply IsS70.drew | apply IsS70.set_1 | refine IsS70.far ?_ NB0_101.out _ | refine IsS70.far ?_ NB0_102.out _ | refine IsS70.far ?_ NB0_110.out _ | refine IsS70.far ?_ NB0_114.out _) | exact HI0.out)) (by exact HO_111003.out) (by decide)) hk (fun _ h => h.2)) (fun _ h => h.1))
      replace HO_115003 := am_ (Kd.Q_mono (Kd.Q_keep (IsS70.apartQ (show IsS70 w0 _ g s0_0 t118 from by repeat (first | (with_reducible first | exact HI0.out | apply IsS70.alloc | apply IsS70.drewN | apply IsS70.drew | apply IsS70.set_1 | refine IsS70.far ?_ NB0_101.out _ | refine IsS70.far ?_ NB0_102.out _ | refine IsS70.far ?_ NB0_110.out _ | refine IsS70.far ?_ NB0_114.out _) | exact HI0.out)) (by exact HO_115003.out) (by decide)) hk (fun _ h => h.2)) (fun _ h => h.1))
      replace BK101 := am_ (KeepBut.blk hk (by exact BK101.out) NB101_0.out (by simp))
      replace BK102 := am_ (KeepBut.blk hk (by exact BK102.out) NB102_0.out (by simp))
      replace BK110 := am_ (KeepBut.blk hk (by exact BK110.out) NB110_0.out (by simp))
      replace BK114 := am_ (KeepBut.blk hk (by exact BK114.out) NB114_0.out (by simp))
      replace HK := am_ (KeepBut.trans (by repeat (first | (with_reducible first | exact HK.out | apply KeepBut.set_ | apply keep_drewN | apply keep_drew | apply keep_alloc | refine keep_far ?_ GW101.out _ | refine keep_far ?_ GW102.out _ | refine keep_far ?_ GW110.out _ | refine keep_far ?_ GW114.out _) | exact HK.out)) hk (.inl rfl))
      replace HB := am_ (hb)
      replace HI0 := am_ (hi)
      (try clear hb)
      (try clear hb2)
      (try clear hk)
      (try clear hi)
      have p39 : 0 ≤ (t117 : Int) := of_decide_eq_true (by first | with_reducible assumption | assumption)
      have q39 : (t117 : Int) < ((x115003_1.length : Int) : Int) := of_decide_eq_true (by first | with_reducible assumption | assumption)
      obtain ⟨go39, oo39, co39, eo39, gb39, gl39, cl39, HG39⟩ := Kd.Q_form HO_115003.out (by omega)
      (first | cases eo39 | (injection eo39 with ea_ en_ ec_; (first | subst ea_ | (injection ea_ with ea_; subst ea_)); subst ec_; clear en_))
      have GB39 := Aside0.mk gb39
      have GG39 := Aside0.mk HG39
      clear gb39 gl39 HG39
      obtain ⟨hx39_0, hf39_0⟩ := Kd.Q_cell 0 HO_115003.out (t117 : Int) p39 q39
      replace p39 := eq_true p39
      replace q39 := eq_true q39
      have HN0_go39 := Aside0.mk (show g ≠ go39 from by have h_ := IsS70.own_neQ HI0.out HO_115003.out (by decide); intro e_; exact h_ (by rw [e_]; rfl))
      have HP44 := (Kd.Q_putg HO_115003.out (t117 : Int) (of_decide_eq_true (by first | with_reducible assumption | assumption)) (by have h_ : (t117 : Int) < ((x115003_1.length : Int) : Int) := of_decide_eq_true (by first | with_reducible assumption | assumption); first | exact h_ | (have e_ := (Kd.Q_reads' HO_115003.out).1; omega) | simpa using h_) t119).1
      rw [← Ny121.out] at HP44
      have HQ44 := Aside0.mk HP44
      clear HP44
      refine hK.out _ _ ⟨(blk_cell BK114.out 0).trans rfl, (blk_cell BK114.out 1).trans rfl, (blk_cell BK114.out 2).trans rfl, (blk_cell BK114.out 3).trans rfl⟩ (fun hHeld => ?_)
      clear hK K
      refine norm_ (a' := ?_) ?_ ?_
      rotate_left
      ·
       show Act.put _ (some 39) _ = _
       simp only [Act.put, List.setIfInBounds_toArray, List.set_cons_zero, List.set_cons_succ, i64_w, i32_w]
       rfl
      refine pure_ (i := 9) (N := some 40) (v := ?_) (a' := ?_) #[true, true, true, true, true, true, true, true, true, true, false] rfl rfl (any_of HT_.out (by kernel_rfl)) (fun _ _ _ h => h) (Or.inl ⟨by rfl, ?_⟩) ?_ ?_
      rotate_left
      ·
       intro w'
       go_simp
       with_reducible rfl
      rotate_left
      ·
       simp only [Act.put, List.setIfInBounds_toArray, List.set_cons_zero, List.set_cons_succ, i64_w, i32_w]
       rfl
      refine last_ (i := 10) (N := none) #[true, true, true, true, true, true, true, true, true, true, true] rfl rfl (one_of HT_.out (by kernel_rfl)) (by decide) (fun K hK => ?_)
      refine skip_ (w1 := ?_) (by rfl) rfl ?_ ?_
      rotate_left
      ·
       go_simp
       rfl
      refine hK.out _ _ ?_
      clear hK K
      refine done_ (done_of HT_.out (by kernel_rfl)) ?_
      try go_wp2
      go_roundg kj25
      case measure => have := HK1.out; have := HJ25.out; omega
      case rel => exact ⟨(wrap64 (x6_1 - 1)), (t120), (x111003_1), (y121), (u111003), (.slice (some ⟨go39, oo39, none⟩) x115003_1.length co41), (by first | rfl | (simp; done) | (simp [*]; done)), H', ⟨by have := HK1.out; have := HJ25.out; omega⟩, ⟨by exact Kd.Q_mono (Kd.Q_far (p := ⟨go39, oo39 + (t117 : Int).toNat, none⟩) (Kd.Q_mono HO_111003.out (fun k_ hk => (⟨hk, fun e_ => hk (by rw [e_]; rfl)⟩ : _ ∧ k_ ≠ go39))) (fun _ hk => hk.2) (.int .i64 t119)) (fun _ hk => hk.1)⟩, ⟨by exact HQ44.out⟩, ⟨by (with_reducible repeat (first | refine blk_drewN ?_ _ | refine blk_drew ?_ | refine blk_alloc ?_ _)); refine blk_far ?_ (by have h_ := Kd.Q_ne HO_115003.out BK101.out (by decide); intro e_; exact h_ (by rw [e_]; rfl)) _; (with_reducible repeat (first | refine blk_drewN ?_ _ | refine blk_drew ?_ | refine blk_alloc ?_ _)); exact BK101.out⟩, ⟨by (with_reducible repeat (first | refine blk_drewN ?_ _ | refine blk_drew ?_ | refine blk_alloc ?_ _)); refine blk_far ?_ (by have h_ := Kd.Q_ne HO_115003.out BK102.out (by decide); intro e_; exact h_ (by rw [e_]; rfl)) _; (with_reducible repeat (first | refine blk_drewN ?_ _ | refine blk_drew ?_ | refine blk_alloc ?_ _)); exact BK102.out⟩, ⟨by (with_reducible repeat (first | refine blk_drewN ?_ _ | refine blk_drew ?_ | refine blk_alloc ?_ _)); refine blk_far ?_ (by have h_ := Kd.Q_ne HO_115003.out BK110.out (by decide); intro e_; exact h_ (by rw [e_]; rfl)) _; (with_reducible repeat (first | refine blk_drewN ?_ _ | refine blk_drew ?_ | refine blk_alloc ?_ _)); exact BK110.out⟩, ⟨by (with_reducible repeat (first | refine blk_drewN ?_ _ | refine blk_drew ?_ | refine blk_alloc ?_ _)); refine blk_far ?_ (by have h_ := Kd.Q_ne HO_115003.out BK114.out (by decide); intro e_; exact h_ (by rw [e_]; rfl)) _; (with_reducible repeat (first | refine blk_drewN ?_ _ | refine blk_drew ?_ | refine blk_alloc ?_ _)); exact BK114.out⟩, ⟨by repeat (first | (with_reducible first | exact HI0.out | apply IsS70.alloc | apply IsS70.drewN | apply IsS70.drew | apply IsS70.set_1 | refine IsS70.far ?_ HN0_go39.out _ | refine IsS70.far ?_ NB0_101.out _ | refine IsS70.far ?_ NB0_102.out _ | refine IsS70.far ?_ NB0_110.out _ | refine IsS70.far ?_ NB0_114.out _) | exact HI0.out)⟩, ⟨by repeat (first | (with_reducible first | exact HK.out | apply KeepBut.set_ | apply keep_drewN | apply keep_drew | apply keep_alloc | refine keep_far ?_ GB39.out _ | refine keep_far ?_ GW101.out _ | refine keep_far ?_ GW102.out _ | refine keep_far ?_ GW110.out _ | refine keep_far ?_ GW114.out _) | exact HK.out)⟩, ⟨by repeat (first | (with_reducible first | exact HB.out | apply below_alloc | apply pw_below_drewN | apply below_drew1 | refine below_set ?_ (Nat.le_trans HL.out GB39.out) | refine below_set ?_ (IsS70.ge HI0.out) | refine below_set ?_ GE101.out | refine below_set ?_ GE102.out | refine below_set ?_ GE110.out | refine below_set ?_ GE114.out) | exact HB.out)⟩⟩
     replace c34 := Bool.eq_false_iff.mpr c34
     subst c34
     have H1 : ((spec_reader_pick.f kj25 s0_0 x1001_1 16).bind fun bt122 => (if bt122.1 = 0 then ((spec_anyImage.f kj25 s0_0 bt122.2).bind fun bt124 => (some (t103, t104, t105, x111003_1, bt124.1, bt124.2.1, bt124.2.2.1, bt124.2.2.2.1, bt124.2.2.2.2))) else (some (t103, t104, t105, x111003_1, t103, t104, t105, x115003_1, bt122.2)))) = some (r1, r2, r3, r4, r5, r6, r7, r8, r9) := by rw [if_neg (show ¬ (false = true) by decide)] at H; exact H
     clear H
     have H := H1
     clear H1
     replace H := Option.bind_eq_some_iff.mp H
     obtain ⟨⟨t122, t123⟩, A450, H⟩ := H
     replace H : (if t122 = 0 then ((spec_anyImage.f kj25 s0_0 t123).bind fun bt124 => (some (t103, t104, t105, x111003_1, bt124.1, bt124.2.1, bt124.2.2.1, bt124.2.2.2.1, bt124.2.2.2.2))) else (some (t103, t104, t105, x111003_1, t103, t104, t105, x115003_1, t123))) = some (r1, r2, r3, r4, r5, r6, r7, r8, r9) := H
     have A45 := Aside0.mk A450
     clear A450
     by_cases c46 : t122 = 0
     ·
      rw [if_pos c46] at H
      have c46b0 : (t122 == 0) = true := beq_iff_eq.mpr c46
      have c46b1 : (t122 != 0) = false := bne_eq_false_iff_eq.mpr c46
      clear c46
      replace H := Option.bind_eq_some_iff.mp H
      obtain ⟨⟨t124, t125, t126, t127, t130⟩, A470, H⟩ := H
      replace H : (some (t103, t104, t105, x111003_1, t124, t125, t126, t127, t130)) = some (r1, r2, r3, r4, r5, r6, r7, r8, r9) := H
      have A47 := Aside0.mk A470
      clear A470
      simp only [Option.some.injEq, Prod.mk.injEq] at H
      obtain ⟨rfl, rfl, rfl, rfl, rfl, rfl, rfl, rfl, rfl⟩ := H
      try go_wp2_with (first | ((with_reducible refine gate_callee (f := 46) rfl ?_); refine goesL_ (some 42) rfl rfl Try.func46 (by kernel_rfl) rfl #[.pointer (some ⟨g, 0, none⟩), .int .i64 16] rfl (by simp only [List.map_toArray, List.map_cons, List.map_nil]; rfl) ?_; (with_reducible refine (spec_reader_pick.calls kj25 g s0_0 x1001_1 16 t122 t123 w0 _ ?side1 ?side2 A45.out).mono ?_); (case side1 => repeat (first | (with_reducible first | exact HI0.out | apply IsS70.alloc | apply IsS70.drewN | apply IsS70.drew | apply IsS70.set_1 | refine IsS70.far ?_ NB0_101.out _ | refine IsS70.far ?_ NB0_102.out _ | refine IsS70.far ?_ NB0_110.out _ | refine IsS70.far ?_ NB0_114.out _) | exact HI0.out)); (case side2 => repeat (first | (with_reducible first | exact HB.out | apply below_alloc | apply pw_below_drewN | apply below_drew1 | refine below_set ?_ (IsS70.ge HI0.out) | refine below_set ?_ GE101.out | refine below_set ?_ GE102.out | refine below_set ?_ GE110.out | refine below_set ?_ GE114.out) | exact HB.out)); rintro e w48 ⟨rfl, hi, hb, hk⟩; refine ⟨_, rfl, ?_⟩; replace HO_111003 := am_ (Kd.Q_mono (Kd.Q_keep (IsS70.apartQ (show IsS70 w0 _ g s0_0 x1001_1 from by repeat (first | (with_reducible first | exact HI0.out | apply IsS70.alloc | apply IsS70.drewN | apply IsS70.drew | apply IsS70.set_1 | refine IsS70.far ?_ NB0_101.out _ | refine IsS70.far ?_ NB0_102.out _ | refine IsS70.far ?_ NB0_110.out _ | refine IsS70.far ?_ NB0_114.out _) | exact HI0.out)) (by exact HO_111003.out) (by decide)) hk (fun _ h => h.2)) (fun _ h => h.1)); replace HO_115003 := am_ (Kd.Q_mono (Kd.Q_keep (IsS70.apartQ (show IsS70 w0 _ g s0_0 x1001_1 from by repeat (first | (with_reducible first | exact HI0.out | apply IsS70.alloc | apply IsS70.drewN | apply IsS70.drew | apply IsS70.set_1 | refine IsS70.far ?_ NB0_101.out _ | refine IsS70.far ?_ NB0_102.out _ | refine IsS70.far ?_ NB0_110.out _ | refine IsS70.far ?_ NB0_114.out _) | exact HI0.out)) (by exact HO_115003.out) (by decide)) hk (fun _ h => h.2)) (fun _ h => h.1)); replace BK101 := am_ (KeepBut.blk hk (by exact BK101.out) NB101_0.out (by simp)); replace BK102 := am_ (KeepBut.blk hk (by exact BK102.out) NB102_0.out (by simp)); replace BK110 := am_ (KeepBut.blk hk (by exact BK110.out) NB110_0.out (by simp)); replace BK114 := am_ (KeepBut.blk hk (by exact BK114.out) NB114_0.out (by simp)); replace HK := am_ (KeepBut.trans (by repeat (first | (with_reducible first | exact HK.out | apply KeepBut.set_ | apply keep_drewN | apply keep_drew | apply keep_alloc | refine keep_far ?_ GW101.out _ | refine keep_far ?_ GW102.out _ | refine keep_far ?_ GW110.out _ | refine keep_far ?_ GW114.out _) | exact HK.out)) hk (.inl rfl)); replace HB := am_ (hb); replace HI0 := am_ (hi); (try clear hb); (try clear hb2); (try clear hk); (try clear hi)) | ((with_reducible refine gate_callee (f := 44) rfl ?_); refine goesL_ (some 45) rfl rfl Try.func44 (by kernel_rfl) rfl #[.pointer (some ⟨g, 0, none⟩)] rfl (by simp only [List.map_toArray, List.map_cons, List.map_nil]; rfl) ?_; (with_reducible refine (spec_anyImage.calls kj25 g s0_0 t123 t124 t125 t126 t127 t130 w0 _ ?side1 ?side2 A47.out).mono ?_); (case side1 => repeat (first | (with_reducible first | exact HI0.out | apply IsS70.alloc | apply IsS70.drewN | apply IsS70.drew | apply IsS70.set_1 | refine IsS70.far ?_ NB0_101.out _ | refine IsS70.far ?_ NB0_102.out _ | refine IsS70.far ?_ NB0_110.out _ | refine IsS70.far ?_ NB0_114.out _) | exact HI0.out)); (case side2 => repeat (first | (with_reducible first | exact HB.out | apply below_alloc | apply pw_below_drewN | apply below_drew1 | refine below_set ?_ (IsS70.ge HI0.out) | refine below_set ?_ GE101.out | refine below_set ?_ GE102.out | refine below_set ?_ GE110.out | refine below_set ?_ GE114.out) | exact HB.out)); rintro e w49 ⟨v128, rfl, ho0, hi, hb, hk⟩; refine ⟨_, rfl, ?_⟩; replace BK101 := am_ (KeepBut.blk hk (by exact BK101.out) NB101_0.out (by simp)); replace BK102 := am_ (KeepBut.blk hk (by exact BK102.out) NB102_0.out (by simp)); replace BK110 := am_ (KeepBut.blk hk (by exact BK110.out) NB110_0.out (by simp)); replace BK114 := am_ (KeepBut.blk hk (by exact BK114.out) NB114_0.out (by simp)); have HO129 := am_ (Kd.Q_lower (Kd.Q_new' (Kd.Q_new' ho0 (Kd.Q_lt (by exact HO_111003.out))) (Kd.Q_lt (by exact HO_115003.out))) (keep_size (w := w) (g := g) (row := none) (by repeat (first | (with_reducible first | exact HK.out | apply KeepBut.set_ | apply keep_drewN | apply keep_drew | apply keep_alloc | refine keep_far ?_ GW101.out _ | refine keep_far ?_ GW102.out _ | refine keep_far ?_ GW110.out _ | refine keep_far ?_ GW114.out _) | exact HK.out)))); replace HO_111003 := am_ (Kd.Q_mono (Kd.Q_told (Kd.Q_oldK (IsS70.apartQ (show IsS70 w0 _ g s0_0 t123 from by repeat (first | (with_reducible first | exact HI0.out | apply IsS70.alloc | apply IsS70.drewN | apply IsS70.drew | apply IsS70.set_1 | refine IsS70.far ?_ NB0_101.out _ | refine IsS70.far ?_ NB0_102.out _ | refine IsS70.far ?_ NB0_110.out _ | refine IsS70.far ?_ NB0_114.out _) | exact HI0.out)) (by exact HO_111003.out) (by decide)) hk) (Kd.Q_base ho0)) (fun _ h_ => h_.1)); replace HO_115003 := am_ (Kd.Q_mono (Kd.Q_told (Kd.Q_oldK (IsS70.apartQ (show IsS70 w0 _ g s0_0 t123 from by repeat (first | (with_reducible first | exact HI0.out | apply IsS70.alloc | apply IsS70.drewN | apply IsS70.drew | apply IsS70.set_1 | refine IsS70.far ?_ NB0_101.out _ | refine IsS70.far ?_ NB0_102.out _ | refine IsS70.far ?_ NB0_110.out _ | refine IsS70.far ?_ NB0_114.out _) | exact HI0.out)) (by exact HO_115003.out) (by decide)) hk) (Kd.Q_base ho0)) (fun _ h_ => h_.1)); replace HK := am_ (KeepBut.trans (by repeat (first | (with_reducible first | exact HK.out | apply KeepBut.set_ | apply keep_drewN | apply keep_drew | apply keep_alloc | refine keep_far ?_ GW101.out _ | refine keep_far ?_ GW102.out _ | refine keep_far ?_ GW110.out _ | refine keep_far ?_ GW114.out _) | exact HK.out)) hk (.inl rfl)); replace HB := am_ (hb); replace HI0 := am_ (hi); (try clear hb); (try clear hb2); (try clear hk); (try clear hi); (try clear ho0); have hnb50 := NB114_101.out; have hnc50 := NB101_114.out; have hnb51 := NB114_102.out; have hnc51 := NB102_114.out; have hnb52 := NB114_110.out; have hnc52 := NB110_114.out; have hnb53 := NB114_0.out; have hnc53 := NB0_114.out; obtain ⟨hcz54_0, hcz54_1, hcz54_2, hcz54_3, hfz54_0, hfz54_1, hfz54_2, hfz54_3⟩ := blk4_ BK114.out; obtain ⟨Ao55, co55, eo55, _⟩ := Kd.Q_slice HO129.out; subst eo55))
      have n0_ : Aside0 (Kd.Q (Kd.int .i64) 3 ((((w49.setCell ⟨gb114, 0, none⟩ (.int .i64 t124)).setCell ⟨gb114, 1, none⟩ (.int .i64 t125)).setCell ⟨gb114, 2, none⟩ (.int .i64 t126)).setCell ⟨gb114, 3, none⟩ (.slice Ao55 t127.length co55)) w.heap.size (fun k_ => some k_ ≠ (u115003 : Value).ownBlock ∧ some k_ ≠ (.slice Ao55 t127.length co55 : Value).ownBlock) u111003 x111003_1) := ⟨by exact Kd.Q_mono (Kd.Q_far (p := ⟨gb114, 3, none⟩) (Kd.Q_far (p := ⟨gb114, 2, none⟩) (Kd.Q_far (p := ⟨gb114, 1, none⟩) (Kd.Q_far (p := ⟨gb114, 0, none⟩) (Kd.Q_types HO_111003.out BK114.out (by decide)) (fun _ hk => hk.2) (.int .i64 t124)) (fun _ hk => hk.2) (.int .i64 t125)) (fun _ hk => hk.2) (.int .i64 t126)) (fun _ hk => hk.2) (.slice Ao55 t127.length co55)) (fun _ hk => ⟨hk.1.1, hk.1.2⟩)⟩
      have n1_ : Aside0 (Kd.Q (Kd.int .i64) 3 ((((w49.setCell ⟨gb114, 0, none⟩ (.int .i64 t124)).setCell ⟨gb114, 1, none⟩ (.int .i64 t125)).setCell ⟨gb114, 2, none⟩ (.int .i64 t126)).setCell ⟨gb114, 3, none⟩ (.slice Ao55 t127.length co55)) w.heap.size (fun k_ => some k_ ≠ (u111003 : Value).ownBlock ∧ some k_ ≠ (.slice Ao55 t127.length co55 : Value).ownBlock) u115003 x115003_1) := ⟨by exact Kd.Q_mono (Kd.Q_far (p := ⟨gb114, 3, none⟩) (Kd.Q_far (p := ⟨gb114, 2, none⟩) (Kd.Q_far (p := ⟨gb114, 1, none⟩) (Kd.Q_far (p := ⟨gb114, 0, none⟩) (Kd.Q_types HO_115003.out BK114.out (by decide)) (fun _ hk => hk.2) (.int .i64 t124)) (fun _ hk => hk.2) (.int .i64 t125)) (fun _ hk => hk.2) (.int .i64 t126)) (fun _ hk => hk.2) (.slice Ao55 t127.length co55)) (fun _ hk => ⟨hk.1.1, hk.1.2⟩)⟩
      have n2_ : Aside0 (Kd.Q (Kd.int .i64) 3 ((((w49.setCell ⟨gb114, 0, none⟩ (.int .i64 t124)).setCell ⟨gb114, 1, none⟩ (.int .i64 t125)).setCell ⟨gb114, 2, none⟩ (.int .i64 t126)).setCell ⟨gb114, 3, none⟩ (.slice Ao55 t127.length co55)) w.heap.size (fun k_ => some k_ ≠ (u111003 : Value).ownBlock ∧ some k_ ≠ (u115003 : Value).ownBlock) (.slice Ao55 t127.length co55) t127) := ⟨by exact Kd.Q_mono (Kd.Q_far (p := ⟨gb114, 3, none⟩) (Kd.Q_far (p := ⟨gb114, 2, none⟩) (Kd.Q_far (p := ⟨gb114, 1, none⟩) (Kd.Q_far (p := ⟨gb114, 0, none⟩) (Kd.Q_types HO129.out BK114.out (by decide)) (fun _ hk => hk.2) (.int .i64 t124)) (fun _ hk => hk.2) (.int .i64 t125)) (fun _ hk => hk.2) (.int .i64 t126)) (fun _ hk => hk.2) (.slice Ao55 t127.length co55)) (fun _ hk => ⟨hk.1.1.2, hk.1.2⟩)⟩
      have n3_ : Aside0 (((((w49.setCell ⟨gb114, 0, none⟩ (.int .i64 t124)).setCell ⟨gb114, 1, none⟩ (.int .i64 t125)).setCell ⟨gb114, 2, none⟩ (.int .i64 t126)).setCell ⟨gb114, 3, none⟩ (.slice Ao55 t127.length co55)).heap[gb101]? = some (.cells #[.int .i64 0, .int .i64 0, .int .i64 0, .slice none 0 0] 25 (0, 0))) := ⟨by exact far4_ BK101.out NB101_114.out _ _ _ _⟩
      have n4_ : Aside0 (((((w49.setCell ⟨gb114, 0, none⟩ (.int .i64 t124)).setCell ⟨gb114, 1, none⟩ (.int .i64 t125)).setCell ⟨gb114, 2, none⟩ (.int .i64 t126)).setCell ⟨gb114, 3, none⟩ (.slice Ao55 t127.length co55)).heap[gb102]? = some (.cells #[.int .i64 0, .int .i64 0, .int .i64 0, .slice none 0 0] 25 (0, 0))) := ⟨by exact far4_ BK102.out NB102_114.out _ _ _ _⟩
      have n5_ : Aside0 (((((w49.setCell ⟨gb114, 0, none⟩ (.int .i64 t124)).setCell ⟨gb114, 1, none⟩ (.int .i64 t125)).setCell ⟨gb114, 2, none⟩ (.int .i64 t126)).setCell ⟨gb114, 3, none⟩ (.slice Ao55 t127.length co55)).heap[gb110]? = some (.cells #[.int .i64 t103, .int .i64 t104, .int .i64 t105, u111003] 25 (0, 0))) := ⟨by exact far4_ BK110.out NB110_114.out _ _ _ _⟩
      have n6_ : Aside0 (((((w49.setCell ⟨gb114, 0, none⟩ (.int .i64 t124)).setCell ⟨gb114, 1, none⟩ (.int .i64 t125)).setCell ⟨gb114, 2, none⟩ (.int .i64 t126)).setCell ⟨gb114, 3, none⟩ (.slice Ao55 t127.length co55)).heap[gb114]? = some (.cells #[.int .i64 t124, .int .i64 t125, .int .i64 t126, .slice Ao55 t127.length co55] 25 (0, 0))) := ⟨by exact put4_ BK114.out _ _ _ _⟩
      have n7_ : Aside0 (IsS70 w0 ((((w49.setCell ⟨gb114, 0, none⟩ (.int .i64 t124)).setCell ⟨gb114, 1, none⟩ (.int .i64 t125)).setCell ⟨gb114, 2, none⟩ (.int .i64 t126)).setCell ⟨gb114, 3, none⟩ (.slice Ao55 t127.length co55)) g s0_0 t130) := ⟨by repeat (first | (with_reducible first | exact HI0.out | apply IsS70.alloc | apply IsS70.drewN | apply IsS70.drew | apply IsS70.set_1 | refine IsS70.far ?_ NB0_101.out _ | refine IsS70.far ?_ NB0_102.out _ | refine IsS70.far ?_ NB0_110.out _ | refine IsS70.far ?_ NB0_114.out _) | exact HI0.out)⟩
      have n8_ : Aside0 (KeepBut w ((((w49.setCell ⟨gb114, 0, none⟩ (.int .i64 t124)).setCell ⟨gb114, 1, none⟩ (.int .i64 t125)).setCell ⟨gb114, 2, none⟩ (.int .i64 t126)).setCell ⟨gb114, 3, none⟩ (.slice Ao55 t127.length co55)) g none) := ⟨by repeat (first | (with_reducible first | exact HK.out | apply KeepBut.set_ | apply keep_drewN | apply keep_drew | apply keep_alloc | refine keep_far ?_ GW101.out _ | refine keep_far ?_ GW102.out _ | refine keep_far ?_ GW110.out _ | refine keep_far ?_ GW114.out _) | exact HK.out)⟩
      have n9_ : Aside0 (Below w0.heap.size w0 ((((w49.setCell ⟨gb114, 0, none⟩ (.int .i64 t124)).setCell ⟨gb114, 1, none⟩ (.int .i64 t125)).setCell ⟨gb114, 2, none⟩ (.int .i64 t126)).setCell ⟨gb114, 3, none⟩ (.slice Ao55 t127.length co55))) := ⟨by repeat (first | (with_reducible first | exact HB.out | apply below_alloc | apply pw_below_drewN | apply below_drew1 | refine below_set ?_ (IsS70.ge HI0.out) | refine below_set ?_ GE101.out | refine below_set ?_ GE102.out | refine below_set ?_ GE110.out | refine below_set ?_ GE114.out) | exact HB.out)⟩
      (try clear HO_111003)
      (try clear HO_115003)
      (try clear HO129)
      (try clear BK101)
      (try clear BK102)
      (try clear BK110)
      (try clear BK114)
      (try clear HI0)
      (try clear HK)
      (try clear HB)
      generalize ((((w49.setCell ⟨gb114, 0, none⟩ (.int .i64 t124)).setCell ⟨gb114, 1, none⟩ (.int .i64 t125)).setCell ⟨gb114, 2, none⟩ (.int .i64 t126)).setCell ⟨gb114, 3, none⟩ (.slice Ao55 t127.length co55)) = w56 at n0_ n1_ n2_ n3_ n4_ n5_ n6_ n7_ n8_ n9_ ⊢
      have HO_111003 := n0_
      have HO_115003 := n1_
      have HO129 := n2_
      have BK101 := n3_
      have BK102 := n4_
      have BK110 := n5_
      have BK114 := n6_
      have HI0 := n7_
      have HK := n8_
      have HB := n9_
      clear n0_ n1_ n2_ n3_ n4_ n5_ n6_ n7_ n8_ n9_
      replace HO_111003 := am_ (Kd.Q_drew HO_111003.out)
      replace HO_115003 := am_ (Kd.Q_drew HO_115003.out)
      replace HO129 := am_ (Kd.Q_drew HO129.out)
      replace BK101 := am_ (blk_drew BK101.out)
      replace BK102 := am_ (blk_drew BK102.out)
      replace BK110 := am_ (blk_drew BK110.out)
      replace BK114 := am_ (blk_drew BK114.out)
      replace HI0 := am_ (IsS70.drew HI0.out)
      replace HK := am_ (keep_drew HK.out)
      replace HB := am_ (below_drew1 HB.out)
      obtain ⟨Ao61, co61, eo61, _⟩ := Kd.Q_slice HO_111003.out
      (first | subst eo61 | (injection eo61 with f1_ f2_ f3_; have f4_ := f1_.symm; have f5_ := f3_.symm; clear f1_ f2_ f3_; subst f4_; subst f5_))
      refine start_ (n := 4) (S := fun w' => w'.cell? ⟨gb110, 0, none⟩ = some (.int .i64 t103) ∧ w'.cell? ⟨gb110, 1, none⟩ = some (.int .i64 t104) ∧ w'.cell? ⟨gb110, 2, none⟩ = some (.int .i64 t105) ∧ w'.cell? ⟨gb110, 3, none⟩ = some (.slice Ao61 x111003_1.length co61) ∧ w'.cell? ⟨gb114, 0, none⟩ = some (.int .i64 t124) ∧ w'.cell? ⟨gb114, 1, none⟩ = some (.int .i64 t125) ∧ w'.cell? ⟨gb114, 2, none⟩ = some (.int .i64 t126) ∧ w'.cell? ⟨gb114, 3, none⟩ = some (.slice Ao55 t127.length co55)) (ds := []) #[false, false, false, false] (by kernel_rfl) rfl rfl ⟨(blk_cell BK110.out 0).trans rfl, (blk_cell BK110.out 1).trans rfl, (blk_cell BK110.out 2).trans rfl, (blk_cell BK110.out 3).trans rfl, (blk_cell BK114.out 0).trans rfl, (blk_cell BK114.out 1).trans rfl, (blk_cell BK114.out 2).trans rfl, (blk_cell BK114.out 3).trans rfl⟩ (fun hHeld => ?_)
      generalize w56.drew = w57 at HO_111003 HO_115003 HO129 BK101 BK102 BK110 BK114 HI0 HK HB hHeld ⊢
      refine take_ (i := 0) (N := some 46) (v := ?_) (a' := ?_) #[true, false, false, false] rfl rfl (by kernel_rfl) (fun _ _ _ h => h) (Or.inl ⟨by rfl, ?_⟩) hHeld ?_ ?_
      rotate_left
      ·
       rintro w' ⟨s0, s1, s2, s3, s4, s5, s6, s7⟩
       go_simp
       with_reducible rfl
      rotate_left
      ·
       simp only [Act.put, List.setIfInBounds_toArray, List.set_cons_zero, List.set_cons_succ, i64_w, i32_w]
       rfl
      refine take_ (i := 1) (N := some 47) (v := ?_) (a' := ?_) #[true, true, false, false] rfl rfl (by kernel_rfl) (fun _ _ _ h => h) (Or.inl ⟨by rfl, ?_⟩) hHeld ?_ ?_
      rotate_left
      ·
       rintro w' ⟨s0, s1, s2, s3, s4, s5, s6, s7⟩
       go_simp
       with_reducible rfl
      rotate_left
      ·
       simp only [Act.put, List.setIfInBounds_toArray, List.set_cons_zero, List.set_cons_succ, i64_w, i32_w]
       rfl
      refine one_ (i := 2) (N := none) #[true, true, true, false] rfl rfl (by kernel_rfl) (by decide) (fun K hK => ?_)
      have hs58 : w57.cell? ⟨gb101, 0, none⟩ = some (.int .i64 0) := (blk_cell BK101.out 0).trans rfl
      have hfs58 := blk_frozen BK101.out 0
      have hns58_1 := NB102_101.out
      have hns58_2 := NB110_101.out
      have hns58_3 := NB114_101.out
      have hms58_1 := NB101_102.out
      have hms58_2 := NB101_110.out
      have hms58_3 := NB101_114.out
      have hs59 : w57.cell? ⟨gb101, 1, none⟩ = some (.int .i64 0) := (blk_cell BK101.out 1).trans rfl
      have hfs59 := blk_frozen BK101.out 1
      have hns59_1 := NB102_101.out
      have hns59_2 := NB110_101.out
      have hns59_3 := NB114_101.out
      have hms59_1 := NB101_102.out
      have hms59_2 := NB101_110.out
      have hms59_3 := NB101_114.out
      have hs60 : w57.cell? ⟨gb101, 2, none⟩ = some (.int .i64 0) := (blk_cell BK101.out 2).trans rfl
      have hfs60 := blk_frozen BK101.out 2
      have hns60_1 := NB102_101.out
      have hns60_2 := NB110_101.out
      have hns60_3 := NB114_101.out
      have hms60_1 := NB101_102.out
      have hms60_2 := NB101_110.out
      have hms60_3 := NB101_114.out
      have hs62 : w57.cell? ⟨gb101, 3, none⟩ = some (.slice none 0 0) := (blk_cell BK101.out 3).trans rfl
      have hfs62 := blk_frozen BK101.out 3
      have hns62_1 := NB102_101.out
      have hns62_2 := NB110_101.out
      have hns62_3 := NB114_101.out
      have hms62_1 := NB101_102.out
      have hms62_2 := NB101_110.out
      have hms62_3 := NB101_114.out
      refine skip_ (w1 := ?_) (by rfl) rfl ?_ ?_
      rotate_left
      ·
       go_simp
       rfl
      refine hK.out _ _ ⟨((cell_far (p := ⟨gb101, _, none⟩) NB110_101.out _).trans (((cell_far (p := ⟨gb101, _, none⟩) NB110_101.out _).trans (((cell_far (p := ⟨gb101, _, none⟩) NB110_101.out _).trans (((cell_far (p := ⟨gb101, _, none⟩) NB110_101.out _).trans (hHeld.1)))))))), ((cell_far (p := ⟨gb101, _, none⟩) NB110_101.out _).trans (((cell_far (p := ⟨gb101, _, none⟩) NB110_101.out _).trans (((cell_far (p := ⟨gb101, _, none⟩) NB110_101.out _).trans (((cell_far (p := ⟨gb101, _, none⟩) NB110_101.out _).trans (hHeld.2.1)))))))), ((cell_far (p := ⟨gb101, _, none⟩) NB110_101.out _).trans (((cell_far (p := ⟨gb101, _, none⟩) NB110_101.out _).trans (((cell_far (p := ⟨gb101, _, none⟩) NB110_101.out _).trans (((cell_far (p := ⟨gb101, _, none⟩) NB110_101.out _).trans (hHeld.2.2.1)))))))), ((cell_far (p := ⟨gb101, _, none⟩) NB110_101.out _).trans (((cell_far (p := ⟨gb101, _, none⟩) NB110_101.out _).trans (((cell_far (p := ⟨gb101, _, none⟩) NB110_101.out _).trans (((cell_far (p := ⟨gb101, _, none⟩) NB110_101.out _).trans (hHeld.2.2.2.1)))))))), ((cell_far (p := ⟨gb101, _, none⟩) NB114_101.out _).trans (((cell_far (p := ⟨gb101, _, none⟩) NB114_101.out _).trans (((cell_far (p := ⟨gb101, _, none⟩) NB114_101.out _).trans (((cell_far (p := ⟨gb101, _, none⟩) NB114_101.out _).trans (hHeld.2.2.2.2.1)))))))), ((cell_far (p := ⟨gb101, _, none⟩) NB114_101.out _).trans (((cell_far (p := ⟨gb101, _, none⟩) NB114_101.out _).trans (((cell_far (p := ⟨gb101, _, none⟩) NB114_101.out _).trans (((cell_far (p := ⟨gb101, _, none⟩) NB114_101.out _).trans (hHeld.2.2.2.2.2.1)))))))), ((cell_far (p := ⟨gb101, _, none⟩) NB114_101.out _).trans (((cell_far (p := ⟨gb101, _, none⟩) NB114_101.out _).trans (((cell_far (p := ⟨gb101, _, none⟩) NB114_101.out _).trans (((cell_far (p := ⟨gb101, _, none⟩) NB114_101.out _).trans (hHeld.2.2.2.2.2.2.1)))))))), ((cell_far (p := ⟨gb101, _, none⟩) NB114_101.out _).trans (((cell_far (p := ⟨gb101, _, none⟩) NB114_101.out _).trans (((cell_far (p := ⟨gb101, _, none⟩) NB114_101.out _).trans (((cell_far (p := ⟨gb101, _, none⟩) NB114_101.out _).trans (hHeld.2.2.2.2.2.2.2))))))))⟩ (fun hHeld => ?_)
      clear hK K
      refine one_ (i := 3) (N := none) #[true, true, true, true] rfl rfl (by kernel_rfl) (by decide) (fun K hK => ?_)
      have hs63 : w57.cell? ⟨gb102, 0, none⟩ = some (.int .i64 0) := (blk_cell BK102.out 0).trans rfl
      have hfs63 := blk_frozen BK102.out 0
      have hns63_0 := NB101_102.out
      have hns63_2 := NB110_102.out
      have hns63_3 := NB114_102.out
      have hms63_0 := NB102_101.out
      have hms63_2 := NB102_110.out
      have hms63_3 := NB102_114.out
      have hs64 : w57.cell? ⟨gb102, 1, none⟩ = some (.int .i64 0) := (blk_cell BK102.out 1).trans rfl
      have hfs64 := blk_frozen BK102.out 1
      have hns64_0 := NB101_102.out
      have hns64_2 := NB110_102.out
      have hns64_3 := NB114_102.out
      have hms64_0 := NB102_101.out
      have hms64_2 := NB102_110.out
      have hms64_3 := NB102_114.out
      have hs65 : w57.cell? ⟨gb102, 2, none⟩ = some (.int .i64 0) := (blk_cell BK102.out 2).trans rfl
      have hfs65 := blk_frozen BK102.out 2
      have hns65_0 := NB101_102.out
      have hns65_2 := NB110_102.out
      have hns65_3 := NB114_102.out
      have hms65_0 := NB102_101.out
      have hms65_2 := NB102_110.out
      have hms65_3 := NB102_114.out
      have hs66 : w57.cell? ⟨gb102, 3, none⟩ = some (.slice none 0 0) := (blk_cell BK102.out 3).trans rfl
      have hfs66 := blk_frozen BK102.out 3
      have hns66_0 := NB101_102.out
      have hns66_2 := NB110_102.out
      have hns66_3 := NB114_102.out
      have hms66_0 := NB102_101.out
      have hms66_2 := NB102_110.out
      have hms66_3 := NB102_114.out
      refine skip_ (w1 := ?_) (by rfl) rfl ?_ ?_
      rotate_left
      ·
       go_simp
       rfl
      refine hK.out _ _ ⟨((cell_far (p := ⟨gb102, _, none⟩) NB110_102.out _).trans (((cell_far (p := ⟨gb102, _, none⟩) NB110_102.out _).trans (((cell_far (p := ⟨gb102, _, none⟩) NB110_102.out _).trans (((cell_far (p := ⟨gb102, _, none⟩) NB110_102.out _).trans (hHeld.1)))))))), ((cell_far (p := ⟨gb102, _, none⟩) NB110_102.out _).trans (((cell_far (p := ⟨gb102, _, none⟩) NB110_102.out _).trans (((cell_far (p := ⟨gb102, _, none⟩) NB110_102.out _).trans (((cell_far (p := ⟨gb102, _, none⟩) NB110_102.out _).trans (hHeld.2.1)))))))), ((cell_far (p := ⟨gb102, _, none⟩) NB110_102.out _).trans (((cell_far (p := ⟨gb102, _, none⟩) NB110_102.out _).trans (((cell_far (p := ⟨gb102, _, none⟩) NB110_102.out _).trans (((cell_far (p := ⟨gb102, _, none⟩) NB110_102.out _).trans (hHeld.2.2.1)))))))), ((cell_far (p := ⟨gb102, _, none⟩) NB110_102.out _).trans (((cell_far (p := ⟨gb102, _, none⟩) NB110_102.out _).trans (((cell_far (p := ⟨gb102, _, none⟩) NB110_102.out _).trans (((cell_far (p := ⟨gb102, _, none⟩) NB110_102.out _).trans (hHeld.2.2.2.1)))))))), ((cell_far (p := ⟨gb102, _, none⟩) NB114_102.out _).trans (((cell_far (p := ⟨gb102, _, none⟩) NB114_102.out _).trans (((cell_far (p := ⟨gb102, _, none⟩) NB114_102.out _).trans (((cell_far (p := ⟨gb102, _, none⟩) NB114_102.out _).trans (hHeld.2.2.2.2.1)))))))), ((cell_far (p := ⟨gb102, _, none⟩) NB114_102.out _).trans (((cell_far (p := ⟨gb102, _, none⟩) NB114_102.out _).trans (((cell_far (p := ⟨gb102, _, none⟩) NB114_102.out _).trans (((cell_far (p := ⟨gb102, _, none⟩) NB114_102.out _).trans (hHeld.2.2.2.2.2.1)))))))), ((cell_far (p := ⟨gb102, _, none⟩) NB114_102.out _).trans (((cell_far (p := ⟨gb102, _, none⟩) NB114_102.out _).trans (((cell_far (p := ⟨gb102, _, none⟩) NB114_102.out _).trans (((cell_far (p := ⟨gb102, _, none⟩) NB114_102.out _).trans (hHeld.2.2.2.2.2.2.1)))))))), ((cell_far (p := ⟨gb102, _, none⟩) NB114_102.out _).trans (((cell_far (p := ⟨gb102, _, none⟩) NB114_102.out _).trans (((cell_far (p := ⟨gb102, _, none⟩) NB114_102.out _).trans (((cell_far (p := ⟨gb102, _, none⟩) NB114_102.out _).trans (hHeld.2.2.2.2.2.2.2))))))))⟩ (fun hHeld => ?_)
      clear hK K
      refine done_ (by kernel_rfl) ?_
      try go_wp2
      refine bodyPost_ret (results_cc rfl _ _ gb101 gb102 25 25 #[.int .i64 t103, .int .i64 t104, .int .i64 t105, .slice Ao61 x111003_1.length co61] #[.int .i64 t124, .int .i64 t125, .int .i64 t126, .slice Ao55 t127.length co55] (0, 0) (0, 0) _ _ rfl (by (with_reducible repeat (first | refine blk_drewN ?_ _ | refine blk_drew ?_ | refine blk_alloc ?_ _)); refine blk_far ?_ NB101_102.out _; (with_reducible repeat (first | refine blk_drewN ?_ _ | refine blk_drew ?_ | refine blk_alloc ?_ _)); refine blk_far ?_ NB101_102.out _; (with_reducible repeat (first | refine blk_drewN ?_ _ | refine blk_drew ?_ | refine blk_alloc ?_ _)); refine blk_far ?_ NB101_102.out _; (with_reducible repeat (first | refine blk_drewN ?_ _ | refine blk_drew ?_ | refine blk_alloc ?_ _)); refine blk_far ?_ NB101_102.out _; (with_reducible repeat (first | refine blk_drewN ?_ _ | refine blk_drew ?_ | refine blk_alloc ?_ _)); refine blk_put (cs := #[.int .i64 t103, .int .i64 t104, .int .i64 t105, .slice none 0 0]) ?_ 3 _ rfl; (with_reducible repeat (first | refine blk_drewN ?_ _ | refine blk_drew ?_ | refine blk_alloc ?_ _)); refine blk_put (cs := #[.int .i64 t103, .int .i64 t104, .int .i64 0, .slice none 0 0]) ?_ 2 _ rfl; (with_reducible repeat (first | refine blk_drewN ?_ _ | refine blk_drew ?_ | refine blk_alloc ?_ _)); refine blk_put (cs := #[.int .i64 t103, .int .i64 0, .int .i64 0, .slice none 0 0]) ?_ 1 _ rfl; (with_reducible repeat (first | refine blk_drewN ?_ _ | refine blk_drew ?_ | refine blk_alloc ?_ _)); refine blk_put (cs := #[.int .i64 0, .int .i64 0, .int .i64 0, .slice none 0 0]) ?_ 0 _ rfl; (with_reducible repeat (first | refine blk_drewN ?_ _ | refine blk_drew ?_ | refine blk_alloc ?_ _)); exact BK101.out) Try.underlying25 rfl (by kernel_rfl) rfl (by (with_reducible repeat (first | refine blk_drewN ?_ _ | refine blk_drew ?_ | refine blk_alloc ?_ _)); refine blk_put (cs := #[.int .i64 t124, .int .i64 t125, .int .i64 t126, .slice none 0 0]) ?_ 3 _ rfl; (with_reducible repeat (first | refine blk_drewN ?_ _ | refine blk_drew ?_ | refine blk_alloc ?_ _)); refine blk_put (cs := #[.int .i64 t124, .int .i64 t125, .int .i64 0, .slice none 0 0]) ?_ 2 _ rfl; (with_reducible repeat (first | refine blk_drewN ?_ _ | refine blk_drew ?_ | refine blk_alloc ?_ _)); refine blk_put (cs := #[.int .i64 t124, .int .i64 0, .int .i64 0, .slice none 0 0]) ?_ 1 _ rfl; (with_reducible repeat (first | refine blk_drewN ?_ _ | refine blk_drew ?_ | refine blk_alloc ?_ _)); refine blk_put (cs := #[.int .i64 0, .int .i64 0, .int .i64 0, .slice none 0 0]) ?_ 0 _ rfl; (with_reducible repeat (first | refine blk_drewN ?_ _ | refine blk_drew ?_ | refine blk_alloc ?_ _)); refine blk_far ?_ NB102_101.out _; (with_reducible repeat (first | refine blk_drewN ?_ _ | refine blk_drew ?_ | refine blk_alloc ?_ _)); refine blk_far ?_ NB102_101.out _; (with_reducible repeat (first | refine blk_drewN ?_ _ | refine blk_drew ?_ | refine blk_alloc ?_ _)); refine blk_far ?_ NB102_101.out _; (with_reducible repeat (first | refine blk_drewN ?_ _ | refine blk_drew ?_ | refine blk_alloc ?_ _)); refine blk_far ?_ NB102_101.out _; (with_reducible repeat (first | refine blk_drewN ?_ _ | refine blk_drew ?_ | refine blk_alloc ?_ _)); exact BK102.out) Try.underlying25 rfl (by kernel_rfl)) rfl ?_
      exact ⟨_, _, by first | rfl | (simp [errW_none, errW_some] <;> rfl) | (simp [*, errW_none, errW_some] <;> rfl), by exact Kd.Q_mono (Kd.Q_far (p := ⟨gb102, 3, none⟩) (Kd.Q_far (p := ⟨gb102, 2, none⟩) (Kd.Q_far (p := ⟨gb102, 1, none⟩) (Kd.Q_far (p := ⟨gb102, 0, none⟩) (Kd.Q_far (p := ⟨gb101, 3, none⟩) (Kd.Q_far (p := ⟨gb101, 2, none⟩) (Kd.Q_far (p := ⟨gb101, 1, none⟩) (Kd.Q_far (p := ⟨gb101, 0, none⟩) (Kd.Q_types (Kd.Q_types HO_111003.out BK101.out (by decide)) BK102.out (by decide)) (fun _ hk => hk.1.2) (.int .i64 t103)) (fun _ hk => hk.1.2) (.int .i64 t104)) (fun _ hk => hk.1.2) (.int .i64 t105)) (fun _ hk => hk.1.2) (.slice Ao61 x111003_1.length co61)) (fun _ hk => hk.2) (.int .i64 t124)) (fun _ hk => hk.2) (.int .i64 t125)) (fun _ hk => hk.2) (.int .i64 t126)) (fun _ hk => hk.2) (.slice Ao55 t127.length co55)) (fun _ hk => hk.1.1.2), by exact Kd.Q_mono (Kd.Q_far (p := ⟨gb102, 3, none⟩) (Kd.Q_far (p := ⟨gb102, 2, none⟩) (Kd.Q_far (p := ⟨gb102, 1, none⟩) (Kd.Q_far (p := ⟨gb102, 0, none⟩) (Kd.Q_far (p := ⟨gb101, 3, none⟩) (Kd.Q_far (p := ⟨gb101, 2, none⟩) (Kd.Q_far (p := ⟨gb101, 1, none⟩) (Kd.Q_far (p := ⟨gb101, 0, none⟩) (Kd.Q_types (Kd.Q_types HO129.out BK101.out (by decide)) BK102.out (by decide)) (fun _ hk => hk.1.2) (.int .i64 t103)) (fun _ hk => hk.1.2) (.int .i64 t104)) (fun _ hk => hk.1.2) (.int .i64 t105)) (fun _ hk => hk.1.2) (.slice Ao61 x111003_1.length co61)) (fun _ hk => hk.2) (.int .i64 t124)) (fun _ hk => hk.2) (.int .i64 t125)) (fun _ hk => hk.2) (.int .i64 t126)) (fun _ hk => hk.2) (.slice Ao55 t127.length co55)) (fun _ hk => hk.1.1.1), by repeat (first | (with_reducible first | exact HI0.out | apply IsS70.alloc | apply IsS70.drewN | apply IsS70.drew | apply IsS70.set_1 | refine IsS70.far ?_ NB0_101.out _ | refine IsS70.far ?_ NB0_102.out _ | refine IsS70.far ?_ NB0_110.out _ | refine IsS70.far ?_ NB0_114.out _) | exact HI0.out), by repeat (first | (with_reducible first | exact HB.out | apply below_alloc | apply pw_below_drewN | apply below_drew1 | refine below_set ?_ (IsS70.ge HI0.out) | refine below_set ?_ GE101.out | refine below_set ?_ GE102.out | refine below_set ?_ GE110.out | refine below_set ?_ GE114.out) | exact HB.out), by repeat (first | (with_reducible first | exact HK.out | apply KeepBut.set_ | apply keep_drewN | apply keep_drew | apply keep_alloc | refine keep_far ?_ GW101.out _ | refine keep_far ?_ GW102.out _ | refine keep_far ?_ GW110.out _ | refine keep_far ?_ GW114.out _) | exact HK.out)⟩
     rw [if_neg c46] at H
     have c46b0 : (t122 == 0) = false := beq_eq_false_iff_ne.mpr c46
     have c46b1 : (t122 != 0) = true := bne_iff_ne.mpr c46
     simp only [Option.some.injEq, Prod.mk.injEq] at H
     obtain ⟨rfl, rfl, rfl, rfl, rfl, rfl, rfl, rfl, rfl⟩ := H
     try go_wp2_with (first | ((with_reducible refine gate_callee (f := 46) rfl ?_); refine goesL_ (some 42) rfl rfl Try.func46 (by kernel_rfl) rfl #[.pointer (some ⟨g, 0, none⟩), .int .i64 16] rfl (by simp only [List.map_toArray, List.map_cons, List.map_nil]; rfl) ?_; (with_reducible refine (spec_reader_pick.calls kj25 g s0_0 x1001_1 16 t122 t123 w0 _ ?side1 ?side2 A45.out).mono ?_); (case side1 => repeat (first | (with_reducible first | exact HI0.out | apply IsS70.alloc | apply IsS70.drewN | apply IsS70.drew | apply IsS70.set_1 | refine IsS70.far ?_ NB0_101.out _ | refine IsS70.far ?_ NB0_102.out _ | refine IsS70.far ?_ NB0_110.out _ | refine IsS70.far ?_ NB0_114.out _) | exact HI0.out)); (case side2 => repeat (first | (with_reducible first | exact HB.out | apply below_alloc | apply pw_below_drewN | apply below_drew1 | refine below_set ?_ (IsS70.ge HI0.out) | refine below_set ?_ GE101.out | refine below_set ?_ GE102.out | refine below_set ?_ GE110.out | refine below_set ?_ GE114.out) | exact HB.out)); rintro e w67 ⟨rfl, hi, hb, hk⟩; refine ⟨_, rfl, ?_⟩; replace HO_111003 := am_ (Kd.Q_mono (Kd.Q_keep (IsS70.apartQ (show IsS70 w0 _ g s0_0 x1001_1 from by repeat (first | (with_reducible first | exact HI0.out | apply IsS70.alloc | apply IsS70.drewN | apply IsS70.drew | apply IsS70.set_1 | refine IsS70.far ?_ NB0_101.out _ | refine IsS70.far ?_ NB0_102.out _ | refine IsS70.far ?_ NB0_110.out _ | refine IsS70.far ?_ NB0_114.out _) | exact HI0.out)) (by exact HO_111003.out) (by decide)) hk (fun _ h => h.2)) (fun _ h => h.1)); replace HO_115003 := am_ (Kd.Q_mono (Kd.Q_keep (IsS70.apartQ (show IsS70 w0 _ g s0_0 x1001_1 from by repeat (first | (with_reducible first | exact HI0.out | apply IsS70.alloc | apply IsS70.drewN | apply IsS70.drew | apply IsS70.set_1 | refine IsS70.far ?_ NB0_101.out _ | refine IsS70.far ?_ NB0_102.out _ | refine IsS70.far ?_ NB0_110.out _ | refine IsS70.far ?_ NB0_114.out _) | exact HI0.out)) (by exact HO_115003.out) (by decide)) hk (fun _ h => h.2)) (fun _ h => h.1)); replace BK101 := am_ (KeepBut.blk hk (by exact BK101.out) NB101_0.out (by simp)); replace BK102 := am_ (KeepBut.blk hk (by exact BK102.out) NB102_0.out (by simp)); replace BK110 := am_ (KeepBut.blk hk (by exact BK110.out) NB110_0.out (by simp)); replace BK114 := am_ (KeepBut.blk hk (by exact BK114.out) NB114_0.out (by simp)); replace HK := am_ (KeepBut.trans (by repeat (first | (with_reducible first | exact HK.out | apply KeepBut.set_ | apply keep_drewN | apply keep_drew | apply keep_alloc | refine keep_far ?_ GW101.out _ | refine keep_far ?_ GW102.out _ | refine keep_far ?_ GW110.out _ | refine keep_far ?_ GW114.out _) | exact HK.out)) hk (.inl rfl)); replace HB := am_ (hb); replace HI0 := am_ (hi); (try clear hb); (try clear hb2); (try clear hk); (try clear hi)))
     replace HO_111003 := am_ (Kd.Q_drew HO_111003.out)
     replace HO_115003 := am_ (Kd.Q_drew HO_115003.out)
     replace BK101 := am_ (blk_drew BK101.out)
     replace BK102 := am_ (blk_drew BK102.out)
     replace BK110 := am_ (blk_drew BK110.out)
     replace BK114 := am_ (blk_drew BK114.out)
     replace HI0 := am_ (IsS70.drew HI0.out)
     replace HK := am_ (keep_drew HK.out)
     replace HB := am_ (below_drew1 HB.out)
     obtain ⟨Ao72, co72, eo72, _⟩ := Kd.Q_slice HO_111003.out
     (first | subst eo72 | (injection eo72 with f1_ f2_ f3_; have f4_ := f1_.symm; have f5_ := f3_.symm; clear f1_ f2_ f3_; subst f4_; subst f5_))
     obtain ⟨Ao77, co77, eo77, _⟩ := Kd.Q_slice HO_115003.out
     (first | subst eo77 | (injection eo77 with f1_ f2_ f3_; have f4_ := f1_.symm; have f5_ := f3_.symm; clear f1_ f2_ f3_; subst f4_; subst f5_))
     refine start_ (n := 4) (S := fun w' => w'.cell? ⟨gb110, 0, none⟩ = some (.int .i64 t103) ∧ w'.cell? ⟨gb110, 1, none⟩ = some (.int .i64 t104) ∧ w'.cell? ⟨gb110, 2, none⟩ = some (.int .i64 t105) ∧ w'.cell? ⟨gb110, 3, none⟩ = some (.slice Ao72 x111003_1.length co72) ∧ w'.cell? ⟨gb114, 0, none⟩ = some (.int .i64 t103) ∧ w'.cell? ⟨gb114, 1, none⟩ = some (.int .i64 t104) ∧ w'.cell? ⟨gb114, 2, none⟩ = some (.int .i64 t105) ∧ w'.cell? ⟨gb114, 3, none⟩ = some (.slice Ao77 x115003_1.length co77)) (ds := []) #[false, false, false, false] (by kernel_rfl) rfl rfl ⟨(blk_cell BK110.out 0).trans rfl, (blk_cell BK110.out 1).trans rfl, (blk_cell BK110.out 2).trans rfl, (blk_cell BK110.out 3).trans rfl, (blk_cell BK114.out 0).trans rfl, (blk_cell BK114.out 1).trans rfl, (blk_cell BK114.out 2).trans rfl, (blk_cell BK114.out 3).trans rfl⟩ (fun hHeld => ?_)
     generalize w67.drew = w68 at HO_111003 HO_115003 BK101 BK102 BK110 BK114 HI0 HK HB hHeld ⊢
     refine take_ (i := 0) (N := some 46) (v := ?_) (a' := ?_) #[true, false, false, false] rfl rfl (by kernel_rfl) (fun _ _ _ h => h) (Or.inl ⟨by rfl, ?_⟩) hHeld ?_ ?_
     rotate_left
     ·
      rintro w' ⟨s0, s1, s2, s3, s4, s5, s6, s7⟩
      go_simp
      with_reducible rfl
     rotate_left
     ·
      simp only [Act.put, List.setIfInBounds_toArray, List.set_cons_zero, List.set_cons_succ, i64_w, i32_w]
      rfl
     refine take_ (i := 1) (N := some 47) (v := ?_) (a' := ?_) #[true, true, false, false] rfl rfl (by kernel_rfl) (fun _ _ _ h => h) (Or.inl ⟨by rfl, ?_⟩) hHeld ?_ ?_
     rotate_left
     ·
      rintro w' ⟨s0, s1, s2, s3, s4, s5, s6, s7⟩
      go_simp
      with_reducible rfl
     rotate_left
     ·
      simp only [Act.put, List.setIfInBounds_toArray, List.set_cons_zero, List.set_cons_succ, i64_w, i32_w]
      rfl
     refine one_ (i := 2) (N := none) #[true, true, true, false] rfl rfl (by kernel_rfl) (by decide) (fun K hK => ?_)
     have hs69 : w68.cell? ⟨gb101, 0, none⟩ = some (.int .i64 0) := (blk_cell BK101.out 0).trans rfl
     have hfs69 := blk_frozen BK101.out 0
     have hns69_1 := NB102_101.out
     have hns69_2 := NB110_101.out
     have hns69_3 := NB114_101.out
     have hms69_1 := NB101_102.out
     have hms69_2 := NB101_110.out
     have hms69_3 := NB101_114.out
     have hs70 : w68.cell? ⟨gb101, 1, none⟩ = some (.int .i64 0) := (blk_cell BK101.out 1).trans rfl
     have hfs70 := blk_frozen BK101.out 1
     have hns70_1 := NB102_101.out
     have hns70_2 := NB110_101.out
     have hns70_3 := NB114_101.out
     have hms70_1 := NB101_102.out
     have hms70_2 := NB101_110.out
     have hms70_3 := NB101_114.out
     have hs71 : w68.cell? ⟨gb101, 2, none⟩ = some (.int .i64 0) := (blk_cell BK101.out 2).trans rfl
     have hfs71 := blk_frozen BK101.out 2
     have hns71_1 := NB102_101.out
     have hns71_2 := NB110_101.out
     have hns71_3 := NB114_101.out
     have hms71_1 := NB101_102.out
     have hms71_2 := NB101_110.out
     have hms71_3 := NB101_114.out
     have hs73 : w68.cell? ⟨gb101, 3, none⟩ = some (.slice none 0 0) := (blk_cell BK101.out 3).trans rfl
     have hfs73 := blk_frozen BK101.out 3
     have hns73_1 := NB102_101.out
     have hns73_2 := NB110_101.out
     have hns73_3 := NB114_101.out
     have hms73_1 := NB101_102.out
     have hms73_2 := NB101_110.out
     have hms73_3 := NB101_114.out
     refine skip_ (w1 := ?_) (by rfl) rfl ?_ ?_
     rotate_left
     ·
      go_simp
      rfl
     refine hK.out _ _ ⟨((cell_far (p := ⟨gb101, _, none⟩) NB110_101.out _).trans (((cell_far (p := ⟨gb101, _, none⟩) NB110_101.out _).trans (((cell_far (p := ⟨gb101, _, none⟩) NB110_101.out _).trans (((cell_far (p := ⟨gb101, _, none⟩) NB110_101.out _).trans (hHeld.1)))))))), ((cell_far (p := ⟨gb101, _, none⟩) NB110_101.out _).trans (((cell_far (p := ⟨gb101, _, none⟩) NB110_101.out _).trans (((cell_far (p := ⟨gb101, _, none⟩) NB110_101.out _).trans (((cell_far (p := ⟨gb101, _, none⟩) NB110_101.out _).trans (hHeld.2.1)))))))), ((cell_far (p := ⟨gb101, _, none⟩) NB110_101.out _).trans (((cell_far (p := ⟨gb101, _, none⟩) NB110_101.out _).trans (((cell_far (p := ⟨gb101, _, none⟩) NB110_101.out _).trans (((cell_far (p := ⟨gb101, _, none⟩) NB110_101.out _).trans (hHeld.2.2.1)))))))), ((cell_far (p := ⟨gb101, _, none⟩) NB110_101.out _).trans (((cell_far (p := ⟨gb101, _, none⟩) NB110_101.out _).trans (((cell_far (p := ⟨gb101, _, none⟩) NB110_101.out _).trans (((cell_far (p := ⟨gb101, _, none⟩) NB110_101.out _).trans (hHeld.2.2.2.1)))))))), ((cell_far (p := ⟨gb101, _, none⟩) NB114_101.out _).trans (((cell_far (p := ⟨gb101, _, none⟩) NB114_101.out _).trans (((cell_far (p := ⟨gb101, _, none⟩) NB114_101.out _).trans (((cell_far (p := ⟨gb101, _, none⟩) NB114_101.out _).trans (hHeld.2.2.2.2.1)))))))), ((cell_far (p := ⟨gb101, _, none⟩) NB114_101.out _).trans (((cell_far (p := ⟨gb101, _, none⟩) NB114_101.out _).trans (((cell_far (p := ⟨gb101, _, none⟩) NB114_101.out _).trans (((cell_far (p := ⟨gb101, _, none⟩) NB114_101.out _).trans (hHeld.2.2.2.2.2.1)))))))), ((cell_far (p := ⟨gb101, _, none⟩) NB114_101.out _).trans (((cell_far (p := ⟨gb101, _, none⟩) NB114_101.out _).trans (((cell_far (p := ⟨gb101, _, none⟩) NB114_101.out _).trans (((cell_far (p := ⟨gb101, _, none⟩) NB114_101.out _).trans (hHeld.2.2.2.2.2.2.1)))))))), ((cell_far (p := ⟨gb101, _, none⟩) NB114_101.out _).trans (((cell_far (p := ⟨gb101, _, none⟩) NB114_101.out _).trans (((cell_far (p := ⟨gb101, _, none⟩) NB114_101.out _).trans (((cell_far (p := ⟨gb101, _, none⟩) NB114_101.out _).trans (hHeld.2.2.2.2.2.2.2))))))))⟩ (fun hHeld => ?_)
     clear hK K
     refine one_ (i := 3) (N := none) #[true, true, true, true] rfl rfl (by kernel_rfl) (by decide) (fun K hK => ?_)
     have hs74 : w68.cell? ⟨gb102, 0, none⟩ = some (.int .i64 0) := (blk_cell BK102.out 0).trans rfl
     have hfs74 := blk_frozen BK102.out 0
     have hns74_0 := NB101_102.out
     have hns74_2 := NB110_102.out
     have hns74_3 := NB114_102.out
     have hms74_0 := NB102_101.out
     have hms74_2 := NB102_110.out
     have hms74_3 := NB102_114.out
     have hs75 : w68.cell? ⟨gb102, 1, none⟩ = some (.int .i64 0) := (blk_cell BK102.out 1).trans rfl
     have hfs75 := blk_frozen BK102.out 1
     have hns75_0 := NB101_102.out
     have hns75_2 := NB110_102.out
     have hns75_3 := NB114_102.out
     have hms75_0 := NB102_101.out
     have hms75_2 := NB102_110.out
     have hms75_3 := NB102_114.out
     have hs76 : w68.cell? ⟨gb102, 2, none⟩ = some (.int .i64 0) := (blk_cell BK102.out 2).trans rfl
     have hfs76 := blk_frozen BK102.out 2
     have hns76_0 := NB101_102.out
     have hns76_2 := NB110_102.out
     have hns76_3 := NB114_102.out
     have hms76_0 := NB102_101.out
     have hms76_2 := NB102_110.out
     have hms76_3 := NB102_114.out
     have hs78 : w68.cell? ⟨gb102, 3, none⟩ = some (.slice none 0 0) := (blk_cell BK102.out 3).trans rfl
     have hfs78 := blk_frozen BK102.out 3
     have hns78_0 := NB101_102.out
     have hns78_2 := NB110_102.out
     have hns78_3 := NB114_102.out
     have hms78_0 := NB102_101.out
     have hms78_2 := NB102_110.out
     have hms78_3 := NB102_114.out
     refine skip_ (w1 := ?_) (by rfl) rfl ?_ ?_
     rotate_left
     ·
      go_simp
      rfl
     refine hK.out _ _ ⟨((cell_far (p := ⟨gb102, _, none⟩) NB110_102.out _).trans (((cell_far (p := ⟨gb102, _, none⟩) NB110_102.out _).trans (((cell_far (p := ⟨gb102, _, none⟩) NB110_102.out _).trans (((cell_far (p := ⟨gb102, _, none⟩) NB110_102.out _).trans (hHeld.1)))))))), ((cell_far (p := ⟨gb102, _, none⟩) NB110_102.out _).trans (((cell_far (p := ⟨gb102, _, none⟩) NB110_102.out _).trans (((cell_far (p := ⟨gb102, _, none⟩) NB110_102.out _).trans (((cell_far (p := ⟨gb102, _, none⟩) NB110_102.out _).trans (hHeld.2.1)))))))), ((cell_far (p := ⟨gb102, _, none⟩) NB110_102.out _).trans (((cell_far (p := ⟨gb102, _, none⟩) NB110_102.out _).trans (((cell_far (p := ⟨gb102, _, none⟩) NB110_102.out _).trans (((cell_far (p := ⟨gb102, _, none⟩) NB110_102.out _).trans (hHeld.2.2.1)))))))), ((cell_far (p := ⟨gb102, _, none⟩) NB110_102.out _).trans (((cell_far (p := ⟨gb102, _, none⟩) NB110_102.out _).trans (((cell_far (p := ⟨gb102, _, none⟩) NB110_102.out _).trans (((cell_far (p := ⟨gb102, _, none⟩) NB110_102.out _).trans (hHeld.2.2.2.1)))))))), ((cell_far (p := ⟨gb102, _, none⟩) NB114_102.out _).trans (((cell_far (p := ⟨gb102, _, none⟩) NB114_102.out _).trans (((cell_far (p := ⟨gb102, _, none⟩) NB114_102.out _).trans (((cell_far (p := ⟨gb102, _, none⟩) NB114_102.out _).trans (hHeld.2.2.2.2.1)))))))), ((cell_far (p := ⟨gb102, _, none⟩) NB114_102.out _).trans (((cell_far (p := ⟨gb102, _, none⟩) NB114_102.out _).trans (((cell_far (p := ⟨gb102, _, none⟩) NB114_102.out _).trans (((cell_far (p := ⟨gb102, _, none⟩) NB114_102.out _).trans (hHeld.2.2.2.2.2.1)))))))), ((cell_far (p := ⟨gb102, _, none⟩) NB114_102.out _).trans (((cell_far (p := ⟨gb102, _, none⟩) NB114_102.out _).trans (((cell_far (p := ⟨gb102, _, none⟩) NB114_102.out _).trans (((cell_far (p := ⟨gb102, _, none⟩) NB114_102.out _).trans (hHeld.2.2.2.2.2.2.1)))))))), ((cell_far (p := ⟨gb102, _, none⟩) NB114_102.out _).trans (((cell_far (p := ⟨gb102, _, none⟩) NB114_102.out _).trans (((cell_far (p := ⟨gb102, _, none⟩) NB114_102.out _).trans (((cell_far (p := ⟨gb102, _, none⟩) NB114_102.out _).trans (hHeld.2.2.2.2.2.2.2))))))))⟩ (fun hHeld => ?_)
     clear hK K
     refine done_ (by kernel_rfl) ?_
     try go_wp2
     refine bodyPost_ret (results_cc rfl _ _ gb101 gb102 25 25 #[.int .i64 t103, .int .i64 t104, .int .i64 t105, .slice Ao72 x111003_1.length co72] #[.int .i64 t103, .int .i64 t104, .int .i64 t105, .slice Ao77 x115003_1.length co77] (0, 0) (0, 0) _ _ rfl (by (with_reducible repeat (first | refine blk_drewN ?_ _ | refine blk_drew ?_ | refine blk_alloc ?_ _)); refine blk_far ?_ NB101_102.out _; (with_reducible repeat (first | refine blk_drewN ?_ _ | refine blk_drew ?_ | refine blk_alloc ?_ _)); refine blk_far ?_ NB101_102.out _; (with_reducible repeat (first | refine blk_drewN ?_ _ | refine blk_drew ?_ | refine blk_alloc ?_ _)); refine blk_far ?_ NB101_102.out _; (with_reducible repeat (first | refine blk_drewN ?_ _ | refine blk_drew ?_ | refine blk_alloc ?_ _)); refine blk_far ?_ NB101_102.out _; (with_reducible repeat (first | refine blk_drewN ?_ _ | refine blk_drew ?_ | refine blk_alloc ?_ _)); refine blk_put (cs := #[.int .i64 t103, .int .i64 t104, .int .i64 t105, .slice none 0 0]) ?_ 3 _ rfl; (with_reducible repeat (first | refine blk_drewN ?_ _ | refine blk_drew ?_ | refine blk_alloc ?_ _)); refine blk_put (cs := #[.int .i64 t103, .int .i64 t104, .int .i64 0, .slice none 0 0]) ?_ 2 _ rfl; (with_reducible repeat (first | refine blk_drewN ?_ _ | refine blk_drew ?_ | refine blk_alloc ?_ _)); refine blk_put (cs := #[.int .i64 t103, .int .i64 0, .int .i64 0, .slice none 0 0]) ?_ 1 _ rfl; (with_reducible repeat (first | refine blk_drewN ?_ _ | refine blk_drew ?_ | refine blk_alloc ?_ _)); refine blk_put (cs := #[.int .i64 0, .int .i64 0, .int .i64 0, .slice none 0 0]) ?_ 0 _ rfl; (with_reducible repeat (first | refine blk_drewN ?_ _ | refine blk_drew ?_ | refine blk_alloc ?_ _)); exact BK101.out) Try.underlying25 rfl (by kernel_rfl) rfl (by (with_reducible repeat (first | refine blk_drewN ?_ _ | refine blk_drew ?_ | refine blk_alloc ?_ _)); refine blk_put (cs := #[.int .i64 t103, .int .i64 t104, .int .i64 t105, .slice none 0 0]) ?_ 3 _ rfl; (with_reducible repeat (first | refine blk_drewN ?_ _ | refine blk_drew ?_ | refine blk_alloc ?_ _)); refine blk_put (cs := #[.int .i64 t103, .int .i64 t104, .int .i64 0, .slice none 0 0]) ?_ 2 _ rfl; (with_reducible repeat (first | refine blk_drewN ?_ _ | refine blk_drew ?_ | refine blk_alloc ?_ _)); refine blk_put (cs := #[.int .i64 t103, .int .i64 0, .int .i64 0, .slice none 0 0]) ?_ 1 _ rfl; (with_reducible repeat (first | refine blk_drewN ?_ _ | refine blk_drew ?_ | refine blk_alloc ?_ _)); refine blk_put (cs := #[.int .i64 0, .int .i64 0, .int .i64 0, .slice none 0 0]) ?_ 0 _ rfl; (with_reducible repeat (first | refine blk_drewN ?_ _ | refine blk_drew ?_ | refine blk_alloc ?_ _)); refine blk_far ?_ NB102_101.out _; (with_reducible repeat (first | refine blk_drewN ?_ _ | refine blk_drew ?_ | refine blk_alloc ?_ _)); refine blk_far ?_ NB102_101.out _; (with_reducible repeat (first | refine blk_drewN ?_ _ | refine blk_drew ?_ | refine blk_alloc ?_ _)); refine blk_far ?_ NB102_101.out _; (with_reducible repeat (first | refine blk_drewN ?_ _ | refine blk_drew ?_ | refine blk_alloc ?_ _)); refine blk_far ?_ NB102_101.out _; (with_reducible repeat (first | refine blk_drewN ?_ _ | refine blk_drew ?_ | refine blk_alloc ?_ _)); exact BK102.out) Try.underlying25 rfl (by kernel_rfl)) rfl ?_
     exact ⟨_, _, by first | rfl | (simp [errW_none, errW_some] <;> rfl) | (simp [*, errW_none, errW_some] <;> rfl), by exact Kd.Q_mono (Kd.Q_far (p := ⟨gb102, 3, none⟩) (Kd.Q_far (p := ⟨gb102, 2, none⟩) (Kd.Q_far (p := ⟨gb102, 1, none⟩) (Kd.Q_far (p := ⟨gb102, 0, none⟩) (Kd.Q_far (p := ⟨gb101, 3, none⟩) (Kd.Q_far (p := ⟨gb101, 2, none⟩) (Kd.Q_far (p := ⟨gb101, 1, none⟩) (Kd.Q_far (p := ⟨gb101, 0, none⟩) (Kd.Q_types (Kd.Q_types HO_111003.out BK101.out (by decide)) BK102.out (by decide)) (fun _ hk => hk.1.2) (.int .i64 t103)) (fun _ hk => hk.1.2) (.int .i64 t104)) (fun _ hk => hk.1.2) (.int .i64 t105)) (fun _ hk => hk.1.2) (.slice Ao72 x111003_1.length co72)) (fun _ hk => hk.2) (.int .i64 t103)) (fun _ hk => hk.2) (.int .i64 t104)) (fun _ hk => hk.2) (.int .i64 t105)) (fun _ hk => hk.2) (.slice Ao77 x115003_1.length co77)) (fun _ hk => hk.1.1), by exact Kd.Q_mono (Kd.Q_far (p := ⟨gb102, 3, none⟩) (Kd.Q_far (p := ⟨gb102, 2, none⟩) (Kd.Q_far (p := ⟨gb102, 1, none⟩) (Kd.Q_far (p := ⟨gb102, 0, none⟩) (Kd.Q_far (p := ⟨gb101, 3, none⟩) (Kd.Q_far (p := ⟨gb101, 2, none⟩) (Kd.Q_far (p := ⟨gb101, 1, none⟩) (Kd.Q_far (p := ⟨gb101, 0, none⟩) (Kd.Q_types (Kd.Q_types HO_115003.out BK101.out (by decide)) BK102.out (by decide)) (fun _ hk => hk.1.2) (.int .i64 t103)) (fun _ hk => hk.1.2) (.int .i64 t104)) (fun _ hk => hk.1.2) (.int .i64 t105)) (fun _ hk => hk.1.2) (.slice Ao72 x111003_1.length co72)) (fun _ hk => hk.2) (.int .i64 t103)) (fun _ hk => hk.2) (.int .i64 t104)) (fun _ hk => hk.2) (.int .i64 t105)) (fun _ hk => hk.2) (.slice Ao77 x115003_1.length co77)) (fun _ hk => hk.1.1), by repeat (first | (with_reducible first | exact HI0.out | apply IsS70.alloc | apply IsS70.drewN | apply IsS70.drew | apply IsS70.set_1 | refine IsS70.far ?_ NB0_101.out _ | refine IsS70.far ?_ NB0_102.out _ | refine IsS70.far ?_ NB0_110.out _ | refine IsS70.far ?_ NB0_114.out _) | exact HI0.out), by repeat (first | (with_reducible first | exact HB.out | apply below_alloc | apply pw_below_drewN | apply below_drew1 | refine below_set ?_ (IsS70.ge HI0.out) | refine below_set ?_ GE101.out | refine below_set ?_ GE102.out | refine below_set ?_ GE110.out | refine below_set ?_ GE114.out) | exact HB.out), by repeat (first | (with_reducible first | exact HK.out | apply KeepBut.set_ | apply keep_drewN | apply keep_drew | apply keep_alloc | refine keep_far ?_ GW101.out _ | refine keep_far ?_ GW102.out _ | refine keep_far ?_ GW110.out _ | refine keep_far ?_ GW114.out _) | exact HK.out)⟩

/-! ### spec_runsOf: function 61 -/
mutual
def spec_runsOf.l0 : Nat → List Bool → List (S59) → Int → Option ((List (S59)))
 | 0, _, _, _ => none
 | k + 1, x0, x3, x4 => if x4 < 16 then (spec_runsOf.l1 k x0 x3 x4 (-1) 0) else (some x3)
def spec_runsOf.l1 : Nat → List Bool → List (S59) → Int → Int → Int → Option ((List (S59)))
 | 0, _, _, _, _, _ => none
 | k + 1, x0, x3, x4, x5, x6 => if x6 ≤ 16 then (if x6 < 16 then (if 0 ≤ (wrap64 ((wrap64 (x4 * 16)) + x6)) then (if (wrap64 ((wrap64 (x4 * 16)) + x6)) < (x0.length : Int) then (spec_runsOf.j2 k x0 x3 x4 x5 x6 (rdOf false x0 (wrap64 ((wrap64 (x4 * 16)) + x6)))) else (none)) else (none)) else (spec_runsOf.j2 k x0 x3 x4 x5 x6 false)) else (spec_runsOf.l0 k x0 x3 (wrap64 (x4 + 1)))
def spec_runsOf.j2 : Nat → List Bool → List (S59) → Int → Int → Int → Bool → Option ((List (S59)))
 | 0, _, _, _, _, _, _ => none
 | k + 1, x0, x3, x4, x5, x6, x7 => if x7 = true then (spec_runsOf.j3 k x0 x3 x4 x5 x6 x7 (decide (x5 < 0))) else (spec_runsOf.j3 k x0 x3 x4 x5 x6 x7 false)
def spec_runsOf.j3 : Nat → List Bool → List (S59) → Int → Int → Int → Bool → Bool → Option ((List (S59)))
 | 0, _, _, _, _, _, _, _ => none
 | k + 1, x0, x3, x4, x5, x6, x7, x32 => if x32 = true then (if x7 = true then (spec_runsOf.l1 k x0 x3 x4 x6 (wrap64 (x6 + 1))) else (if x6 ≥ 0 then (if x3.length < 5864062014805 then (spec_runsOf.l1 k x0 (x3 ++ [(⟨x4, x6, x6⟩ : S59)]) x4 (-1) (wrap64 (x6 + 1))) else (none)) else (spec_runsOf.l1 k x0 x3 x4 x6 (wrap64 (x6 + 1))))) else (if x7 = true then (spec_runsOf.l1 k x0 x3 x4 x5 (wrap64 (x6 + 1))) else (if x5 ≥ 0 then (if x3.length < 5864062014805 then (spec_runsOf.l1 k x0 (x3 ++ [(⟨x4, x5, x6⟩ : S59)]) x4 (-1) (wrap64 (x6 + 1))) else (none)) else (spec_runsOf.l1 k x0 x3 x4 x5 (wrap64 (x6 + 1)))))
end
def spec_runsOf.f (k : Nat) (l0 : List Bool) : Option ((List (S59))) := spec_runsOf.l0 k l0 (([] : List (S59))) 0
theorem spec_runsOf.mono_l : ∀ k, (∀ y0 y1 y2, LeO (spec_runsOf.l0 k y0 y1 y2) (spec_runsOf.l0 (k + 1) y0 y1 y2)) ∧ (∀ y0 y1 y2 y3 y4, LeO (spec_runsOf.l1 k y0 y1 y2 y3 y4) (spec_runsOf.l1 (k + 1) y0 y1 y2 y3 y4)) ∧ (∀ y0 y1 y2 y3 y4 y5, LeO (spec_runsOf.j2 k y0 y1 y2 y3 y4 y5) (spec_runsOf.j2 (k + 1) y0 y1 y2 y3 y4 y5)) ∧ (∀ y0 y1 y2 y3 y4 y5 y6, LeO (spec_runsOf.j3 k y0 y1 y2 y3 y4 y5 y6) (spec_runsOf.j3 (k + 1) y0 y1 y2 y3 y4 y5 y6))
 | 0 => ⟨fun _ _ _ r h => by simp [spec_runsOf.l0] at h, fun _ _ _ _ _ r h => by simp [spec_runsOf.l1] at h, fun _ _ _ _ _ _ r h => by simp [spec_runsOf.j2] at h, fun _ _ _ _ _ _ _ r h => by simp [spec_runsOf.j3] at h⟩
 | k + 1 => by
  obtain ⟨ih0, ih1, ih2, ih3⟩ := spec_runsOf.mono_l k
  refine ⟨?_, ?_, ?_, ?_⟩
  ·
   intro y0 y1 y2
   unfold spec_runsOf.l0
   repeat' first
   | (with_reducible exact ih0 _ _ _)
   | (with_reducible exact ih1 _ _ _ _ _)
   | (with_reducible exact ih2 _ _ _ _ _ _)
   | (with_reducible exact ih3 _ _ _ _ _ _ _)
   | (with_reducible exact LeO.refl _)
   | (with_reducible exact LeO.none _)
   | (with_reducible refine LeO.ite ?_ ?_)
   | (with_reducible refine LeO.bind ?_ (fun _ => ?_))
   | exact ih0 _ _ _
   | exact ih1 _ _ _ _ _
   | exact ih2 _ _ _ _ _ _
   | exact ih3 _ _ _ _ _ _ _
   | exact LeO.none _
   | refine LeO.ite ?_ ?_
   | refine LeO.bind ?_ (fun _ => ?_)
  ·
   intro y0 y1 y2 y3 y4
   unfold spec_runsOf.l1
   repeat' first
   | (with_reducible exact ih0 _ _ _)
   | (with_reducible exact ih1 _ _ _ _ _)
   | (with_reducible exact ih2 _ _ _ _ _ _)
   | (with_reducible exact ih3 _ _ _ _ _ _ _)
   | (with_reducible exact LeO.refl _)
   | (with_reducible exact LeO.none _)
   | (with_reducible refine LeO.ite ?_ ?_)
   | (with_reducible refine LeO.bind ?_ (fun _ => ?_))
   | exact ih0 _ _ _
   | exact ih1 _ _ _ _ _
   | exact ih2 _ _ _ _ _ _
   | exact ih3 _ _ _ _ _ _ _
   | exact LeO.none _
   | refine LeO.ite ?_ ?_
   | refine LeO.bind ?_ (fun _ => ?_)
  ·
   intro y0 y1 y2 y3 y4 y5
   unfold spec_runsOf.j2
   repeat' first
   | (with_reducible exact ih0 _ _ _)
   | (with_reducible exact ih1 _ _ _ _ _)
   | (with_reducible exact ih2 _ _ _ _ _ _)
   | (with_reducible exact ih3 _ _ _ _ _ _ _)
   | (with_reducible exact LeO.refl _)
   | (with_reducible exact LeO.none _)
   | (with_reducible refine LeO.ite ?_ ?_)
   | (with_reducible refine LeO.bind ?_ (fun _ => ?_))
   | exact ih0 _ _ _
   | exact ih1 _ _ _ _ _
   | exact ih2 _ _ _ _ _ _
   | exact ih3 _ _ _ _ _ _ _
   | exact LeO.none _
   | refine LeO.ite ?_ ?_
   | refine LeO.bind ?_ (fun _ => ?_)
  intro y0 y1 y2 y3 y4 y5 y6
  unfold spec_runsOf.j3
  repeat' first
  | (with_reducible exact ih0 _ _ _)
  | (with_reducible exact ih1 _ _ _ _ _)
  | (with_reducible exact ih2 _ _ _ _ _ _)
  | (with_reducible exact ih3 _ _ _ _ _ _ _)
  | (with_reducible exact LeO.refl _)
  | (with_reducible exact LeO.none _)
  | (with_reducible refine LeO.ite ?_ ?_)
  | (with_reducible refine LeO.bind ?_ (fun _ => ?_))
  | exact ih0 _ _ _
  | exact ih1 _ _ _ _ _
  | exact ih2 _ _ _ _ _ _
  | exact ih3 _ _ _ _ _ _ _
  | exact LeO.none _
  | refine LeO.ite ?_ ?_
  | refine LeO.bind ?_ (fun _ => ?_)
theorem spec_runsOf.mono : ∀ a0 k, LeO (spec_runsOf.f k a0) (spec_runsOf.f (k + 1) a0) := by
 intro a0 k
 obtain ⟨ih0, ih1, ih2, ih3⟩ := spec_runsOf.mono_l k
 unfold spec_runsOf.f
 repeat' first
   | (with_reducible exact ih0 _ _ _)
   | (with_reducible exact ih1 _ _ _ _ _)
   | (with_reducible exact ih2 _ _ _ _ _ _)
   | (with_reducible exact ih3 _ _ _ _ _ _ _)
   | (with_reducible exact LeO.refl _)
   | (with_reducible exact LeO.none _)
   | (with_reducible refine LeO.ite ?_ ?_)
   | (with_reducible refine LeO.bind ?_ (fun _ => ?_))
   | exact ih0 _ _ _
   | exact ih1 _ _ _ _ _
   | exact ih2 _ _ _ _ _ _
   | exact ih3 _ _ _ _ _ _ _
   | exact LeO.none _
   | refine LeO.ite ?_ ?_
   | refine LeO.bind ?_ (fun _ => ?_)
set_option maxHeartbeats 8000000 in
set_option maxRecDepth 100000 in
theorem spec_runsOf.calls (k : Nat) (A0 : Option Addr) (c0 : Nat) (l0 : List Bool) (r : List (S59)) (w : World) (hr0 : Kd.C Kd.bool w A0 l0.length l0) (hc0 : l0.length ≤ c0) (h : spec_runsOf.f k l0 = some r) :
  Calls Try.prog 61 #[.slice A0 l0.length c0] w fun e w' => ∃ v0_ : Value, e = .returned (v0_) ∧ Kd.R k59 59 w' w.heap.size (fun _ => True) v0_ r ∧ Below w.heap.size w w' := by
 have hu59 := Try.underlying59
 have HR0 := Aside0.mk hr0
 have HC0 := Aside0.mk hc0
 clear hr0 hc0
 have HB := Aside0.mk (Below.refl w.heap.size w)
 have H : (spec_runsOf.l0 k l0 (([] : List (S59))) 0) = some r := h
 clear h
 obtain ⟨y101, hy101⟩ : ∃ y_ : List (S59), y_ = (([] : List (S59))) := ⟨_, rfl⟩
 replace H : (spec_runsOf.l0 k l0 y101 0) = some r := by first | (rw [hy101]; with_reducible exact H) | (have H2_ := (Option.bind_some _ _).symm.trans H; rw [hy101]; with_reducible exact H2_) | (have H2_ := (Option.bind_some _ _).symm.trans H; with_reducible exact H2_) | with_reducible exact H | (rw [hy101]; exact H) | exact H
 have Ny101 := Aside0.mk hy101
 clear hy101
 have H' := Aside0.mk H
 clear H
 go_enter Try.func61, Try.ntmps61
 go_wp2_with (first | ((with_reducible refine gate_dst (N := 8) rfl ?_); refine Kd.R_lit k59 _ 59 ?hg (N := 8) ?hd (xs := ([] : List (S59))) (inner := []) (ok := fun _ => True) (okp := fun _ => True) ?hr ?hp (fun _ hk => hk) trivial (Below.refl _ _) (Nat.le_refl _) (by simp) ?_; (case hd => rfl); (case hg => rfl); (case hr => first | (go_simp; done) | (go_simp; rfl)); (case hp => exact (Reps.none _ _)); intro v102 w2 ho3 hb hg_ hnew_; clear hg_ hnew_; (first | rw [← Ny101.out] at ho3 | (simp only [Int.reduceToNat] at ho3; rw [← Ny101.out] at ho3)); have HO103 := am_ (Kd.R_lower ho3 (below_size (by repeat (first | (with_reducible first | exact HB.out | apply below_alloc | apply pw_below_drewN | apply below_drew1) | exact HB.out)))); replace HB := am_ (below_step (by repeat (first | (with_reducible first | exact HB.out | apply below_alloc | apply pw_below_drewN | apply below_drew1) | exact HB.out)) hb); clear hb ho3))
 go_loopg [3, 4] k (fun kq v3 v4 w' => ∃ (x3_1 : List (S59)) (x4_1 : Int), v4 = .int .i64 x4_1 ∧ Aside0 (spec_runsOf.l0 kq l0 x3_1 x4_1 = some r) ∧ Aside0 (kq ≤ k) ∧ Aside0 (Kd.R k59 59 w' w.heap.size (fun _ => True) v3 x3_1) ∧ Aside0 (Below w.heap.size w w'))
 case atStart => exact ⟨(y101), (0), (by first | rfl | (simp; done) | (simp [*]; done)), H', ⟨Nat.le_refl _⟩, ⟨by exact HO103.out⟩, ⟨by repeat (first | (with_reducible first | exact HB.out | apply below_alloc | apply pw_below_drewN | apply below_drew1) | exact HB.out)⟩⟩
 case round =>
  clear H'
  try clear p2
  obtain ⟨x3_1, x4_1, rfl, HA, HK1, HO_3, HB⟩ := hrel
  cases gk with
  | zero => exact absurd HA.out (by simp [spec_runsOf.l0])
  | succ k1 =>
   have H := HA.out
   clear HA
   simp only [spec_runsOf.l0] at H
   by_cases c4 : x4_1 < 16
   rotate_left
   ·
    rw [if_neg c4] at H
    have c4b0 : decide (x4_1 < 16) = false := decide_eq_false c4
    clear c4
    obtain rfl := Option.some.inj H
    go_wp2
    go_ret
    exact ⟨_, by first | rfl | (simp [errW_none, errW_some] <;> rfl) | (simp [*, errW_none, errW_some] <;> rfl), by exact HO_3.out, by repeat (first | (with_reducible first | exact HB.out | apply below_alloc | apply pw_below_drewN | apply below_drew1) | exact HB.out)⟩
   rw [if_pos c4] at H
   have c4b0 : decide (x4_1 < 16) = true := decide_eq_true c4
   clear c4
   have H' := Aside0.mk H
   clear H
   go_wp2
   go_loopg [3, 5, 6] k1 (fun kq v3 v5 v6 w' => ∃ (x3_2 : List (S59)) (x5_2 : Int) (x6_2 : Int), v5 = .int .i64 x5_2 ∧ v6 = .int .i64 x6_2 ∧ Aside0 (spec_runsOf.l1 kq l0 x3_2 x4_1 x5_2 x6_2 = some r) ∧ Aside0 (kq ≤ k1) ∧ Aside0 (Kd.R k59 59 w' w.heap.size (fun _ => True) v3 x3_2) ∧ Aside0 (Below w.heap.size w w'))
   case atStart => exact ⟨(x3_1), ((-1)), (0), (by first | rfl | (simp; done) | (simp [*]; done)), (by first | rfl | (simp; done) | (simp [*]; done)), H', ⟨Nat.le_refl _⟩, ⟨by exact HO_3.out⟩, ⟨by repeat (first | (with_reducible first | exact HB.out | apply below_alloc | apply pw_below_drewN | apply below_drew1) | exact HB.out)⟩⟩
   case round =>
    clear H'
    try clear p2
    try clear c4
    try clear c4b0
    try clear p2
    obtain ⟨x3_2, x5_2, x6_2, rfl, rfl, HA, HK2, HO_3, HB⟩ := hrel
    cases gk with
    | zero => exact absurd HA.out (by simp [spec_runsOf.l1])
    | succ k2 =>
     have H := HA.out
     clear HA
     simp only [spec_runsOf.l1] at H
     by_cases c5 : x6_2 ≤ 16
     rotate_left
     ·
      rw [if_neg c5] at H
      have c5b0 : decide (x6_2 ≤ 16) = false := decide_eq_false c5
      clear c5
      have H' := Aside0.mk H
      clear H
      go_wp2
      go_roundg k2
      case measure => have := HK1.out; have := HK2.out; omega
      case rel => exact ⟨(x3_2), (wrap64 (x4_1 + 1)), (by first | rfl | (simp; done) | (simp [*]; done)), H', ⟨by have := HK1.out; have := HK2.out; omega⟩, ⟨by exact HO_3.out⟩, ⟨by repeat (first | (with_reducible first | exact HB.out | apply below_alloc | apply pw_below_drewN | apply below_drew1) | exact HB.out)⟩⟩
     rw [if_pos c5] at H
     have c5b0 : decide (x6_2 ≤ 16) = true := decide_eq_true c5
     clear c5
     have HC6 := Aside0.mk H
     clear H
     go_upto_region 9 with (fail)
     go_cut [7] (fun v7 wc => ∃ (kq : Nat) (x7_5 : Bool), v7 = .bool x7_5 ∧ Aside0 (spec_runsOf.j2 kq l0 x3_2 x4_1 x5_2 x6_2 x7_5 = some r) ∧ Aside0 (kq ≤ k2) ∧ Aside0 (Kd.R k59 59 wc w.heap.size (fun _ => True) u3 x3_2) ∧ Aside0 (Below w.heap.size w wc))
     case first =>
      have H := HC6.out
      clear HC6
      by_cases c7 : x6_2 < 16
      rotate_left
      ·
       rw [if_neg c7] at H
       have c7b0 : decide (x6_2 < 16) = false := decide_eq_false c7
       clear c7
       (first | rw [c7b0] | (simp only [i64_w, i32_w]; rw [c7b0]) | skip)
       have H' := Aside0.mk H
       clear H
       go_wp2
       go_meet
       case rel => exact ⟨_, (false), (by first | rfl | (simp; done) | (simp [*]; done)), H', ⟨by have := HK1.out; have := HK2.out; first | omega | exact Nat.le_refl _⟩, ⟨by exact HO_3.out⟩, ⟨by repeat (first | (with_reducible first | exact HB.out | apply below_alloc | apply pw_below_drewN | apply below_drew1) | exact HB.out)⟩⟩
      rw [if_pos c7] at H
      have c7b0 : decide (x6_2 < 16) = true := decide_eq_true c7
      clear c7
      (first | rw [c7b0] | (simp only [i64_w, i32_w]; rw [c7b0]) | skip)
      obtain ⟨ji8, hji8⟩ : ∃ j_ : Int, (wrap64 ((wrap64 (x4_1 * 16)) + x6_2)) = j_ := ⟨_, rfl⟩
      replace H : (if 0 ≤ (ji8) then (if (ji8) < (l0.length : Int) then (spec_runsOf.j2 k2 l0 x3_2 x4_1 x5_2 x6_2 (rdOf false l0 (ji8))) else (none)) else (none)) = some r := by first | (rw [hji8] at H; exact H) | (simp only [hji8] at H ⊢; exact H)
      have hji8w : (IntKind.i64.wrap ((wrap64 (x4_1 * 16)) + x6_2)) = ji8 := (i64_w _).trans hji8
      by_cases c9 : 0 ≤ (ji8)
      rotate_left
      ·
       rw [if_neg c9] at H
       exact absurd H (by simp)
      rw [if_pos c9] at H
      have c9b0 : decide (0 ≤ (ji8)) = true := decide_eq_true c9
      clear c9
      by_cases c10 : (ji8) < (l0.length : Int)
      rotate_left
      ·
       rw [if_neg c10] at H
       exact absurd H (by simp)
      rw [if_pos c10] at H
      have c10b0 : decide ((ji8) < (l0.length : Int)) = true := decide_eq_true c10
      clear c10
      have H' := Aside0.mk H
      clear H
      have p104 : 0 ≤ ((ji8) : Int) := of_decide_eq_true (by first | with_reducible assumption | assumption)
      have q104 : (ji8) < (l0.length : Int) := of_decide_eq_true (by first | with_reducible assumption | assumption)
      obtain ⟨ad104, e104, hx104_0⟩ := Kd.at_bool HR0.out (ji8) p104 q104
      cases e104
      replace hx104_0 := (HB.out.cell (World.block_lt_of_cell? w _ hx104_0)).trans hx104_0
      replace p104 := eq_true p104
      replace q104 := eq_true q104
      go_wp2
      go_meet
      case rel => exact ⟨_, (rdOf false l0 (ji8)), (by first | rfl | (simp; done) | (simp only [← hji8] <;> (first | rfl | simp)) | (simp [*]; done)), H', ⟨by have := HK1.out; have := HK2.out; first | omega | exact Nat.le_refl _⟩, ⟨by exact HO_3.out⟩, ⟨by repeat (first | (with_reducible first | exact HB.out | apply below_alloc | apply pw_below_drewN | apply below_drew1) | exact HB.out)⟩⟩
     case rest =>
      clear HC6
      try clear c1
      try clear p1
      try clear q1
      try clear hx1
      try clear p2
      try clear c4
      try clear c4b0
      try clear c5
      try clear c5b0
      try clear c6
      try clear p6
      try clear c7
      try clear c7b0
      try clear c9
      try clear c9b0
      try clear c10
      try clear c10b0
      try clear p10
      try clear q10
      try clear hx10
      try clear hx104_0
      try clear p104
      try clear p2
      try clear q104
      obtain ⟨kq, x7_5, rfl, HA, HJ5, HO_3, HB⟩ := hcut
      cases kq with
      | zero => exact absurd HA.out (by simp [spec_runsOf.j2])
      | succ kj5 =>
       have H := HA.out
       clear HA
       simp only [spec_runsOf.j2] at H
       have HC11 := Aside0.mk H
       clear H
       go_upto_region 10 with (fail)
       go_cut [32] (fun v32 wc => ∃ (kq : Nat) (x32_10 : Bool), v32 = .bool x32_10 ∧ Aside0 (spec_runsOf.j3 kq l0 x3_2 x4_1 x5_2 x6_2 x7_5 x32_10 = some r) ∧ Aside0 (kq ≤ kj5) ∧ Aside0 (Kd.R k59 59 wc w.heap.size (fun _ => True) u3 x3_2) ∧ Aside0 (Below w.heap.size w wc))
       case first =>
        have H := HC11.out
        clear HC11
        by_cases c12 : x7_5 = true
        ·
         subst c12
         have H1 : (spec_runsOf.j3 kj5 l0 x3_2 x4_1 x5_2 x6_2 true (decide (x5_2 < 0))) = some r := by rw [if_pos rfl] at H; exact H
         clear H
         have H := H1
         clear H1
         have H' := Aside0.mk H
         clear H
         go_wp2
         go_meet
         case rel => exact ⟨_, (decide (x5_2 < 0)), (by first | rfl | (simp; done) | (simp [*]; done)), H', ⟨by have := HK1.out; have := HK2.out; have := HJ5.out; first | omega | exact Nat.le_refl _⟩, ⟨by exact HO_3.out⟩, ⟨by repeat (first | (with_reducible first | exact HB.out | apply below_alloc | apply pw_below_drewN | apply below_drew1) | exact HB.out)⟩⟩
        replace c12 := Bool.eq_false_iff.mpr c12
        subst c12
        have H1 : (spec_runsOf.j3 kj5 l0 x3_2 x4_1 x5_2 x6_2 false false) = some r := by rw [if_neg (show ¬ (false = true) by decide)] at H; exact H
        clear H
        have H := H1
        clear H1
        have H' := Aside0.mk H
        clear H
        go_wp2
        go_meet
        case rel => exact ⟨_, (false), (by first | rfl | (simp; done) | (simp [*]; done)), H', ⟨by have := HK1.out; have := HK2.out; have := HJ5.out; first | omega | exact Nat.le_refl _⟩, ⟨by exact HO_3.out⟩, ⟨by repeat (first | (with_reducible first | exact HB.out | apply below_alloc | apply pw_below_drewN | apply below_drew1) | exact HB.out)⟩⟩
       case rest =>
        clear HC11
        try clear c1
        try clear p1
        try clear q1
        try clear hx1
        try clear p2
        try clear c4
        try clear c4b0
        try clear c5
        try clear c5b0
        try clear c6
        try clear p6
        try clear c7
        try clear c7b0
        try clear c9
        try clear c9b0
        try clear c10
        try clear c10b0
        try clear p10
        try clear q10
        try clear hx10
        try clear c12
        try clear hx104_0
        try clear p1
        try clear p10
        try clear p104
        try clear p2
        try clear p6
        try clear q1
        try clear q10
        try clear q104
        obtain ⟨kq, x32_10, rfl, HA, HJ10, HO_3, HB⟩ := hcut
        cases kq with
        | zero => exact absurd HA.out (by simp [spec_runsOf.j3])
        | succ kj10 =>
         have H := HA.out
         clear HA
         simp only [spec_runsOf.j3] at H
         by_cases c13 : x32_10 = true
         ·
          subst c13
          have H1 : (if x7_5 = true then (spec_runsOf.l1 kj10 l0 x3_2 x4_1 x6_2 (wrap64 (x6_2 + 1))) else (if x6_2 ≥ 0 then (if x3_2.length < 5864062014805 then (spec_runsOf.l1 kj10 l0 (x3_2 ++ [(⟨x4_1, x6_2, x6_2⟩ : S59)]) x4_1 (-1) (wrap64 (x6_2 + 1))) else (none)) else (spec_runsOf.l1 kj10 l0 x3_2 x4_1 x6_2 (wrap64 (x6_2 + 1))))) = some r := by rw [if_pos rfl] at H; exact H
          clear H
          have H := H1
          clear H1
          by_cases c14 : x7_5 = true
          ·
           subst c14
           have H1 : (spec_runsOf.l1 kj10 l0 x3_2 x4_1 x6_2 (wrap64 (x6_2 + 1))) = some r := by rw [if_pos rfl] at H; exact H
           clear H
           have H := H1
           clear H1
           have H' := Aside0.mk H
           clear H
           go_wp2
           go_roundg kj10
           case measure => have := HK1.out; have := HK2.out; have := HJ5.out; have := HJ10.out; omega
           case rel => exact ⟨(x3_2), (x6_2), (wrap64 (x6_2 + 1)), (by first | rfl | (simp; done) | (simp [*]; done)), (by first | rfl | (simp; done) | (simp [*]; done)), H', ⟨by have := HK1.out; have := HK2.out; have := HJ5.out; have := HJ10.out; omega⟩, ⟨by exact HO_3.out⟩, ⟨by repeat (first | (with_reducible first | exact HB.out | apply below_alloc | apply pw_below_drewN | apply below_drew1) | exact HB.out)⟩⟩
          replace c14 := Bool.eq_false_iff.mpr c14
          subst c14
          have H1 : (if x6_2 ≥ 0 then (if x3_2.length < 5864062014805 then (spec_runsOf.l1 kj10 l0 (x3_2 ++ [(⟨x4_1, x6_2, x6_2⟩ : S59)]) x4_1 (-1) (wrap64 (x6_2 + 1))) else (none)) else (spec_runsOf.l1 kj10 l0 x3_2 x4_1 x6_2 (wrap64 (x6_2 + 1)))) = some r := by rw [if_neg (show ¬ (false = true) by decide)] at H; exact H
          clear H
          have H := H1
          clear H1
          by_cases c15 : x6_2 ≥ 0
          ·
           rw [if_pos c15] at H
           have c15b0 : decide (0 ≤ x6_2) = true := decide_eq_true c15
           clear c15
           by_cases c16 : x3_2.length < 5864062014805
           rotate_left
           ·
            rw [if_neg c16] at H
            exact absurd H (by simp)
           rw [if_pos c16] at H
           have LMc16 := Aside0.mk c16
           clear c16
           obtain ⟨y105, hy105⟩ : ∃ y_ : List (S59), y_ = (x3_2 ++ [(⟨x4_1, x6_2, x6_2⟩ : S59)]) := ⟨_, rfl⟩
           replace H : (spec_runsOf.l1 kj10 l0 y105 x4_1 (-1) (wrap64 (x6_2 + 1))) = some r := by first | (rw [hy105]; with_reducible exact H) | (have H2_ := (Option.bind_some _ _).symm.trans H; rw [hy105]; with_reducible exact H2_) | (have H2_ := (Option.bind_some _ _).symm.trans H; with_reducible exact H2_) | with_reducible exact H | (rw [hy105]; exact H) | exact H
           have Ny105 := Aside0.mk hy105
           clear hy105
           have H' := Aside0.mk H
           clear H
           go_wp2_with (first | ((with_reducible refine gate_builtin (b := .append) (xs := #[.tmp 40, .tmp 45]) rfl ?_); at_builtin; refine Kd.R_append k59 (w0 := w) w.heap.size rfl (.tmp 40) (.tmp 45) 26 59 (.agg #[(.int .i64 0), (.int .i64 0), (.int .i64 0)]) 24 rfl Try.underlying26 info59 rfl (by decide) (by omega) u3 x3_2 (⟨x4_1, x6_2, x6_2⟩ : S59) [.int .i64 x4_1, .int .i64 x6_2, .int .i64 x6_2] (fun _ => True) (fun _ => False) rfl rfl ?aP (fun _ hk => hk.elim) ?aF ?aO ?aB ?aS ?aL ?_; (case aP => exact k59_mkM _ _ _ (⟨x4_1, x6_2, x6_2⟩ : S59)); (case aB => exact (by repeat (first | (with_reducible first | exact HB.out | apply below_alloc | apply pw_below_drewN | apply below_drew1) | exact HB.out))); (case aF => exact (fun _ _ => trivial)); (case aO => exact (by exact HO_3.out)); (case aS => exact (below_size (by repeat (first | (with_reducible first | exact HB.out | apply below_alloc | apply pw_below_drewN | apply below_drew1) | exact HB.out)))); (case aL => have := LMc16.out; omega); intro v106 w17 ho hb hg hat; rw [← Ny105.out] at ho; replace HB := am_ (hb); have HO107 := am_ (ho); clear HO_3; clear ho hb hg hat))
           go_roundg kj10
           case measure => have := HK1.out; have := HK2.out; have := HJ5.out; have := HJ10.out; omega
           case rel => exact ⟨(y105), ((-1)), (wrap64 (x6_2 + 1)), (by first | rfl | (simp; done) | (simp [*]; done)), (by first | rfl | (simp; done) | (simp [*]; done)), H', ⟨by have := HK1.out; have := HK2.out; have := HJ5.out; have := HJ10.out; omega⟩, ⟨by exact HO107.out⟩, ⟨by repeat (first | (with_reducible first | exact HB.out | apply below_alloc | apply pw_below_drewN | apply below_drew1) | exact HB.out)⟩⟩
          rw [if_neg c15] at H
          have c15b0 : decide (0 ≤ x6_2) = false := decide_eq_false c15
          clear c15
          have H' := Aside0.mk H
          clear H
          go_wp2
          go_roundg kj10
          case measure => have := HK1.out; have := HK2.out; have := HJ5.out; have := HJ10.out; omega
          case rel => exact ⟨(x3_2), (x6_2), (wrap64 (x6_2 + 1)), (by first | rfl | (simp; done) | (simp [*]; done)), (by first | rfl | (simp; done) | (simp [*]; done)), H', ⟨by have := HK1.out; have := HK2.out; have := HJ5.out; have := HJ10.out; omega⟩, ⟨by exact HO_3.out⟩, ⟨by repeat (first | (with_reducible first | exact HB.out | apply below_alloc | apply pw_below_drewN | apply below_drew1) | exact HB.out)⟩⟩
         replace c13 := Bool.eq_false_iff.mpr c13
         subst c13
         have H1 : (if x7_5 = true then (spec_runsOf.l1 kj10 l0 x3_2 x4_1 x5_2 (wrap64 (x6_2 + 1))) else (if x5_2 ≥ 0 then (if x3_2.length < 5864062014805 then (spec_runsOf.l1 kj10 l0 (x3_2 ++ [(⟨x4_1, x5_2, x6_2⟩ : S59)]) x4_1 (-1) (wrap64 (x6_2 + 1))) else (none)) else (spec_runsOf.l1 kj10 l0 x3_2 x4_1 x5_2 (wrap64 (x6_2 + 1))))) = some r := by rw [if_neg (show ¬ (false = true) by decide)] at H; exact H
         clear H
         have H := H1
         clear H1
         by_cases c18 : x7_5 = true
         ·
          subst c18
          have H1 : (spec_runsOf.l1 kj10 l0 x3_2 x4_1 x5_2 (wrap64 (x6_2 + 1))) = some r := by rw [if_pos rfl] at H; exact H
          clear H
          have H := H1
          clear H1
          have H' := Aside0.mk H
          clear H
          go_wp2
          go_roundg kj10
          case measure => have := HK1.out; have := HK2.out; have := HJ5.out; have := HJ10.out; omega
          case rel => exact ⟨(x3_2), (x5_2), (wrap64 (x6_2 + 1)), (by first | rfl | (simp; done) | (simp [*]; done)), (by first | rfl | (simp; done) | (simp [*]; done)), H', ⟨by have := HK1.out; have := HK2.out; have := HJ5.out; have := HJ10.out; omega⟩, ⟨by exact HO_3.out⟩, ⟨by repeat (first | (with_reducible first | exact HB.out | apply below_alloc | apply pw_below_drewN | apply below_drew1) | exact HB.out)⟩⟩
         replace c18 := Bool.eq_false_iff.mpr c18
         subst c18
         have H1 : (if x5_2 ≥ 0 then (if x3_2.length < 5864062014805 then (spec_runsOf.l1 kj10 l0 (x3_2 ++ [(⟨x4_1, x5_2, x6_2⟩ : S59)]) x4_1 (-1) (wrap64 (x6_2 + 1))) else (none)) else (spec_runsOf.l1 kj10 l0 x3_2 x4_1 x5_2 (wrap64 (x6_2 + 1)))) = some r := by rw [if_neg (show ¬ (false = true) by decide)] at H; exact H
         clear H
         have H := H1
         clear H1
         by_cases c19 : x5_2 ≥ 0
         ·
          rw [if_pos c19] at H
          have c19b0 : decide (0 ≤ x5_2) = true := decide_eq_true c19
          clear c19
          by_cases c20 : x3_2.length < 5864062014805
          rotate_left
          ·
           rw [if_neg c20] at H
           exact absurd H (by simp)
          rw [if_pos c20] at H
          have LMc20 := Aside0.mk c20
          clear c20
          obtain ⟨y108, hy108⟩ : ∃ y_ : List (S59), y_ = (x3_2 ++ [(⟨x4_1, x5_2, x6_2⟩ : S59)]) := ⟨_, rfl⟩
          replace H : (spec_runsOf.l1 kj10 l0 y108 x4_1 (-1) (wrap64 (x6_2 + 1))) = some r := by first | (rw [hy108]; with_reducible exact H) | (have H2_ := (Option.bind_some _ _).symm.trans H; rw [hy108]; with_reducible exact H2_) | (have H2_ := (Option.bind_some _ _).symm.trans H; with_reducible exact H2_) | with_reducible exact H | (rw [hy108]; exact H) | exact H
          have Ny108 := Aside0.mk hy108
          clear hy108
          have H' := Aside0.mk H
          clear H
          go_wp2_with (first | ((with_reducible refine gate_builtin (b := .append) (xs := #[.tmp 40, .tmp 45]) rfl ?_); at_builtin; refine Kd.R_append k59 (w0 := w) w.heap.size rfl (.tmp 40) (.tmp 45) 26 59 (.agg #[(.int .i64 0), (.int .i64 0), (.int .i64 0)]) 24 rfl Try.underlying26 info59 rfl (by decide) (by omega) u3 x3_2 (⟨x4_1, x5_2, x6_2⟩ : S59) [.int .i64 x4_1, .int .i64 x5_2, .int .i64 x6_2] (fun _ => True) (fun _ => False) rfl rfl ?aP (fun _ hk => hk.elim) ?aF ?aO ?aB ?aS ?aL ?_; (case aP => exact k59_mkM _ _ _ (⟨x4_1, x5_2, x6_2⟩ : S59)); (case aB => exact (by repeat (first | (with_reducible first | exact HB.out | apply below_alloc | apply pw_below_drewN | apply below_drew1) | exact HB.out))); (case aF => exact (fun _ _ => trivial)); (case aO => exact (by exact HO_3.out)); (case aS => exact (below_size (by repeat (first | (with_reducible first | exact HB.out | apply below_alloc | apply pw_below_drewN | apply below_drew1) | exact HB.out)))); (case aL => have := LMc20.out; omega); intro v109 w21 ho hb hg hat; rw [← Ny108.out] at ho; replace HB := am_ (hb); have HO110 := am_ (ho); clear HO_3; clear ho hb hg hat))
          go_roundg kj10
          case measure => have := HK1.out; have := HK2.out; have := HJ5.out; have := HJ10.out; omega
          case rel => exact ⟨(y108), ((-1)), (wrap64 (x6_2 + 1)), (by first | rfl | (simp; done) | (simp [*]; done)), (by first | rfl | (simp; done) | (simp [*]; done)), H', ⟨by have := HK1.out; have := HK2.out; have := HJ5.out; have := HJ10.out; omega⟩, ⟨by exact HO110.out⟩, ⟨by repeat (first | (with_reducible first | exact HB.out | apply below_alloc | apply pw_below_drewN | apply below_drew1) | exact HB.out)⟩⟩
         rw [if_neg c19] at H
         have c19b0 : decide (0 ≤ x5_2) = false := decide_eq_false c19
         clear c19
         have H' := Aside0.mk H
         clear H
         go_wp2
         go_roundg kj10
         case measure => have := HK1.out; have := HK2.out; have := HJ5.out; have := HJ10.out; omega
         case rel => exact ⟨(x3_2), (x5_2), (wrap64 (x6_2 + 1)), (by first | rfl | (simp; done) | (simp [*]; done)), (by first | rfl | (simp; done) | (simp [*]; done)), H', ⟨by have := HK1.out; have := HK2.out; have := HJ5.out; have := HJ10.out; omega⟩, ⟨by exact HO_3.out⟩, ⟨by repeat (first | (with_reducible first | exact HB.out | apply below_alloc | apply pw_below_drewN | apply below_drew1) | exact HB.out)⟩⟩

/-! ### spec_DiscRegion: function 60 -/
mutual
def spec_DiscRegion.j0 : Nat → Int → Int → Int → Bool → Option ((List (S59)))
 | 0, _, _, _, _ => none
 | k + 1, x0, x1, x2, x19 => if x19 = true then (some ([] : List (S59))) else (if 256 ≤ 281474976710656 then (spec_DiscRegion.l0 k x0 x1 x2 (List.replicate 256 false) 0) else (none))
def spec_DiscRegion.l0 : Nat → Int → Int → Int → List Bool → Int → Option ((List (S59)))
 | 0, _, _, _, _, _ => none
 | k + 1, x0, x1, x2, x7, x8 => if x8 < (x7.length : Int) then (if 0 ≤ x8 then (spec_DiscRegion.l0 k x0 x1 x2 (x7.set (x8 : Int).toNat (decide ((wrap64 ((wrap64 ((wrap64 ((Int.tmod x8 16) - x0)) * (wrap64 ((Int.tmod x8 16) - x0)))) + (wrap64 ((wrap64 ((wrap64 (Int.tdiv x8 16)) - x1)) * (wrap64 ((wrap64 (Int.tdiv x8 16)) - x1)))))) ≤ (wrap64 (x2 * x2))))) (wrap64 (x8 + 1))) else (none)) else ((spec_runsOf.f k x7).bind fun t107 => (some t107))
end
def spec_DiscRegion.f (k : Nat) (a0 : Int) (a1 : Int) (a2 : Int) : Option ((List (S59))) := (spec_onGrid.f a0 a1).bind fun t101 => (if t101 = true then ((spec_inRange.f a2 0 16).bind fun t102 => (spec_DiscRegion.j0 k a0 a1 a2 (!t102))) else (spec_DiscRegion.j0 k a0 a1 a2 true))
theorem spec_DiscRegion.mono_l : ∀ k, (∀ y0 y1 y2 y3, LeO (spec_DiscRegion.j0 k y0 y1 y2 y3) (spec_DiscRegion.j0 (k + 1) y0 y1 y2 y3)) ∧ (∀ y0 y1 y2 y3 y4, LeO (spec_DiscRegion.l0 k y0 y1 y2 y3 y4) (spec_DiscRegion.l0 (k + 1) y0 y1 y2 y3 y4))
 | 0 => ⟨fun _ _ _ _ r h => by simp [spec_DiscRegion.j0] at h, fun _ _ _ _ _ r h => by simp [spec_DiscRegion.l0] at h⟩
 | k + 1 => by
  obtain ⟨ih0, ih1⟩ := spec_DiscRegion.mono_l k
  refine ⟨?_, ?_⟩
  ·
   intro y0 y1 y2 y3
   unfold spec_DiscRegion.j0
   repeat' first
   | (with_reducible exact ih0 _ _ _ _)
   | (with_reducible exact ih1 _ _ _ _ _)
   | (with_reducible exact spec_runsOf.mono _ _)
   | (with_reducible exact LeO.refl _)
   | (with_reducible exact LeO.none _)
   | (with_reducible refine LeO.ite ?_ ?_)
   | (with_reducible refine LeO.bind ?_ (fun _ => ?_))
   | exact ih0 _ _ _ _
   | exact ih1 _ _ _ _ _
   | exact spec_runsOf.mono _ _
   | exact LeO.none _
   | refine LeO.ite ?_ ?_
   | refine LeO.bind ?_ (fun _ => ?_)
  intro y0 y1 y2 y3 y4
  unfold spec_DiscRegion.l0
  repeat' first
  | (with_reducible exact ih0 _ _ _ _)
  | (with_reducible exact ih1 _ _ _ _ _)
  | (with_reducible exact spec_runsOf.mono _ _)
  | (with_reducible exact LeO.refl _)
  | (with_reducible exact LeO.none _)
  | (with_reducible refine LeO.ite ?_ ?_)
  | (with_reducible refine LeO.bind ?_ (fun _ => ?_))
  | exact ih0 _ _ _ _
  | exact ih1 _ _ _ _ _
  | exact spec_runsOf.mono _ _
  | exact LeO.none _
  | refine LeO.ite ?_ ?_
  | refine LeO.bind ?_ (fun _ => ?_)
theorem spec_DiscRegion.mono : ∀ a0 a1 a2 k, LeO (spec_DiscRegion.f k a0 a1 a2) (spec_DiscRegion.f (k + 1) a0 a1 a2) := by
 intro a0 a1 a2 k
 obtain ⟨ih0, ih1⟩ := spec_DiscRegion.mono_l k
 unfold spec_DiscRegion.f
 repeat' first
   | (with_reducible exact ih0 _ _ _ _)
   | (with_reducible exact ih1 _ _ _ _ _)
   | (with_reducible exact spec_runsOf.mono _ _)
   | (with_reducible exact LeO.refl _)
   | (with_reducible exact LeO.none _)
   | (with_reducible refine LeO.ite ?_ ?_)
   | (with_reducible refine LeO.bind ?_ (fun _ => ?_))
   | exact ih0 _ _ _ _
   | exact ih1 _ _ _ _ _
   | exact spec_runsOf.mono _ _
   | exact LeO.none _
   | refine LeO.ite ?_ ?_
   | refine LeO.bind ?_ (fun _ => ?_)
set_option maxHeartbeats 8000000 in
set_option maxRecDepth 100000 in
theorem spec_DiscRegion.calls (k : Nat) (a0 : Int) (a1 : Int) (a2 : Int) (r : List (S59)) (w : World) (h : spec_DiscRegion.f k a0 a1 a2 = some r) :
  Calls Try.prog 60 #[.int .i64 a0, .int .i64 a1, .int .i64 a2] w fun e w' => ∃ v0_ : Value, e = .returned (v0_) ∧ Kd.R k59 59 w' w.heap.size (fun _ => True) v0_ r ∧ Below w.heap.size w w' := by
 have HB := Aside0.mk (Below.refl w.heap.size w)
 have H : ((spec_onGrid.f a0 a1).bind fun t101 => (if t101 = true then ((spec_inRange.f a2 0 16).bind fun t102 => (spec_DiscRegion.j0 k a0 a1 a2 (!t102))) else (spec_DiscRegion.j0 k a0 a1 a2 true))) = some r := h
 clear h
 have HC4 := Aside0.mk H
 clear H
 go_enter Try.func60, Try.ntmps60
 go_upto_region 1 with (fail)
 go_cut [19] (fun v19 wc => ∃ (kq : Nat) (x19_3 : Bool), v19 = .bool x19_3 ∧ Aside0 (spec_DiscRegion.j0 kq a0 a1 a2 x19_3 = some r) ∧ Aside0 (kq ≤ k) ∧ Aside0 (Below w.heap.size w wc))
 case first =>
  have H := HC4.out
  clear HC4
  replace H := Option.bind_eq_some_iff.mp H
  obtain ⟨t101, A50, H⟩ := H
  replace H : (if t101 = true then ((spec_inRange.f a2 0 16).bind fun t102 => (spec_DiscRegion.j0 k a0 a1 a2 (!t102))) else (spec_DiscRegion.j0 k a0 a1 a2 true)) = some r := H
  have A5 := Aside0.mk A50
  clear A50
  by_cases c6 : t101 = true
  ·
   subst c6
   have H1 : ((spec_inRange.f a2 0 16).bind fun t102 => (spec_DiscRegion.j0 k a0 a1 a2 (!t102))) = some r := by rw [if_pos rfl] at H; exact H
   clear H
   have H := H1
   clear H1
   replace H := Option.bind_eq_some_iff.mp H
   obtain ⟨t102, A70, H⟩ := H
   replace H : (spec_DiscRegion.j0 k a0 a1 a2 (!t102)) = some r := H
   have A7 := Aside0.mk A70
   clear A70
   have H' := Aside0.mk H
   clear H
   go_wp2_with (first | ((with_reducible refine gate_callee (f := 68) rfl ?_); refine goesL_ (some 13) rfl rfl Try.func68 (by kernel_rfl) rfl #[.int .i64 a0, .int .i64 a1] rfl (by simp only [List.map_toArray, List.map_cons, List.map_nil]; rfl) ?_; (with_reducible refine (spec_onGrid.calls a0 a1 true _ A5.out).mono ?_); rintro e w' ⟨rfl, ⟨nd, rfl⟩⟩; refine ⟨_, rfl, ?_⟩) | (go_at_call 52; (with_reducible refine (spec_inRange.calls a2 0 16 t102 _ A7.out).mono ?_); rintro e w' ⟨rfl, ⟨nd, rfl⟩⟩))
   go_meet
   case rel => exact ⟨_, (!t102), (by first | rfl | (simp; done) | (simp [*]; done)), H', ⟨by first | omega | exact Nat.le_refl _⟩, ⟨by repeat (first | (with_reducible first | exact HB.out | apply below_alloc | apply pw_below_drewN | apply below_drew1) | exact HB.out)⟩⟩
  replace c6 := Bool.eq_false_iff.mpr c6
  subst c6
  have H1 : (spec_DiscRegion.j0 k a0 a1 a2 true) = some r := by rw [if_neg (show ¬ (false = true) by decide)] at H; exact H
  clear H
  have H := H1
  clear H1
  have H' := Aside0.mk H
  clear H
  go_wp2_with (first | ((with_reducible refine gate_callee (f := 68) rfl ?_); refine goesL_ (some 13) rfl rfl Try.func68 (by kernel_rfl) rfl #[.int .i64 a0, .int .i64 a1] rfl (by simp only [List.map_toArray, List.map_cons, List.map_nil]; rfl) ?_; (with_reducible refine (spec_onGrid.calls a0 a1 false _ A5.out).mono ?_); rintro e w' ⟨rfl, ⟨nd, rfl⟩⟩; refine ⟨_, rfl, ?_⟩))
  go_meet
  case rel => exact ⟨_, (true), (by first | rfl | (simp; done) | (simp [*]; done)), H', ⟨by first | omega | exact Nat.le_refl _⟩, ⟨by repeat (first | (with_reducible first | exact HB.out | apply below_alloc | apply pw_below_drewN | apply below_drew1) | exact HB.out)⟩⟩
 case rest =>
  clear HC4
  try clear p2
  try clear c6
  obtain ⟨kq, x19_3, rfl, HA, HJ3, HB⟩ := hcut
  cases kq with
  | zero => exact absurd HA.out (by simp [spec_DiscRegion.j0])
  | succ kj3 =>
   have H := HA.out
   clear HA
   simp only [spec_DiscRegion.j0] at H
   by_cases c8 : x19_3 = true
   ·
    subst c8
    have H1 : (some ([] : List (S59))) = some r := by rw [if_pos rfl] at H; exact H
    clear H
    have H := H1
    clear H1
    obtain rfl := Option.some.inj H
    go_wp2
    go_ret
    exact ⟨_, by first | rfl | (simp [errW_none, errW_some] <;> rfl) | (simp [*, errW_none, errW_some] <;> rfl), by first | exact Kd.R_nil _ _ _ _ _ | exact Kd.N_nil _ _ _ _ _ | exact Kd.V_nil _ _ _ _ _ | exact Kd.Q_nil _ _ _ _ _ | exact Kd.S_nil _ _ _ _ _, by repeat (first | (with_reducible first | exact HB.out | apply below_alloc | apply pw_below_drewN | apply below_drew1) | exact HB.out)⟩
   replace c8 := Bool.eq_false_iff.mpr c8
   subst c8
   have H1 : (if 256 ≤ 281474976710656 then (spec_DiscRegion.l0 kj3 a0 a1 a2 (List.replicate 256 false) 0) else (none)) = some r := by rw [if_neg (show ¬ (false = true) by decide)] at H; exact H
   clear H
   have H := H1
   clear H1
   by_cases c9 : 256 ≤ 281474976710656
   rotate_left
   ·
    rw [if_neg c9] at H
    exact absurd H (by simp)
   rw [if_pos c9] at H
   have c9b0 := eq_true c9
   have c9b1 : decide (256 ≤ 281474976710656) = true := decide_eq_true c9
   clear c9
   obtain ⟨y103, hy103⟩ : ∃ y_ : List Bool, y_ = (List.replicate 256 false) := ⟨_, rfl⟩
   replace H : (spec_DiscRegion.l0 kj3 a0 a1 a2 y103 0) = some r := by first | (rw [hy103]; with_reducible exact H) | (have H2_ := (Option.bind_some _ _).symm.trans H; rw [hy103]; with_reducible exact H2_) | (have H2_ := (Option.bind_some _ _).symm.trans H; with_reducible exact H2_) | with_reducible exact H | (rw [hy103]; exact H) | exact H
   have Ny103 := Aside0.mk hy103
   clear hy103
   have H' := Aside0.mk H
   clear H
   go_wp2_with (first | ((with_reducible refine gate_dst (N := 20) rfl ?_); refine Kd.R_make Kd.bool _ 4 rfl (N := 20) rfl 82 _ _ rfl 256 rfl rfl Try.underlying82 (.bool false) 1 info4 rfl (by decide) (by omega) false (ok := fun _ => True) (okp := fun _ => True) rfl (fun _ hk => hk) trivial (by omega) (by omega) (Below.refl _ _) (Nat.le_refl _) ?_; intro v104 w10 ho11 hb hg_ hnew_; clear hg_ hnew_; (first | rw [← Ny103.out] at ho11 | (simp only [Int.reduceToNat] at ho11; rw [← Ny103.out] at ho11)); have HO105 := am_ (Kd.R_lower ho11 (below_size (by repeat (first | (with_reducible first | exact HB.out | apply below_alloc | apply pw_below_drewN | apply below_drew1) | exact HB.out)))); replace HB := am_ (below_step (by repeat (first | (with_reducible first | exact HB.out | apply below_alloc | apply pw_below_drewN | apply below_drew1) | exact HB.out)) hb); clear hb ho11))
   go_loopg [8] kj3 (fun kq v8 w' => ∃ (x7_2 : List Bool) (x8_2 : Int), v8 = .int .i64 x8_2 ∧ Aside0 (spec_DiscRegion.l0 kq a0 a1 a2 x7_2 x8_2 = some r) ∧ Aside0 (kq ≤ kj3) ∧ Aside0 (Kd.R Kd.bool 4 w' w.heap.size (fun _ => True) v104 x7_2) ∧ Aside0 (Below w.heap.size w w'))
   case atStart => exact ⟨(y103), (0), (by first | rfl | (simp; done) | (simp [*]; done)), H', ⟨Nat.le_refl _⟩, ⟨by exact HO105.out⟩, ⟨by repeat (first | (with_reducible first | exact HB.out | apply below_alloc | apply pw_below_drewN | apply below_drew1) | exact HB.out)⟩⟩
   case round =>
    clear H'
    try clear p2
    try clear c6
    try clear c8
    try clear c9
    try clear c9b0
    try clear c9b1
    try clear p2
    obtain ⟨x7_2, x8_2, rfl, HA, HK2, HO_7, HB⟩ := hrel
    cases gk with
    | zero => exact absurd HA.out (by simp [spec_DiscRegion.l0])
    | succ k2 =>
     have H := HA.out
     clear HA
     simp only [spec_DiscRegion.l0] at H
     by_cases c12 : x8_2 < (x7_2.length : Int)
     rotate_left
     ·
      rw [if_neg c12] at H
      have c12b0 : decide (x8_2 < (x7_2.length : Int)) = false := decide_eq_false c12
      clear c12
      replace H := Option.bind_eq_some_iff.mp H
      obtain ⟨t107, A180, H⟩ := H
      replace H : (some t107) = some r := H
      have A18 := Aside0.mk A180
      clear A180
      obtain rfl := Option.some.inj H
      obtain ⟨Ao19, co19, eo19⟩ := Kd.R_slice HO_7.out
      subst eo19
      go_wp2_with (first | ((with_reducible refine gate_callee (f := 61) rfl ?_); refine goesL_ (some 50) rfl rfl Try.func61 (by kernel_rfl) rfl #[.slice Ao19 x7_2.length co19] rfl (by simp only [List.map_toArray, List.map_cons, List.map_nil]; rfl) ?_; (with_reducible refine (spec_runsOf.calls k2 _ _ x7_2 t107 _ ?side1 ?side2 A18.out).mono ?_); (case side1 => repeat (first | exact (Kd.R_reads' HO_7.out).2.2 | (with_reducible refine Kd.C_alloc ?_ _) | (with_reducible refine Kd.C_drewN ?_ _) | (with_reducible refine Kd.C_drew ?_))); (case side2 => exact (Kd.R_reads' HO_7.out).2.1); rintro e w20 ⟨v108, rfl, ho0, hb⟩; refine ⟨_, rfl, ?_⟩; replace HO_7 := am_ (Kd.R_below (by exact HO_7.out) hb); have HO109 := am_ (Kd.R_lower ho0 (below_size (by repeat (first | (with_reducible first | exact HB.out | apply below_alloc | apply pw_below_drewN | apply below_drew1) | exact HB.out)))); replace HB := am_ (below_step (by repeat (first | (with_reducible first | exact HB.out | apply below_alloc | apply pw_below_drewN | apply below_drew1) | exact HB.out)) hb); (try clear hb); (try clear hb2); (try clear hk); (try clear hi); (try clear ho0)))
      go_ret
      exact ⟨_, by first | rfl | (simp [errW_none, errW_some] <;> rfl) | (simp [*, errW_none, errW_some] <;> rfl), by exact HO109.out, by repeat (first | (with_reducible first | exact HB.out | apply below_alloc | apply pw_below_drewN | apply below_drew1) | exact HB.out)⟩
     rw [if_pos c12] at H
     have c12b0 : decide (x8_2 < (x7_2.length : Int)) = true := decide_eq_true c12
     clear c12
     by_cases c13 : 0 ≤ x8_2
     rotate_left
     ·
      rw [if_neg c13] at H
      exact absurd H (by simp)
     rw [if_pos c13] at H
     have c13b0 : decide (0 ≤ x8_2) = true := decide_eq_true c13
     clear c13
     obtain ⟨y106, hy106⟩ : ∃ y_ : List Bool, y_ = (x7_2.set (x8_2 : Int).toNat (decide ((wrap64 ((wrap64 ((wrap64 ((Int.tmod x8_2 16) - a0)) * (wrap64 ((Int.tmod x8_2 16) - a0)))) + (wrap64 ((wrap64 ((wrap64 (Int.tdiv x8_2 16)) - a1)) * (wrap64 ((wrap64 (Int.tdiv x8_2 16)) - a1)))))) ≤ (wrap64 (a2 * a2))))) := ⟨_, rfl⟩
     replace H : (spec_DiscRegion.l0 k2 a0 a1 a2 y106 (wrap64 (x8_2 + 1))) = some r := by first | (rw [hy106]; with_reducible exact H) | (have H2_ := (Option.bind_some _ _).symm.trans H; rw [hy106]; with_reducible exact H2_) | (have H2_ := (Option.bind_some _ _).symm.trans H; with_reducible exact H2_) | with_reducible exact H | (rw [hy106]; exact H) | exact H
     have Ny106 := Aside0.mk hy106
     clear hy106
     have H' := Aside0.mk H
     clear H
     obtain ⟨Ao15, co15, eo15⟩ := Kd.R_slice HO_7.out
     subst eo15
     have p14 : 0 ≤ (x8_2 : Int) := of_decide_eq_true (by first | with_reducible assumption | assumption)
     have q14 : (x8_2 : Int) < ((x7_2.length : Int) : Int) := of_decide_eq_true (by first | with_reducible assumption | assumption)
     obtain ⟨go14, co14, eo14, gb14, gl14, cl14, HG14⟩ := Kd.R_form HO_7.out (by omega)
     (first | cases eo14 | (injection eo14 with ea_ en_ ec_; (first | subst ea_ | (injection ea_ with ea_; subst ea_)); subst ec_; clear en_))
     have GB14 := Aside0.mk gb14
     have GG14 := Aside0.mk HG14
     clear gb14 gl14 HG14
     obtain ⟨hx14_0, hf14_0⟩ := Kd.R_celln false HO_7.out (x8_2 : Int) p14 q14
     replace p14 := eq_true p14
     replace q14 := eq_true q14
     have HP16 := Kd.R_putg HO_7.out (x8_2 : Int) (decide ((wrap64 ((wrap64 ((wrap64 ((Int.tmod x8_2 16) - a0)) * (wrap64 ((Int.tmod x8_2 16) - a0)))) + (wrap64 ((wrap64 ((wrap64 (Int.tdiv x8_2 16)) - a1)) * (wrap64 ((wrap64 (Int.tdiv x8_2 16)) - a1)))))) ≤ (wrap64 (a2 * a2))))
     go_wp2_with (first | ((with_reducible refine gate_store (t := 4) (p := 48) rfl ?_); refine store_event (t := 4) (p := 48) (v := ?vo_w17) (w1 := (wr.setCell ⟨go14, (x8_2 : Int).toNat, none⟩ (.bool (decide ((wrap64 ((wrap64 ((wrap64 ((Int.tmod x8_2 16) - a0)) * (wrap64 ((Int.tmod x8_2 16) - a0)))) + (wrap64 ((wrap64 ((wrap64 (Int.tdiv x8_2 16)) - a1)) * (wrap64 ((wrap64 (Int.tdiv x8_2 16)) - a1)))))) ≤ (wrap64 (a2 * a2))))))) ?hg ?ho ?hn ?hr ?_; (case ho => rfl); (case hg => rfl); (case hn => rfl); (case hr => first | (go_simp; done) | (go_simp; rfl)); intro w17 hw; have hg : wr.grownBy w17 (some go14) := (by rw [hw]; exact HP16.2); have hp_ : Kd.R Kd.bool 4 w17 w.heap.size (fun _ => True) (.slice (some ⟨go14, 0, none⟩) x7_2.length co15) y106 := (by rw [hw, Ny106.out]; exact HP16.1); clear HP16; replace HO_7 := am_ (hp_); replace HB := am_ ((by rw [hw]; exact below_set (HB.out) GB14.out : Below w.heap.size w w17)); clear hg hw hp_))
     go_roundg k2
     case measure => have := HJ3.out; have := HK2.out; omega
     case rel => exact ⟨(y106), (wrap64 (x8_2 + 1)), (by first | rfl | (simp; done) | (simp [*]; done)), H', ⟨by have := HJ3.out; have := HK2.out; omega⟩, ⟨by exact HO_7.out⟩, ⟨by repeat (first | (with_reducible first | exact HB.out | apply below_alloc | apply pw_below_drewN | apply below_drew1) | exact HB.out)⟩⟩

/-! ### spec_randomRegion: function 47 -/
mutual
def spec_randomRegion.j3 : Nat → List Bool → List Int → Int → Option ((List (S59)) × Int)
 | 0, _, _, _ => none
 | k + 1, x3, x1000, x1001 => (spec_reader_pick.f k x1000 x1001 10).bind fun bt129 => (if bt129.1 = 0 then ((spec_reader_one.f k x1000 bt129.2 (([15, 240, 255, 0] : List Int))).bind fun bt134 => (if 0 ≤ bt134.1 then (if bt134.1 < (x3.length : Int) then ((spec_runsOf.f k (x3.set (bt134.1 : Int).toNat true)).bind fun t137 => (some (t137, bt134.2))) else (none)) else (none))) else ((spec_runsOf.f k x3).bind fun t140 => (some (t140, bt129.2))))
def spec_randomRegion.l0 : Nat → List Bool → Int → List Int → Int → Option ((List (S59)) × Int)
 | 0, _, _, _, _ => none
 | k + 1, x3, x4, x1000, x1001 => if x4 > 0 then ((spec_reader_pick.f k x1000 x1001 6).bind fun bt117 => ((spec_reader_pick.f k x1000 bt117.2 6).bind fun bt119 => (if 0 ≤ (wrap64 ((wrap64 (bt117.1 * 16)) + bt119.1)) then (if (wrap64 ((wrap64 (bt117.1 * 16)) + bt119.1)) < (x3.length : Int) then (spec_randomRegion.l0 k (x3.set ((wrap64 ((wrap64 (bt117.1 * 16)) + bt119.1)) : Int).toNat true) (wrap64 (x4 - 1)) x1000 bt119.2) else (none)) else (none)))) else (spec_randomRegion.j3 k x3 x1000 x1001)
def spec_randomRegion.l1 : Nat → List Bool → Int → List Int → Int → Option ((List (S59)) × Int)
 | 0, _, _, _, _ => none
 | k + 1, x3, x5, x1000, x1001 => if x5 > 0 then ((spec_reader_pick.f k x1000 x1001 8).bind fun bt124 => ((spec_reader_pick.f k x1000 bt124.2 8).bind fun bt126 => (spec_randomRegion.l2 k x3 x5 bt124.1 bt126.1 0 x1000 bt126.2))) else (spec_randomRegion.j3 k x3 x1000 x1001)
def spec_randomRegion.l2 : Nat → List Bool → Int → Int → Int → Int → List Int → Int → Option ((List (S59)) × Int)
 | 0, _, _, _, _, _, _, _ => none
 | k + 1, x3, x5, x6, x7, x8, x1000, x1001 => if x8 < 12 then (if 0 ≤ (wrap64 ((wrap64 ((wrap64 ((wrap64 (x7 + (wrap64 (Int.tdiv x8 4)))) * 16)) + x6)) + (Int.tmod x8 4))) then (if (wrap64 ((wrap64 ((wrap64 ((wrap64 (x7 + (wrap64 (Int.tdiv x8 4)))) * 16)) + x6)) + (Int.tmod x8 4))) < (x3.length : Int) then (spec_randomRegion.l2 k (x3.set ((wrap64 ((wrap64 ((wrap64 ((wrap64 (x7 + (wrap64 (Int.tdiv x8 4)))) * 16)) + x6)) + (Int.tmod x8 4))) : Int).toNat true) x5 x6 x7 (wrap64 (x8 + 1)) x1000 x1001) else (none)) else (none)) else (spec_randomRegion.l1 k x3 (wrap64 (x5 - 1)) x1000 x1001)
end
def spec_randomRegion.f (k : Nat) (s0_0 : List Int) (s0_1 : Int) : Option ((List (S59)) × Int) := if 256 ≤ 281474976710656 then ((some (List.replicate 256 false : List Bool)).bind fun y101 => ((spec_reader_pick.f k s0_0 s0_1 4).bind fun bt104 => (if bt104.1 = 0 then ((spec_reader_pick.f k s0_0 bt104.2 8).bind fun bt106 => ((spec_reader_pick.f k s0_0 bt106.2 8).bind fun bt108 => ((spec_reader_pick.f k s0_0 bt108.2 5).bind fun bt110 => ((spec_DiscRegion.f k bt106.1 bt108.1 bt110.1).bind fun t112 => (some (t112, bt110.2)))))) else (if bt104.1 = 1 then ((spec_reader_pick.f k s0_0 bt104.2 12).bind fun bt115 => (spec_randomRegion.l0 k y101 bt115.1 s0_0 bt115.2)) else ((spec_reader_pick.f k s0_0 bt104.2 5).bind fun bt122 => (spec_randomRegion.l1 k y101 bt122.1 s0_0 bt122.2)))))) else (none)
theorem spec_randomRegion.mono_l : ∀ k, (∀ y0 y1 y2, LeO (spec_randomRegion.j3 k y0 y1 y2) (spec_randomRegion.j3 (k + 1) y0 y1 y2)) ∧ (∀ y0 y1 y2 y3, LeO (spec_randomRegion.l0 k y0 y1 y2 y3) (spec_randomRegion.l0 (k + 1) y0 y1 y2 y3)) ∧ (∀ y0 y1 y2 y3, LeO (spec_randomRegion.l1 k y0 y1 y2 y3) (spec_randomRegion.l1 (k + 1) y0 y1 y2 y3)) ∧ (∀ y0 y1 y2 y3 y4 y5 y6, LeO (spec_randomRegion.l2 k y0 y1 y2 y3 y4 y5 y6) (spec_randomRegion.l2 (k + 1) y0 y1 y2 y3 y4 y5 y6))
 | 0 => ⟨fun _ _ _ r h => by simp [spec_randomRegion.j3] at h, fun _ _ _ _ r h => by simp [spec_randomRegion.l0] at h, fun _ _ _ _ r h => by simp [spec_randomRegion.l1] at h, fun _ _ _ _ _ _ _ r h => by simp [spec_randomRegion.l2] at h⟩
 | k + 1 => by
  obtain ⟨ih0, ih1, ih2, ih3⟩ := spec_randomRegion.mono_l k
  refine ⟨?_, ?_, ?_, ?_⟩
  ·
   intro y0 y1 y2
   unfold spec_randomRegion.j3
   repeat' first
   | (with_reducible exact ih0 _ _ _)
   | (with_reducible exact ih1 _ _ _ _)
   | (with_reducible exact ih2 _ _ _ _)
   | (with_reducible exact ih3 _ _ _ _ _ _ _)
   | (with_reducible exact spec_DiscRegion.mono _ _ _ _)
   | (with_reducible exact spec_reader_one.mono _ _ _ _)
   | (with_reducible exact spec_reader_pick.mono _ _ _ _)
   | (with_reducible exact spec_runsOf.mono _ _)
   | (with_reducible exact LeO.refl _)
   | (with_reducible exact LeO.none _)
   | (with_reducible refine LeO.ite ?_ ?_)
   | (with_reducible refine LeO.bind ?_ (fun _ => ?_))
   | exact ih0 _ _ _
   | exact ih1 _ _ _ _
   | exact ih2 _ _ _ _
   | exact ih3 _ _ _ _ _ _ _
   | exact spec_DiscRegion.mono _ _ _ _
   | exact spec_reader_one.mono _ _ _ _
   | exact spec_reader_pick.mono _ _ _ _
   | exact spec_runsOf.mono _ _
   | exact LeO.none _
   | refine LeO.ite ?_ ?_
   | refine LeO.bind ?_ (fun _ => ?_)
  ·
   intro y0 y1 y2 y3
   unfold spec_randomRegion.l0
   repeat' first
   | (with_reducible exact ih0 _ _ _)
   | (with_reducible exact ih1 _ _ _ _)
   | (with_reducible exact ih2 _ _ _ _)
   | (with_reducible exact ih3 _ _ _ _ _ _ _)
   | (with_reducible exact spec_DiscRegion.mono _ _ _ _)
   | (with_reducible exact spec_reader_one.mono _ _ _ _)
   | (with_reducible exact spec_reader_pick.mono _ _ _ _)
   | (with_reducible exact spec_runsOf.mono _ _)
   | (with_reducible exact LeO.refl _)
   | (with_reducible exact LeO.none _)
   | (with_reducible refine LeO.ite ?_ ?_)
   | (with_reducible refine LeO.bind ?_ (fun _ => ?_))
   | exact ih0 _ _ _
   | exact ih1 _ _ _ _
   | exact ih2 _ _ _ _
   | exact ih3 _ _ _ _ _ _ _
   | exact spec_DiscRegion.mono _ _ _ _
   | exact spec_reader_one.mono _ _ _ _
   | exact spec_reader_pick.mono _ _ _ _
   | exact spec_runsOf.mono _ _
   | exact LeO.none _
   | refine LeO.ite ?_ ?_
   | refine LeO.bind ?_ (fun _ => ?_)
  ·
   intro y0 y1 y2 y3
   unfold spec_randomRegion.l1
   repeat' first
   | (with_reducible exact ih0 _ _ _)
   | (with_reducible exact ih1 _ _ _ _)
   | (with_reducible exact ih2 _ _ _ _)
   | (with_reducible exact ih3 _ _ _ _ _ _ _)
   | (with_reducible exact spec_DiscRegion.mono _ _ _ _)
   | (with_reducible exact spec_reader_one.mono _ _ _ _)
   | (with_reducible exact spec_reader_pick.mono _ _ _ _)
   | (with_reducible exact spec_runsOf.mono _ _)
   | (with_reducible exact LeO.refl _)
   | (with_reducible exact LeO.none _)
   | (with_reducible refine LeO.ite ?_ ?_)
   | (with_reducible refine LeO.bind ?_ (fun _ => ?_))
   | exact ih0 _ _ _
   | exact ih1 _ _ _ _
   | exact ih2 _ _ _ _
   | exact ih3 _ _ _ _ _ _ _
   | exact spec_DiscRegion.mono _ _ _ _
   | exact spec_reader_one.mono _ _ _ _
   | exact spec_reader_pick.mono _ _ _ _
   | exact spec_runsOf.mono _ _
   | exact LeO.none _
   | refine LeO.ite ?_ ?_
   | refine LeO.bind ?_ (fun _ => ?_)
  intro y0 y1 y2 y3 y4 y5 y6
  unfold spec_randomRegion.l2
  repeat' first
  | (with_reducible exact ih0 _ _ _)
  | (with_reducible exact ih1 _ _ _ _)
  | (with_reducible exact ih2 _ _ _ _)
  | (with_reducible exact ih3 _ _ _ _ _ _ _)
  | (with_reducible exact spec_DiscRegion.mono _ _ _ _)
  | (with_reducible exact spec_reader_one.mono _ _ _ _)
  | (with_reducible exact spec_reader_pick.mono _ _ _ _)
  | (with_reducible exact spec_runsOf.mono _ _)
  | (with_reducible exact LeO.refl _)
  | (with_reducible exact LeO.none _)
  | (with_reducible refine LeO.ite ?_ ?_)
  | (with_reducible refine LeO.bind ?_ (fun _ => ?_))
  | exact ih0 _ _ _
  | exact ih1 _ _ _ _
  | exact ih2 _ _ _ _
  | exact ih3 _ _ _ _ _ _ _
  | exact spec_DiscRegion.mono _ _ _ _
  | exact spec_reader_one.mono _ _ _ _
  | exact spec_reader_pick.mono _ _ _ _
  | exact spec_runsOf.mono _ _
  | exact LeO.none _
  | refine LeO.ite ?_ ?_
  | refine LeO.bind ?_ (fun _ => ?_)
theorem spec_randomRegion.mono : ∀ a0 a1 k, LeO (spec_randomRegion.f k a0 a1) (spec_randomRegion.f (k + 1) a0 a1) := by
 intro a0 a1 k
 obtain ⟨ih0, ih1, ih2, ih3⟩ := spec_randomRegion.mono_l k
 unfold spec_randomRegion.f
 repeat' first
   | (with_reducible exact ih0 _ _ _)
   | (with_reducible exact ih1 _ _ _ _)
   | (with_reducible exact ih2 _ _ _ _)
   | (with_reducible exact ih3 _ _ _ _ _ _ _)
   | (with_reducible exact spec_DiscRegion.mono _ _ _ _)
   | (with_reducible exact spec_reader_one.mono _ _ _ _)
   | (with_reducible exact spec_reader_pick.mono _ _ _ _)
   | (with_reducible exact spec_runsOf.mono _ _)
   | (with_reducible exact LeO.refl _)
   | (with_reducible exact LeO.none _)
   | (with_reducible refine LeO.ite ?_ ?_)
   | (with_reducible refine LeO.bind ?_ (fun _ => ?_))
   | exact ih0 _ _ _
   | exact ih1 _ _ _ _
   | exact ih2 _ _ _ _
   | exact ih3 _ _ _ _ _ _ _
   | exact spec_DiscRegion.mono _ _ _ _
   | exact spec_reader_one.mono _ _ _ _
   | exact spec_reader_pick.mono _ _ _ _
   | exact spec_runsOf.mono _ _
   | exact LeO.none _
   | refine LeO.ite ?_ ?_
   | refine LeO.bind ?_ (fun _ => ?_)
set_option maxHeartbeats 8000000 in
set_option maxRecDepth 100000 in
theorem spec_randomRegion.calls (k : Nat) (g : Nat) (s0_0 : List Int) (s0_1 : Int) (r1 : List (S59)) (r2 : Int) (w0 w : World) (hI : IsS70 w0 w g s0_0 s0_1) (hB : Below w0.heap.size w0 w) (h : spec_randomRegion.f k s0_0 s0_1 = some (r1, r2)) :
  Calls Try.prog 47 #[.pointer (some ⟨g, 0, none⟩)] w fun e w' => ∃ v0_ : Value, e = .returned (v0_) ∧ Kd.R k59 59 w' w.heap.size (fun _ => True) v0_ r1 ∧ IsS70 w0 w' g s0_0 r2 ∧ Below w0.heap.size w0 w' ∧ KeepBut w w' g none := by
 have HI0 := Aside0.mk hI
 have HK := Aside0.mk (KeepBut.refl w g none)
 have HL := Aside0.mk hB.size
 clear hI
 have HW0 := Aside0.mk hB.size
 have HB := Aside0.mk hB
 clear hB
 have H : (if 256 ≤ 281474976710656 then ((some (List.replicate 256 false : List Bool)).bind fun y101 => ((spec_reader_pick.f k s0_0 s0_1 4).bind fun bt104 => (if bt104.1 = 0 then ((spec_reader_pick.f k s0_0 bt104.2 8).bind fun bt106 => ((spec_reader_pick.f k s0_0 bt106.2 8).bind fun bt108 => ((spec_reader_pick.f k s0_0 bt108.2 5).bind fun bt110 => ((spec_DiscRegion.f k bt106.1 bt108.1 bt110.1).bind fun t112 => (some (t112, bt110.2)))))) else (if bt104.1 = 1 then ((spec_reader_pick.f k s0_0 bt104.2 12).bind fun bt115 => (spec_randomRegion.l0 k y101 bt115.1 s0_0 bt115.2)) else ((spec_reader_pick.f k s0_0 bt104.2 5).bind fun bt122 => (spec_randomRegion.l1 k y101 bt122.1 s0_0 bt122.2)))))) else (none)) = some (r1, r2) := h
 clear h
 by_cases c2 : 256 ≤ 281474976710656
 rotate_left
 ·
  rw [if_neg c2] at H
  exact absurd H (by simp)
 rw [if_pos c2] at H
 have c2b0 := eq_true c2
 have c2b1 : decide (256 ≤ 281474976710656) = true := decide_eq_true c2
 clear c2
 obtain ⟨y101, hy101⟩ : ∃ y_ : List Bool, y_ = (List.replicate 256 false) := ⟨_, rfl⟩
 replace H : ((spec_reader_pick.f k s0_0 s0_1 4).bind fun bt104 => (if bt104.1 = 0 then ((spec_reader_pick.f k s0_0 bt104.2 8).bind fun bt106 => ((spec_reader_pick.f k s0_0 bt106.2 8).bind fun bt108 => ((spec_reader_pick.f k s0_0 bt108.2 5).bind fun bt110 => ((spec_DiscRegion.f k bt106.1 bt108.1 bt110.1).bind fun t112 => (some (t112, bt110.2)))))) else (if bt104.1 = 1 then ((spec_reader_pick.f k s0_0 bt104.2 12).bind fun bt115 => (spec_randomRegion.l0 k y101 bt115.1 s0_0 bt115.2)) else ((spec_reader_pick.f k s0_0 bt104.2 5).bind fun bt122 => (spec_randomRegion.l1 k y101 bt122.1 s0_0 bt122.2))))) = some (r1, r2) := by first | (rw [hy101]; with_reducible exact H) | (have H2_ := (Option.bind_some _ _).symm.trans H; rw [hy101]; with_reducible exact H2_) | (have H2_ := (Option.bind_some _ _).symm.trans H; with_reducible exact H2_) | with_reducible exact H | (rw [hy101]; exact H) | exact H
 have Ny101 := Aside0.mk hy101
 clear hy101
 replace H := Option.bind_eq_some_iff.mp H
 obtain ⟨⟨t104, t105⟩, A30, H⟩ := H
 replace H : (if t104 = 0 then ((spec_reader_pick.f k s0_0 t105 8).bind fun bt106 => ((spec_reader_pick.f k s0_0 bt106.2 8).bind fun bt108 => ((spec_reader_pick.f k s0_0 bt108.2 5).bind fun bt110 => ((spec_DiscRegion.f k bt106.1 bt108.1 bt110.1).bind fun t112 => (some (t112, bt110.2)))))) else (if t104 = 1 then ((spec_reader_pick.f k s0_0 t105 12).bind fun bt115 => (spec_randomRegion.l0 k y101 bt115.1 s0_0 bt115.2)) else ((spec_reader_pick.f k s0_0 t105 5).bind fun bt122 => (spec_randomRegion.l1 k y101 bt122.1 s0_0 bt122.2)))) = some (r1, r2) := H
 have A3 := Aside0.mk A30
 clear A30
 have HC4 := Aside0.mk H
 clear H
 go_enter Try.func47, Try.ntmps47
 go_upto_block 0 with (first | ((with_reducible refine gate_dst (N := 9) rfl ?_); refine Kd.R_make Kd.bool _ 4 rfl (N := 9) rfl 82 _ _ rfl 256 rfl rfl Try.underlying82 (.bool false) 1 info4 rfl (by decide) (by omega) false (ok := fun _ => True) (okp := fun _ => True) rfl (fun _ hk => hk) trivial (by omega) (by omega) (Below.refl _ _) (Nat.le_refl _) ?_; intro v102 w5 ho6 hb hg_ hnew_; clear hg_ hnew_; (first | rw [← Ny101.out] at ho6 | (simp only [Int.reduceToNat] at ho6; rw [← Ny101.out] at ho6)); have HO103 := am_ (Kd.R_lower ho6 (keep_size (w := w) (g := g) (row := none) (by repeat (first | (with_reducible first | exact HK.out | apply KeepBut.set_ | apply keep_drewN | apply keep_drew | apply keep_alloc) | exact HK.out)))); replace HK := am_ (KeepBut.trans (by repeat (first | (with_reducible first | exact HK.out | apply KeepBut.set_ | apply keep_drewN | apply keep_drew | apply keep_alloc) | exact HK.out)) (KeepBut.of_below hb g none) (.inl rfl)); replace HB := am_ (below_step (by repeat (first | (with_reducible first | exact HB.out | apply below_alloc | apply pw_below_drewN | apply below_drew1 | refine below_set ?_ (IsS70.ge HI0.out)) | exact HB.out)) hb); replace HI0 := am_ (IsS70.below (by repeat (first | (with_reducible first | exact HI0.out | apply IsS70.alloc | apply IsS70.drewN | apply IsS70.drew | apply IsS70.set_1) | exact HI0.out)) hb); clear hb ho6) | ((with_reducible refine gate_callee (f := 46) rfl ?_); refine goesL_ (some 11) rfl rfl Try.func46 (by kernel_rfl) rfl #[.pointer (some ⟨g, 0, none⟩), .int .i64 4] rfl (by simp only [List.map_toArray, List.map_cons, List.map_nil]; rfl) ?_; (with_reducible refine (spec_reader_pick.calls k g s0_0 s0_1 4 t104 t105 w0 _ ?side1 ?side2 A3.out).mono ?_); (case side1 => repeat (first | (with_reducible first | exact HI0.out | apply IsS70.alloc | apply IsS70.drewN | apply IsS70.drew | apply IsS70.set_1) | exact HI0.out)); (case side2 => repeat (first | (with_reducible first | exact HB.out | apply below_alloc | apply pw_below_drewN | apply below_drew1 | refine below_set ?_ (IsS70.ge HI0.out)) | exact HB.out)); rintro e w7 ⟨rfl, hi, hb, hk⟩; refine ⟨_, rfl, ?_⟩; replace HO103 := am_ (Kd.R_mono (Kd.R_keep (IsS70.apart (show IsS70 w0 _ g s0_0 s0_1 from by repeat (first | (with_reducible first | exact HI0.out | apply IsS70.alloc | apply IsS70.drewN | apply IsS70.drew | apply IsS70.set_1) | exact HI0.out)) (by exact HO103.out) (by decide)) hk (fun _ h => h.2)) (fun _ h => h.1)); replace HK := am_ (KeepBut.trans (by repeat (first | (with_reducible first | exact HK.out | apply KeepBut.set_ | apply keep_drewN | apply keep_drew | apply keep_alloc) | exact HK.out)) hk (.inl rfl)); replace HB := am_ (hb); replace HI0 := am_ (hi); (try clear hb); (try clear hb2); (try clear hk); (try clear hi)))
 (try simp only [Act.put, List.setIfInBounds_toArray, List.set_cons_zero, List.set_cons_succ])
 go_cut [] (fun wc => ∃ (kq : Nat) (x3_3 : List Bool) (x1001_3 : Int), Aside0 (spec_randomRegion.j3 kq x3_3 s0_0 x1001_3 = some (r1, r2)) ∧ Aside0 (kq ≤ k) ∧ Aside0 (Kd.R Kd.bool 4 wc w.heap.size (fun _ => True) v102 x3_3) ∧ Aside0 (IsS70 w0 wc g s0_0 x1001_3) ∧ Aside0 (KeepBut w wc g none) ∧ Aside0 (Below w0.heap.size w0 wc))
 case first =>
  have H := HC4.out
  clear HC4
  by_cases c8 : t104 = 0
  ·
   rw [if_pos c8] at H
   have c8b0 : (t104 == 0) = true := beq_iff_eq.mpr c8
   have c8b1 : (t104 != 0) = false := bne_eq_false_iff_eq.mpr c8
   clear c8
   (first | rw [c8b0] | (simp only [i64_w, i32_w]; rw [c8b0]) | skip)
   replace H := Option.bind_eq_some_iff.mp H
   obtain ⟨⟨t106, t107⟩, A90, H⟩ := H
   replace H : ((spec_reader_pick.f k s0_0 t107 8).bind fun bt108 => ((spec_reader_pick.f k s0_0 bt108.2 5).bind fun bt110 => ((spec_DiscRegion.f k t106 bt108.1 bt110.1).bind fun t112 => (some (t112, bt110.2))))) = some (r1, r2) := H
   have A9 := Aside0.mk A90
   clear A90
   replace H := Option.bind_eq_some_iff.mp H
   obtain ⟨⟨t108, t109⟩, A100, H⟩ := H
   replace H : ((spec_reader_pick.f k s0_0 t109 5).bind fun bt110 => ((spec_DiscRegion.f k t106 t108 bt110.1).bind fun t112 => (some (t112, bt110.2)))) = some (r1, r2) := H
   have A10 := Aside0.mk A100
   clear A100
   replace H := Option.bind_eq_some_iff.mp H
   obtain ⟨⟨t110, t111⟩, A110, H⟩ := H
   replace H : ((spec_DiscRegion.f k t106 t108 t110).bind fun t112 => (some (t112, t111))) = some (r1, r2) := H
   have A11 := Aside0.mk A110
   clear A110
   replace H := Option.bind_eq_some_iff.mp H
   obtain ⟨t112, A120, H⟩ := H
   replace H : (some (t112, t111)) = some (r1, r2) := H
   have A12 := Aside0.mk A120
   clear A120
   simp only [Option.some.injEq, Prod.mk.injEq] at H
   obtain ⟨rfl, rfl⟩ := H
   go_wp2_with (first | ((with_reducible refine gate_callee (f := 46) rfl ?_); refine goesL_ (some 41) rfl rfl Try.func46 (by kernel_rfl) rfl #[.pointer (some ⟨g, 0, none⟩), .int .i64 8] rfl (by simp only [List.map_toArray, List.map_cons, List.map_nil]; rfl) ?_; (with_reducible refine (spec_reader_pick.calls k g s0_0 t105 8 t106 t107 w0 _ ?side1 ?side2 A9.out).mono ?_); (case side1 => repeat (first | (with_reducible first | exact HI0.out | apply IsS70.alloc | apply IsS70.drewN | apply IsS70.drew | apply IsS70.set_1) | exact HI0.out)); (case side2 => repeat (first | (with_reducible first | exact HB.out | apply below_alloc | apply pw_below_drewN | apply below_drew1 | refine below_set ?_ (IsS70.ge HI0.out)) | exact HB.out)); rintro e w13 ⟨rfl, hi, hb, hk⟩; refine ⟨_, rfl, ?_⟩; replace HO103 := am_ (Kd.R_mono (Kd.R_keep (IsS70.apart (show IsS70 w0 _ g s0_0 t105 from by repeat (first | (with_reducible first | exact HI0.out | apply IsS70.alloc | apply IsS70.drewN | apply IsS70.drew | apply IsS70.set_1) | exact HI0.out)) (by exact HO103.out) (by decide)) hk (fun _ h => h.2)) (fun _ h => h.1)); replace HK := am_ (KeepBut.trans (by repeat (first | (with_reducible first | exact HK.out | apply KeepBut.set_ | apply keep_drewN | apply keep_drew | apply keep_alloc) | exact HK.out)) hk (.inl rfl)); replace HB := am_ (hb); replace HI0 := am_ (hi); (try clear hb); (try clear hb2); (try clear hk); (try clear hi)) | ((with_reducible refine gate_callee (f := 46) rfl ?_); refine goesL_ (some 43) rfl rfl Try.func46 (by kernel_rfl) rfl #[.pointer (some ⟨g, 0, none⟩), .int .i64 8] rfl (by simp only [List.map_toArray, List.map_cons, List.map_nil]; rfl) ?_; (with_reducible refine (spec_reader_pick.calls k g s0_0 t107 8 t108 t109 w0 _ ?side1 ?side2 A10.out).mono ?_); (case side1 => repeat (first | (with_reducible first | exact HI0.out | apply IsS70.alloc | apply IsS70.drewN | apply IsS70.drew | apply IsS70.set_1) | exact HI0.out)); (case side2 => repeat (first | (with_reducible first | exact HB.out | apply below_alloc | apply pw_below_drewN | apply below_drew1 | refine below_set ?_ (IsS70.ge HI0.out)) | exact HB.out)); rintro e w14 ⟨rfl, hi, hb, hk⟩; refine ⟨_, rfl, ?_⟩; replace HO103 := am_ (Kd.R_mono (Kd.R_keep (IsS70.apart (show IsS70 w0 _ g s0_0 t107 from by repeat (first | (with_reducible first | exact HI0.out | apply IsS70.alloc | apply IsS70.drewN | apply IsS70.drew | apply IsS70.set_1) | exact HI0.out)) (by exact HO103.out) (by decide)) hk (fun _ h => h.2)) (fun _ h => h.1)); replace HK := am_ (KeepBut.trans (by repeat (first | (with_reducible first | exact HK.out | apply KeepBut.set_ | apply keep_drewN | apply keep_drew | apply keep_alloc) | exact HK.out)) hk (.inl rfl)); replace HB := am_ (hb); replace HI0 := am_ (hi); (try clear hb); (try clear hb2); (try clear hk); (try clear hi)) | ((with_reducible refine gate_callee (f := 46) rfl ?_); refine goesL_ (some 45) rfl rfl Try.func46 (by kernel_rfl) rfl #[.pointer (some ⟨g, 0, none⟩), .int .i64 5] rfl (by simp only [List.map_toArray, List.map_cons, List.map_nil]; rfl) ?_; (with_reducible refine (spec_reader_pick.calls k g s0_0 t109 5 t110 t111 w0 _ ?side1 ?side2 A11.out).mono ?_); (case side1 => repeat (first | (with_reducible first | exact HI0.out | apply IsS70.alloc | apply IsS70.drewN | apply IsS70.drew | apply IsS70.set_1) | exact HI0.out)); (case side2 => repeat (first | (with_reducible first | exact HB.out | apply below_alloc | apply pw_below_drewN | apply below_drew1 | refine below_set ?_ (IsS70.ge HI0.out)) | exact HB.out)); rintro e w15 ⟨rfl, hi, hb, hk⟩; refine ⟨_, rfl, ?_⟩; replace HO103 := am_ (Kd.R_mono (Kd.R_keep (IsS70.apart (show IsS70 w0 _ g s0_0 t109 from by repeat (first | (with_reducible first | exact HI0.out | apply IsS70.alloc | apply IsS70.drewN | apply IsS70.drew | apply IsS70.set_1) | exact HI0.out)) (by exact HO103.out) (by decide)) hk (fun _ h => h.2)) (fun _ h => h.1)); replace HK := am_ (KeepBut.trans (by repeat (first | (with_reducible first | exact HK.out | apply KeepBut.set_ | apply keep_drewN | apply keep_drew | apply keep_alloc) | exact HK.out)) hk (.inl rfl)); replace HB := am_ (hb); replace HI0 := am_ (hi); (try clear hb); (try clear hb2); (try clear hk); (try clear hi)) | ((with_reducible refine gate_callee (f := 60) rfl ?_); refine goesL_ (some 46) rfl rfl Try.func60 (by kernel_rfl) rfl #[.int .i64 t106, .int .i64 t108, .int .i64 t110] rfl (by simp only [List.map_toArray, List.map_cons, List.map_nil]; rfl) ?_; (with_reducible refine (spec_DiscRegion.calls k t106 t108 t110 t112 _ A12.out).mono ?_); rintro e w16 ⟨v113, rfl, ho0, hb⟩; refine ⟨_, rfl, ?_⟩; replace HO103 := am_ (Kd.R_below (by exact HO103.out) hb); have HO114 := am_ (Kd.R_lower ho0 (keep_size (w := w) (g := g) (row := none) (by repeat (first | (with_reducible first | exact HK.out | apply KeepBut.set_ | apply keep_drewN | apply keep_drew | apply keep_alloc) | exact HK.out)))); replace HK := am_ (KeepBut.trans (by repeat (first | (with_reducible first | exact HK.out | apply KeepBut.set_ | apply keep_drewN | apply keep_drew | apply keep_alloc) | exact HK.out)) (KeepBut.of_below hb g none) (.inl rfl)); replace HB := am_ (below_step (by repeat (first | (with_reducible first | exact HB.out | apply below_alloc | apply pw_below_drewN | apply below_drew1 | refine below_set ?_ (IsS70.ge HI0.out)) | exact HB.out)) hb); replace HI0 := am_ (IsS70.below (by repeat (first | (with_reducible first | exact HI0.out | apply IsS70.alloc | apply IsS70.drewN | apply IsS70.drew | apply IsS70.set_1) | exact HI0.out)) hb); (try clear hb); (try clear hb2); (try clear hk); (try clear hi); (try clear ho0)))
   go_ret
   exact ⟨_, by first | rfl | (simp [errW_none, errW_some] <;> rfl) | (simp [*, errW_none, errW_some] <;> rfl), by exact HO114.out, by repeat (first | (with_reducible first | exact HI0.out | apply IsS70.alloc | apply IsS70.drewN | apply IsS70.drew | apply IsS70.set_1) | exact HI0.out), by repeat (first | (with_reducible first | exact HB.out | apply below_alloc | apply pw_below_drewN | apply below_drew1 | refine below_set ?_ (IsS70.ge HI0.out)) | exact HB.out), by repeat (first | (with_reducible first | exact HK.out | apply KeepBut.set_ | apply keep_drewN | apply keep_drew | apply keep_alloc) | exact HK.out)⟩
  rw [if_neg c8] at H
  have c8b0 : (t104 == 0) = false := beq_eq_false_iff_ne.mpr c8
  have c8b1 : (t104 != 0) = true := bne_iff_ne.mpr c8
  (first | rw [c8b0] | (simp only [i64_w, i32_w]; rw [c8b0]) | skip)
  by_cases c17 : t104 = 1
  ·
   rw [if_pos c17] at H
   have c17b0 : (t104 == 1) = true := beq_iff_eq.mpr c17
   have c17b1 : (t104 != 1) = false := bne_eq_false_iff_eq.mpr c17
   clear c17
   replace H := Option.bind_eq_some_iff.mp H
   obtain ⟨⟨t115, t116⟩, A180, H⟩ := H
   replace H : (spec_randomRegion.l0 k y101 t115 s0_0 t116) = some (r1, r2) := H
   have A18 := Aside0.mk A180
   clear A180
   have H' := Aside0.mk H
   clear H
   go_wp2_with (first | ((with_reducible refine gate_callee (f := 46) rfl ?_); refine goesL_ (some 50) rfl rfl Try.func46 (by kernel_rfl) rfl #[.pointer (some ⟨g, 0, none⟩), .int .i64 12] rfl (by simp only [List.map_toArray, List.map_cons, List.map_nil]; rfl) ?_; (with_reducible refine (spec_reader_pick.calls k g s0_0 t105 12 t115 t116 w0 _ ?side1 ?side2 A18.out).mono ?_); (case side1 => repeat (first | (with_reducible first | exact HI0.out | apply IsS70.alloc | apply IsS70.drewN | apply IsS70.drew | apply IsS70.set_1) | exact HI0.out)); (case side2 => repeat (first | (with_reducible first | exact HB.out | apply below_alloc | apply pw_below_drewN | apply below_drew1 | refine below_set ?_ (IsS70.ge HI0.out)) | exact HB.out)); rintro e w19 ⟨rfl, hi, hb, hk⟩; refine ⟨_, rfl, ?_⟩; replace HO103 := am_ (Kd.R_mono (Kd.R_keep (IsS70.apart (show IsS70 w0 _ g s0_0 t105 from by repeat (first | (with_reducible first | exact HI0.out | apply IsS70.alloc | apply IsS70.drewN | apply IsS70.drew | apply IsS70.set_1) | exact HI0.out)) (by exact HO103.out) (by decide)) hk (fun _ h => h.2)) (fun _ h => h.1)); replace HK := am_ (KeepBut.trans (by repeat (first | (with_reducible first | exact HK.out | apply KeepBut.set_ | apply keep_drewN | apply keep_drew | apply keep_alloc) | exact HK.out)) hk (.inl rfl)); replace HB := am_ (hb); replace HI0 := am_ (hi); (try clear hb); (try clear hb2); (try clear hk); (try clear hi)))
   go_loopg [4] k (fun kq v4 w' => ∃ (x3_1 : List Bool) (x4_1 : Int) (x1001_1 : Int), v4 = .int .i64 x4_1 ∧ Aside0 (spec_randomRegion.l0 kq x3_1 x4_1 s0_0 x1001_1 = some (r1, r2)) ∧ Aside0 (kq ≤ k) ∧ Aside0 (Kd.R Kd.bool 4 w' w.heap.size (fun _ => True) v102 x3_1) ∧ Aside0 (IsS70 w0 w' g s0_0 x1001_1) ∧ Aside0 (KeepBut w w' g none) ∧ Aside0 (Below w0.heap.size w0 w'))
   case atStart => exact ⟨(y101), (t115), (t116), (by first | rfl | (simp; done) | (simp [*]; done)), H', ⟨Nat.le_refl _⟩, ⟨by exact HO103.out⟩, ⟨by repeat (first | (with_reducible first | exact HI0.out | apply IsS70.alloc | apply IsS70.drewN | apply IsS70.drew | apply IsS70.set_1) | exact HI0.out)⟩, ⟨by repeat (first | (with_reducible first | exact HK.out | apply KeepBut.set_ | apply keep_drewN | apply keep_drew | apply keep_alloc) | exact HK.out)⟩, ⟨by repeat (first | (with_reducible first | exact HB.out | apply below_alloc | apply pw_below_drewN | apply below_drew1 | refine below_set ?_ (IsS70.ge HI0.out)) | exact HB.out)⟩⟩
   case round =>
    clear H'
    try clear c1
    try clear c2
    try clear c2b0
    try clear c2b1
    try clear p2
    try clear c4
    try clear c6
    try clear c8
    try clear c8b0
    try clear c8b1
    try clear c17
    try clear c17b0
    try clear c17b1
    obtain ⟨x3_1, x4_1, x1001_1, rfl, HA, HK1, HO_3, HI0, HK, HB⟩ := hrel
    cases gk with
    | zero => exact absurd HA.out (by simp [spec_randomRegion.l0])
    | succ k1 =>
     have H := HA.out
     clear HA
     simp only [spec_randomRegion.l0] at H
     by_cases c20 : x4_1 > 0
     rotate_left
     ·
      rw [if_neg c20] at H
      have c20b0 : decide (0 < x4_1) = false := decide_eq_false c20
      clear c20
      have H' := Aside0.mk H
      clear H
      go_wp2
      go_meet
      case rel => exact ⟨_, (x3_1), (x1001_1), H', ⟨by have := HK1.out; first | omega | exact Nat.le_refl _⟩, ⟨by exact HO_3.out⟩, ⟨by repeat (first | (with_reducible first | exact HI0.out | apply IsS70.alloc | apply IsS70.drewN | apply IsS70.drew | apply IsS70.set_1) | exact HI0.out)⟩, ⟨by repeat (first | (with_reducible first | exact HK.out | apply KeepBut.set_ | apply keep_drewN | apply keep_drew | apply keep_alloc) | exact HK.out)⟩, ⟨by repeat (first | (with_reducible first | exact HB.out | apply below_alloc | apply pw_below_drewN | apply below_drew1 | refine below_set ?_ (IsS70.ge HI0.out)) | exact HB.out)⟩⟩
     rw [if_pos c20] at H
     have c20b0 : decide (0 < x4_1) = true := decide_eq_true c20
     clear c20
     replace H := Option.bind_eq_some_iff.mp H
     obtain ⟨⟨t117, t118⟩, A210, H⟩ := H
     replace H : ((spec_reader_pick.f k1 s0_0 t118 6).bind fun bt119 => (if 0 ≤ (wrap64 ((wrap64 (t117 * 16)) + bt119.1)) then (if (wrap64 ((wrap64 (t117 * 16)) + bt119.1)) < (x3_1.length : Int) then (spec_randomRegion.l0 k1 (x3_1.set ((wrap64 ((wrap64 (t117 * 16)) + bt119.1)) : Int).toNat true) (wrap64 (x4_1 - 1)) s0_0 bt119.2) else (none)) else (none))) = some (r1, r2) := H
     have A21 := Aside0.mk A210
     clear A210
     replace H := Option.bind_eq_some_iff.mp H
     obtain ⟨⟨t119, t120⟩, A220, H⟩ := H
     replace H : (if 0 ≤ (wrap64 ((wrap64 (t117 * 16)) + t119)) then (if (wrap64 ((wrap64 (t117 * 16)) + t119)) < (x3_1.length : Int) then (spec_randomRegion.l0 k1 (x3_1.set ((wrap64 ((wrap64 (t117 * 16)) + t119)) : Int).toNat true) (wrap64 (x4_1 - 1)) s0_0 t120) else (none)) else (none)) = some (r1, r2) := H
     have A22 := Aside0.mk A220
     clear A220
     obtain ⟨ji23, hji23⟩ : ∃ j_ : Int, (wrap64 ((wrap64 (t117 * 16)) + t119)) = j_ := ⟨_, rfl⟩
     replace H : (if 0 ≤ (ji23) then (if (ji23) < (x3_1.length : Int) then (spec_randomRegion.l0 k1 (x3_1.set ((ji23) : Int).toNat true) (wrap64 (x4_1 - 1)) s0_0 t120) else (none)) else (none)) = some (r1, r2) := by first | (rw [hji23] at H; exact H) | (simp only [hji23] at H ⊢; exact H)
     (try rw [hji23] at A21)
     (try rw [hji23] at A22)
     have hji23w : (IntKind.i64.wrap ((wrap64 (t117 * 16)) + t119)) = ji23 := (i64_w _).trans hji23
     by_cases c24 : 0 ≤ (ji23)
     rotate_left
     ·
      rw [if_neg c24] at H
      exact absurd H (by simp)
     rw [if_pos c24] at H
     have c24b0 : decide (0 ≤ (ji23)) = true := decide_eq_true c24
     clear c24
     by_cases c25 : (ji23) < (x3_1.length : Int)
     rotate_left
     ·
      rw [if_neg c25] at H
      exact absurd H (by simp)
     rw [if_pos c25] at H
     have c25b0 : decide ((ji23) < (x3_1.length : Int)) = true := decide_eq_true c25
     clear c25
     obtain ⟨y121, hy121⟩ : ∃ y_ : List Bool, y_ = (x3_1.set ((ji23) : Int).toNat true) := ⟨_, rfl⟩
     replace H : (spec_randomRegion.l0 k1 y121 (wrap64 (x4_1 - 1)) s0_0 t120) = some (r1, r2) := by first | (rw [hy121]; with_reducible exact H) | (have H2_ := (Option.bind_some _ _).symm.trans H; rw [hy121]; with_reducible exact H2_) | (have H2_ := (Option.bind_some _ _).symm.trans H; with_reducible exact H2_) | with_reducible exact H | (rw [hy121]; exact H) | exact H
     have Ny121 := Aside0.mk hy121
     clear hy121
     have H' := Aside0.mk H
     clear H
     go_wp2_with (first | ((with_reducible refine gate_callee (f := 46) rfl ?_); refine goesL_ (some 57) rfl rfl Try.func46 (by kernel_rfl) rfl #[.pointer (some ⟨g, 0, none⟩), .int .i64 6] rfl (by simp only [List.map_toArray, List.map_cons, List.map_nil]; rfl) ?_; (with_reducible refine (spec_reader_pick.calls k1 g s0_0 x1001_1 6 t117 t118 w0 _ ?side1 ?side2 A21.out).mono ?_); (case side1 => repeat (first | (with_reducible first | exact HI0.out | apply IsS70.alloc | apply IsS70.drewN | apply IsS70.drew | apply IsS70.set_1) | exact HI0.out)); (case side2 => repeat (first | (with_reducible first | exact HB.out | apply below_alloc | apply pw_below_drewN | apply below_drew1 | refine below_set ?_ (IsS70.ge HI0.out)) | exact HB.out)); rintro e w27 ⟨rfl, hi, hb, hk⟩; refine ⟨_, rfl, ?_⟩; replace HO_3 := am_ (Kd.R_mono (Kd.R_keep (IsS70.apart (show IsS70 w0 _ g s0_0 x1001_1 from by repeat (first | (with_reducible first | exact HI0.out | apply IsS70.alloc | apply IsS70.drewN | apply IsS70.drew | apply IsS70.set_1) | exact HI0.out)) (by exact HO_3.out) (by decide)) hk (fun _ h => h.2)) (fun _ h => h.1)); replace HK := am_ (KeepBut.trans (by repeat (first | (with_reducible first | exact HK.out | apply KeepBut.set_ | apply keep_drewN | apply keep_drew | apply keep_alloc) | exact HK.out)) hk (.inl rfl)); replace HB := am_ (hb); replace HI0 := am_ (hi); (try clear hb); (try clear hb2); (try clear hk); (try clear hi)) | ((with_reducible refine gate_callee (f := 46) rfl ?_); refine goesL_ (some 60) rfl rfl Try.func46 (by kernel_rfl) rfl #[.pointer (some ⟨g, 0, none⟩), .int .i64 6] rfl (by simp only [List.map_toArray, List.map_cons, List.map_nil]; rfl) ?_; (with_reducible refine (spec_reader_pick.calls k1 g s0_0 t118 6 t119 t120 w0 _ ?side1 ?side2 A22.out).mono ?_); (case side1 => repeat (first | (with_reducible first | exact HI0.out | apply IsS70.alloc | apply IsS70.drewN | apply IsS70.drew | apply IsS70.set_1) | exact HI0.out)); (case side2 => repeat (first | (with_reducible first | exact HB.out | apply below_alloc | apply pw_below_drewN | apply below_drew1 | refine below_set ?_ (IsS70.ge HI0.out)) | exact HB.out)); rintro e w28 ⟨rfl, hi, hb, hk⟩; refine ⟨_, rfl, ?_⟩; replace HO_3 := am_ (Kd.R_mono (Kd.R_keep (IsS70.apart (show IsS70 w0 _ g s0_0 t118 from by repeat (first | (with_reducible first | exact HI0.out | apply IsS70.alloc | apply IsS70.drewN | apply IsS70.drew | apply IsS70.set_1) | exact HI0.out)) (by exact HO_3.out) (by decide)) hk (fun _ h => h.2)) (fun _ h => h.1)); replace HK := am_ (KeepBut.trans (by repeat (first | (with_reducible first | exact HK.out | apply KeepBut.set_ | apply keep_drewN | apply keep_drew | apply keep_alloc) | exact HK.out)) hk (.inl rfl)); replace HB := am_ (hb); replace HI0 := am_ (hi); (try clear hb); (try clear hb2); (try clear hk); (try clear hi); have p26 : 0 ≤ ((ji23) : Int) := of_decide_eq_true (by first | with_reducible assumption | assumption); have q26 : ((ji23) : Int) < ((x3_1.length : Int) : Int) := of_decide_eq_true (by first | with_reducible assumption | assumption); obtain ⟨go26, co26, eo26, gb26, gl26, cl26, HG26⟩ := Kd.R_form HO_3.out (by omega); (first | cases eo26 | (injection eo26 with ea_ en_ ec_; (first | subst ea_ | (injection ea_ with ea_; subst ea_)); subst ec_; clear en_)); have GB26 := Aside0.mk gb26; have GG26 := Aside0.mk HG26; clear gb26 gl26 HG26; obtain ⟨hx26_0, hf26_0⟩ := Kd.R_celln false HO_3.out ((ji23) : Int) p26 q26; replace p26 := eq_true p26; replace q26 := eq_true q26; obtain ⟨hy29_, hz29_⟩ := Kd.R_celln false HO_3.out ((ji23) : Int) (of_decide_eq_true (by first | with_reducible assumption | assumption)) (of_decide_eq_true (by first | with_reducible assumption | assumption)); have HP29 := Kd.R_putg HO_3.out ((ji23) : Int) true) | ((with_reducible refine gate_store (t := 4) (p := 62) rfl ?_); refine store_event (t := 4) (p := 62) (v := ?vo_w30) (w1 := (w28.setCell ⟨go26, ((ji23) : Int).toNat, none⟩ (.bool true))) ?hg ?ho ?hn ?hr ?_; (case ho => rfl); (case hg => rfl); (case hn => rfl); (case hr => first | (go_simp; done) | (go_simp; rfl)); intro w30 hw; have hg : w28.grownBy w30 (some go26) := (by rw [hw]; exact HP29.2); have hp_ : Kd.R Kd.bool 4 w30 w.heap.size (fun _ => True) (.slice (some ⟨go26, 0, none⟩) x3_1.length co26) y121 := (by rw [hw, Ny121.out]; exact HP29.1); clear HP29; replace HI0 := am_ (IsS70.grown (by repeat (first | (with_reducible first | exact HI0.out | apply IsS70.alloc | apply IsS70.drewN | apply IsS70.drew | apply IsS70.set_1) | exact HI0.out)) hg (IsS70.own_ne HI0.out HO_3.out (by decide))); replace HB := am_ ((by rw [hw]; exact below_set (HB.out) (Nat.le_trans HL.out GB26.out) : Below w0.heap.size w0 w30)); replace HK := am_ (KeepBut.trans (by repeat (first | (with_reducible first | exact HK.out | apply KeepBut.set_ | apply keep_drewN | apply keep_drew | apply keep_alloc) | exact HK.out)) (KeepBut.of_grown hg g) (Kd.R_base2 HO_3.out)); replace HO_3 := am_ (hp_); clear hg hw hp_))
     go_roundg k1
     case measure => have := HK1.out; omega
     case rel => exact ⟨(y121), (wrap64 (x4_1 - 1)), (t120), (by first | rfl | (simp; done) | (simp [*]; done)), H', ⟨by have := HK1.out; omega⟩, ⟨by exact HO_3.out⟩, ⟨by repeat (first | (with_reducible first | exact HI0.out | apply IsS70.alloc | apply IsS70.drewN | apply IsS70.drew | apply IsS70.set_1) | exact HI0.out)⟩, ⟨by repeat (first | (with_reducible first | exact HK.out | apply KeepBut.set_ | apply keep_drewN | apply keep_drew | apply keep_alloc) | exact HK.out)⟩, ⟨by repeat (first | (with_reducible first | exact HB.out | apply below_alloc | apply pw_below_drewN | apply below_drew1 | refine below_set ?_ (IsS70.ge HI0.out)) | exact HB.out)⟩⟩
  rw [if_neg c17] at H
  have c17b0 : (t104 == 1) = false := beq_eq_false_iff_ne.mpr c17
  have c17b1 : (t104 != 1) = true := bne_iff_ne.mpr c17
  replace H := Option.bind_eq_some_iff.mp H
  obtain ⟨⟨t122, t123⟩, A310, H⟩ := H
  replace H : (spec_randomRegion.l1 k y101 t122 s0_0 t123) = some (r1, r2) := H
  have A31 := Aside0.mk A310
  clear A310
  have H' := Aside0.mk H
  clear H
  go_wp2_with (first | ((with_reducible refine gate_callee (f := 46) rfl ?_); refine goesL_ (some 13) rfl rfl Try.func46 (by kernel_rfl) rfl #[.pointer (some ⟨g, 0, none⟩), .int .i64 5] rfl (by simp only [List.map_toArray, List.map_cons, List.map_nil]; rfl) ?_; (with_reducible refine (spec_reader_pick.calls k g s0_0 t105 5 t122 t123 w0 _ ?side1 ?side2 A31.out).mono ?_); (case side1 => repeat (first | (with_reducible first | exact HI0.out | apply IsS70.alloc | apply IsS70.drewN | apply IsS70.drew | apply IsS70.set_1) | exact HI0.out)); (case side2 => repeat (first | (with_reducible first | exact HB.out | apply below_alloc | apply pw_below_drewN | apply below_drew1 | refine below_set ?_ (IsS70.ge HI0.out)) | exact HB.out)); rintro e w32 ⟨rfl, hi, hb, hk⟩; refine ⟨_, rfl, ?_⟩; replace HO103 := am_ (Kd.R_mono (Kd.R_keep (IsS70.apart (show IsS70 w0 _ g s0_0 t105 from by repeat (first | (with_reducible first | exact HI0.out | apply IsS70.alloc | apply IsS70.drewN | apply IsS70.drew | apply IsS70.set_1) | exact HI0.out)) (by exact HO103.out) (by decide)) hk (fun _ h => h.2)) (fun _ h => h.1)); replace HK := am_ (KeepBut.trans (by repeat (first | (with_reducible first | exact HK.out | apply KeepBut.set_ | apply keep_drewN | apply keep_drew | apply keep_alloc) | exact HK.out)) hk (.inl rfl)); replace HB := am_ (hb); replace HI0 := am_ (hi); (try clear hb); (try clear hb2); (try clear hk); (try clear hi)))
  go_loopg [5] k (fun kq v5 w' => ∃ (x3_1 : List Bool) (x5_1 : Int) (x1001_1 : Int), v5 = .int .i64 x5_1 ∧ Aside0 (spec_randomRegion.l1 kq x3_1 x5_1 s0_0 x1001_1 = some (r1, r2)) ∧ Aside0 (kq ≤ k) ∧ Aside0 (Kd.R Kd.bool 4 w' w.heap.size (fun _ => True) v102 x3_1) ∧ Aside0 (IsS70 w0 w' g s0_0 x1001_1) ∧ Aside0 (KeepBut w w' g none) ∧ Aside0 (Below w0.heap.size w0 w'))
  case atStart => exact ⟨(y101), (t122), (t123), (by first | rfl | (simp; done) | (simp [*]; done)), H', ⟨Nat.le_refl _⟩, ⟨by exact HO103.out⟩, ⟨by repeat (first | (with_reducible first | exact HI0.out | apply IsS70.alloc | apply IsS70.drewN | apply IsS70.drew | apply IsS70.set_1) | exact HI0.out)⟩, ⟨by repeat (first | (with_reducible first | exact HK.out | apply KeepBut.set_ | apply keep_drewN | apply keep_drew | apply keep_alloc) | exact HK.out)⟩, ⟨by repeat (first | (with_reducible first | exact HB.out | apply below_alloc | apply pw_below_drewN | apply below_drew1 | refine below_set ?_ (IsS70.ge HI0.out)) | exact HB.out)⟩⟩
  case round =>
   clear H'
   try clear c1
   try clear c2
   try clear c2b0
   try clear c2b1
   try clear p2
   try clear q2
   try clear hx2
   try clear hf2
   try clear c4
   try clear c6
   try clear p6
   try clear c8
   try clear c8b0
   try clear c8b1
   try clear c17
   try clear c17b0
   try clear c17b1
   try clear c20
   try clear c20b0
   try clear c24
   try clear c24b0
   try clear c25
   try clear c25b0
   try clear p26
   try clear q26
   try clear hx26
   try clear hf26
   try clear hx26_0
   try clear p2
   try clear p26
   try clear q26
   obtain ⟨x3_1, x5_1, x1001_1, rfl, HA, HK1, HO_3, HI0, HK, HB⟩ := hrel
   cases gk with
   | zero => exact absurd HA.out (by simp [spec_randomRegion.l1])
   | succ k1 =>
    have H := HA.out
    clear HA
    simp only [spec_randomRegion.l1] at H
    by_cases c33 : x5_1 > 0
    rotate_left
    ·
     rw [if_neg c33] at H
     have c33b0 : decide (0 < x5_1) = false := decide_eq_false c33
     clear c33
     have H' := Aside0.mk H
     clear H
     go_wp2
     go_meet
     case rel => exact ⟨_, (x3_1), (x1001_1), H', ⟨by have := HK1.out; first | omega | exact Nat.le_refl _⟩, ⟨by exact HO_3.out⟩, ⟨by repeat (first | (with_reducible first | exact HI0.out | apply IsS70.alloc | apply IsS70.drewN | apply IsS70.drew | apply IsS70.set_1) | exact HI0.out)⟩, ⟨by repeat (first | (with_reducible first | exact HK.out | apply KeepBut.set_ | apply keep_drewN | apply keep_drew | apply keep_alloc) | exact HK.out)⟩, ⟨by repeat (first | (with_reducible first | exact HB.out | apply below_alloc | apply pw_below_drewN | apply below_drew1 | refine below_set ?_ (IsS70.ge HI0.out)) | exact HB.out)⟩⟩
    rw [if_pos c33] at H
    have c33b0 : decide (0 < x5_1) = true := decide_eq_true c33
    clear c33
    replace H := Option.bind_eq_some_iff.mp H
    obtain ⟨⟨t124, t125⟩, A340, H⟩ := H
    replace H : ((spec_reader_pick.f k1 s0_0 t125 8).bind fun bt126 => (spec_randomRegion.l2 k1 x3_1 x5_1 t124 bt126.1 0 s0_0 bt126.2)) = some (r1, r2) := H
    have A34 := Aside0.mk A340
    clear A340
    replace H := Option.bind_eq_some_iff.mp H
    obtain ⟨⟨t126, t127⟩, A350, H⟩ := H
    replace H : (spec_randomRegion.l2 k1 x3_1 x5_1 t124 t126 0 s0_0 t127) = some (r1, r2) := H
    have A35 := Aside0.mk A350
    clear A350
    have H' := Aside0.mk H
    clear H
    go_wp2_with (first | ((with_reducible refine gate_callee (f := 46) rfl ?_); refine goesL_ (some 19) rfl rfl Try.func46 (by kernel_rfl) rfl #[.pointer (some ⟨g, 0, none⟩), .int .i64 8] rfl (by simp only [List.map_toArray, List.map_cons, List.map_nil]; rfl) ?_; (with_reducible refine (spec_reader_pick.calls k1 g s0_0 x1001_1 8 t124 t125 w0 _ ?side1 ?side2 A34.out).mono ?_); (case side1 => repeat (first | (with_reducible first | exact HI0.out | apply IsS70.alloc | apply IsS70.drewN | apply IsS70.drew | apply IsS70.set_1) | exact HI0.out)); (case side2 => repeat (first | (with_reducible first | exact HB.out | apply below_alloc | apply pw_below_drewN | apply below_drew1 | refine below_set ?_ (IsS70.ge HI0.out)) | exact HB.out)); rintro e w36 ⟨rfl, hi, hb, hk⟩; refine ⟨_, rfl, ?_⟩; replace HO_3 := am_ (Kd.R_mono (Kd.R_keep (IsS70.apart (show IsS70 w0 _ g s0_0 x1001_1 from by repeat (first | (with_reducible first | exact HI0.out | apply IsS70.alloc | apply IsS70.drewN | apply IsS70.drew | apply IsS70.set_1) | exact HI0.out)) (by exact HO_3.out) (by decide)) hk (fun _ h => h.2)) (fun _ h => h.1)); replace HK := am_ (KeepBut.trans (by repeat (first | (with_reducible first | exact HK.out | apply KeepBut.set_ | apply keep_drewN | apply keep_drew | apply keep_alloc) | exact HK.out)) hk (.inl rfl)); replace HB := am_ (hb); replace HI0 := am_ (hi); (try clear hb); (try clear hb2); (try clear hk); (try clear hi)) | ((with_reducible refine gate_callee (f := 46) rfl ?_); refine goesL_ (some 21) rfl rfl Try.func46 (by kernel_rfl) rfl #[.pointer (some ⟨g, 0, none⟩), .int .i64 8] rfl (by simp only [List.map_toArray, List.map_cons, List.map_nil]; rfl) ?_; (with_reducible refine (spec_reader_pick.calls k1 g s0_0 t125 8 t126 t127 w0 _ ?side1 ?side2 A35.out).mono ?_); (case side1 => repeat (first | (with_reducible first | exact HI0.out | apply IsS70.alloc | apply IsS70.drewN | apply IsS70.drew | apply IsS70.set_1) | exact HI0.out)); (case side2 => repeat (first | (with_reducible first | exact HB.out | apply below_alloc | apply pw_below_drewN | apply below_drew1 | refine below_set ?_ (IsS70.ge HI0.out)) | exact HB.out)); rintro e w37 ⟨rfl, hi, hb, hk⟩; refine ⟨_, rfl, ?_⟩; replace HO_3 := am_ (Kd.R_mono (Kd.R_keep (IsS70.apart (show IsS70 w0 _ g s0_0 t125 from by repeat (first | (with_reducible first | exact HI0.out | apply IsS70.alloc | apply IsS70.drewN | apply IsS70.drew | apply IsS70.set_1) | exact HI0.out)) (by exact HO_3.out) (by decide)) hk (fun _ h => h.2)) (fun _ h => h.1)); replace HK := am_ (KeepBut.trans (by repeat (first | (with_reducible first | exact HK.out | apply KeepBut.set_ | apply keep_drewN | apply keep_drew | apply keep_alloc) | exact HK.out)) hk (.inl rfl)); replace HB := am_ (hb); replace HI0 := am_ (hi); (try clear hb); (try clear hb2); (try clear hk); (try clear hi)))
    go_loopg [8] k1 (fun kq v8 w' => ∃ (x3_2 : List Bool) (x8_2 : Int), v8 = .int .i64 x8_2 ∧ Aside0 (spec_randomRegion.l2 kq x3_2 x5_1 t124 t126 x8_2 s0_0 t127 = some (r1, r2)) ∧ Aside0 (kq ≤ k1) ∧ Aside0 (Kd.R Kd.bool 4 w' w.heap.size (fun _ => True) v102 x3_2) ∧ Aside0 (IsS70 w0 w' g s0_0 t127) ∧ Aside0 (KeepBut w w' g none) ∧ Aside0 (Below w0.heap.size w0 w'))
    case atStart => exact ⟨(x3_1), (0), (by first | rfl | (simp; done) | (simp [*]; done)), H', ⟨Nat.le_refl _⟩, ⟨by exact HO_3.out⟩, ⟨by repeat (first | (with_reducible first | exact HI0.out | apply IsS70.alloc | apply IsS70.drewN | apply IsS70.drew | apply IsS70.set_1) | exact HI0.out)⟩, ⟨by repeat (first | (with_reducible first | exact HK.out | apply KeepBut.set_ | apply keep_drewN | apply keep_drew | apply keep_alloc) | exact HK.out)⟩, ⟨by repeat (first | (with_reducible first | exact HB.out | apply below_alloc | apply pw_below_drewN | apply below_drew1 | refine below_set ?_ (IsS70.ge HI0.out)) | exact HB.out)⟩⟩
    case round =>
     clear H'
     try clear c1
     try clear c2
     try clear c2b0
     try clear c2b1
     try clear p2
     try clear q2
     try clear hx2
     try clear hf2
     try clear c3
     try clear c4
     try clear c6
     try clear p6
     try clear c8
     try clear c8b0
     try clear c8b1
     try clear c17
     try clear c17b0
     try clear c17b1
     try clear c20
     try clear c20b0
     try clear c24
     try clear c24b0
     try clear c25
     try clear c25b0
     try clear p26
     try clear q26
     try clear hx26
     try clear hf26
     try clear c33
     try clear c33b0
     try clear hx26_0
     try clear p2
     try clear p26
     try clear p6
     try clear q2
     try clear q26
     obtain ⟨x3_2, x8_2, rfl, HA, HK2, HO_3, HI0, HK, HB⟩ := hrel
     cases gk with
     | zero => exact absurd HA.out (by simp [spec_randomRegion.l2])
     | succ k2 =>
      have H := HA.out
      clear HA
      simp only [spec_randomRegion.l2] at H
      by_cases c38 : x8_2 < 12
      rotate_left
      ·
       rw [if_neg c38] at H
       have c38b0 : decide (x8_2 < 12) = false := decide_eq_false c38
       clear c38
       have H' := Aside0.mk H
       clear H
       go_wp2
       go_roundg k2
       case measure => have := HK1.out; have := HK2.out; omega
       case rel => exact ⟨(x3_2), (wrap64 (x5_1 - 1)), (t127), (by first | rfl | (simp; done) | (simp [*]; done)), H', ⟨by have := HK1.out; have := HK2.out; omega⟩, ⟨by exact HO_3.out⟩, ⟨by repeat (first | (with_reducible first | exact HI0.out | apply IsS70.alloc | apply IsS70.drewN | apply IsS70.drew | apply IsS70.set_1) | exact HI0.out)⟩, ⟨by repeat (first | (with_reducible first | exact HK.out | apply KeepBut.set_ | apply keep_drewN | apply keep_drew | apply keep_alloc) | exact HK.out)⟩, ⟨by repeat (first | (with_reducible first | exact HB.out | apply below_alloc | apply pw_below_drewN | apply below_drew1 | refine below_set ?_ (IsS70.ge HI0.out)) | exact HB.out)⟩⟩
      rw [if_pos c38] at H
      have c38b0 : decide (x8_2 < 12) = true := decide_eq_true c38
      clear c38
      obtain ⟨ji39, hji39⟩ : ∃ j_ : Int, (wrap64 ((wrap64 ((wrap64 ((wrap64 (t126 + (wrap64 (Int.tdiv x8_2 4)))) * 16)) + t124)) + (Int.tmod x8_2 4))) = j_ := ⟨_, rfl⟩
      replace H : (if 0 ≤ (ji39) then (if (ji39) < (x3_2.length : Int) then (spec_randomRegion.l2 k2 (x3_2.set ((ji39) : Int).toNat true) x5_1 t124 t126 (wrap64 (x8_2 + 1)) s0_0 t127) else (none)) else (none)) = some (r1, r2) := by first | (rw [hji39] at H; exact H) | (simp only [hji39] at H ⊢; exact H)
      have hji39w : (IntKind.i64.wrap ((wrap64 ((wrap64 ((wrap64 (t126 + (wrap64 (Int.tdiv x8_2 4)))) * 16)) + t124)) + (Int.tmod x8_2 4))) = ji39 := (i64_w _).trans hji39
      by_cases c40 : 0 ≤ (ji39)
      rotate_left
      ·
       rw [if_neg c40] at H
       exact absurd H (by simp)
      rw [if_pos c40] at H
      have c40b0 : decide (0 ≤ (ji39)) = true := decide_eq_true c40
      clear c40
      by_cases c41 : (ji39) < (x3_2.length : Int)
      rotate_left
      ·
       rw [if_neg c41] at H
       exact absurd H (by simp)
      rw [if_pos c41] at H
      have c41b0 : decide ((ji39) < (x3_2.length : Int)) = true := decide_eq_true c41
      clear c41
      obtain ⟨y128, hy128⟩ : ∃ y_ : List Bool, y_ = (x3_2.set ((ji39) : Int).toNat true) := ⟨_, rfl⟩
      replace H : (spec_randomRegion.l2 k2 y128 x5_1 t124 t126 (wrap64 (x8_2 + 1)) s0_0 t127) = some (r1, r2) := by first | (rw [hy128]; with_reducible exact H) | (have H2_ := (Option.bind_some _ _).symm.trans H; rw [hy128]; with_reducible exact H2_) | (have H2_ := (Option.bind_some _ _).symm.trans H; with_reducible exact H2_) | with_reducible exact H | (rw [hy128]; exact H) | exact H
      have Ny128 := Aside0.mk hy128
      clear hy128
      have H' := Aside0.mk H
      clear H
      have p42 : 0 ≤ ((ji39) : Int) := of_decide_eq_true (by first | with_reducible assumption | assumption)
      have q42 : ((ji39) : Int) < ((x3_2.length : Int) : Int) := of_decide_eq_true (by first | with_reducible assumption | assumption)
      obtain ⟨go42, co42, eo42, gb42, gl42, cl42, HG42⟩ := Kd.R_form HO_3.out (by omega)
      (first | cases eo42 | (injection eo42 with ea_ en_ ec_; (first | subst ea_ | (injection ea_ with ea_; subst ea_)); subst ec_; clear en_))
      have GB42 := Aside0.mk gb42
      have GG42 := Aside0.mk HG42
      clear gb42 gl42 HG42
      obtain ⟨hx42_0, hf42_0⟩ := Kd.R_celln false HO_3.out ((ji39) : Int) p42 q42
      replace p42 := eq_true p42
      replace q42 := eq_true q42
      have HP43 := Kd.R_putg HO_3.out ((ji39) : Int) true
      go_wp2_with (first | ((with_reducible refine gate_store (t := 4) (p := 37) rfl ?_); refine store_event (t := 4) (p := 37) (v := ?vo_w44) (w1 := (wr.setCell ⟨go42, ((ji39) : Int).toNat, none⟩ (.bool true))) ?hg ?ho ?hn ?hr ?_; (case ho => rfl); (case hg => rfl); (case hn => rfl); (case hr => first | (go_simp; done) | (go_simp; rfl)); intro w44 hw; have hg : wr.grownBy w44 (some go42) := (by rw [hw]; exact HP43.2); have hp_ : Kd.R Kd.bool 4 w44 w.heap.size (fun _ => True) (.slice (some ⟨go42, 0, none⟩) x3_2.length co42) y128 := (by rw [hw, Ny128.out]; exact HP43.1); clear HP43; replace HI0 := am_ (IsS70.grown (by repeat (first | (with_reducible first | exact HI0.out | apply IsS70.alloc | apply IsS70.drewN | apply IsS70.drew | apply IsS70.set_1) | exact HI0.out)) hg (IsS70.own_ne HI0.out HO_3.out (by decide))); replace HB := am_ ((by rw [hw]; exact below_set (HB.out) (Nat.le_trans HL.out GB42.out) : Below w0.heap.size w0 w44)); replace HK := am_ (KeepBut.trans (by repeat (first | (with_reducible first | exact HK.out | apply KeepBut.set_ | apply keep_drewN | apply keep_drew | apply keep_alloc) | exact HK.out)) (KeepBut.of_grown hg g) (Kd.R_base2 HO_3.out)); replace HO_3 := am_ (hp_); clear hg hw hp_))
      go_roundg k2
      case measure => have := HK1.out; have := HK2.out; omega
      case rel => exact ⟨(y128), (wrap64 (x8_2 + 1)), (by first | rfl | (simp; done) | (simp [*]; done)), H', ⟨by have := HK1.out; have := HK2.out; omega⟩, ⟨by exact HO_3.out⟩, ⟨by repeat (first | (with_reducible first | exact HI0.out | apply IsS70.alloc | apply IsS70.drewN | apply IsS70.drew | apply IsS70.set_1) | exact HI0.out)⟩, ⟨by repeat (first | (with_reducible first | exact HK.out | apply KeepBut.set_ | apply keep_drewN | apply keep_drew | apply keep_alloc) | exact HK.out)⟩, ⟨by repeat (first | (with_reducible first | exact HB.out | apply below_alloc | apply pw_below_drewN | apply below_drew1 | refine below_set ?_ (IsS70.ge HI0.out)) | exact HB.out)⟩⟩
 case rest =>
  clear HC4
  try clear c1
  try clear c2
  try clear c2b0
  try clear c2b1
  try clear p2
  try clear q2
  try clear hx2
  try clear hf2
  try clear c3
  try clear c4
  try clear p4
  try clear q4
  try clear hx4
  try clear hf4
  try clear c6
  try clear p6
  try clear c8
  try clear c8b0
  try clear c8b1
  try clear c17
  try clear c17b0
  try clear c17b1
  try clear c20
  try clear c20b0
  try clear c24
  try clear c24b0
  try clear c25
  try clear c25b0
  try clear p26
  try clear q26
  try clear hx26
  try clear hf26
  try clear c33
  try clear c33b0
  try clear c38
  try clear c38b0
  try clear c40
  try clear c40b0
  try clear c41
  try clear c41b0
  try clear p42
  try clear q42
  try clear hx42
  try clear hf42
  try clear hx26_0
  try clear hx42_0
  try clear p2
  try clear p26
  try clear p42
  try clear p6
  try clear q2
  try clear q26
  try clear q42
  obtain ⟨kq, x3_3, x1001_3, HA, HJ3, HO_3, HI0, HK, HB⟩ := hcut
  cases kq with
  | zero => exact absurd HA.out (by simp [spec_randomRegion.j3])
  | succ kj3 =>
   have H := HA.out
   clear HA
   simp only [spec_randomRegion.j3] at H
   replace H := Option.bind_eq_some_iff.mp H
   obtain ⟨⟨t129, t130⟩, A450, H⟩ := H
   replace H : (if t129 = 0 then ((spec_reader_one.f kj3 s0_0 t130 (([15, 240, 255, 0] : List Int))).bind fun bt134 => (if 0 ≤ bt134.1 then (if bt134.1 < (x3_3.length : Int) then ((spec_runsOf.f kj3 (x3_3.set (bt134.1 : Int).toNat true)).bind fun t137 => (some (t137, bt134.2))) else (none)) else (none))) else ((spec_runsOf.f kj3 x3_3).bind fun t140 => (some (t140, t130)))) = some (r1, r2) := H
   have A45 := Aside0.mk A450
   clear A450
   by_cases c46 : t129 = 0
   rotate_left
   ·
    rw [if_neg c46] at H
    have c46b0 : (t129 == 0) = false := beq_eq_false_iff_ne.mpr c46
    have c46b1 : (t129 != 0) = true := bne_iff_ne.mpr c46
    replace H := Option.bind_eq_some_iff.mp H
    obtain ⟨t140, A600, H⟩ := H
    replace H : (some (t140, t130)) = some (r1, r2) := H
    have A60 := Aside0.mk A600
    clear A600
    simp only [Option.some.injEq, Prod.mk.injEq] at H
    obtain ⟨rfl, rfl⟩ := H
    go_wp2_with (first | ((with_reducible refine gate_callee (f := 46) rfl ?_); refine goesL_ (some 64) rfl rfl Try.func46 (by kernel_rfl) rfl #[.pointer (some ⟨g, 0, none⟩), .int .i64 10] rfl (by simp only [List.map_toArray, List.map_cons, List.map_nil]; rfl) ?_; (with_reducible refine (spec_reader_pick.calls kj3 g s0_0 x1001_3 10 t129 t130 w0 _ ?side1 ?side2 A45.out).mono ?_); (case side1 => repeat (first | (with_reducible first | exact HI0.out | apply IsS70.alloc | apply IsS70.drewN | apply IsS70.drew | apply IsS70.set_1) | exact HI0.out)); (case side2 => repeat (first | (with_reducible first | exact HB.out | apply below_alloc | apply pw_below_drewN | apply below_drew1 | refine below_set ?_ (IsS70.ge HI0.out)) | exact HB.out)); rintro e w61 ⟨rfl, hi, hb, hk⟩; refine ⟨_, rfl, ?_⟩; replace HO_3 := am_ (Kd.R_mono (Kd.R_keep (IsS70.apart (show IsS70 w0 _ g s0_0 x1001_3 from by repeat (first | (with_reducible first | exact HI0.out | apply IsS70.alloc | apply IsS70.drewN | apply IsS70.drew | apply IsS70.set_1) | exact HI0.out)) (by exact HO_3.out) (by decide)) hk (fun _ h => h.2)) (fun _ h => h.1)); replace HK := am_ (KeepBut.trans (by repeat (first | (with_reducible first | exact HK.out | apply KeepBut.set_ | apply keep_drewN | apply keep_drew | apply keep_alloc) | exact HK.out)) hk (.inl rfl)); replace HB := am_ (hb); replace HI0 := am_ (hi); (try clear hb); (try clear hb2); (try clear hk); (try clear hi); obtain ⟨Ao62, co62, eo62⟩ := Kd.R_slice HO_3.out; subst eo62) | ((with_reducible refine gate_callee (f := 61) rfl ?_); refine goesL_ (some 72) rfl rfl Try.func61 (by kernel_rfl) rfl #[.slice Ao62 x3_3.length co62] rfl (by simp only [List.map_toArray, List.map_cons, List.map_nil]; rfl) ?_; (with_reducible refine (spec_runsOf.calls kj3 _ _ x3_3 t140 _ ?side1 ?side2 A60.out).mono ?_); (case side1 => repeat (first | exact (Kd.R_reads' HO_3.out).2.2 | (with_reducible refine Kd.C_alloc ?_ _) | (with_reducible refine Kd.C_drewN ?_ _) | (with_reducible refine Kd.C_drew ?_))); (case side2 => exact (Kd.R_reads' HO_3.out).2.1); rintro e w63 ⟨v141, rfl, ho0, hb⟩; refine ⟨_, rfl, ?_⟩; replace HO_3 := am_ (Kd.R_below (by exact HO_3.out) hb); have HO142 := am_ (Kd.R_lower ho0 (keep_size (w := w) (g := g) (row := none) (by repeat (first | (with_reducible first | exact HK.out | apply KeepBut.set_ | apply keep_drewN | apply keep_drew | apply keep_alloc) | exact HK.out)))); replace HK := am_ (KeepBut.trans (by repeat (first | (with_reducible first | exact HK.out | apply KeepBut.set_ | apply keep_drewN | apply keep_drew | apply keep_alloc) | exact HK.out)) (KeepBut.of_below hb g none) (.inl rfl)); replace HB := am_ (below_step (by repeat (first | (with_reducible first | exact HB.out | apply below_alloc | apply pw_below_drewN | apply below_drew1 | refine below_set ?_ (IsS70.ge HI0.out)) | exact HB.out)) hb); replace HI0 := am_ (IsS70.below (by repeat (first | (with_reducible first | exact HI0.out | apply IsS70.alloc | apply IsS70.drewN | apply IsS70.drew | apply IsS70.set_1) | exact HI0.out)) hb); (try clear hb); (try clear hb2); (try clear hk); (try clear hi); (try clear ho0)))
    go_ret
    exact ⟨_, by first | rfl | (simp [errW_none, errW_some] <;> rfl) | (simp [*, errW_none, errW_some] <;> rfl), by exact HO142.out, by repeat (first | (with_reducible first | exact HI0.out | apply IsS70.alloc | apply IsS70.drewN | apply IsS70.drew | apply IsS70.set_1) | exact HI0.out), by repeat (first | (with_reducible first | exact HB.out | apply below_alloc | apply pw_below_drewN | apply below_drew1 | refine below_set ?_ (IsS70.ge HI0.out)) | exact HB.out), by repeat (first | (with_reducible first | exact HK.out | apply KeepBut.set_ | apply keep_drewN | apply keep_drew | apply keep_alloc) | exact HK.out)⟩
   rw [if_pos c46] at H
   have c46b0 : (t129 == 0) = true := beq_iff_eq.mpr c46
   have c46b1 : (t129 != 0) = false := bne_eq_false_iff_eq.mpr c46
   clear c46
   obtain ⟨y131, hy131⟩ : ∃ y_ : List Int, y_ = (([15, 240, 255, 0] : List Int)) := ⟨_, rfl⟩
   replace H : ((spec_reader_one.f kj3 s0_0 t130 y131).bind fun bt134 => (if 0 ≤ bt134.1 then (if bt134.1 < (x3_3.length : Int) then ((spec_runsOf.f kj3 (x3_3.set (bt134.1 : Int).toNat true)).bind fun t137 => (some (t137, bt134.2))) else (none)) else (none))) = some (r1, r2) := by first | (rw [hy131]; with_reducible exact H) | (have H2_ := (Option.bind_some _ _).symm.trans H; rw [hy131]; with_reducible exact H2_) | (have H2_ := (Option.bind_some _ _).symm.trans H; with_reducible exact H2_) | with_reducible exact H | (rw [hy131]; exact H) | exact H
   have Ny131 := Aside0.mk hy131
   clear hy131
   replace H := Option.bind_eq_some_iff.mp H
   obtain ⟨⟨t134, t135⟩, A470, H⟩ := H
   replace H : (if 0 ≤ t134 then (if t134 < (x3_3.length : Int) then ((spec_runsOf.f kj3 (x3_3.set (t134 : Int).toNat true)).bind fun t137 => (some (t137, t135))) else (none)) else (none)) = some (r1, r2) := H
   have A47 := Aside0.mk A470
   clear A470
   by_cases c48 : 0 ≤ t134
   rotate_left
   ·
    rw [if_neg c48] at H
    exact absurd H (by simp)
   rw [if_pos c48] at H
   have c48b0 : decide (0 ≤ t134) = true := decide_eq_true c48
   clear c48
   by_cases c49 : t134 < (x3_3.length : Int)
   rotate_left
   ·
    rw [if_neg c49] at H
    exact absurd H (by simp)
   rw [if_pos c49] at H
   have c49b0 : decide (t134 < (x3_3.length : Int)) = true := decide_eq_true c49
   clear c49
   obtain ⟨y136, hy136⟩ : ∃ y_ : List Bool, y_ = (x3_3.set (t134 : Int).toNat true) := ⟨_, rfl⟩
   replace H : ((spec_runsOf.f kj3 y136).bind fun t137 => (some (t137, t135))) = some (r1, r2) := by first | (rw [hy136]; with_reducible exact H) | (have H2_ := (Option.bind_some _ _).symm.trans H; rw [hy136]; with_reducible exact H2_) | (have H2_ := (Option.bind_some _ _).symm.trans H; with_reducible exact H2_) | with_reducible exact H | (rw [hy136]; exact H) | exact H
   have Ny136 := Aside0.mk hy136
   clear hy136
   replace H := Option.bind_eq_some_iff.mp H
   obtain ⟨t137, A510, H⟩ := H
   replace H : (some (t137, t135)) = some (r1, r2) := H
   have A51 := Aside0.mk A510
   clear A510
   simp only [Option.some.injEq, Prod.mk.injEq] at H
   obtain ⟨rfl, rfl⟩ := H
   go_wp2_with (first | ((with_reducible refine gate_callee (f := 46) rfl ?_); refine goesL_ (some 64) rfl rfl Try.func46 (by kernel_rfl) rfl #[.pointer (some ⟨g, 0, none⟩), .int .i64 10] rfl (by simp only [List.map_toArray, List.map_cons, List.map_nil]; rfl) ?_; (with_reducible refine (spec_reader_pick.calls kj3 g s0_0 x1001_3 10 t129 t130 w0 _ ?side1 ?side2 A45.out).mono ?_); (case side1 => repeat (first | (with_reducible first | exact HI0.out | apply IsS70.alloc | apply IsS70.drewN | apply IsS70.drew | apply IsS70.set_1) | exact HI0.out)); (case side2 => repeat (first | (with_reducible first | exact HB.out | apply below_alloc | apply pw_below_drewN | apply below_drew1 | refine below_set ?_ (IsS70.ge HI0.out)) | exact HB.out)); rintro e w52 ⟨rfl, hi, hb, hk⟩; refine ⟨_, rfl, ?_⟩; replace HO_3 := am_ (Kd.R_mono (Kd.R_keep (IsS70.apart (show IsS70 w0 _ g s0_0 x1001_3 from by repeat (first | (with_reducible first | exact HI0.out | apply IsS70.alloc | apply IsS70.drewN | apply IsS70.drew | apply IsS70.set_1) | exact HI0.out)) (by exact HO_3.out) (by decide)) hk (fun _ h => h.2)) (fun _ h => h.1)); replace HK := am_ (KeepBut.trans (by repeat (first | (with_reducible first | exact HK.out | apply KeepBut.set_ | apply keep_drewN | apply keep_drew | apply keep_alloc) | exact HK.out)) hk (.inl rfl)); replace HB := am_ (hb); replace HI0 := am_ (hi); (try clear hb); (try clear hb2); (try clear hk); (try clear hi)) | ((with_reducible refine gate_dst (N := 68) rfl ?_); refine Kd.R_lit (Kd.int .i64) _ 3 ?hg (N := 68) ?hd (xs := ([15, 240, 255, 0] : List Int)) (inner := [.int .i64 15, .int .i64 240, .int .i64 255, .int .i64 0]) (ok := fun _ => True) (okp := fun _ => True) ?hr ?hp (fun _ hk => hk) trivial (Below.refl _ _) (Nat.le_refl _) (by simp) ?_; (case hd => rfl); (case hg => rfl); (case hr => first | (go_simp; done) | (go_simp; rfl)); (case hp => exact (Reps.one (show Kd.M (Kd.int .i64) _ _ _ 15 [.int .i64 15] from rfl) (Reps.one (show Kd.M (Kd.int .i64) _ _ _ 240 [.int .i64 240] from rfl) (Reps.one (show Kd.M (Kd.int .i64) _ _ _ 255 [.int .i64 255] from rfl) (Reps.one (show Kd.M (Kd.int .i64) _ _ _ 0 [.int .i64 0] from rfl) (Reps.none _ _)))))); intro v132 w53 ho54 hb hg_ hnew_; clear hg_ hnew_; (first | rw [← Ny131.out] at ho54 | (simp only [Int.reduceToNat] at ho54; rw [← Ny131.out] at ho54)); replace HO_3 := am_ (Kd.R_below (by exact HO_3.out) hb); have HO133 := am_ (Kd.R_lower ho54 (keep_size (w := w) (g := g) (row := none) (by repeat (first | (with_reducible first | exact HK.out | apply KeepBut.set_ | apply keep_drewN | apply keep_drew | apply keep_alloc) | exact HK.out)))); replace HK := am_ (KeepBut.trans (by repeat (first | (with_reducible first | exact HK.out | apply KeepBut.set_ | apply keep_drewN | apply keep_drew | apply keep_alloc) | exact HK.out)) (KeepBut.of_below hb g none) (.inl rfl)); replace HB := am_ (below_step (by repeat (first | (with_reducible first | exact HB.out | apply below_alloc | apply pw_below_drewN | apply below_drew1 | refine below_set ?_ (IsS70.ge HI0.out)) | exact HB.out)) hb); replace HI0 := am_ (IsS70.below (by repeat (first | (with_reducible first | exact HI0.out | apply IsS70.alloc | apply IsS70.drewN | apply IsS70.drew | apply IsS70.set_1) | exact HI0.out)) hb); clear hb ho54; obtain ⟨Ao55, co55, eo55⟩ := Kd.R_slice HO133.out; subst eo55) | ((with_reducible refine gate_callee (f := 48) rfl ?_); refine goesL_ (some 69) rfl rfl Try.func48 (by kernel_rfl) rfl #[.pointer (some ⟨g, 0, none⟩), .slice Ao55 y131.length co55] rfl (by simp only [List.map_toArray, List.map_cons, List.map_nil]; rfl) ?_; (with_reducible refine (spec_reader_one.calls kj3 g s0_0 t130 _ _ y131 t134 t135 w0 _ ?side1 ?side2 ?side3 ?side4 ?side5 A47.out).mono ?_); (case side1 => repeat (first | (with_reducible first | exact HI0.out | apply IsS70.alloc | apply IsS70.drewN | apply IsS70.drew | apply IsS70.set_1) | exact HI0.out)); (case side2 => repeat (first | (with_reducible first | exact HB.out | apply below_alloc | apply pw_below_drewN | apply below_drew1 | refine below_set ?_ (IsS70.ge HI0.out)) | exact HB.out)); (case side3 => repeat (first | exact (Kd.R_reads' HO133.out).2.2 | (with_reducible refine Kd.C_alloc ?_ _) | (with_reducible refine Kd.C_drewN ?_ _) | (with_reducible refine Kd.C_drew ?_))); (case side4 => exact (Kd.R_reads' HO133.out).2.1); (case side5 => exact far_slice (IsS70.own_ne HI0.out HO133.out (by decide))); rintro e w56 ⟨rfl, hi, hb, hk⟩; refine ⟨_, rfl, ?_⟩; replace HO_3 := am_ (Kd.R_mono (Kd.R_keep (IsS70.apart (show IsS70 w0 _ g s0_0 t130 from by repeat (first | (with_reducible first | exact HI0.out | apply IsS70.alloc | apply IsS70.drewN | apply IsS70.drew | apply IsS70.set_1) | exact HI0.out)) (by exact HO_3.out) (by decide)) hk (fun _ h => h.2)) (fun _ h => h.1)); replace HO133 := am_ (Kd.R_mono (Kd.R_keep (IsS70.apart (show IsS70 w0 _ g s0_0 t130 from by repeat (first | (with_reducible first | exact HI0.out | apply IsS70.alloc | apply IsS70.drewN | apply IsS70.drew | apply IsS70.set_1) | exact HI0.out)) (by exact HO133.out) (by decide)) hk (fun _ h => h.2)) (fun _ h => h.1)); replace HK := am_ (KeepBut.trans (by repeat (first | (with_reducible first | exact HK.out | apply KeepBut.set_ | apply keep_drewN | apply keep_drew | apply keep_alloc) | exact HK.out)) hk (.inl rfl)); replace HB := am_ (hb); replace HI0 := am_ (hi); (try clear hb); (try clear hb2); (try clear hk); (try clear hi); have p50 : 0 ≤ (t134 : Int) := of_decide_eq_true (by first | with_reducible assumption | assumption); have q50 : (t134 : Int) < ((x3_3.length : Int) : Int) := of_decide_eq_true (by first | with_reducible assumption | assumption); obtain ⟨go50, co50, eo50, gb50, gl50, cl50, HG50⟩ := Kd.R_form HO_3.out (by omega); (first | cases eo50 | (injection eo50 with ea_ en_ ec_; (first | subst ea_ | (injection ea_ with ea_; subst ea_)); subst ec_; clear en_)); have GB50 := Aside0.mk gb50; have GG50 := Aside0.mk HG50; clear gb50 gl50 HG50; obtain ⟨hx50_0, hf50_0⟩ := Kd.R_celln false HO_3.out (t134 : Int) p50 q50; replace p50 := eq_true p50; replace q50 := eq_true q50; obtain ⟨hy57_, hz57_⟩ := Kd.R_celln false HO_3.out (t134 : Int) (of_decide_eq_true (by first | with_reducible assumption | assumption)) (of_decide_eq_true (by first | with_reducible assumption | assumption)); have HP57 := Kd.R_putg HO_3.out (t134 : Int) true) | ((with_reducible refine gate_store (t := 4) (p := 70) rfl ?_); refine store_event (t := 4) (p := 70) (v := ?vo_w58) (w1 := (w56.setCell ⟨go50, (t134 : Int).toNat, none⟩ (.bool true))) ?hg ?ho ?hn ?hr ?_; (case ho => rfl); (case hg => rfl); (case hn => rfl); (case hr => first | (go_simp; done) | (go_simp; rfl)); intro w58 hw; have hg : w56.grownBy w58 (some go50) := (by rw [hw]; exact HP57.2); have hp_ : Kd.R Kd.bool 4 w58 w.heap.size (fun _ => True) (.slice (some ⟨go50, 0, none⟩) x3_3.length co50) y136 := (by rw [hw, Ny136.out]; exact HP57.1); clear HP57; replace HI0 := am_ (IsS70.grown (by repeat (first | (with_reducible first | exact HI0.out | apply IsS70.alloc | apply IsS70.drewN | apply IsS70.drew | apply IsS70.set_1) | exact HI0.out)) hg (IsS70.own_ne HI0.out HO_3.out (by decide))); replace HO133 := am_ (Kd.R_over' (v := (.slice (some ⟨go50, 0, none⟩) x3_3.length co50)) (by exact HO133.out) (Kd.R_typed HO_3.out) (by decide) hg); replace HB := am_ ((by rw [hw]; exact below_set (HB.out) (Nat.le_trans HL.out GB50.out) : Below w0.heap.size w0 w58)); replace HK := am_ (KeepBut.trans (by repeat (first | (with_reducible first | exact HK.out | apply KeepBut.set_ | apply keep_drewN | apply keep_drew | apply keep_alloc) | exact HK.out)) (KeepBut.of_grown hg g) (Kd.R_base2 HO_3.out)); replace HO_3 := am_ (hp_); clear hg hw hp_) | ((with_reducible refine gate_callee (f := 61) rfl ?_); refine goesL_ (some 72) rfl rfl Try.func61 (by kernel_rfl) rfl #[.slice (some ⟨go50, 0, none⟩) y136.length co50] rfl (by (try simp only [List.map_toArray, List.map_cons, List.map_nil]); first | done | (rw [show y136.length = x3_3.length from (Kd.R_reads' HO_3.out).1.symm] <;> rfl) | rfl | (simp only [List.length_drop, List.length_take]; rfl)) ?_; (with_reducible refine (spec_runsOf.calls kj3 _ _ y136 t137 _ ?side1 ?side2 A51.out).mono ?_); (case side1 => repeat (first | exact (Kd.R_reads' HO_3.out).2.2 | (with_reducible refine Kd.C_alloc ?_ _) | (with_reducible refine Kd.C_drewN ?_ _) | (with_reducible refine Kd.C_drew ?_))); (case side2 => rw [show y136.length = x3_3.length from (Kd.R_reads' HO_3.out).1.symm]; exact (Kd.R_reads' HO_3.out).2.1); rintro e w59 ⟨v138, rfl, ho0, hb⟩; refine ⟨_, rfl, ?_⟩; replace HO_3 := am_ (Kd.R_below (by exact HO_3.out) hb); replace HO133 := am_ (Kd.R_below (by exact HO133.out) hb); have HO139 := am_ (Kd.R_lower ho0 (keep_size (w := w) (g := g) (row := none) (by repeat (first | (with_reducible first | exact HK.out | apply KeepBut.set_ | apply keep_drewN | apply keep_drew | apply keep_alloc) | exact HK.out)))); replace HK := am_ (KeepBut.trans (by repeat (first | (with_reducible first | exact HK.out | apply KeepBut.set_ | apply keep_drewN | apply keep_drew | apply keep_alloc) | exact HK.out)) (KeepBut.of_below hb g none) (.inl rfl)); replace HB := am_ (below_step (by repeat (first | (with_reducible first | exact HB.out | apply below_alloc | apply pw_below_drewN | apply below_drew1 | refine below_set ?_ (IsS70.ge HI0.out)) | exact HB.out)) hb); replace HI0 := am_ (IsS70.below (by repeat (first | (with_reducible first | exact HI0.out | apply IsS70.alloc | apply IsS70.drewN | apply IsS70.drew | apply IsS70.set_1) | exact HI0.out)) hb); (try clear hb); (try clear hb2); (try clear hk); (try clear hi); (try clear ho0)))
   go_ret
   exact ⟨_, by first | rfl | (simp [errW_none, errW_some] <;> rfl) | (simp [*, errW_none, errW_some] <;> rfl), by exact HO139.out, by repeat (first | (with_reducible first | exact HI0.out | apply IsS70.alloc | apply IsS70.drewN | apply IsS70.drew | apply IsS70.set_1) | exact HI0.out), by repeat (first | (with_reducible first | exact HB.out | apply below_alloc | apply pw_below_drewN | apply below_drew1 | refine below_set ?_ (IsS70.ge HI0.out)) | exact HB.out), by repeat (first | (with_reducible first | exact HK.out | apply KeepBut.set_ | apply keep_drewN | apply keep_drew | apply keep_alloc) | exact HK.out)⟩

/-! ### spec_anyRegion: function 21 -/
def spec_anyRegion.j0 : Nat → List (S59) → Bool → List Int → Int → Option ((List (S59)) × Int)
 | 0, _, _, _, _ => none
 | k + 1, x3, x13, x1000, x1001 => if x13 = true then ((spec_reader_pick.f k x1000 x1001 (x3.length : Int)).bind fun bt107 => ((spec_reader_one.f k x1000 bt107.2 (([(-1), 0, 15, 16] : List Int))).bind fun bt112 => ((spec_reader_one.f k x1000 bt112.2 (([(-1), 0, 15, 16] : List Int))).bind fun bt117 => ((spec_reader_one.f k x1000 bt117.2 (([0, 1, 16, 17] : List Int))).bind fun bt122 => (if 0 ≤ bt107.1 then (if bt107.1 < (x3.length : Int) then (some ((x3.set (bt107.1 : Int).toNat (⟨bt112.1, bt117.1, bt122.1⟩ : S59)), bt122.2)) else (none)) else (none)))))) else (some (x3, x1001))
def spec_anyRegion.f (k : Nat) (s0_0 : List Int) (s0_1 : Int) : Option ((List (S59)) × Int) := (spec_randomRegion.f k s0_0 s0_1).bind fun bt101 => (if (bt101.1.length : Int) > 0 then ((spec_reader_pick.f k s0_0 bt101.2 20).bind fun bt105 => (spec_anyRegion.j0 k bt101.1 (bt105.1 == 0) s0_0 bt105.2)) else (spec_anyRegion.j0 k bt101.1 false s0_0 bt101.2))
theorem spec_anyRegion.mono_l : ∀ k, (∀ y0 y1 y2 y3, LeO (spec_anyRegion.j0 k y0 y1 y2 y3) (spec_anyRegion.j0 (k + 1) y0 y1 y2 y3))
 | 0 => fun _ _ _ _ r h => by simp [spec_anyRegion.j0] at h
 | k + 1 => by
  have ih0 := spec_anyRegion.mono_l k
  intro y0 y1 y2 y3
  unfold spec_anyRegion.j0
  repeat' first
  | (with_reducible exact ih0 _ _ _ _)
  | (with_reducible exact spec_randomRegion.mono _ _ _)
  | (with_reducible exact spec_reader_one.mono _ _ _ _)
  | (with_reducible exact spec_reader_pick.mono _ _ _ _)
  | (with_reducible exact LeO.refl _)
  | (with_reducible exact LeO.none _)
  | (with_reducible refine LeO.ite ?_ ?_)
  | (with_reducible refine LeO.bind ?_ (fun _ => ?_))
  | exact ih0 _ _ _ _
  | exact spec_randomRegion.mono _ _ _
  | exact spec_reader_one.mono _ _ _ _
  | exact spec_reader_pick.mono _ _ _ _
  | exact LeO.none _
  | refine LeO.ite ?_ ?_
  | refine LeO.bind ?_ (fun _ => ?_)
theorem spec_anyRegion.mono : ∀ a0 a1 k, LeO (spec_anyRegion.f k a0 a1) (spec_anyRegion.f (k + 1) a0 a1) := by
 intro a0 a1 k
 have ih0 := spec_anyRegion.mono_l k
 unfold spec_anyRegion.f
 repeat' first
   | (with_reducible exact ih0 _ _ _ _)
   | (with_reducible exact spec_randomRegion.mono _ _ _)
   | (with_reducible exact spec_reader_one.mono _ _ _ _)
   | (with_reducible exact spec_reader_pick.mono _ _ _ _)
   | (with_reducible exact LeO.refl _)
   | (with_reducible exact LeO.none _)
   | (with_reducible refine LeO.ite ?_ ?_)
   | (with_reducible refine LeO.bind ?_ (fun _ => ?_))
   | exact ih0 _ _ _ _
   | exact spec_randomRegion.mono _ _ _
   | exact spec_reader_one.mono _ _ _ _
   | exact spec_reader_pick.mono _ _ _ _
   | exact LeO.none _
   | refine LeO.ite ?_ ?_
   | refine LeO.bind ?_ (fun _ => ?_)
set_option maxHeartbeats 8000000 in
set_option maxRecDepth 100000 in
theorem spec_anyRegion.calls (k : Nat) (g : Nat) (s0_0 : List Int) (s0_1 : Int) (r1 : List (S59)) (r2 : Int) (w0 w : World) (hI : IsS70 w0 w g s0_0 s0_1) (hB : Below w0.heap.size w0 w) (h : spec_anyRegion.f k s0_0 s0_1 = some (r1, r2)) :
  Calls Try.prog 21 #[.pointer (some ⟨g, 0, none⟩)] w fun e w' => ∃ v0_ : Value, e = .returned (v0_) ∧ Kd.R k59 59 w' w.heap.size (fun _ => True) v0_ r1 ∧ IsS70 w0 w' g s0_0 r2 ∧ Below w0.heap.size w0 w' ∧ KeepBut w w' g none := by
 have hu59 := Try.underlying59
 have HI0 := Aside0.mk hI
 have HK := Aside0.mk (KeepBut.refl w g none)
 have HL := Aside0.mk hB.size
 clear hI
 have HW0 := Aside0.mk hB.size
 have HB := Aside0.mk hB
 clear hB
 have H : ((spec_randomRegion.f k s0_0 s0_1).bind fun bt101 => (if (bt101.1.length : Int) > 0 then ((spec_reader_pick.f k s0_0 bt101.2 20).bind fun bt105 => (spec_anyRegion.j0 k bt101.1 (bt105.1 == 0) s0_0 bt105.2)) else (spec_anyRegion.j0 k bt101.1 false s0_0 bt101.2))) = some (r1, r2) := h
 clear h
 replace H := Option.bind_eq_some_iff.mp H
 obtain ⟨⟨t101, t104⟩, A20, H⟩ := H
 replace H : (if (t101.length : Int) > 0 then ((spec_reader_pick.f k s0_0 t104 20).bind fun bt105 => (spec_anyRegion.j0 k t101 (bt105.1 == 0) s0_0 bt105.2)) else (spec_anyRegion.j0 k t101 false s0_0 t104)) = some (r1, r2) := H
 have A2 := Aside0.mk A20
 clear A20
 have HC3 := Aside0.mk H
 clear H
 go_enter Try.func21, Try.ntmps21
 go_upto_region 2 with (first | ((with_reducible refine gate_callee (f := 47) rfl ?_); refine goesL_ (some 5) rfl rfl Try.func47 (by kernel_rfl) rfl #[.pointer (some ⟨g, 0, none⟩)] rfl (by simp only [List.map_toArray, List.map_cons, List.map_nil]; rfl) ?_; (with_reducible refine (spec_randomRegion.calls k g s0_0 s0_1 t101 t104 w0 _ ?side1 ?side2 A2.out).mono ?_); (case side1 => repeat (first | (with_reducible first | exact HI0.out | apply IsS70.alloc | apply IsS70.drewN | apply IsS70.drew | apply IsS70.set_1) | exact HI0.out)); (case side2 => repeat (first | (with_reducible first | exact HB.out | apply below_alloc | apply pw_below_drewN | apply below_drew1 | refine below_set ?_ (IsS70.ge HI0.out)) | exact HB.out)); rintro e w4 ⟨v102, rfl, ho0, hi, hb, hk⟩; refine ⟨_, rfl, ?_⟩; have HO103 := am_ (Kd.R_lower ho0 (keep_size (w := w) (g := g) (row := none) (by repeat (first | (with_reducible first | exact HK.out | apply KeepBut.set_ | apply keep_drewN | apply keep_drew | apply keep_alloc) | exact HK.out)))); replace HK := am_ (KeepBut.trans (by repeat (first | (with_reducible first | exact HK.out | apply KeepBut.set_ | apply keep_drewN | apply keep_drew | apply keep_alloc) | exact HK.out)) hk (.inl rfl)); replace HB := am_ (hb); replace HI0 := am_ (hi); (try clear hb); (try clear hb2); (try clear hk); (try clear hi); (try clear ho0)))
 (try simp only [Act.put, List.setIfInBounds_toArray, List.set_cons_zero, List.set_cons_succ])
 go_cut [13] (fun v13 wc => ∃ (kq : Nat) (x13_2 : Bool) (x1001_2 : Int), v13 = .bool x13_2 ∧ Aside0 (spec_anyRegion.j0 kq t101 x13_2 s0_0 x1001_2 = some (r1, r2)) ∧ Aside0 (kq ≤ k) ∧ Aside0 (Kd.R k59 59 wc w.heap.size (fun _ => True) v102 t101) ∧ Aside0 (IsS70 w0 wc g s0_0 x1001_2) ∧ Aside0 (KeepBut w wc g none) ∧ Aside0 (Below w0.heap.size w0 wc))
 case first =>
  have H := HC3.out
  clear HC3
  by_cases c5 : (t101.length : Int) > 0
  ·
   rw [if_pos c5] at H
   have c5b0 : decide (0 < (t101.length : Int)) = true := decide_eq_true c5
   have c5b1 : decide (0 < t101.length) = true := decide_eq_true (by omega)
   clear c5
   (first | rw [c5b0] | (simp only [i64_w, i32_w]; rw [c5b0]) | skip)
   replace H := Option.bind_eq_some_iff.mp H
   obtain ⟨⟨t105, t106⟩, A60, H⟩ := H
   replace H : (spec_anyRegion.j0 k t101 (t105 == 0) s0_0 t106) = some (r1, r2) := H
   have A6 := Aside0.mk A60
   clear A60
   have H' := Aside0.mk H
   clear H
   obtain ⟨Ao7, co7, eo7⟩ := Kd.R_slice HO103.out
   subst eo7
   go_wp2_with (first | (go_at_call 46; (with_reducible refine (spec_reader_pick.calls k g s0_0 t104 20 t105 t106 w0 _ ?side1 ?side2 A6.out).mono ?_); (case side1 => repeat (first | (with_reducible first | exact HI0.out | apply IsS70.alloc | apply IsS70.drewN | apply IsS70.drew | apply IsS70.set_1) | exact HI0.out)); (case side2 => repeat (first | (with_reducible first | exact HB.out | apply below_alloc | apply pw_below_drewN | apply below_drew1 | refine below_set ?_ (IsS70.ge HI0.out)) | exact HB.out)); rintro e w8 ⟨rfl, hi, hb, hk⟩; replace HO103 := am_ (Kd.R_mono (Kd.R_keep (IsS70.apart (show IsS70 w0 _ g s0_0 t104 from by repeat (first | (with_reducible first | exact HI0.out | apply IsS70.alloc | apply IsS70.drewN | apply IsS70.drew | apply IsS70.set_1) | exact HI0.out)) (by exact HO103.out) (by decide)) hk (fun _ h => h.2)) (fun _ h => h.1)); replace HK := am_ (KeepBut.trans (by repeat (first | (with_reducible first | exact HK.out | apply KeepBut.set_ | apply keep_drewN | apply keep_drew | apply keep_alloc) | exact HK.out)) hk (.inl rfl)); replace HB := am_ (hb); replace HI0 := am_ (hi); (try clear hb); (try clear hb2); (try clear hk); (try clear hi)))
   go_meet
   case rel => exact ⟨_, ((t105 == 0)), (t106), (by first | rfl | (simp; done) | (simp [*]; done)), H', ⟨by first | omega | exact Nat.le_refl _⟩, ⟨by exact HO103.out⟩, ⟨by repeat (first | (with_reducible first | exact HI0.out | apply IsS70.alloc | apply IsS70.drewN | apply IsS70.drew | apply IsS70.set_1) | exact HI0.out)⟩, ⟨by repeat (first | (with_reducible first | exact HK.out | apply KeepBut.set_ | apply keep_drewN | apply keep_drew | apply keep_alloc) | exact HK.out)⟩, ⟨by repeat (first | (with_reducible first | exact HB.out | apply below_alloc | apply pw_below_drewN | apply below_drew1 | refine below_set ?_ (IsS70.ge HI0.out)) | exact HB.out)⟩⟩
  rw [if_neg c5] at H
  have c5b0 : decide (0 < (t101.length : Int)) = false := decide_eq_false c5
  have c5b1 : decide (0 < t101.length) = false := decide_eq_false (by omega)
  clear c5
  (first | rw [c5b0] | (simp only [i64_w, i32_w]; rw [c5b0]) | skip)
  have H' := Aside0.mk H
  clear H
  obtain ⟨Ao9, co9, eo9⟩ := Kd.R_slice HO103.out
  subst eo9
  go_wp2
  go_meet
  case rel => exact ⟨_, (false), (t104), (by first | rfl | (simp; done) | (simp [*]; done)), H', ⟨by first | omega | exact Nat.le_refl _⟩, ⟨by exact HO103.out⟩, ⟨by repeat (first | (with_reducible first | exact HI0.out | apply IsS70.alloc | apply IsS70.drewN | apply IsS70.drew | apply IsS70.set_1) | exact HI0.out)⟩, ⟨by repeat (first | (with_reducible first | exact HK.out | apply KeepBut.set_ | apply keep_drewN | apply keep_drew | apply keep_alloc) | exact HK.out)⟩, ⟨by repeat (first | (with_reducible first | exact HB.out | apply below_alloc | apply pw_below_drewN | apply below_drew1 | refine below_set ?_ (IsS70.ge HI0.out)) | exact HB.out)⟩⟩
 case rest =>
  clear HC3
  try clear c2
  try clear p2
  try clear c4
  try clear c5
  try clear c5b0
  try clear c5b1
  obtain ⟨kq, x13_2, x1001_2, rfl, HA, HJ2, HO_3, HI0, HK, HB⟩ := hcut
  cases kq with
  | zero => exact absurd HA.out (by simp [spec_anyRegion.j0])
  | succ kj2 =>
   have H := HA.out
   clear HA
   simp only [spec_anyRegion.j0] at H
   by_cases c10 : x13_2 = true
   rotate_left
   ·
    replace c10 := Bool.eq_false_iff.mpr c10
    subst c10
    have H1 : (some (t101, x1001_2)) = some (r1, r2) := by rw [if_neg (show ¬ (false = true) by decide)] at H; exact H
    clear H
    have H := H1
    clear H1
    simp only [Option.some.injEq, Prod.mk.injEq] at H
    obtain ⟨rfl, rfl⟩ := H
    go_wp2
    go_ret
    exact ⟨_, by first | rfl | (simp [errW_none, errW_some] <;> rfl) | (simp [*, errW_none, errW_some] <;> rfl), by exact HO_3.out, by repeat (first | (with_reducible first | exact HI0.out | apply IsS70.alloc | apply IsS70.drewN | apply IsS70.drew | apply IsS70.set_1) | exact HI0.out), by repeat (first | (with_reducible first | exact HB.out | apply below_alloc | apply pw_below_drewN | apply below_drew1 | refine below_set ?_ (IsS70.ge HI0.out)) | exact HB.out), by repeat (first | (with_reducible first | exact HK.out | apply KeepBut.set_ | apply keep_drewN | apply keep_drew | apply keep_alloc) | exact HK.out)⟩
   subst c10
   have H1 : ((spec_reader_pick.f kj2 s0_0 x1001_2 (t101.length : Int)).bind fun bt107 => ((spec_reader_one.f kj2 s0_0 bt107.2 (([(-1), 0, 15, 16] : List Int))).bind fun bt112 => ((spec_reader_one.f kj2 s0_0 bt112.2 (([(-1), 0, 15, 16] : List Int))).bind fun bt117 => ((spec_reader_one.f kj2 s0_0 bt117.2 (([0, 1, 16, 17] : List Int))).bind fun bt122 => (if 0 ≤ bt107.1 then (if bt107.1 < (t101.length : Int) then (some ((t101.set (bt107.1 : Int).toNat (⟨bt112.1, bt117.1, bt122.1⟩ : S59)), bt122.2)) else (none)) else (none)))))) = some (r1, r2) := by rw [if_pos rfl] at H; exact H
   clear H
   have H := H1
   clear H1
   replace H := Option.bind_eq_some_iff.mp H
   obtain ⟨⟨t107, t108⟩, A110, H⟩ := H
   replace H : ((spec_reader_one.f kj2 s0_0 t108 (([(-1), 0, 15, 16] : List Int))).bind fun bt112 => ((spec_reader_one.f kj2 s0_0 bt112.2 (([(-1), 0, 15, 16] : List Int))).bind fun bt117 => ((spec_reader_one.f kj2 s0_0 bt117.2 (([0, 1, 16, 17] : List Int))).bind fun bt122 => (if 0 ≤ t107 then (if t107 < (t101.length : Int) then (some ((t101.set (t107 : Int).toNat (⟨bt112.1, bt117.1, bt122.1⟩ : S59)), bt122.2)) else (none)) else (none))))) = some (r1, r2) := H
   have A11 := Aside0.mk A110
   clear A110
   obtain ⟨y109, hy109⟩ : ∃ y_ : List Int, y_ = (([(-1), 0, 15, 16] : List Int)) := ⟨_, rfl⟩
   replace H : ((spec_reader_one.f kj2 s0_0 t108 y109).bind fun bt112 => ((spec_reader_one.f kj2 s0_0 bt112.2 (([(-1), 0, 15, 16] : List Int))).bind fun bt117 => ((spec_reader_one.f kj2 s0_0 bt117.2 (([0, 1, 16, 17] : List Int))).bind fun bt122 => (if 0 ≤ t107 then (if t107 < (t101.length : Int) then (some ((t101.set (t107 : Int).toNat (⟨bt112.1, bt117.1, bt122.1⟩ : S59)), bt122.2)) else (none)) else (none))))) = some (r1, r2) := by first | (rw [hy109]; with_reducible exact H) | (have H2_ := (Option.bind_some _ _).symm.trans H; rw [hy109]; with_reducible exact H2_) | (have H2_ := (Option.bind_some _ _).symm.trans H; with_reducible exact H2_) | with_reducible exact H | (rw [hy109]; exact H) | exact H
   have Ny109 := Aside0.mk hy109
   clear hy109
   replace H := Option.bind_eq_some_iff.mp H
   obtain ⟨⟨t112, t113⟩, A120, H⟩ := H
   replace H : ((spec_reader_one.f kj2 s0_0 t113 (([(-1), 0, 15, 16] : List Int))).bind fun bt117 => ((spec_reader_one.f kj2 s0_0 bt117.2 (([0, 1, 16, 17] : List Int))).bind fun bt122 => (if 0 ≤ t107 then (if t107 < (t101.length : Int) then (some ((t101.set (t107 : Int).toNat (⟨t112, bt117.1, bt122.1⟩ : S59)), bt122.2)) else (none)) else (none)))) = some (r1, r2) := H
   have A12 := Aside0.mk A120
   clear A120
   obtain ⟨y114, hy114⟩ : ∃ y_ : List Int, y_ = (([(-1), 0, 15, 16] : List Int)) := ⟨_, rfl⟩
   replace H : ((spec_reader_one.f kj2 s0_0 t113 y114).bind fun bt117 => ((spec_reader_one.f kj2 s0_0 bt117.2 (([0, 1, 16, 17] : List Int))).bind fun bt122 => (if 0 ≤ t107 then (if t107 < (t101.length : Int) then (some ((t101.set (t107 : Int).toNat (⟨t112, bt117.1, bt122.1⟩ : S59)), bt122.2)) else (none)) else (none)))) = some (r1, r2) := by first | (rw [hy114]; with_reducible exact H) | (have H2_ := (Option.bind_some _ _).symm.trans H; rw [hy114]; with_reducible exact H2_) | (have H2_ := (Option.bind_some _ _).symm.trans H; with_reducible exact H2_) | with_reducible exact H | (rw [hy114]; exact H) | exact H
   have Ny114 := Aside0.mk hy114
   clear hy114
   replace H := Option.bind_eq_some_iff.mp H
   obtain ⟨⟨t117, t118⟩, A130, H⟩ := H
   replace H : ((spec_reader_one.f kj2 s0_0 t118 (([0, 1, 16, 17] : List Int))).bind fun bt122 => (if 0 ≤ t107 then (if t107 < (t101.length : Int) then (some ((t101.set (t107 : Int).toNat (⟨t112, t117, bt122.1⟩ : S59)), bt122.2)) else (none)) else (none))) = some (r1, r2) := H
   have A13 := Aside0.mk A130
   clear A130
   obtain ⟨y119, hy119⟩ : ∃ y_ : List Int, y_ = (([0, 1, 16, 17] : List Int)) := ⟨_, rfl⟩
   replace H : ((spec_reader_one.f kj2 s0_0 t118 y119).bind fun bt122 => (if 0 ≤ t107 then (if t107 < (t101.length : Int) then (some ((t101.set (t107 : Int).toNat (⟨t112, t117, bt122.1⟩ : S59)), bt122.2)) else (none)) else (none))) = some (r1, r2) := by first | (rw [hy119]; with_reducible exact H) | (have H2_ := (Option.bind_some _ _).symm.trans H; rw [hy119]; with_reducible exact H2_) | (have H2_ := (Option.bind_some _ _).symm.trans H; with_reducible exact H2_) | with_reducible exact H | (rw [hy119]; exact H) | exact H
   have Ny119 := Aside0.mk hy119
   clear hy119
   replace H := Option.bind_eq_some_iff.mp H
   obtain ⟨⟨t122, t123⟩, A140, H⟩ := H
   replace H : (if 0 ≤ t107 then (if t107 < (t101.length : Int) then (some ((t101.set (t107 : Int).toNat (⟨t112, t117, t122⟩ : S59)), t123)) else (none)) else (none)) = some (r1, r2) := H
   have A14 := Aside0.mk A140
   clear A140
   by_cases c15 : 0 ≤ t107
   rotate_left
   ·
    rw [if_neg c15] at H
    exact absurd H (by simp)
   rw [if_pos c15] at H
   have c15b0 : decide (0 ≤ t107) = true := decide_eq_true c15
   clear c15
   by_cases c16 : t107 < (t101.length : Int)
   rotate_left
   ·
    rw [if_neg c16] at H
    exact absurd H (by simp)
   rw [if_pos c16] at H
   have c16b0 : decide (t107 < (t101.length : Int)) = true := decide_eq_true c16
   clear c16
   obtain ⟨y124, hy124⟩ : ∃ y_ : List (S59), y_ = (t101.set (t107 : Int).toNat (⟨t112, t117, t122⟩ : S59)) := ⟨_, rfl⟩
   replace H : (some (y124, t123)) = some (r1, r2) := by first | (rw [hy124]; with_reducible exact H) | (have H2_ := (Option.bind_some _ _).symm.trans H; rw [hy124]; with_reducible exact H2_) | (have H2_ := (Option.bind_some _ _).symm.trans H; with_reducible exact H2_) | with_reducible exact H | (rw [hy124]; exact H) | exact H
   have Ny124 := Aside0.mk hy124
   clear hy124
   simp only [Option.some.injEq, Prod.mk.injEq] at H
   obtain ⟨rfl, rfl⟩ := H
   obtain ⟨Ao18, co18, eo18⟩ := Kd.R_slice HO_3.out
   subst eo18
   go_wp2_with (first | ((with_reducible refine gate_callee (f := 46) rfl ?_); refine goesL_ (some 18) rfl rfl Try.func46 (by kernel_rfl) rfl #[.pointer (some ⟨g, 0, none⟩), .int .i64 (t101.length : Int)] rfl (by simp only [List.map_toArray, List.map_cons, List.map_nil]; rfl) ?_; (with_reducible refine (spec_reader_pick.calls kj2 g s0_0 x1001_2 (t101.length : Int) t107 t108 w0 _ ?side1 ?side2 A11.out).mono ?_); (case side1 => repeat (first | (with_reducible first | exact HI0.out | apply IsS70.alloc | apply IsS70.drewN | apply IsS70.drew | apply IsS70.set_1) | exact HI0.out)); (case side2 => repeat (first | (with_reducible first | exact HB.out | apply below_alloc | apply pw_below_drewN | apply below_drew1 | refine below_set ?_ (IsS70.ge HI0.out)) | exact HB.out)); rintro e w19 ⟨rfl, hi, hb, hk⟩; refine ⟨_, rfl, ?_⟩; replace HO_3 := am_ (Kd.R_mono (Kd.R_keep (IsS70.apart (show IsS70 w0 _ g s0_0 x1001_2 from by repeat (first | (with_reducible first | exact HI0.out | apply IsS70.alloc | apply IsS70.drewN | apply IsS70.drew | apply IsS70.set_1) | exact HI0.out)) (by exact HO_3.out) (by decide)) hk (fun _ h => h.2)) (fun _ h => h.1)); replace HK := am_ (KeepBut.trans (by repeat (first | (with_reducible first | exact HK.out | apply KeepBut.set_ | apply keep_drewN | apply keep_drew | apply keep_alloc) | exact HK.out)) hk (.inl rfl)); replace HB := am_ (hb); replace HI0 := am_ (hi); (try clear hb); (try clear hb2); (try clear hk); (try clear hi)) | ((with_reducible refine gate_dst (N := 20) rfl ?_); refine Kd.R_lit (Kd.int .i64) _ 3 ?hg (N := 20) ?hd (xs := ([(-1), 0, 15, 16] : List Int)) (inner := [.int .i64 (-1), .int .i64 0, .int .i64 15, .int .i64 16]) (ok := fun _ => True) (okp := fun _ => True) ?hr ?hp (fun _ hk => hk) trivial (Below.refl _ _) (Nat.le_refl _) (by simp) ?_; (case hd => rfl); (case hg => rfl); (case hr => first | (go_simp; done) | (go_simp; rfl)); (case hp => exact (Reps.one (show Kd.M (Kd.int .i64) _ _ _ (-1) [.int .i64 (-1)] from rfl) (Reps.one (show Kd.M (Kd.int .i64) _ _ _ 0 [.int .i64 0] from rfl) (Reps.one (show Kd.M (Kd.int .i64) _ _ _ 15 [.int .i64 15] from rfl) (Reps.one (show Kd.M (Kd.int .i64) _ _ _ 16 [.int .i64 16] from rfl) (Reps.none _ _)))))); intro v110 w20 ho21 hb hg_ hnew_; clear hg_ hnew_; (first | rw [← Ny109.out] at ho21 | (simp only [Int.reduceToNat] at ho21; rw [← Ny109.out] at ho21)); replace HO_3 := am_ (Kd.R_below (by exact HO_3.out) hb); have HO111 := am_ (Kd.R_lower ho21 (keep_size (w := w) (g := g) (row := none) (by repeat (first | (with_reducible first | exact HK.out | apply KeepBut.set_ | apply keep_drewN | apply keep_drew | apply keep_alloc) | exact HK.out)))); replace HK := am_ (KeepBut.trans (by repeat (first | (with_reducible first | exact HK.out | apply KeepBut.set_ | apply keep_drewN | apply keep_drew | apply keep_alloc) | exact HK.out)) (KeepBut.of_below hb g none) (.inl rfl)); replace HB := am_ (below_step (by repeat (first | (with_reducible first | exact HB.out | apply below_alloc | apply pw_below_drewN | apply below_drew1 | refine below_set ?_ (IsS70.ge HI0.out)) | exact HB.out)) hb); replace HI0 := am_ (IsS70.below (by repeat (first | (with_reducible first | exact HI0.out | apply IsS70.alloc | apply IsS70.drewN | apply IsS70.drew | apply IsS70.set_1) | exact HI0.out)) hb); clear hb ho21; obtain ⟨Ao22, co22, eo22⟩ := Kd.R_slice HO111.out; subst eo22) | ((with_reducible refine gate_callee (f := 48) rfl ?_); refine goesL_ (some 21) rfl rfl Try.func48 (by kernel_rfl) rfl #[.pointer (some ⟨g, 0, none⟩), .slice Ao22 y109.length co22] rfl (by simp only [List.map_toArray, List.map_cons, List.map_nil]; rfl) ?_; (with_reducible refine (spec_reader_one.calls kj2 g s0_0 t108 _ _ y109 t112 t113 w0 _ ?side1 ?side2 ?side3 ?side4 ?side5 A12.out).mono ?_); (case side1 => repeat (first | (with_reducible first | exact HI0.out | apply IsS70.alloc | apply IsS70.drewN | apply IsS70.drew | apply IsS70.set_1) | exact HI0.out)); (case side2 => repeat (first | (with_reducible first | exact HB.out | apply below_alloc | apply pw_below_drewN | apply below_drew1 | refine below_set ?_ (IsS70.ge HI0.out)) | exact HB.out)); (case side3 => repeat (first | exact (Kd.R_reads' HO111.out).2.2 | (with_reducible refine Kd.C_alloc ?_ _) | (with_reducible refine Kd.C_drewN ?_ _) | (with_reducible refine Kd.C_drew ?_))); (case side4 => exact (Kd.R_reads' HO111.out).2.1); (case side5 => exact far_slice (IsS70.own_ne HI0.out HO111.out (by decide))); rintro e w23 ⟨rfl, hi, hb, hk⟩; refine ⟨_, rfl, ?_⟩; replace HO_3 := am_ (Kd.R_mono (Kd.R_keep (IsS70.apart (show IsS70 w0 _ g s0_0 t108 from by repeat (first | (with_reducible first | exact HI0.out | apply IsS70.alloc | apply IsS70.drewN | apply IsS70.drew | apply IsS70.set_1) | exact HI0.out)) (by exact HO_3.out) (by decide)) hk (fun _ h => h.2)) (fun _ h => h.1)); replace HO111 := am_ (Kd.R_mono (Kd.R_keep (IsS70.apart (show IsS70 w0 _ g s0_0 t108 from by repeat (first | (with_reducible first | exact HI0.out | apply IsS70.alloc | apply IsS70.drewN | apply IsS70.drew | apply IsS70.set_1) | exact HI0.out)) (by exact HO111.out) (by decide)) hk (fun _ h => h.2)) (fun _ h => h.1)); replace HK := am_ (KeepBut.trans (by repeat (first | (with_reducible first | exact HK.out | apply KeepBut.set_ | apply keep_drewN | apply keep_drew | apply keep_alloc) | exact HK.out)) hk (.inl rfl)); replace HB := am_ (hb); replace HI0 := am_ (hi); (try clear hb); (try clear hb2); (try clear hk); (try clear hi)) | ((with_reducible refine gate_dst (N := 23) rfl ?_); refine Kd.R_lit (Kd.int .i64) _ 3 ?hg (N := 23) ?hd (xs := ([(-1), 0, 15, 16] : List Int)) (inner := [.int .i64 (-1), .int .i64 0, .int .i64 15, .int .i64 16]) (ok := fun _ => True) (okp := fun _ => True) ?hr ?hp (fun _ hk => hk) trivial (Below.refl _ _) (Nat.le_refl _) (by simp) ?_; (case hd => rfl); (case hg => rfl); (case hr => first | (go_simp; done) | (go_simp; rfl)); (case hp => exact (Reps.one (show Kd.M (Kd.int .i64) _ _ _ (-1) [.int .i64 (-1)] from rfl) (Reps.one (show Kd.M (Kd.int .i64) _ _ _ 0 [.int .i64 0] from rfl) (Reps.one (show Kd.M (Kd.int .i64) _ _ _ 15 [.int .i64 15] from rfl) (Reps.one (show Kd.M (Kd.int .i64) _ _ _ 16 [.int .i64 16] from rfl) (Reps.none _ _)))))); intro v115 w24 ho25 hb hg_ hnew_; clear hg_ hnew_; (first | rw [← Ny114.out] at ho25 | (simp only [Int.reduceToNat] at ho25; rw [← Ny114.out] at ho25)); replace HO_3 := am_ (Kd.R_below (by exact HO_3.out) hb); have HO116 := am_ (Kd.R_lower (Kd.R_new' ho25 (Kd.R_lt (by exact HO111.out))) (keep_size (w := w) (g := g) (row := none) (by repeat (first | (with_reducible first | exact HK.out | apply KeepBut.set_ | apply keep_drewN | apply keep_drew | apply keep_alloc) | exact HK.out)))); replace HO111 := am_ (Kd.R_elder' (by exact HO111.out) (Kd.R_base ho25) hb); replace HK := am_ (KeepBut.trans (by repeat (first | (with_reducible first | exact HK.out | apply KeepBut.set_ | apply keep_drewN | apply keep_drew | apply keep_alloc) | exact HK.out)) (KeepBut.of_below hb g none) (.inl rfl)); replace HB := am_ (below_step (by repeat (first | (with_reducible first | exact HB.out | apply below_alloc | apply pw_below_drewN | apply below_drew1 | refine below_set ?_ (IsS70.ge HI0.out)) | exact HB.out)) hb); replace HI0 := am_ (IsS70.below (by repeat (first | (with_reducible first | exact HI0.out | apply IsS70.alloc | apply IsS70.drewN | apply IsS70.drew | apply IsS70.set_1) | exact HI0.out)) hb); clear hb ho25; obtain ⟨Ao26, co26, eo26⟩ := Kd.R_slice HO116.out; subst eo26) | ((with_reducible refine gate_callee (f := 48) rfl ?_); refine goesL_ (some 24) rfl rfl Try.func48 (by kernel_rfl) rfl #[.pointer (some ⟨g, 0, none⟩), .slice Ao26 y114.length co26] rfl (by simp only [List.map_toArray, List.map_cons, List.map_nil]; rfl) ?_; (with_reducible refine (spec_reader_one.calls kj2 g s0_0 t113 _ _ y114 t117 t118 w0 _ ?side1 ?side2 ?side3 ?side4 ?side5 A13.out).mono ?_); (case side1 => repeat (first | (with_reducible first | exact HI0.out | apply IsS70.alloc | apply IsS70.drewN | apply IsS70.drew | apply IsS70.set_1) | exact HI0.out)); (case side2 => repeat (first | (with_reducible first | exact HB.out | apply below_alloc | apply pw_below_drewN | apply below_drew1 | refine below_set ?_ (IsS70.ge HI0.out)) | exact HB.out)); (case side3 => repeat (first | exact (Kd.R_reads' HO116.out).2.2 | (with_reducible refine Kd.C_alloc ?_ _) | (with_reducible refine Kd.C_drewN ?_ _) | (with_reducible refine Kd.C_drew ?_))); (case side4 => exact (Kd.R_reads' HO116.out).2.1); (case side5 => exact far_slice (IsS70.own_ne HI0.out HO116.out (by decide))); rintro e w27 ⟨rfl, hi, hb, hk⟩; refine ⟨_, rfl, ?_⟩; replace HO_3 := am_ (Kd.R_mono (Kd.R_keep (IsS70.apart (show IsS70 w0 _ g s0_0 t113 from by repeat (first | (with_reducible first | exact HI0.out | apply IsS70.alloc | apply IsS70.drewN | apply IsS70.drew | apply IsS70.set_1) | exact HI0.out)) (by exact HO_3.out) (by decide)) hk (fun _ h => h.2)) (fun _ h => h.1)); replace HO111 := am_ (Kd.R_mono (Kd.R_keep (IsS70.apart (show IsS70 w0 _ g s0_0 t113 from by repeat (first | (with_reducible first | exact HI0.out | apply IsS70.alloc | apply IsS70.drewN | apply IsS70.drew | apply IsS70.set_1) | exact HI0.out)) (by exact HO111.out) (by decide)) hk (fun _ h => h.2)) (fun _ h => h.1)); replace HO116 := am_ (Kd.R_mono (Kd.R_keep (IsS70.apart (show IsS70 w0 _ g s0_0 t113 from by repeat (first | (with_reducible first | exact HI0.out | apply IsS70.alloc | apply IsS70.drewN | apply IsS70.drew | apply IsS70.set_1) | exact HI0.out)) (by exact HO116.out) (by decide)) hk (fun _ h => h.2)) (fun _ h => h.1)); replace HK := am_ (KeepBut.trans (by repeat (first | (with_reducible first | exact HK.out | apply KeepBut.set_ | apply keep_drewN | apply keep_drew | apply keep_alloc) | exact HK.out)) hk (.inl rfl)); replace HB := am_ (hb); replace HI0 := am_ (hi); (try clear hb); (try clear hb2); (try clear hk); (try clear hi)) | ((with_reducible refine gate_dst (N := 26) rfl ?_); refine Kd.R_lit (Kd.int .i64) _ 3 ?hg (N := 26) ?hd (xs := ([0, 1, 16, 17] : List Int)) (inner := [.int .i64 0, .int .i64 1, .int .i64 16, .int .i64 17]) (ok := fun _ => True) (okp := fun _ => True) ?hr ?hp (fun _ hk => hk) trivial (Below.refl _ _) (Nat.le_refl _) (by simp) ?_; (case hd => rfl); (case hg => rfl); (case hr => first | (go_simp; done) | (go_simp; rfl)); (case hp => exact (Reps.one (show Kd.M (Kd.int .i64) _ _ _ 0 [.int .i64 0] from rfl) (Reps.one (show Kd.M (Kd.int .i64) _ _ _ 1 [.int .i64 1] from rfl) (Reps.one (show Kd.M (Kd.int .i64) _ _ _ 16 [.int .i64 16] from rfl) (Reps.one (show Kd.M (Kd.int .i64) _ _ _ 17 [.int .i64 17] from rfl) (Reps.none _ _)))))); intro v120 w28 ho29 hb hg_ hnew_; clear hg_ hnew_; (first | rw [← Ny119.out] at ho29 | (simp only [Int.reduceToNat] at ho29; rw [← Ny119.out] at ho29)); replace HO_3 := am_ (Kd.R_below (by exact HO_3.out) hb); have HO121 := am_ (Kd.R_lower (Kd.R_new' (Kd.R_new' ho29 (Kd.R_lt (by exact HO111.out))) (Kd.R_lt (by exact HO116.out))) (keep_size (w := w) (g := g) (row := none) (by repeat (first | (with_reducible first | exact HK.out | apply KeepBut.set_ | apply keep_drewN | apply keep_drew | apply keep_alloc) | exact HK.out)))); replace HO111 := am_ (Kd.R_elder' (by exact HO111.out) (Kd.R_base ho29) hb); replace HO116 := am_ (Kd.R_elder' (by exact HO116.out) (Kd.R_base ho29) hb); replace HK := am_ (KeepBut.trans (by repeat (first | (with_reducible first | exact HK.out | apply KeepBut.set_ | apply keep_drewN | apply keep_drew | apply keep_alloc) | exact HK.out)) (KeepBut.of_below hb g none) (.inl rfl)); replace HB := am_ (below_step (by repeat (first | (with_reducible first | exact HB.out | apply below_alloc | apply pw_below_drewN | apply below_drew1 | refine below_set ?_ (IsS70.ge HI0.out)) | exact HB.out)) hb); replace HI0 := am_ (IsS70.below (by repeat (first | (with_reducible first | exact HI0.out | apply IsS70.alloc | apply IsS70.drewN | apply IsS70.drew | apply IsS70.set_1) | exact HI0.out)) hb); clear hb ho29; obtain ⟨Ao30, co30, eo30⟩ := Kd.R_slice HO121.out; subst eo30) | ((with_reducible refine gate_callee (f := 48) rfl ?_); refine goesL_ (some 27) rfl rfl Try.func48 (by kernel_rfl) rfl #[.pointer (some ⟨g, 0, none⟩), .slice Ao30 y119.length co30] rfl (by simp only [List.map_toArray, List.map_cons, List.map_nil]; rfl) ?_; (with_reducible refine (spec_reader_one.calls kj2 g s0_0 t118 _ _ y119 t122 t123 w0 _ ?side1 ?side2 ?side3 ?side4 ?side5 A14.out).mono ?_); (case side1 => repeat (first | (with_reducible first | exact HI0.out | apply IsS70.alloc | apply IsS70.drewN | apply IsS70.drew | apply IsS70.set_1) | exact HI0.out)); (case side2 => repeat (first | (with_reducible first | exact HB.out | apply below_alloc | apply pw_below_drewN | apply below_drew1 | refine below_set ?_ (IsS70.ge HI0.out)) | exact HB.out)); (case side3 => repeat (first | exact (Kd.R_reads' HO121.out).2.2 | (with_reducible refine Kd.C_alloc ?_ _) | (with_reducible refine Kd.C_drewN ?_ _) | (with_reducible refine Kd.C_drew ?_))); (case side4 => exact (Kd.R_reads' HO121.out).2.1); (case side5 => exact far_slice (IsS70.own_ne HI0.out HO121.out (by decide))); rintro e w31 ⟨rfl, hi, hb, hk⟩; refine ⟨_, rfl, ?_⟩; replace HO_3 := am_ (Kd.R_mono (Kd.R_keep (IsS70.apart (show IsS70 w0 _ g s0_0 t118 from by repeat (first | (with_reducible first | exact HI0.out | apply IsS70.alloc | apply IsS70.drewN | apply IsS70.drew | apply IsS70.set_1) | exact HI0.out)) (by exact HO_3.out) (by decide)) hk (fun _ h => h.2)) (fun _ h => h.1)); replace HO111 := am_ (Kd.R_mono (Kd.R_keep (IsS70.apart (show IsS70 w0 _ g s0_0 t118 from by repeat (first | (with_reducible first | exact HI0.out | apply IsS70.alloc | apply IsS70.drewN | apply IsS70.drew | apply IsS70.set_1) | exact HI0.out)) (by exact HO111.out) (by decide)) hk (fun _ h => h.2)) (fun _ h => h.1)); replace HO116 := am_ (Kd.R_mono (Kd.R_keep (IsS70.apart (show IsS70 w0 _ g s0_0 t118 from by repeat (first | (with_reducible first | exact HI0.out | apply IsS70.alloc | apply IsS70.drewN | apply IsS70.drew | apply IsS70.set_1) | exact HI0.out)) (by exact HO116.out) (by decide)) hk (fun _ h => h.2)) (fun _ h => h.1)); replace HO121 := am_ (Kd.R_mono (Kd.R_keep (IsS70.apart (show IsS70 w0 _ g s0_0 t118 from by repeat (first | (with_reducible first | exact HI0.out | apply IsS70.alloc | apply IsS70.drewN | apply IsS70.drew | apply IsS70.set_1) | exact HI0.out)) (by exact HO121.out) (by decide)) hk (fun _ h => h.2)) (fun _ h => h.1)); replace HK := am_ (KeepBut.trans (by repeat (first | (with_reducible first | exact HK.out | apply KeepBut.set_ | apply keep_drewN | apply keep_drew | apply keep_alloc) | exact HK.out)) hk (.inl rfl)); replace HB := am_ (hb); replace HI0 := am_ (hi); (try clear hb); (try clear hb2); (try clear hk); (try clear hi); have p17 : 0 ≤ (t107 : Int) := of_decide_eq_true (by first | with_reducible assumption | assumption); have q17 : (t107 : Int) < ((t101.length : Int) : Int) := of_decide_eq_true (by first | with_reducible assumption | assumption); obtain ⟨go17, co17, eo17, gb17, gl17, cl17, HG17⟩ := Kd.R_form HO_3.out (by omega); (first | cases eo17 | (injection eo17 with ea_ en_ ec_; (first | subst ea_ | (injection ea_ with ea_; subst ea_)); subst ec_; clear en_)); have GB17 := Aside0.mk gb17; have GG17 := Aside0.mk HG17; clear gb17 gl17 HG17; obtain ⟨ce17, hcl17, hM17, hcc17, hfr17⟩ := Kd.R_elem HO_3.out z59 (t107 : Int) p17 q17; obtain rfl := k59_openM hM17; have hx17_0 : w31.cell? ⟨go17, (t107 : Int).toNat * 3, none⟩ = some (.int .i64 ((rd_T59 t101 t107).f0)) := hcc17 0 _ rfl; have hx17_1 : w31.cell? ⟨go17, (t107 : Int).toNat * 3 + 1, none⟩ = some (.int .i64 ((rd_T59 t101 t107).f1)) := hcc17 1 _ rfl; have hx17_2 : w31.cell? ⟨go17, (t107 : Int).toNat * 3 + 2, none⟩ = some (.int .i64 ((rd_T59 t101 t107).f2)) := hcc17 2 _ rfl; have hf17_0 : w31.frozen? ⟨go17, (t107 : Int).toNat * 3, none⟩ = false := hfr17 0; have hf17_1 : w31.frozen? ⟨go17, (t107 : Int).toNat * 3 + 1, none⟩ = false := hfr17 1; have hf17_2 : w31.frozen? ⟨go17, (t107 : Int).toNat * 3 + 2, none⟩ = false := hfr17 2; clear hcl17 hcc17 hfr17 hM17; replace p17 := eq_true p17; replace q17 := eq_true q17; have HX32 := Aside0.mk (show Kd.R k59 59 w31 w.heap.size (fun _ => True) (.slice (some ⟨go17, 0, none⟩) t101.length co18) t101 from (by exact HO_3.out)); obtain ⟨ce32, hcl32, hM32, hcc32, hfr32⟩ := Kd.R_elem HX32.out z59 (t107 : Int) (of_decide_eq_true (by first | with_reducible assumption | assumption)) (by have h_ : (t107 : Int) < ((t101.length : Int) : Int) := of_decide_eq_true (by first | with_reducible assumption | assumption); first | exact h_ | (have e_ := (Kd.R_reads' HO_3.out).1; omega) | simpa using h_); obtain rfl := k59_openM hM32; have HP32 := Kd.R_seg HX32.out (t107 : Int) (of_decide_eq_true (by first | with_reducible assumption | assumption)) (by have h_ : (t107 : Int) < ((t101.length : Int) : Int) := of_decide_eq_true (by first | with_reducible assumption | assumption); first | exact h_ | (have e_ := (Kd.R_reads' HO_3.out).1; omega) | simpa using h_) (seg := [.int .i64 t112, .int .i64 t117, .int .i64 t122]) (j := 0) hcl32 hcc32 (show 3 ≤ 3 from by decide) (x' := (⟨t112, t117, t122⟩ : S59)) (k59_mkM _ _ _ (⟨t112, t117, t122⟩ : S59) ) (fun _ hk => hk); have hx32_0 := hcc32 0 _ rfl; (try simp only [show (k59).sz = 3 from rfl, Nat.mul_one, Nat.add_zero] at hx32_0); have hf32_0 := hfr32 0; (try simp only [show (k59).sz = 3 from rfl, Nat.mul_one, Nat.add_zero] at hf32_0); have hx32_1 := hcc32 1 _ rfl; (try simp only [show (k59).sz = 3 from rfl, Nat.mul_one, Nat.add_zero] at hx32_1); have hf32_1 := hfr32 1; (try simp only [show (k59).sz = 3 from rfl, Nat.mul_one, Nat.add_zero] at hf32_1); have hx32_2 := hcc32 2 _ rfl; (try simp only [show (k59).sz = 3 from rfl, Nat.mul_one, Nat.add_zero] at hx32_2); have hf32_2 := hfr32 2; (try simp only [show (k59).sz = 3 from rfl, Nat.mul_one, Nat.add_zero] at hf32_2); clear hcl32 hcc32 hfr32 hM32) | ((with_reducible refine gate_store (t := 59) (p := 29) rfl ?_); refine store_event (t := 59) (p := 29) (v := ?vo_w33) (w1 := (((w31.setCell ⟨go17, (t107 : Int).toNat * 3, none⟩ (.int .i64 t112)).setCell ⟨go17, (t107 : Int).toNat * 3 + 1, none⟩ (.int .i64 t117)).setCell ⟨go17, (t107 : Int).toNat * 3 + 2, none⟩ (.int .i64 t122))) ?hg ?ho ?hn ?hr ?_; (case ho => rfl); (case hg => rfl); (case hn => rfl); (case hr => first | (go_simp; done) | (go_simp; rfl)); intro w33 hw; have hg : w31.grownBy w33 (some go17) := (by rw [hw]; exact HP32.2); have hp_ : Kd.R k59 59 w33 w.heap.size (fun _ => True) (.slice (some ⟨go17, 0, none⟩) t101.length co18) y124 := (by rw [hw, Ny124.out]; exact HP32.1); clear HP32; replace HI0 := am_ (IsS70.grown (by repeat (first | (with_reducible first | exact HI0.out | apply IsS70.alloc | apply IsS70.drewN | apply IsS70.drew | apply IsS70.set_1) | exact HI0.out)) hg (IsS70.own_ne HI0.out HO_3.out (by decide))); replace HO111 := am_ (Kd.R_over' (v := (.slice (some ⟨go17, 0, none⟩) t101.length co18)) (by exact HO111.out) (Kd.R_typed HO_3.out) (by decide) hg); replace HO116 := am_ (Kd.R_over' (v := (.slice (some ⟨go17, 0, none⟩) t101.length co18)) (by exact HO116.out) (Kd.R_typed HO_3.out) (by decide) hg); replace HO121 := am_ (Kd.R_over' (v := (.slice (some ⟨go17, 0, none⟩) t101.length co18)) (by exact HO121.out) (Kd.R_typed HO_3.out) (by decide) hg); replace HB := am_ ((by rw [hw]; exact below_set (below_set (below_set (HB.out) (Nat.le_trans HL.out GB17.out)) (Nat.le_trans HL.out GB17.out)) (Nat.le_trans HL.out GB17.out) : Below w0.heap.size w0 w33)); replace HK := am_ (KeepBut.trans (by repeat (first | (with_reducible first | exact HK.out | apply KeepBut.set_ | apply keep_drewN | apply keep_drew | apply keep_alloc) | exact HK.out)) (KeepBut.of_grown hg g) (Kd.R_base2 HO_3.out)); replace HO_3 := am_ (hp_); clear hg hw hp_))
   go_ret
   exact ⟨_, by first | rfl | (simp [errW_none, errW_some] <;> rfl) | (simp [*, errW_none, errW_some] <;> rfl), by exact HO_3.out, by repeat (first | (with_reducible first | exact HI0.out | apply IsS70.alloc | apply IsS70.drewN | apply IsS70.drew | apply IsS70.set_1) | exact HI0.out), by repeat (first | (with_reducible first | exact HB.out | apply below_alloc | apply pw_below_drewN | apply below_drew1 | refine below_set ?_ (IsS70.ge HI0.out)) | exact HB.out), by repeat (first | (with_reducible first | exact HK.out | apply KeepBut.set_ | apply keep_drewN | apply keep_drew | apply keep_alloc) | exact HK.out)⟩

end Go.Proofs.Ytbkhhlifpknbeaa.Print
