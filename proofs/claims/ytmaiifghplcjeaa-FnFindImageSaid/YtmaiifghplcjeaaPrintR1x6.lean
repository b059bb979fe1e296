-- laid by hp.py (a program of this work over the kit's print), with contracts by hand for what the print does not take
import Derived.Test.YtmaiifghplcjeaaPrint0
import Derived.Test.YtmaiifghplcjeaaPrintHx0
import Derived.Test.YtmaiifghplcjeaaPrintR1x3
import Derived.Test.YtmaiifghplcjeaaPrintR1x4
import Derived.Test.YtmaiifghplcjeaaPrintR1x5
namespace Go.Proofs.Ytmaiifghplcjeaa.Print
open Go.RowKit Go.Proofs.YtmaiifghplcjeaaW.PrintWords Go.Proofs.YtmaiifghplcjeaaW.PrintLast Go.Proofs.YtmaiifghplcjeaaW.PrintMore
attribute [local go_sem] max2_int min2_int max_two min_two max_three min_three max_four min_four   -- for this text's walks alone
set_option linter.unusedVariables false
set_option linter.unusedSimpArgs false

/-! ### spec_DrawFindImage: function 37 -/
def spec_DrawFindImage.j0 : Nat → List Int → Int → Int → Int → Int → List Int → Int → Int → Int → List Int → Option (Int × Int × Int × List Int × Int × Int × Int × List Int)
 | 0, _, _, _, _, _, _, _, _, _, _ => none
 | k + 1, x106000, x106001, x114000, x114001, x114002, x114003, x127000, x127001, x127002, x127003 => (spec_reader_pick.f k x106000 x106001 3).bind fun bt134 => (if bt134.1 = 0 then ((spec_reader_pick.f k x106000 bt134.2 256).bind fun bt136 => (if 0 < (x127003.length : Int) then (some (x114000, x114001, x114002, x114003, x127000, x127001, x127002, (x127003.set (0 : Int).toNat bt136.1))) else (none))) else (some (x114000, x114001, x114002, x114003, x127000, x127001, x127002, x127003)))
def spec_DrawFindImage.f (k : Nat) (l0 : List Int) : Option (Int × Int × Int × List Int × Int × Int × Int × List Int) := (spec_newReader.f l0).bind fun bt103 => ((spec_anyImage.f k bt103.1 bt103.2).bind fun bt106 => ((spec_anyBox.f k bt103.1 bt106.2.2.2.2).bind fun bt114 => ((spec_CropImage.f k bt106.1 bt106.2.1 bt106.2.2.1 bt106.2.2.2.1 bt114.1 bt114.2.1 bt114.2.2.1 bt114.2.2.2.1).bind fun bt119 => (if bt119.2.2.2.2 = true then (spec_DrawFindImage.j0 k bt103.1 bt114.2.2.2.2 bt106.1 bt106.2.1 bt106.2.2.1 bt106.2.2.2.1 bt119.1 bt119.2.1 bt119.2.2.1 bt119.2.2.2.1) else ((spec_randomImage.f k bt103.1 bt114.2.2.2.2 (mx 1 (mn 4 bt106.2.2.1))).bind fun bt127 => (spec_DrawFindImage.j0 k bt103.1 bt127.2.2.2.2 bt106.1 bt106.2.1 bt106.2.2.1 bt106.2.2.2.1 bt127.1 bt127.2.1 bt127.2.2.1 bt127.2.2.2.1))))))
theorem spec_DrawFindImage.mono_l : ∀ k, (∀ y0 y1 y2 y3 y4 y5 y6 y7 y8 y9, LeO (spec_DrawFindImage.j0 k y0 y1 y2 y3 y4 y5 y6 y7 y8 y9) (spec_DrawFindImage.j0 (k + 1) y0 y1 y2 y3 y4 y5 y6 y7 y8 y9))
 | 0 => fun _ _ _ _ _ _ _ _ _ _ r h => by simp [spec_DrawFindImage.j0] at h
 | k + 1 => by
  have ih0 := spec_DrawFindImage.mono_l k
  intro y0 y1 y2 y3 y4 y5 y6 y7 y8 y9
  unfold spec_DrawFindImage.j0
  repeat' first
  | (with_reducible exact ih0 _ _ _ _ _ _ _ _ _ _)
  | (with_reducible exact spec_CropImage.mono _ _ _ _ _ _ _ _ _)
  | (with_reducible exact spec_anyBox.mono _ _ _)
  | (with_reducible exact spec_anyImage.mono _ _ _)
  | (with_reducible exact spec_randomImage.mono _ _ _ _)
  | (with_reducible exact spec_reader_pick.mono _ _ _ _)
  | (with_reducible exact LeO.refl _)
  | (with_reducible exact LeO.none _)
  | (with_reducible refine LeO.ite ?_ ?_)
  | (with_reducible refine LeO.bind ?_ (fun _ => ?_))
  | exact ih0 _ _ _ _ _ _ _ _ _ _
  | exact spec_CropImage.mono _ _ _ _ _ _ _ _ _
  | exact spec_anyBox.mono _ _ _
  | exact spec_anyImage.mono _ _ _
  | exact spec_randomImage.mono _ _ _ _
  | exact spec_reader_pick.mono _ _ _ _
  | exact LeO.none _
  | refine LeO.ite ?_ ?_
  | refine LeO.bind ?_ (fun _ => ?_)
theorem spec_DrawFindImage.mono : ∀ a0 k, LeO (spec_DrawFindImage.f k a0) (spec_DrawFindImage.f (k + 1) a0) := by
 intro a0 k
 have ih0 := spec_DrawFindImage.mono_l k
 unfold spec_DrawFindImage.f
 repeat' first
   | (with_reducible exact ih0 _ _ _ _ _ _ _ _ _ _)
   | (with_reducible exact spec_CropImage.mono _ _ _ _ _ _ _ _ _)
   | (with_reducible exact spec_anyBox.mono _ _ _)
   | (with_reducible exact spec_anyImage.mono _ _ _)
   | (with_reducible exact spec_randomImage.mono _ _ _ _)
   | (with_reducible exact spec_reader_pick.mono _ _ _ _)
   | (with_reducible exact LeO.refl _)
   | (with_reducible exact LeO.none _)
   | (with_reducible refine LeO.ite ?_ ?_)
   | (with_reducible refine LeO.bind ?_ (fun _ => ?_))
   | exact ih0 _ _ _ _ _ _ _ _ _ _
   | exact spec_CropImage.mono _ _ _ _ _ _ _ _ _
   | exact spec_anyBox.mono _ _ _
   | exact spec_anyImage.mono _ _ _
   | exact spec_randomImage.mono _ _ _ _
   | exact spec_reader_pick.mono _ _ _ _
   | exact LeO.none _
   | refine LeO.ite ?_ ?_
   | refine LeO.bind ?_ (fun _ => ?_)
def spec_DrawFindImage.T3 : Bool × List (List Nat × List Nat) := (true, [([], []), ([], []), ([1], [1]), ([0, 2, 2], [0, 2]), ([3], [3]), ([4], [4]), ([4], [4]), ([], []), ([7, 5, 3, 0, 1, 2, 3, 4, 5, 7], [5, 7]), ([6, 8, 0, 1, 2, 3, 4, 5, 6, 7, 8], [6])])
def spec_DrawFindImage.B3 : List Nat := [0, 0, 2, 7, 15, 31, 31, 0, 191, 511]
theorem spec_DrawFindImage.tab3 : rtab .any (opsOf Try.f37 3) = spec_DrawFindImage.T3 := by kernel_rfl
theorem spec_DrawFindImage.bits3 : waitsOk spec_DrawFindImage.T3.2 spec_DrawFindImage.B3 = true := by kernel_rfl
set_option maxHeartbeats 8000000 in
set_option maxRecDepth 100000 in
theorem spec_DrawFindImage.calls (k : Nat) (A0 : Option Addr) (c0 : Nat) (l0 : List Int) (r1 : Int) (r2 : Int) (r3 : Int) (r4 : List Int) (r5 : Int) (r6 : Int) (r7 : Int) (r8 : List Int) (w : World) (hr0 : Kd.C (Kd.int .u8) w A0 l0.length l0) (hc0 : l0.length ≤ c0) (h : spec_DrawFindImage.f k l0 = some (r1, r2, r3, r4, r5, r6, r7, r8)) :
  Calls Try.prog 37 #[.slice A0 l0.length c0] w fun e w' => ∃ v3_ v7_ : Value, e = .returned (.tuple #[.agg #[.int .i64 r1, .int .i64 r2, .int .i64 r3, v3_], .agg #[.int .i64 r5, .int .i64 r6, .int .i64 r7, v7_]]) ∧ Kd.Q (Kd.int .i64) 3 w' w.heap.size (fun k_ => some k_ ≠ (v7_ : Value).ownBlock) v3_ r4 ∧ Kd.Q (Kd.int .i64) 3 w' w.heap.size (fun k_ => some k_ ≠ (v3_ : Value).ownBlock) v7_ r8 ∧ Below w.heap.size w w' := by
 have hu26 := Try.underlying26
 have HR0 := Aside0.mk hr0
 have HC0 := Aside0.mk hc0
 clear hr0 hc0
 have HB := Aside0.mk (Below.refl w.heap.size w)
 have H : ((spec_newReader.f l0).bind fun bt103 => ((spec_anyImage.f k bt103.1 bt103.2).bind fun bt106 => ((spec_anyBox.f k bt103.1 bt106.2.2.2.2).bind fun bt114 => ((spec_CropImage.f k bt106.1 bt106.2.1 bt106.2.2.1 bt106.2.2.2.1 bt114.1 bt114.2.1 bt114.2.2.1 bt114.2.2.2.1).bind fun bt119 => (if bt119.2.2.2.2 = true then (spec_DrawFindImage.j0 k bt103.1 bt114.2.2.2.2 bt106.1 bt106.2.1 bt106.2.2.1 bt106.2.2.2.1 bt119.1 bt119.2.1 bt119.2.2.1 bt119.2.2.2.1) else ((spec_randomImage.f k bt103.1 bt114.2.2.2.2 (mx 1 (mn 4 bt106.2.2.1))).bind fun bt127 => (spec_DrawFindImage.j0 k bt103.1 bt127.2.2.2.2 bt106.1 bt106.2.1 bt106.2.2.1 bt106.2.2.2.1 bt127.1 bt127.2.1 bt127.2.2.1 bt127.2.2.2.1))))))) = some (r1, r2, r3, r4, r5, r6, r7, r8) := h
 clear h
 replace H := Option.bind_eq_some_iff.mp H
 obtain ⟨⟨t103, t104⟩, A20, H⟩ := H
 replace H : ((spec_anyImage.f k t103 t104).bind fun bt106 => ((spec_anyBox.f k t103 bt106.2.2.2.2).bind fun bt114 => ((spec_CropImage.f k bt106.1 bt106.2.1 bt106.2.2.1 bt106.2.2.2.1 bt114.1 bt114.2.1 bt114.2.2.1 bt114.2.2.2.1).bind fun bt119 => (if bt119.2.2.2.2 = true then (spec_DrawFindImage.j0 k t103 bt114.2.2.2.2 bt106.1 bt106.2.1 bt106.2.2.1 bt106.2.2.2.1 bt119.1 bt119.2.1 bt119.2.2.1 bt119.2.2.2.1) else ((spec_randomImage.f k t103 bt114.2.2.2.2 (mx 1 (mn 4 bt106.2.2.1))).bind fun bt127 => (spec_DrawFindImage.j0 k t103 bt127.2.2.2.2 bt106.1 bt106.2.1 bt106.2.2.1 bt106.2.2.2.1 bt127.1 bt127.2.1 bt127.2.2.1 bt127.2.2.2.1)))))) = some (r1, r2, r3, r4, r5, r6, r7, r8) := H
 have A2 := Aside0.mk A20
 clear A20
 replace H := Option.bind_eq_some_iff.mp H
 obtain ⟨⟨t106, t107, t108, t109, t112⟩, A30, H⟩ := H
 replace H : ((spec_anyBox.f k t103 t112).bind fun bt114 => ((spec_CropImage.f k t106 t107 t108 t109 bt114.1 bt114.2.1 bt114.2.2.1 bt114.2.2.2.1).bind fun bt119 => (if bt119.2.2.2.2 = true then (spec_DrawFindImage.j0 k t103 bt114.2.2.2.2 t106 t107 t108 t109 bt119.1 bt119.2.1 bt119.2.2.1 bt119.2.2.2.1) else ((spec_randomImage.f k t103 bt114.2.2.2.2 (mx 1 (mn 4 t108))).bind fun bt127 => (spec_DrawFindImage.j0 k t103 bt127.2.2.2.2 t106 t107 t108 t109 bt127.1 bt127.2.1 bt127.2.2.1 bt127.2.2.2.1))))) = some (r1, r2, r3, r4, r5, r6, r7, r8) := H
 have A3 := Aside0.mk A30
 clear A30
 replace H := Option.bind_eq_some_iff.mp H
 obtain ⟨⟨t114, t115, t116, t117, t118⟩, A40, H⟩ := H
 replace H : ((spec_CropImage.f k t106 t107 t108 t109 t114 t115 t116 t117).bind fun bt119 => (if bt119.2.2.2.2 = true then (spec_DrawFindImage.j0 k t103 t118 t106 t107 t108 t109 bt119.1 bt119.2.1 bt119.2.2.1 bt119.2.2.2.1) else ((spec_randomImage.f k t103 t118 (mx 1 (mn 4 t108))).bind fun bt127 => (spec_DrawFindImage.j0 k t103 bt127.2.2.2.2 t106 t107 t108 t109 bt127.1 bt127.2.1 bt127.2.2.1 bt127.2.2.2.1)))) = some (r1, r2, r3, r4, r5, r6, r7, r8) := H
 have A4 := Aside0.mk A40
 clear A40
 replace H := Option.bind_eq_some_iff.mp H
 obtain ⟨⟨t119, t120, t121, t122, t125⟩, A50, H⟩ := H
 replace H : (if t125 = true then (spec_DrawFindImage.j0 k t103 t118 t106 t107 t108 t109 t119 t120 t121 t122) else ((spec_randomImage.f k t103 t118 (mx 1 (mn 4 t108))).bind fun bt127 => (spec_DrawFindImage.j0 k t103 bt127.2.2.2.2 t106 t107 t108 t109 bt127.1 bt127.2.1 bt127.2.2.1 bt127.2.2.2.1))) = some (r1, r2, r3, r4, r5, r6, r7, r8) := H
 have A5 := Aside0.mk A50
 clear A50
 have HC6 := Aside0.mk H
 clear H
 go_enter Try.func37, Try.ntmps37
 try go_wp2_with (first | ((with_reducible refine gate_dst (N := 2) rfl ?_); refine box_event ?hg (N := 2) ?hd (cs := #[.int .i64 0, .int .i64 0, .int .i64 0, .slice none 0 0]) (t := 26) ?hr ?_; (case hd => rfl); (case hg => rfl); (case hr => first | (go_simp; done) | (go_simp; rfl)); intro gb101 hg w7 hbox hb; have BK101 := am_ (hbox); have GW101 := am_ ((by rw [hg]; exact (below_size (by repeat (first | (with_reducible first | exact HB.out | apply below_alloc | apply pw_below_drewN | apply below_drew1) | exact HB.out))) : w.heap.size ≤ gb101)); have GE101 := GW101; replace HB := am_ (below_step (by repeat (first | (with_reducible first | exact HB.out | apply below_alloc | apply pw_below_drewN | apply below_drew1) | exact HB.out)) hb); clear hb hbox hg) | ((with_reducible refine gate_dst (N := 3) rfl ?_); refine box_event ?hg (N := 3) ?hd (cs := #[.int .i64 0, .int .i64 0, .int .i64 0, .slice none 0 0]) (t := 26) ?hr ?_; (case hd => rfl); (case hg => rfl); (case hr => first | (go_simp; done) | (go_simp; rfl)); intro gb102 hg w8 hbox hb; have BK102 := am_ (hbox); have GW102 := am_ ((by rw [hg]; exact (below_size (by repeat (first | (with_reducible first | exact HB.out | apply below_alloc | apply pw_below_drewN | apply below_drew1 | refine below_set ?_ GE101.out) | exact HB.out))) : w.heap.size ≤ gb102)); have GE102 := GW102; replace HB := am_ (below_step (by repeat (first | (with_reducible first | exact HB.out | apply below_alloc | apply pw_below_drewN | apply below_drew1 | refine below_set ?_ GE101.out) | exact HB.out)) hb); have NB101_102 := am_ ((by rw [hg]; exact Nat.ne_of_lt (blk_lt (by exact BK101.out)) : gb101 ≠ gb102)); have NB102_101 := am_ ((by rw [hg]; exact Nat.ne_of_gt (blk_lt (by exact BK101.out)) : gb102 ≠ gb101)); replace BK101 := am_ (blk_below (by exact BK101.out) hb); clear hb hbox hg) | ((with_reducible refine gate_callee (f := 70) rfl ?_); refine goesL_ (some 9) rfl rfl Try.func70 (by kernel_rfl) rfl #[.slice A0 l0.length c0] rfl (by simp only [List.map_toArray, List.map_cons, List.map_nil]; rfl) ?_; (with_reducible refine (spec_newReader.calls _ _ l0 t103 t104 w _ ?side1 ?side2 ?side3 A2.out).mono ?_); (case side1 => repeat (first | (with_reducible first | exact HB.out | apply below_alloc | apply pw_below_drewN | apply below_drew1 | refine below_set ?_ GE101.out | refine below_set ?_ GE102.out) | exact HB.out)); (case side2 => exact HR0.out); (case side3 => exact HC0.out); rintro e w9 ⟨g105, rfl, hi, hb, hb2⟩; refine ⟨_, rfl, ?_⟩; replace HB := am_ (hb); have HI105 := am_ (hi); have NB105_101 := am_ (IsS87.ne_blk hi (blk_below (by exact BK101.out) hb2) (by decide)); have NB101_105 := am_ (Ne.symm (IsS87.ne_blk hi (blk_below (by exact BK101.out) hb2) (by decide))); replace BK101 := am_ (blk_below (by exact BK101.out) hb2); have NB105_102 := am_ (IsS87.ne_blk hi (blk_below (by exact BK102.out) hb2) (by decide)); have NB102_105 := am_ (Ne.symm (IsS87.ne_blk hi (blk_below (by exact BK102.out) hb2) (by decide))); replace BK102 := am_ (blk_below (by exact BK102.out) hb2); (try clear hb); (try clear hb2); (try clear hk); (try clear hi)) | ((with_reducible refine gate_callee (f := 74) rfl ?_); refine goesL_ (some 11) rfl rfl Try.func74 (by kernel_rfl) rfl #[.pointer (some ⟨g105, 0, none⟩)] rfl (by simp only [List.map_toArray, List.map_cons, List.map_nil]; rfl) ?_; (with_reducible refine (spec_anyImage.calls k g105 t103 t104 t106 t107 t108 t109 t112 w _ ?side1 ?side2 A3.out).mono ?_); (case side1 => repeat (first | (with_reducible first | exact HI105.out | apply IsS87.alloc | apply IsS87.drewN | apply IsS87.drew | apply IsS87.set_1 | refine IsS87.far ?_ NB105_101.out _ | refine IsS87.far ?_ NB105_102.out _) | exact HI105.out)); (case side2 => repeat (first | (with_reducible first | exact HB.out | apply below_alloc | apply pw_below_drewN | apply below_drew1 | refine below_set ?_ (IsS87.ge HI105.out) | refine below_set ?_ GE101.out | refine below_set ?_ GE102.out) | exact HB.out)); rintro e w10 ⟨v110, rfl, ho0, hi, hb, hk⟩; refine ⟨_, rfl, ?_⟩; replace BK101 := am_ (KeepBut.blk hk (by exact BK101.out) NB101_105.out (by simp)); replace BK102 := am_ (KeepBut.blk hk (by exact BK102.out) NB102_105.out (by simp)); have HO111 := am_ (Kd.Q_lower ho0 (below_size (by repeat (first | (with_reducible first | exact HB.out | apply below_alloc | apply pw_below_drewN | apply below_drew1 | refine below_set ?_ (IsS87.ge HI105.out) | refine below_set ?_ GE101.out | refine below_set ?_ GE102.out) | exact HB.out)))); replace HB := am_ (hb); replace HI105 := am_ (hi); (try clear hb); (try clear hb2); (try clear hk); (try clear hi); (try clear ho0)) | ((with_reducible refine gate_dst (N := 5) rfl ?_); refine box_event ?hg (N := 5) ?hd (cs := #[.int .i64 0, .int .i64 0, .int .i64 0, .slice none 0 0]) (t := 26) ?hr ?_; (case hd => rfl); (case hg => rfl); (case hr => first | (go_simp; done) | (go_simp; rfl)); intro gb113 hg w11 hbox hb; replace HO111 := am_ (Kd.Q_below (by exact HO111.out) hb); have BK113 := am_ (hbox); have GW113 := am_ ((by rw [hg]; exact (below_size (by repeat (first | (with_reducible first | exact HB.out | apply below_alloc | apply pw_below_drewN | apply below_drew1 | refine below_set ?_ (IsS87.ge HI105.out) | refine below_set ?_ GE101.out | refine below_set ?_ GE102.out) | exact HB.out))) : w.heap.size ≤ gb113)); have GE113 := GW113; replace HB := am_ (below_step (by repeat (first | (with_reducible first | exact HB.out | apply below_alloc | apply pw_below_drewN | apply below_drew1 | refine below_set ?_ (IsS87.ge HI105.out) | refine below_set ?_ GE101.out | refine below_set ?_ GE102.out) | exact HB.out)) hb); have NB101_113 := am_ ((by rw [hg]; exact Nat.ne_of_lt (blk_lt (by exact BK101.out)) : gb101 ≠ gb113)); have NB113_101 := am_ ((by rw [hg]; exact Nat.ne_of_gt (blk_lt (by exact BK101.out)) : gb113 ≠ gb101)); replace BK101 := am_ (blk_below (by exact BK101.out) hb); have NB102_113 := am_ ((by rw [hg]; exact Nat.ne_of_lt (blk_lt (by exact BK102.out)) : gb102 ≠ gb113)); have NB113_102 := am_ ((by rw [hg]; exact Nat.ne_of_gt (blk_lt (by exact BK102.out)) : gb113 ≠ gb102)); replace BK102 := am_ (blk_below (by exact BK102.out) hb); have NB105_113 := am_ ((by rw [hg]; exact Nat.ne_of_lt (IsS87.lt (show IsS87 w _ g105 t103 t112 from by repeat (first | (with_reducible first | exact HI105.out | apply IsS87.alloc | apply IsS87.drewN | apply IsS87.drew | apply IsS87.set_1 | refine IsS87.far ?_ NB105_101.out _ | refine IsS87.far ?_ NB105_102.out _) | exact HI105.out))) : g105 ≠ gb113)); have NB113_105 := am_ ((by rw [hg]; exact Nat.ne_of_gt (IsS87.lt (show IsS87 w _ g105 t103 t112 from by repeat (first | (with_reducible first | exact HI105.out | apply IsS87.alloc | apply IsS87.drewN | apply IsS87.drew | apply IsS87.set_1 | refine IsS87.far ?_ NB105_101.out _ | refine IsS87.far ?_ NB105_102.out _) | exact HI105.out))) : gb113 ≠ g105)); replace HI105 := am_ (IsS87.below (by repeat (first | (with_reducible first | exact HI105.out | apply IsS87.alloc | apply IsS87.drewN | apply IsS87.drew | apply IsS87.set_1 | refine IsS87.far ?_ NB105_101.out _ | refine IsS87.far ?_ NB105_102.out _) | exact HI105.out)) hb); clear hb hbox hg; have hnb12 := NB113_101.out; have hnc12 := NB101_113.out; have hnb13 := NB113_102.out; have hnc13 := NB102_113.out; have hnb14 := NB113_105.out; have hnc14 := NB105_113.out; obtain ⟨hcz15_0, hcz15_1, hcz15_2, hcz15_3, hfz15_0, hfz15_1, hfz15_2, hfz15_3⟩ := blk4_ BK113.out; obtain ⟨Ao16, co16, eo16, _⟩ := Kd.Q_slice HO111.out; subst eo16))
 have n0_ : Aside0 (Kd.Q (Kd.int .i64) 3 ((((w11.setCell ⟨gb113, 0, none⟩ (.int .i64 t106)).setCell ⟨gb113, 1, none⟩ (.int .i64 t107)).setCell ⟨gb113, 2, none⟩ (.int .i64 t108)).setCell ⟨gb113, 3, none⟩ (.slice Ao16 t109.length co16)) w.heap.size (fun _ => True) (.slice Ao16 t109.length co16) t109) := ⟨by exact Kd.Q_mono (Kd.Q_far (p := ⟨gb113, 3, none⟩) (Kd.Q_far (p := ⟨gb113, 2, none⟩) (Kd.Q_far (p := ⟨gb113, 1, none⟩) (Kd.Q_far (p := ⟨gb113, 0, none⟩) (Kd.Q_types HO111.out BK113.out (by decide)) (fun _ hk => hk.2) (.int .i64 t106)) (fun _ hk => hk.2) (.int .i64 t107)) (fun _ hk => hk.2) (.int .i64 t108)) (fun _ hk => hk.2) (.slice Ao16 t109.length co16)) (fun _ hk => trivial)⟩
 have n1_ : Aside0 (((((w11.setCell ⟨gb113, 0, none⟩ (.int .i64 t106)).setCell ⟨gb113, 1, none⟩ (.int .i64 t107)).setCell ⟨gb113, 2, none⟩ (.int .i64 t108)).setCell ⟨gb113, 3, none⟩ (.slice Ao16 t109.length co16)).heap[gb101]? = some (.cells #[.int .i64 0, .int .i64 0, .int .i64 0, .slice none 0 0] 26 (0, 0))) := ⟨by exact far4_ BK101.out NB101_113.out _ _ _ _⟩
 have n2_ : Aside0 (((((w11.setCell ⟨gb113, 0, none⟩ (.int .i64 t106)).setCell ⟨gb113, 1, none⟩ (.int .i64 t107)).setCell ⟨gb113, 2, none⟩ (.int .i64 t108)).setCell ⟨gb113, 3, none⟩ (.slice Ao16 t109.length co16)).heap[gb102]? = some (.cells #[.int .i64 0, .int .i64 0, .int .i64 0, .slice none 0 0] 26 (0, 0))) := ⟨by exact far4_ BK102.out NB102_113.out _ _ _ _⟩
 have n3_ : Aside0 (((((w11.setCell ⟨gb113, 0, none⟩ (.int .i64 t106)).setCell ⟨gb113, 1, none⟩ (.int .i64 t107)).setCell ⟨gb113, 2, none⟩ (.int .i64 t108)).setCell ⟨gb113, 3, none⟩ (.slice Ao16 t109.length co16)).heap[gb113]? = some (.cells #[.int .i64 t106, .int .i64 t107, .int .i64 t108, .slice Ao16 t109.length co16] 26 (0, 0))) := ⟨by exact put4_ BK113.out _ _ _ _⟩
 have n4_ : Aside0 (IsS87 w ((((w11.setCell ⟨gb113, 0, none⟩ (.int .i64 t106)).setCell ⟨gb113, 1, none⟩ (.int .i64 t107)).setCell ⟨gb113, 2, none⟩ (.int .i64 t108)).setCell ⟨gb113, 3, none⟩ (.slice Ao16 t109.length co16)) g105 t103 t112) := ⟨by repeat (first | (with_reducible first | exact HI105.out | apply IsS87.alloc | apply IsS87.drewN | apply IsS87.drew | apply IsS87.set_1 | refine IsS87.far ?_ NB105_101.out _ | refine IsS87.far ?_ NB105_102.out _ | refine IsS87.far ?_ NB105_113.out _) | exact HI105.out)⟩
 have n5_ : Aside0 (Below w.heap.size w ((((w11.setCell ⟨gb113, 0, none⟩ (.int .i64 t106)).setCell ⟨gb113, 1, none⟩ (.int .i64 t107)).setCell ⟨gb113, 2, none⟩ (.int .i64 t108)).setCell ⟨gb113, 3, none⟩ (.slice Ao16 t109.length co16))) := ⟨by repeat (first | (with_reducible first | exact HB.out | apply below_alloc | apply pw_below_drewN | apply below_drew1 | refine below_set ?_ (IsS87.ge HI105.out) | refine below_set ?_ GE101.out | refine below_set ?_ GE102.out | refine below_set ?_ GE113.out) | exact HB.out)⟩
 (try clear HO111)
 (try clear BK101)
 (try clear BK102)
 (try clear BK113)
 (try clear HI105)
 (try clear HB)
 generalize ((((w11.setCell ⟨gb113, 0, none⟩ (.int .i64 t106)).setCell ⟨gb113, 1, none⟩ (.int .i64 t107)).setCell ⟨gb113, 2, none⟩ (.int .i64 t108)).setCell ⟨gb113, 3, none⟩ (.slice Ao16 t109.length co16)) = w17 at n0_ n1_ n2_ n3_ n4_ n5_ ⊢
 have HO111 := n0_
 have BK101 := n1_
 have BK102 := n2_
 have BK113 := n3_
 have HI105 := n4_
 have HB := n5_
 clear n0_ n1_ n2_ n3_ n4_ n5_
 replace HO111 := am_ (Kd.Q_drew HO111.out)
 replace BK101 := am_ (blk_drew BK101.out)
 replace BK102 := am_ (blk_drew BK102.out)
 replace BK113 := am_ (blk_drew BK113.out)
 replace HI105 := am_ (IsS87.drew HI105.out)
 replace HB := am_ (below_drew1 HB.out)
 refine start_ (n := 10) (S := fun w' => w'.cell? ⟨gb113, 0, none⟩ = some (.int .i64 t106) ∧ w'.cell? ⟨gb113, 1, none⟩ = some (.int .i64 t107) ∧ w'.cell? ⟨gb113, 2, none⟩ = some (.int .i64 t108) ∧ w'.cell? ⟨gb113, 3, none⟩ = some (.slice Ao16 t109.length co16)) (ds := []) #[false, false, false, false, false, false, false, false, false, false] (by kernel_rfl) rfl rfl ⟨(blk_cell BK113.out 0).trans rfl, (blk_cell BK113.out 1).trans rfl, (blk_cell BK113.out 2).trans rfl, (blk_cell BK113.out 3).trans rfl⟩ (fun hHeld => ?_); refine with_tabW spec_DrawFindImage.tab3 spec_DrawFindImage.bits3 (fun HT_ HW_ => ?_)
 generalize w17.drew = w18 at HO111 BK101 BK102 BK113 HI105 HB hHeld ⊢
 refine pure_ (i := 1) (N := some 14) (v := ?_) (a' := ?_) #[false, true, false, false, false, false, false, false, false, false] rfl rfl (any_of HT_.out (by kernel_rfl)) (fun _ _ _ h => h) (Or.inl ⟨by rfl, ?_⟩) ?_ ?_
 rotate_left
 ·
  intro w'
  go_simp
  with_reducible rfl
 rotate_left
 ·
  simp only [Act.put, List.setIfInBounds_toArray, List.set_cons_zero, List.set_cons_succ, i64_w, i32_w]
  rfl
 refine take_ (i := 0) (N := some 13) (v := ?_) (a' := ?_) #[true, true, false, false, false, false, false, false, false, false] rfl rfl (take_ofW HT_.out HW_.out (by kernel_rfl)) (fun _ _ _ h => h) (Or.inl ⟨by rfl, ?_⟩) hHeld ?_ ?_
 rotate_left
 ·
  rintro w' ⟨s0, s1, s2, s3⟩
  go_simp
  with_reducible rfl
 rotate_left
 ·
  simp only [Act.put, List.setIfInBounds_toArray, List.set_cons_zero, List.set_cons_succ, i64_w, i32_w]
  rfl
 refine join_ (σ := Value × Nat) 2 #[true, true, true, true, true, true, true, true, false, false] (fun s_ => [(15, .agg #[.int .i64 t114, .int .i64 t115, .int .i64 t116, .int .i64 t117]), (16, .tuple #[.agg #[.int .i64 t119, .int .i64 t120, .int .i64 t121, s_.1], .bool t125]), (6, .pointer (some ⟨s_.2, 0, none⟩)), (12, .tuple #[.agg #[.int .i64 t119, .int .i64 t120, .int .i64 t121, s_.1], .bool t125]), (17, .agg #[.int .i64 t119, .int .i64 t120, .int .i64 t121, s_.1]), (18, .bool t125)]) (fun s_ w' => (w'.cell? ⟨gb113, 0, none⟩ = some (.int .i64 t106) ∧ w'.cell? ⟨gb113, 1, none⟩ = some (.int .i64 t107) ∧ w'.cell? ⟨gb113, 2, none⟩ = some (.int .i64 t108) ∧ w'.cell? ⟨gb113, 3, none⟩ = some (.slice Ao16 t109.length co16)) ∧ (Kd.Q (Kd.int .i64) 3 w' w.heap.size (fun k_ => some k_ ≠ (s_.1 : Value).ownBlock) (.slice Ao16 t109.length co16) t109) ∧ (Kd.R (Kd.int .i64) 3 w' w.heap.size (fun k_ => some k_ ≠ (.slice Ao16 t109.length co16 : Value).ownBlock) s_.1 t122) ∧ (w'.heap[gb101]? = some (.cells #[.int .i64 0, .int .i64 0, .int .i64 0, .slice none 0 0] 26 (0, 0))) ∧ (w'.heap[gb102]? = some (.cells #[.int .i64 0, .int .i64 0, .int .i64 0, .slice none 0 0] 26 (0, 0))) ∧ (w'.heap[gb113]? = some (.cells #[.int .i64 t106, .int .i64 t107, .int .i64 t108, .slice Ao16 t109.length co16] 26 (0, 0))) ∧ (w'.heap[s_.2]? = some (.cells #[.int .i64 0, .int .i64 0, .int .i64 0, .slice none 0 0] 26 (0, 0))) ∧ (w.heap.size ≤ s_.2) ∧ (w.heap.size ≤ s_.2) ∧ (g105 ≠ s_.2) ∧ (s_.2 ≠ g105) ∧ (gb101 ≠ s_.2) ∧ (s_.2 ≠ gb101) ∧ (gb102 ≠ s_.2) ∧ (s_.2 ≠ gb102) ∧ (gb113 ≠ s_.2) ∧ (s_.2 ≠ gb113) ∧ (IsS87 w w' g105 t103 t118) ∧ (Below w.heap.size w w')) ?_ ?_
 rotate_left
 ·
  intro hCont
  refine two_ (i := 2) (j := 7) (Ni := some 15) (Nj := some 6) #[true, true, true, false, false, false, false, false, false, false] #[true, true, false, false, false, false, false, true, false, false] rfl rfl rfl rfl (two_of HT_.out (by kernel_rfl)) (by decide) (by decide) (fun K hK => ?_) (fun K hK => ?_)
  ·
   skip
   refine goes_ Try.func82 (by kernel_rfl) rfl #[.pointer (some ⟨g105, 0, none⟩)] (by rfl) rfl rfl (by simp only [List.map_toArray, List.map_cons, List.map_nil]; rfl) ?_
   with_reducible refine (spec_anyBox.calls k g105 t103 t112 t114 t115 t116 t117 t118 w _ ?side1 ?side2 A4.out).mono ?_
   (case side1 => repeat (first | (with_reducible first | exact HI105.out | apply IsS87.alloc | apply IsS87.drewN | apply IsS87.drew | apply IsS87.set_1 | refine IsS87.far ?_ NB105_101.out _ | refine IsS87.far ?_ NB105_102.out _ | refine IsS87.far ?_ NB105_113.out _) | exact HI105.out))
   (case side2 => repeat (first | (with_reducible first | exact HB.out | apply below_alloc | apply pw_below_drewN | apply below_drew1 | refine below_set ?_ (IsS87.ge HI105.out) | refine below_set ?_ GE101.out | refine below_set ?_ GE102.out | refine below_set ?_ GE113.out) | exact HB.out))
   rintro e w19 ⟨rfl, hi, hb, hk⟩
   refine ⟨_, rfl, ?_⟩
   replace BK101 := am_ (KeepBut.blk hk (by exact BK101.out) NB101_105.out (by simp))
   replace BK102 := am_ (KeepBut.blk hk (by exact BK102.out) NB102_105.out (by simp))
   replace HO111 := am_ (Kd.Q_mono (Kd.Q_keep (IsS87.apartQ (show IsS87 w _ g105 t103 t112 from by repeat (first | (with_reducible first | exact HI105.out | apply IsS87.alloc | apply IsS87.drewN | apply IsS87.drew | apply IsS87.set_1 | refine IsS87.far ?_ NB105_101.out _ | refine IsS87.far ?_ NB105_102.out _ | refine IsS87.far ?_ NB105_113.out _) | exact HI105.out)) (by exact HO111.out) (by decide)) hk (fun _ h => h.2)) (fun _ h => h.1))
   replace BK113 := am_ (KeepBut.blk hk (by exact BK113.out) NB113_105.out (by simp))
   replace HB := am_ (hb)
   replace HI105 := am_ (hi)
   (try clear hb)
   (try clear hb2)
   (try clear hk)
   (try clear hi)
   refine hK.out _ _ ⟨(blk_cell BK113.out 0).trans rfl, (blk_cell BK113.out 1).trans rfl, (blk_cell BK113.out 2).trans rfl, (blk_cell BK113.out 3).trans rfl⟩ (fun hHeld => ?_)
   clear hK K
   refine norm_ (a' := ?_) ?_ ?_
   rotate_left
   ·
    show Act.put _ (some 15) _ = _
    simp only [Act.put, List.setIfInBounds_toArray, List.set_cons_zero, List.set_cons_succ, i64_w, i32_w]
    rfl
   refine two_ (i := 3) (j := 7) (Ni := some 16) (Nj := some 6) #[true, true, true, true, false, false, false, false, false, false] #[true, true, true, false, false, false, false, true, false, false] rfl rfl rfl rfl (two_of HT_.out (by kernel_rfl)) (by decide) (by decide) (fun K hK => ?_) (fun K hK => ?_)
   ·
    skip
    refine goes_ Try.func81 (by kernel_rfl) rfl #[.agg #[.int .i64 t106, .int .i64 t107, .int .i64 t108, .slice Ao16 t109.length co16], .agg #[.int .i64 t114, .int .i64 t115, .int .i64 t116, .int .i64 t117]] (by rfl) rfl rfl (by simp only [List.map_toArray, List.map_cons, List.map_nil]; rfl) ?_
    with_reducible refine (spec_CropImage.calls k t106 t107 t108 _ _ t109 t114 t115 t116 t117 t119 t120 t121 t122 t125 _ ?side1 ?side2 A5.out).mono ?_
    (case side1 => repeat (first | exact (Kd.Q_reads' HO111.out).2.2 | (with_reducible refine Kd.C_alloc ?_ _) | (with_reducible refine Kd.C_drewN ?_ _) | (with_reducible refine Kd.C_drew ?_)))
    (case side2 => exact (Kd.Q_reads' HO111.out).2.1)
    rintro e w20 ⟨v123, rfl, ho0, hb⟩
    refine ⟨_, rfl, ?_⟩
    have HO124 := am_ (Kd.R_lower (Kd.R_new' ho0 (Kd.Q_lt (by exact HO111.out))) (below_size (by repeat (first | (with_reducible first | exact HB.out | apply below_alloc | apply pw_below_drewN | apply below_drew1 | refine below_set ?_ (IsS87.ge HI105.out) | refine below_set ?_ GE101.out | refine below_set ?_ GE102.out | refine below_set ?_ GE113.out) | exact HB.out))))
    replace HO111 := am_ (Kd.Q_elder' (by exact HO111.out) (Kd.R_base ho0) hb)
    replace BK101 := am_ (blk_below (by exact BK101.out) hb)
    replace BK102 := am_ (blk_below (by exact BK102.out) hb)
    replace BK113 := am_ (blk_below (by exact BK113.out) hb)
    replace HB := am_ (below_step (by repeat (first | (with_reducible first | exact HB.out | apply below_alloc | apply pw_below_drewN | apply below_drew1 | refine below_set ?_ (IsS87.ge HI105.out) | refine below_set ?_ GE101.out | refine below_set ?_ GE102.out | refine below_set ?_ GE113.out) | exact HB.out)) hb)
    replace HI105 := am_ (IsS87.below (by repeat (first | (with_reducible first | exact HI105.out | apply IsS87.alloc | apply IsS87.drewN | apply IsS87.drew | apply IsS87.set_1 | refine IsS87.far ?_ NB105_101.out _ | refine IsS87.far ?_ NB105_102.out _ | refine IsS87.far ?_ NB105_113.out _) | exact HI105.out)) hb)
    (try clear hb)
    (try clear hb2)
    (try clear hk)
    (try clear hi)
    (try clear ho0)
    refine hK.out _ _ ⟨(blk_cell BK113.out 0).trans rfl, (blk_cell BK113.out 1).trans rfl, (blk_cell BK113.out 2).trans rfl, (blk_cell BK113.out 3).trans rfl⟩ (fun hHeld => ?_)
    clear hK K
    refine norm_ (a' := ?_) ?_ ?_
    rotate_left
    ·
     show Act.put _ (some 16) _ = _
     simp only [Act.put, List.setIfInBounds_toArray, List.set_cons_zero, List.set_cons_succ, i64_w, i32_w]
     rfl
    refine pure_ (i := 4) (N := some 12) (v := ?_) (a' := ?_) #[true, true, true, true, true, false, false, false, false, false] rfl rfl (any_of HT_.out (by kernel_rfl)) (fun _ _ _ h => h) (Or.inl ⟨by rfl, ?_⟩) ?_ ?_
    rotate_left
    ·
     intro w'
     go_simp
     with_reducible rfl
    rotate_left
    ·
     simp only [Act.put, List.setIfInBounds_toArray, List.set_cons_zero, List.set_cons_succ, i64_w, i32_w]
     rfl
    refine pure_ (i := 5) (N := some 17) (v := ?_) (a' := ?_) #[true, true, true, true, true, true, false, false, false, false] rfl rfl (any_of HT_.out (by kernel_rfl)) (fun _ _ _ h => h) (Or.inl ⟨by rfl, ?_⟩) ?_ ?_
    rotate_left
    ·
     intro w'
     go_simp
     with_reducible rfl
    rotate_left
    ·
     simp only [Act.put, List.setIfInBounds_toArray, List.set_cons_zero, List.set_cons_succ, i64_w, i32_w]
     rfl
    refine pure_ (i := 6) (N := some 18) (v := ?_) (a' := ?_) #[true, true, true, true, true, true, true, false, false, false] rfl rfl (any_of HT_.out (by kernel_rfl)) (fun _ _ _ h => h) (Or.inl ⟨by rfl, ?_⟩) ?_ ?_
    rotate_left
    ·
     intro w'
     go_simp
     with_reducible rfl
    rotate_left
    ·
     simp only [Act.put, List.setIfInBounds_toArray, List.set_cons_zero, List.set_cons_succ, i64_w, i32_w]
     rfl
    refine one_ (i := 7) (N := some 6) #[true, true, true, true, true, true, true, true, false, false] rfl rfl (one_of HT_.out (by kernel_rfl)) (by decide) (fun K hK => ?_)
    refine box_step ?hg (N := 6) ?hd (cs := #[.int .i64 0, .int .i64 0, .int .i64 0, .slice none 0 0]) (t := 26) ?hr ?_; (case hd => rfl); (case hg => rfl); (case hr => first | (go_simp; done) | (go_simp; rfl))
    intro gb126 hg w21 hbox hb
    replace HO111 := am_ (Kd.Q_below (by exact HO111.out) hb)
    replace HO124 := am_ (Kd.R_below (by exact HO124.out) hb)
    have BK126 := am_ (hbox)
    have GW126 := am_ ((by rw [hg]; exact (below_size (by repeat (first | (with_reducible first | exact HB.out | apply below_alloc | apply pw_below_drewN | apply below_drew1 | refine below_set ?_ (IsS87.ge HI105.out) | refine below_set ?_ GE101.out | refine below_set ?_ GE102.out | refine below_set ?_ GE113.out) | exact HB.out))) : w.heap.size ≤ gb126))
    have GE126 := GW126
    replace HB := am_ (below_step (by repeat (first | (with_reducible first | exact HB.out | apply below_alloc | apply pw_below_drewN | apply below_drew1 | refine below_set ?_ (IsS87.ge HI105.out) | refine below_set ?_ GE101.out | refine below_set ?_ GE102.out | refine below_set ?_ GE113.out) | exact HB.out)) hb)
    have NB101_126 := am_ ((by rw [hg]; exact Nat.ne_of_lt (blk_lt (by exact BK101.out)) : gb101 ≠ gb126))
    have NB126_101 := am_ ((by rw [hg]; exact Nat.ne_of_gt (blk_lt (by exact BK101.out)) : gb126 ≠ gb101))
    replace BK101 := am_ (blk_below (by exact BK101.out) hb)
    have NB102_126 := am_ ((by rw [hg]; exact Nat.ne_of_lt (blk_lt (by exact BK102.out)) : gb102 ≠ gb126))
    have NB126_102 := am_ ((by rw [hg]; exact Nat.ne_of_gt (blk_lt (by exact BK102.out)) : gb126 ≠ gb102))
    replace BK102 := am_ (blk_below (by exact BK102.out) hb)
    have NB113_126 := am_ ((by rw [hg]; exact Nat.ne_of_lt (blk_lt (by exact BK113.out)) : gb113 ≠ gb126))
    have NB126_113 := am_ ((by rw [hg]; exact Nat.ne_of_gt (blk_lt (by exact BK113.out)) : gb126 ≠ gb113))
    replace BK113 := am_ (blk_below (by exact BK113.out) hb)
    have NB105_126 := am_ ((by rw [hg]; exact Nat.ne_of_lt (IsS87.lt (show IsS87 w _ g105 t103 t118 from by repeat (first | (with_reducible first | exact HI105.out | apply IsS87.alloc | apply IsS87.drewN | apply IsS87.drew | apply IsS87.set_1 | refine IsS87.far ?_ NB105_101.out _ | refine IsS87.far ?_ NB105_102.out _ | refine IsS87.far ?_ NB105_113.out _) | exact HI105.out))) : g105 ≠ gb126))
    have NB126_105 := am_ ((by rw [hg]; exact Nat.ne_of_gt (IsS87.lt (show IsS87 w _ g105 t103 t118 from by repeat (first | (with_reducible first | exact HI105.out | apply IsS87.alloc | apply IsS87.drewN | apply IsS87.drew | apply IsS87.set_1 | refine IsS87.far ?_ NB105_101.out _ | refine IsS87.far ?_ NB105_102.out _ | refine IsS87.far ?_ NB105_113.out _) | exact HI105.out))) : gb126 ≠ g105))
    replace HI105 := am_ (IsS87.below (by repeat (first | (with_reducible first | exact HI105.out | apply IsS87.alloc | apply IsS87.drewN | apply IsS87.drew | apply IsS87.set_1 | refine IsS87.far ?_ NB105_101.out _ | refine IsS87.far ?_ NB105_102.out _ | refine IsS87.far ?_ NB105_113.out _) | exact HI105.out)) hb)
    clear hb hbox hg
    refine hK.out _ _ ⟨(blk_cell BK113.out 0).trans rfl, (blk_cell BK113.out 1).trans rfl, (blk_cell BK113.out 2).trans rfl, (blk_cell BK113.out 3).trans rfl⟩ (fun hHeld => ?_)
    clear hK K
    refine norm_ (a' := ?_) ?_ ?_
    rotate_left
    ·
     show Act.put _ (some 6) _ = _
     simp only [Act.put, List.setIfInBounds_toArray, List.set_cons_zero, List.set_cons_succ, i64_w, i32_w]
     rfl
    exact norm_ (by simp only [putAll, Act.put, List.setIfInBounds_toArray, List.set_cons_zero, List.set_cons_succ]) (hCont (v123, gb126) _ ⟨hHeld, (by exact Kd.Q_mono HO111.out (fun _ hk => hk.2)), (by exact Kd.R_mono HO124.out (fun _ hk => hk.2)), (by exact BK101.out), (by exact BK102.out), (by exact BK113.out), (by exact BK126.out), GW126.out, GE126.out, NB105_126.out, NB126_105.out, NB101_126.out, NB126_101.out, NB102_126.out, NB126_102.out, NB113_126.out, NB126_113.out, (by repeat (first | (with_reducible first | exact HI105.out | apply IsS87.alloc | apply IsS87.drewN | apply IsS87.drew | apply IsS87.set_1 | refine IsS87.far ?_ NB105_101.out _ | refine IsS87.far ?_ NB105_102.out _ | refine IsS87.far ?_ NB105_113.out _ | refine IsS87.far ?_ NB105_126.out _) | exact HI105.out)), (by repeat (first | (with_reducible first | exact HB.out | apply below_alloc | apply pw_below_drewN | apply below_drew1 | refine below_set ?_ (IsS87.ge HI105.out) | refine below_set ?_ GE101.out | refine below_set ?_ GE102.out | refine below_set ?_ GE113.out | refine below_set ?_ GE126.out) | exact HB.out))⟩)
   skip
   refine box_step ?hg (N := 6) ?hd (cs := #[.int .i64 0, .int .i64 0, .int .i64 0, .slice none 0 0]) (t := 26) ?hr ?_; (case hd => rfl); (case hg => rfl); (case hr => first | (go_simp; done) | (go_simp; rfl))
   intro gb126 hg w20 hbox hb
   replace HO111 := am_ (Kd.Q_below (by exact HO111.out) hb)
   have BK126 := am_ (hbox)
   have GW126 := am_ ((by rw [hg]; exact (below_size (by repeat (first | (with_reducible first | exact HB.out | apply below_alloc | apply pw_below_drewN | apply below_drew1 | refine below_set ?_ (IsS87.ge HI105.out) | refine below_set ?_ GE101.out | refine below_set ?_ GE102.out | refine below_set ?_ GE113.out) | exact HB.out))) : w.heap.size ≤ gb126))
   have GE126 := GW126
   replace HB := am_ (below_step (by repeat (first | (with_reducible first | exact HB.out | apply below_alloc | apply pw_below_drewN | apply below_drew1 | refine below_set ?_ (IsS87.ge HI105.out) | refine below_set ?_ GE101.out | refine below_set ?_ GE102.out | refine below_set ?_ GE113.out) | exact HB.out)) hb)
   have NB101_126 := am_ ((by rw [hg]; exact Nat.ne_of_lt (blk_lt (by exact BK101.out)) : gb101 ≠ gb126))
   have NB126_101 := am_ ((by rw [hg]; exact Nat.ne_of_gt (blk_lt (by exact BK101.out)) : gb126 ≠ gb101))
   replace BK101 := am_ (blk_below (by exact BK101.out) hb)
   have NB102_126 := am_ ((by rw [hg]; exact Nat.ne_of_lt (blk_lt (by exact BK102.out)) : gb102 ≠ gb126))
   have NB126_102 := am_ ((by rw [hg]; exact Nat.ne_of_gt (blk_lt (by exact BK102.out)) : gb126 ≠ gb102))
   replace BK102 := am_ (blk_below (by exact BK102.out) hb)
   have NB113_126 := am_ ((by rw [hg]; exact Nat.ne_of_lt (blk_lt (by exact BK113.out)) : gb113 ≠ gb126))
   have NB126_113 := am_ ((by rw [hg]; exact Nat.ne_of_gt (blk_lt (by exact BK113.out)) : gb126 ≠ gb113))
   replace BK113 := am_ (blk_below (by exact BK113.out) hb)
   have NB105_126 := am_ ((by rw [hg]; exact Nat.ne_of_lt (IsS87.lt (show IsS87 w _ g105 t103 t118 from by repeat (first | (with_reducible first | exact HI105.out | apply IsS87.alloc | apply IsS87.drewN | apply IsS87.drew | apply IsS87.set_1 | refine IsS87.far ?_ NB105_101.out _ | refine IsS87.far ?_ NB105_102.out _ | refine IsS87.far ?_ NB105_113.out _) | exact HI105.out))) : g105 ≠ gb126))
   have NB126_105 := am_ ((by rw [hg]; exact Nat.ne_of_gt (IsS87.lt (show IsS87 w _ g105 t103 t118 from by repeat (first | (with_reducible first | exact HI105.out | apply IsS87.alloc | apply IsS87.drewN | apply IsS87.drew | apply IsS87.set_1 | refine IsS87.far ?_ NB105_101.out _ | refine IsS87.far ?_ NB105_102.out _ | refine IsS87.far ?_ NB105_113.out _) | exact HI105.out))) : gb126 ≠ g105))
   replace HI105 := am_ (IsS87.below (by repeat (first | (with_reducible first | exact HI105.out | apply IsS87.alloc | apply IsS87.drewN | apply IsS87.drew | apply IsS87.set_1 | refine IsS87.far ?_ NB105_101.out _ | refine IsS87.far ?_ NB105_102.out _ | refine IsS87.far ?_ NB105_113.out _) | exact HI105.out)) hb)
   clear hb hbox hg
   refine hK.out _ _ ⟨(blk_cell BK113.out 0).trans rfl, (blk_cell BK113.out 1).trans rfl, (blk_cell BK113.out 2).trans rfl, (blk_cell BK113.out 3).trans rfl⟩ (fun hHeld => ?_)
   clear hK K
   refine norm_ (a' := ?_) ?_ ?_
   rotate_left
   ·
    show Act.put _ (some 6) _ = _
    simp only [Act.put, List.setIfInBounds_toArray, List.set_cons_zero, List.set_cons_succ, i64_w, i32_w]
    rfl
   refine one_ (i := 3) (N := some 16) #[true, true, true, true, false, false, false, true, false, false] rfl rfl (one_of HT_.out (by kernel_rfl)) (by decide) (fun K hK => ?_)
   refine goes_ Try.func81 (by kernel_rfl) rfl #[.agg #[.int .i64 t106, .int .i64 t107, .int .i64 t108, .slice Ao16 t109.length co16], .agg #[.int .i64 t114, .int .i64 t115, .int .i64 t116, .int .i64 t117]] (by rfl) rfl rfl (by simp only [List.map_toArray, List.map_cons, List.map_nil]; rfl) ?_
   with_reducible refine (spec_CropImage.calls k t106 t107 t108 _ _ t109 t114 t115 t116 t117 t119 t120 t121 t122 t125 _ ?side1 ?side2 A5.out).mono ?_
   (case side1 => repeat (first | exact (Kd.Q_reads' HO111.out).2.2 | (with_reducible refine Kd.C_alloc ?_ _) | (with_reducible refine Kd.C_drewN ?_ _) | (with_reducible refine Kd.C_drew ?_)))
   (case side2 => exact (Kd.Q_reads' HO111.out).2.1)
   rintro e w21 ⟨v123, rfl, ho0, hb⟩
   refine ⟨_, rfl, ?_⟩
   have HO124 := am_ (Kd.R_lower (Kd.R_new' ho0 (Kd.Q_lt (by exact HO111.out))) (below_size (by repeat (first | (with_reducible first | exact HB.out | apply below_alloc | apply pw_below_drewN | apply below_drew1 | refine below_set ?_ (IsS87.ge HI105.out) | refine below_set ?_ GE101.out | refine below_set ?_ GE102.out | refine below_set ?_ GE113.out | refine below_set ?_ GE126.out) | exact HB.out))))
   replace HO111 := am_ (Kd.Q_elder' (by exact HO111.out) (Kd.R_base ho0) hb)
   replace BK101 := am_ (blk_below (by exact BK101.out) hb)
   replace BK102 := am_ (blk_below (by exact BK102.out) hb)
   replace BK113 := am_ (blk_below (by exact BK113.out) hb)
   replace BK126 := am_ (blk_below (by exact BK126.out) hb)
   replace HB := am_ (below_step (by repeat (first | (with_reducible first | exact HB.out | apply below_alloc | apply pw_below_drewN | apply below_drew1 | refine below_set ?_ (IsS87.ge HI105.out) | refine below_set ?_ GE101.out | refine below_set ?_ GE102.out | refine below_set ?_ GE113.out | refine below_set ?_ GE126.out) | exact HB.out)) hb)
   replace HI105 := am_ (IsS87.below (by repeat (first | (with_reducible first | exact HI105.out | apply IsS87.alloc | apply IsS87.drewN | apply IsS87.drew | apply IsS87.set_1 | refine IsS87.far ?_ NB105_101.out _ | refine IsS87.far ?_ NB105_102.out _ | refine IsS87.far ?_ NB105_113.out _ | refine IsS87.far ?_ NB105_126.out _) | exact HI105.out)) hb)
   (try clear hb)
   (try clear hb2)
   (try clear hk)
   (try clear hi)
   (try clear ho0)
   refine hK.out _ _ ⟨(blk_cell BK113.out 0).trans rfl, (blk_cell BK113.out 1).trans rfl, (blk_cell BK113.out 2).trans rfl, (blk_cell BK113.out 3).trans rfl⟩ (fun hHeld => ?_)
   clear hK K
   refine norm_ (a' := ?_) ?_ ?_
   rotate_left
   ·
    show Act.put _ (some 16) _ = _
    simp only [Act.put, List.setIfInBounds_toArray, List.set_cons_zero, List.set_cons_succ, i64_w, i32_w]
    rfl
   refine pure_ (i := 4) (N := some 12) (v := ?_) (a' := ?_) #[true, true, true, true, true, false, false, true, false, false] rfl rfl (any_of HT_.out (by kernel_rfl)) (fun _ _ _ h => h) (Or.inl ⟨by rfl, ?_⟩) ?_ ?_
   rotate_left
   ·
    intro w'
    go_simp
    with_reducible rfl
   rotate_left
   ·
    simp only [Act.put, List.setIfInBounds_toArray, List.set_cons_zero, List.set_cons_succ, i64_w, i32_w]
    rfl
   refine pure_ (i := 5) (N := some 17) (v := ?_) (a' := ?_) #[true, true, true, true, true, true, false, true, false, false] rfl rfl (any_of HT_.out (by kernel_rfl)) (fun _ _ _ h => h) (Or.inl ⟨by rfl, ?_⟩) ?_ ?_
   rotate_left
   ·
    intro w'
    go_simp
    with_reducible rfl
   rotate_left
   ·
    simp only [Act.put, List.setIfInBounds_toArray, List.set_cons_zero, List.set_cons_succ, i64_w, i32_w]
    rfl
   refine pure_ (i := 6) (N := some 18) (v := ?_) (a' := ?_) #[true, true, true, true, true, true, true, true, false, false] rfl rfl (any_of HT_.out (by kernel_rfl)) (fun _ _ _ h => h) (Or.inl ⟨by rfl, ?_⟩) ?_ ?_
   rotate_left
   ·
    intro w'
    go_simp
    with_reducible rfl
   rotate_left
   ·
    simp only [Act.put, List.setIfInBounds_toArray, List.set_cons_zero, List.set_cons_succ, i64_w, i32_w]
    rfl
   exact norm_ (by simp only [putAll, Act.put, List.setIfInBounds_toArray, List.set_cons_zero, List.set_cons_succ]) (hCont (v123, gb126) _ ⟨hHeld, (by exact Kd.Q_mono HO111.out (fun _ hk => hk.2)), (by exact Kd.R_mono HO124.out (fun _ hk => hk.2)), (by exact BK101.out), (by exact BK102.out), (by exact BK113.out), (by exact BK126.out), GW126.out, GE126.out, NB105_126.out, NB126_105.out, NB101_126.out, NB126_101.out, NB102_126.out, NB126_102.out, NB113_126.out, NB126_113.out, (by repeat (first | (with_reducible first | exact HI105.out | apply IsS87.alloc | apply IsS87.drewN | apply IsS87.drew | apply IsS87.set_1 | refine IsS87.far ?_ NB105_101.out _ | refine IsS87.far ?_ NB105_102.out _ | refine IsS87.far ?_ NB105_113.out _ | refine IsS87.far ?_ NB105_126.out _) | exact HI105.out)), (by repeat (first | (with_reducible first | exact HB.out | apply below_alloc | apply pw_below_drewN | apply below_drew1 | refine below_set ?_ (IsS87.ge HI105.out) | refine below_set ?_ GE101.out | refine below_set ?_ GE102.out | refine below_set ?_ GE113.out | refine below_set ?_ GE126.out) | exact HB.out))⟩)
  skip
  refine box_step ?hg (N := 6) ?hd (cs := #[.int .i64 0, .int .i64 0, .int .i64 0, .slice none 0 0]) (t := 26) ?hr ?_; (case hd => rfl); (case hg => rfl); (case hr => first | (go_simp; done) | (go_simp; rfl))
  intro gb126 hg w19 hbox hb
  replace HO111 := am_ (Kd.Q_below (by exact HO111.out) hb)
  have BK126 := am_ (hbox)
  have GW126 := am_ ((by rw [hg]; exact (below_size (by repeat (first | (with_reducible first | exact HB.out | apply below_alloc | apply pw_below_drewN | apply below_drew1 | refine below_set ?_ (IsS87.ge HI105.out) | refine below_set ?_ GE101.out | refine below_set ?_ GE102.out | refine below_set ?_ GE113.out) | exact HB.out))) : w.heap.size ≤ gb126))
  have GE126 := GW126
  replace HB := am_ (below_step (by repeat (first | (with_reducible first | exact HB.out | apply below_alloc | apply pw_below_drewN | apply below_drew1 | refine below_set ?_ (IsS87.ge HI105.out) | refine below_set ?_ GE101.out | refine below_set ?_ GE102.out | refine below_set ?_ GE113.out) | exact HB.out)) hb)
  have NB101_126 := am_ ((by rw [hg]; exact Nat.ne_of_lt (blk_lt (by exact BK101.out)) : gb101 ≠ gb126))
  have NB126_101 := am_ ((by rw [hg]; exact Nat.ne_of_gt (blk_lt (by exact BK101.out)) : gb126 ≠ gb101))
  replace BK101 := am_ (blk_below (by exact BK101.out) hb)
  have NB102_126 := am_ ((by rw [hg]; exact Nat.ne_of_lt (blk_lt (by exact BK102.out)) : gb102 ≠ gb126))
  have NB126_102 := am_ ((by rw [hg]; exact Nat.ne_of_gt (blk_lt (by exact BK102.out)) : gb126 ≠ gb102))
  replace BK102 := am_ (blk_below (by exact BK102.out) hb)
  have NB113_126 := am_ ((by rw [hg]; exact Nat.ne_of_lt (blk_lt (by exact BK113.out)) : gb113 ≠ gb126))
  have NB126_113 := am_ ((by rw [hg]; exact Nat.ne_of_gt (blk_lt (by exact BK113.out)) : gb126 ≠ gb113))
  replace BK113 := am_ (blk_below (by exact BK113.out) hb)
  have NB105_126 := am_ ((by rw [hg]; exact Nat.ne_of_lt (IsS87.lt (show IsS87 w _ g105 t103 t112 from by repeat (first | (with_reducible first | exact HI105.out | apply IsS87.alloc | apply IsS87.drewN | apply IsS87.drew | apply IsS87.set_1 | refine IsS87.far ?_ NB105_101.out _ | refine IsS87.far ?_ NB105_102.out _ | refine IsS87.far ?_ NB105_113.out _) | exact HI105.out))) : g105 ≠ gb126))
  have NB126_105 := am_ ((by rw [hg]; exact Nat.ne_of_gt (IsS87.lt (show IsS87 w _ g105 t103 t112 from by repeat (first | (with_reducible first | exact HI105.out | apply IsS87.alloc | apply IsS87.drewN | apply IsS87.drew | apply IsS87.set_1 | refine IsS87.far ?_ NB105_101.out _ | refine IsS87.far ?_ NB105_102.out _ | refine IsS87.far ?_ NB105_113.out _) | exact HI105.out))) : gb126 ≠ g105))
  replace HI105 := am_ (IsS87.below (by repeat (first | (with_reducible first | exact HI105.out | apply IsS87.alloc | apply IsS87.drewN | apply IsS87.drew | apply IsS87.set_1 | refine IsS87.far ?_ NB105_101.out _ | refine IsS87.far ?_ NB105_102.out _ | refine IsS87.far ?_ NB105_113.out _) | exact HI105.out)) hb)
  clear hb hbox hg
  refine hK.out _ _ ⟨(blk_cell BK113.out 0).trans rfl, (blk_cell BK113.out 1).trans rfl, (blk_cell BK113.out 2).trans rfl, (blk_cell BK113.out 3).trans rfl⟩ (fun hHeld => ?_)
  clear hK K
  refine norm_ (a' := ?_) ?_ ?_
  rotate_left
  ·
   show Act.put _ (some 6) _ = _
   simp only [Act.put, List.setIfInBounds_toArray, List.set_cons_zero, List.set_cons_succ, i64_w, i32_w]
   rfl
  refine one_ (i := 2) (N := some 15) #[true, true, true, false, false, false, false, true, false, false] rfl rfl (one_of HT_.out (by kernel_rfl)) (by decide) (fun K hK => ?_)
  refine goes_ Try.func82 (by kernel_rfl) rfl #[.pointer (some ⟨g105, 0, none⟩)] (by rfl) rfl rfl (by simp only [List.map_toArray, List.map_cons, List.map_nil]; rfl) ?_
  with_reducible refine (spec_anyBox.calls k g105 t103 t112 t114 t115 t116 t117 t118 w _ ?side1 ?side2 A4.out).mono ?_
  (case side1 => repeat (first | (with_reducible first | exact HI105.out | apply IsS87.alloc | apply IsS87.drewN | apply IsS87.drew | apply IsS87.set_1 | refine IsS87.far ?_ NB105_101.out _ | refine IsS87.far ?_ NB105_102.out _ | refine IsS87.far ?_ NB105_113.out _ | refine IsS87.far ?_ NB105_126.out _) | exact HI105.out))
  (case side2 => repeat (first | (with_reducible first | exact HB.out | apply below_alloc | apply pw_below_drewN | apply below_drew1 | refine below_set ?_ (IsS87.ge HI105.out) | refine below_set ?_ GE101.out | refine below_set ?_ GE102.out | refine below_set ?_ GE113.out | refine below_set ?_ GE126.out) | exact HB.out))
  rintro e w20 ⟨rfl, hi, hb, hk⟩
  refine ⟨_, rfl, ?_⟩
  replace BK101 := am_ (KeepBut.blk hk (by exact BK101.out) NB101_105.out (by simp))
  replace BK102 := am_ (KeepBut.blk hk (by exact BK102.out) NB102_105.out (by simp))
  replace HO111 := am_ (Kd.Q_mono (Kd.Q_keep (IsS87.apartQ (show IsS87 w _ g105 t103 t112 from by repeat (first | (with_reducible first | exact HI105.out | apply IsS87.alloc | apply IsS87.drewN | apply IsS87.drew | apply IsS87.set_1 | refine IsS87.far ?_ NB105_101.out _ | refine IsS87.far ?_ NB105_102.out _ | refine IsS87.far ?_ NB105_113.out _ | refine IsS87.far ?_ NB105_126.out _) | exact HI105.out)) (by exact HO111.out) (by decide)) hk (fun _ h => h.2)) (fun _ h => h.1))
  replace BK113 := am_ (KeepBut.blk hk (by exact BK113.out) NB113_105.out (by simp))
  replace BK126 := am_ (KeepBut.blk hk (by exact BK126.out) NB126_105.out (by simp))
  replace HB := am_ (hb)
  replace HI105 := am_ (hi)
  (try clear hb)
  (try clear hb2)
  (try clear hk)
  (try clear hi)
  refine hK.out _ _ ⟨(blk_cell BK113.out 0).trans rfl, (blk_cell BK113.out 1).trans rfl, (blk_cell BK113.out 2).trans rfl, (blk_cell BK113.out 3).trans rfl⟩ (fun hHeld => ?_)
  clear hK K
  refine norm_ (a' := ?_) ?_ ?_
  rotate_left
  ·
   show Act.put _ (some 15) _ = _
   simp only [Act.put, List.setIfInBounds_toArray, List.set_cons_zero, List.set_cons_succ, i64_w, i32_w]
   rfl
  refine one_ (i := 3) (N := some 16) #[true, true, true, true, false, false, false, true, false, false] rfl rfl (one_of HT_.out (by kernel_rfl)) (by decide) (fun K hK => ?_)
  refine goes_ Try.func81 (by kernel_rfl) rfl #[.agg #[.int .i64 t106, .int .i64 t107, .int .i64 t108, .slice Ao16 t109.length co16], .agg #[.int .i64 t114, .int .i64 t115, .int .i64 t116, .int .i64 t117]] (by rfl) rfl rfl (by simp only [List.map_toArray, List.map_cons, List.map_nil]; rfl) ?_
  with_reducible refine (spec_CropImage.calls k t106 t107 t108 _ _ t109 t114 t115 t116 t117 t119 t120 t121 t122 t125 _ ?side1 ?side2 A5.out).mono ?_
  (case side1 => repeat (first | exact (Kd.Q_reads' HO111.out).2.2 | (with_reducible refine Kd.C_alloc ?_ _) | (with_reducible refine Kd.C_drewN ?_ _) | (with_reducible refine Kd.C_drew ?_)))
  (case side2 => exact (Kd.Q_reads' HO111.out).2.1)
  rintro e w21 ⟨v123, rfl, ho0, hb⟩
  refine ⟨_, rfl, ?_⟩
  have HO124 := am_ (Kd.R_lower (Kd.R_new' ho0 (Kd.Q_lt (by exact HO111.out))) (below_size (by repeat (first | (with_reducible first | exact HB.out | apply below_alloc | apply pw_below_drewN | apply below_drew1 | refine below_set ?_ (IsS87.ge HI105.out) | refine below_set ?_ GE101.out | refine below_set ?_ GE102.out | refine below_set ?_ GE113.out | refine below_set ?_ GE126.out) | exact HB.out))))
  replace HO111 := am_ (Kd.Q_elder' (by exact HO111.out) (Kd.R_base ho0) hb)
  replace BK101 := am_ (blk_below (by exact BK101.out) hb)
  replace BK102 := am_ (blk_below (by exact BK102.out) hb)
  replace BK113 := am_ (blk_below (by exact BK113.out) hb)
  replace BK126 := am_ (blk_below (by exact BK126.out) hb)
  replace HB := am_ (below_step (by repeat (first | (with_reducible first | exact HB.out | apply below_alloc | apply pw_below_drewN | apply below_drew1 | refine below_set ?_ (IsS87.ge HI105.out) | refine below_set ?_ GE101.out | refine below_set ?_ GE102.out | refine below_set ?_ GE113.out | refine below_set ?_ GE126.out) | exact HB.out)) hb)
  replace HI105 := am_ (IsS87.below (by repeat (first | (with_reducible first | exact HI105.out | apply IsS87.alloc | apply IsS87.drewN | apply IsS87.drew | apply IsS87.set_1 | refine IsS87.far ?_ NB105_101.out _ | refine IsS87.far ?_ NB105_102.out _ | refine IsS87.far ?_ NB105_113.out _ | refine IsS87.far ?_ NB105_126.out _) | exact HI105.out)) hb)
  (try clear hb)
  (try clear hb2)
  (try clear hk)
  (try clear hi)
  (try clear ho0)
  refine hK.out _ _ ⟨(blk_cell BK113.out 0).trans rfl, (blk_cell BK113.out 1).trans rfl, (blk_cell BK113.out 2).trans rfl, (blk_cell BK113.out 3).trans rfl⟩ (fun hHeld => ?_)
  clear hK K
  refine norm_ (a' := ?_) ?_ ?_
  rotate_left
  ·
   show Act.put _ (some 16) _ = _
   simp only [Act.put, List.setIfInBounds_toArray, List.set_cons_zero, List.set_cons_succ, i64_w, i32_w]
   rfl
  refine pure_ (i := 4) (N := some 12) (v := ?_) (a' := ?_) #[true, true, true, true, true, false, false, true, false, false] rfl rfl (any_of HT_.out (by kernel_rfl)) (fun _ _ _ h => h) (Or.inl ⟨by rfl, ?_⟩) ?_ ?_
  rotate_left
  ·
   intro w'
   go_simp
   with_reducible rfl
  rotate_left
  ·
   simp only [Act.put, List.setIfInBounds_toArray, List.set_cons_zero, List.set_cons_succ, i64_w, i32_w]
   rfl
  refine pure_ (i := 5) (N := some 17) (v := ?_) (a' := ?_) #[true, true, true, true, true, true, false, true, false, false] rfl rfl (any_of HT_.out (by kernel_rfl)) (fun _ _ _ h => h) (Or.inl ⟨by rfl, ?_⟩) ?_ ?_
  rotate_left
  ·
   intro w'
   go_simp
   with_reducible rfl
  rotate_left
  ·
   simp only [Act.put, List.setIfInBounds_toArray, List.set_cons_zero, List.set_cons_succ, i64_w, i32_w]
   rfl
  refine pure_ (i := 6) (N := some 18) (v := ?_) (a' := ?_) #[true, true, true, true, true, true, true, true, false, false] rfl rfl (any_of HT_.out (by kernel_rfl)) (fun _ _ _ h => h) (Or.inl ⟨by rfl, ?_⟩) ?_ ?_
  rotate_left
  ·
   intro w'
   go_simp
   with_reducible rfl
  rotate_left
  ·
   simp only [Act.put, List.setIfInBounds_toArray, List.set_cons_zero, List.set_cons_succ, i64_w, i32_w]
   rfl
  exact norm_ (by simp only [putAll, Act.put, List.setIfInBounds_toArray, List.set_cons_zero, List.set_cons_succ]) (hCont (v123, gb126) _ ⟨hHeld, (by exact Kd.Q_mono HO111.out (fun _ hk => hk.2)), (by exact Kd.R_mono HO124.out (fun _ hk => hk.2)), (by exact BK101.out), (by exact BK102.out), (by exact BK113.out), (by exact BK126.out), GW126.out, GE126.out, NB105_126.out, NB126_105.out, NB101_126.out, NB126_101.out, NB102_126.out, NB126_102.out, NB113_126.out, NB126_113.out, (by repeat (first | (with_reducible first | exact HI105.out | apply IsS87.alloc | apply IsS87.drewN | apply IsS87.drew | apply IsS87.set_1 | refine IsS87.far ?_ NB105_101.out _ | refine IsS87.far ?_ NB105_102.out _ | refine IsS87.far ?_ NB105_113.out _ | refine IsS87.far ?_ NB105_126.out _) | exact HI105.out)), (by repeat (first | (with_reducible first | exact HB.out | apply below_alloc | apply pw_below_drewN | apply below_drew1 | refine below_set ?_ (IsS87.ge HI105.out) | refine below_set ?_ GE101.out | refine below_set ?_ GE102.out | refine below_set ?_ GE113.out | refine below_set ?_ GE126.out) | exact HB.out))⟩)
 rintro ⟨v123, gb126⟩ w22 ⟨hS_, h0_, h1_, h2_, h3_, h4_, h5_, h6_, h7_, h8_, h9_, h10_, h11_, h12_, h13_, h14_, h15_, h16_, h17_⟩
 have n0_ : Aside0 (Kd.Q (Kd.int .i64) 3 w22 w.heap.size (fun k_ => some k_ ≠ (v123 : Value).ownBlock) (.slice Ao16 t109.length co16) t109) := ⟨h0_⟩
 have n1_ : Aside0 (Kd.R (Kd.int .i64) 3 w22 w.heap.size (fun k_ => some k_ ≠ (.slice Ao16 t109.length co16 : Value).ownBlock) v123 t122) := ⟨h1_⟩
 have n2_ : Aside0 (w22.heap[gb101]? = some (.cells #[.int .i64 0, .int .i64 0, .int .i64 0, .slice none 0 0] 26 (0, 0))) := ⟨h2_⟩
 have n3_ : Aside0 (w22.heap[gb102]? = some (.cells #[.int .i64 0, .int .i64 0, .int .i64 0, .slice none 0 0] 26 (0, 0))) := ⟨h3_⟩
 have n4_ : Aside0 (w22.heap[gb113]? = some (.cells #[.int .i64 t106, .int .i64 t107, .int .i64 t108, .slice Ao16 t109.length co16] 26 (0, 0))) := ⟨h4_⟩
 have n5_ : Aside0 (w22.heap[gb126]? = some (.cells #[.int .i64 0, .int .i64 0, .int .i64 0, .slice none 0 0] 26 (0, 0))) := ⟨h5_⟩
 have n6_ : Aside0 (w.heap.size ≤ gb126) := ⟨h6_⟩
 have n7_ : Aside0 (w.heap.size ≤ gb126) := ⟨h7_⟩
 have n8_ : Aside0 (g105 ≠ gb126) := ⟨h8_⟩
 have n9_ : Aside0 (gb126 ≠ g105) := ⟨h9_⟩
 have n10_ : Aside0 (gb101 ≠ gb126) := ⟨h10_⟩
 have n11_ : Aside0 (gb126 ≠ gb101) := ⟨h11_⟩
 have n12_ : Aside0 (gb102 ≠ gb126) := ⟨h12_⟩
 have n13_ : Aside0 (gb126 ≠ gb102) := ⟨h13_⟩
 have n14_ : Aside0 (gb113 ≠ gb126) := ⟨h14_⟩
 have n15_ : Aside0 (gb126 ≠ gb113) := ⟨h15_⟩
 have n16_ : Aside0 (IsS87 w w22 g105 t103 t118) := ⟨h16_⟩
 have n17_ : Aside0 (Below w.heap.size w w22) := ⟨h17_⟩
 clear HO111
 clear BK101
 clear BK102
 clear BK113
 clear HI105
 clear HB
 clear h0_ h1_ h2_ h3_ h4_ h5_ h6_ h7_ h8_ h9_ h10_ h11_ h12_ h13_ h14_ h15_ h16_ h17_
 have HO111 := n0_
 have HO124 := n1_
 have BK101 := n2_
 have BK102 := n3_
 have BK113 := n4_
 have BK126 := n5_
 have GW126 := n6_
 have GE126 := n7_
 have NB105_126 := n8_
 have NB126_105 := n9_
 have NB101_126 := n10_
 have NB126_101 := n11_
 have NB102_126 := n12_
 have NB126_102 := n13_
 have NB113_126 := n14_
 have NB126_113 := n15_
 have HI105 := n16_
 have HB := n17_
 clear n0_ n1_ n2_ n3_ n4_ n5_ n6_ n7_ n8_ n9_ n10_ n11_ n12_ n13_ n14_ n15_ n16_ n17_
 have hHeld : w22.cell? ⟨gb113, 0, none⟩ = some (.int .i64 t106) ∧ w22.cell? ⟨gb113, 1, none⟩ = some (.int .i64 t107) ∧ w22.cell? ⟨gb113, 2, none⟩ = some (.int .i64 t108) ∧ w22.cell? ⟨gb113, 3, none⟩ = some (.slice Ao16 t109.length co16) := hS_
 obtain ⟨Ao26, co26, eo26⟩ := Kd.R_slice HO124.out
 (first | subst eo26 | (injection eo26 with f1_ f2_ f3_; have f4_ := f1_.symm; have f5_ := f3_.symm; clear f1_ f2_ f3_; subst f4_; subst f5_))
 refine norm_ (a' := ?_) ?_ ?_
 rotate_left
 ·
  simp only [putAll, Act.put, List.setIfInBounds_toArray, List.set_cons_zero, List.set_cons_succ]
  rfl
 refine one_ (i := 8) (N := none) #[true, true, true, true, true, true, true, true, true, false] rfl rfl (one_of HT_.out (by kernel_rfl)) (by decide) (fun K hK => ?_)
 have hs23 : w22.cell? ⟨gb126, 0, none⟩ = some (.int .i64 0) := (blk_cell BK126.out 0).trans rfl
 have hfs23 := blk_frozen BK126.out 0
 have hns23_0 := NB101_126.out
 have hns23_1 := NB102_126.out
 have hns23_2 := NB113_126.out
 have hms23_0 := NB126_101.out
 have hms23_1 := NB126_102.out
 have hms23_2 := NB126_113.out
 have hs24 : w22.cell? ⟨gb126, 1, none⟩ = some (.int .i64 0) := (blk_cell BK126.out 1).trans rfl
 have hfs24 := blk_frozen BK126.out 1
 have hns24_0 := NB101_126.out
 have hns24_1 := NB102_126.out
 have hns24_2 := NB113_126.out
 have hms24_0 := NB126_101.out
 have hms24_1 := NB126_102.out
 have hms24_2 := NB126_113.out
 have hs25 : w22.cell? ⟨gb126, 2, none⟩ = some (.int .i64 0) := (blk_cell BK126.out 2).trans rfl
 have hfs25 := blk_frozen BK126.out 2
 have hns25_0 := NB101_126.out
 have hns25_1 := NB102_126.out
 have hns25_2 := NB113_126.out
 have hms25_0 := NB126_101.out
 have hms25_1 := NB126_102.out
 have hms25_2 := NB126_113.out
 have hs27 : w22.cell? ⟨gb126, 3, none⟩ = some (.slice none 0 0) := (blk_cell BK126.out 3).trans rfl
 have hfs27 := blk_frozen BK126.out 3
 have hns27_0 := NB101_126.out
 have hns27_1 := NB102_126.out
 have hns27_2 := NB113_126.out
 have hms27_0 := NB126_101.out
 have hms27_1 := NB126_102.out
 have hms27_2 := NB126_113.out
 refine skip_ (w1 := ?_) (by rfl) rfl ?_ ?_
 rotate_left
 ·
  go_simp
  rfl
 refine hK.out _ _ ⟨((cell_far (p := ⟨gb126, _, none⟩) NB113_126.out _).trans (((cell_far (p := ⟨gb126, _, none⟩) NB113_126.out _).trans (((cell_far (p := ⟨gb126, _, none⟩) NB113_126.out _).trans (((cell_far (p := ⟨gb126, _, none⟩) NB113_126.out _).trans (hHeld.1)))))))), ((cell_far (p := ⟨gb126, _, none⟩) NB113_126.out _).trans (((cell_far (p := ⟨gb126, _, none⟩) NB113_126.out _).trans (((cell_far (p := ⟨gb126, _, none⟩) NB113_126.out _).trans (((cell_far (p := ⟨gb126, _, none⟩) NB113_126.out _).trans (hHeld.2.1)))))))), ((cell_far (p := ⟨gb126, _, none⟩) NB113_126.out _).trans (((cell_far (p := ⟨gb126, _, none⟩) NB113_126.out _).trans (((cell_far (p := ⟨gb126, _, none⟩) NB113_126.out _).trans (((cell_far (p := ⟨gb126, _, none⟩) NB113_126.out _).trans (hHeld.2.2.1)))))))), ((cell_far (p := ⟨gb126, _, none⟩) NB113_126.out _).trans (((cell_far (p := ⟨gb126, _, none⟩) NB113_126.out _).trans (((cell_far (p := ⟨gb126, _, none⟩) NB113_126.out _).trans (((cell_far (p := ⟨gb126, _, none⟩) NB113_126.out _).trans (hHeld.2.2.2))))))))⟩ (fun hHeld => ?_)
 clear hK K
 refine pure_ (i := 9) (N := some 7) (v := ?_) (a' := ?_) #[true, true, true, true, true, true, true, true, true, true] rfl rfl (any_of HT_.out (by kernel_rfl)) (fun _ _ _ h => h) (Or.inl ⟨by rfl, ?_⟩) ?_ ?_
 rotate_left
 ·
  intro w'
  go_simp
  with_reducible rfl
 rotate_left
 ·
  simp only [Act.put, List.setIfInBounds_toArray, List.set_cons_zero, List.set_cons_succ, i64_w, i32_w]
  rfl
 refine done_ (done_of HT_.out (by kernel_rfl)) ?_
 go_upto_if 20 with (fail)
 go_cut [] (fun wc => ∃ (kq : Nat) (x106001_5 : Int) (x127000_5 : Int) (x127001_5 : Int) (x127002_5 : Int) (x127003_5 : List Int) (u127003 : Value), Aside0 (spec_DrawFindImage.j0 kq t103 x106001_5 t106 t107 t108 t109 x127000_5 x127001_5 x127002_5 x127003_5 = some (r1, r2, r3, r4, r5, r6, r7, r8)) ∧ Aside0 (kq ≤ k) ∧ Aside0 (Kd.Q (Kd.int .i64) 3 wc w.heap.size (fun k_ => some k_ ≠ (u127003 : Value).ownBlock) (.slice Ao16 t109.length co16) t109) ∧ Aside0 (Kd.Q (Kd.int .i64) 3 wc w.heap.size (fun k_ => some k_ ≠ ((.slice Ao16 t109.length co16) : Value).ownBlock) u127003 x127003_5) ∧ Aside0 (wc.heap[gb101]? = some (.cells #[.int .i64 0, .int .i64 0, .int .i64 0, (.slice none 0 0)] 26 (0, 0))) ∧ Aside0 (wc.heap[gb102]? = some (.cells #[.int .i64 0, .int .i64 0, .int .i64 0, (.slice none 0 0)] 26 (0, 0))) ∧ Aside0 (wc.heap[gb113]? = some (.cells #[.int .i64 t106, .int .i64 t107, .int .i64 t108, (.slice Ao16 t109.length co16)] 26 (0, 0))) ∧ Aside0 (wc.heap[gb126]? = some (.cells #[.int .i64 x127000_5, .int .i64 x127001_5, .int .i64 x127002_5, u127003] 26 (0, 0))) ∧ Aside0 (IsS87 w wc g105 t103 x106001_5) ∧ Aside0 (Below w.heap.size w wc))
 case first =>
  have H := HC6.out
  clear HC6
  by_cases c28 : t125 = true
  ·
   subst c28
   have H1 : (spec_DrawFindImage.j0 k t103 t118 t106 t107 t108 t109 t119 t120 t121 t122) = some (r1, r2, r3, r4, r5, r6, r7, r8) := by rw [if_pos rfl] at H; exact H
   clear H
   have H := H1
   clear H1
   have H' := Aside0.mk H
   clear H
   go_wp2
   go_meet
   case rel => exact ⟨_, (t118), (t119), (t120), (t121), (t122), (.slice Ao26 t122.length co26), H', ⟨by first | omega | exact Nat.le_refl _⟩, ⟨by exact Kd.Q_mono (Kd.Q_far (p := ⟨gb126, 3, none⟩) (Kd.Q_far (p := ⟨gb126, 2, none⟩) (Kd.Q_far (p := ⟨gb126, 1, none⟩) (Kd.Q_far (p := ⟨gb126, 0, none⟩) (Kd.Q_types HO111.out BK126.out (by decide)) (fun _ hk => hk.2) (.int .i64 t119)) (fun _ hk => hk.2) (.int .i64 t120)) (fun _ hk => hk.2) (.int .i64 t121)) (fun _ hk => hk.2) (.slice Ao26 t122.length co26)) (fun _ hk => hk.1)⟩, ⟨Kd.Q_of_R (by exact Kd.R_mono (Kd.R_far (p := ⟨gb126, 3, none⟩) (Kd.R_far (p := ⟨gb126, 2, none⟩) (Kd.R_far (p := ⟨gb126, 1, none⟩) (Kd.R_far (p := ⟨gb126, 0, none⟩) (Kd.R_types HO124.out BK126.out (by decide)) (fun _ hk => hk.2) (.int .i64 t119)) (fun _ hk => hk.2) (.int .i64 t120)) (fun _ hk => hk.2) (.int .i64 t121)) (fun _ hk => hk.2) (.slice Ao26 t122.length co26)) (fun _ hk => hk.1))⟩, ⟨by exact far4_ BK101.out NB101_126.out _ _ _ _⟩, ⟨by exact far4_ BK102.out NB102_126.out _ _ _ _⟩, ⟨by exact far4_ BK113.out NB113_126.out _ _ _ _⟩, ⟨by exact put4_ BK126.out _ _ _ _⟩, ⟨by repeat (first | (with_reducible first | exact HI105.out | apply IsS87.alloc | apply IsS87.drewN | apply IsS87.drew | apply IsS87.set_1 | refine IsS87.far ?_ NB105_101.out _ | refine IsS87.far ?_ NB105_102.out _ | refine IsS87.far ?_ NB105_113.out _ | refine IsS87.far ?_ NB105_126.out _) | exact HI105.out)⟩, ⟨by repeat (first | (with_reducible first | exact HB.out | apply below_alloc | apply pw_below_drewN | apply below_drew1 | refine below_set ?_ (IsS87.ge HI105.out) | refine below_set ?_ GE101.out | refine below_set ?_ GE102.out | refine below_set ?_ GE113.out | refine below_set ?_ GE126.out) | exact HB.out)⟩⟩
  replace c28 := Bool.eq_false_iff.mpr c28
  subst c28
  have H1 : ((spec_randomImage.f k t103 t118 (mx 1 (mn 4 t108))).bind fun bt127 => (spec_DrawFindImage.j0 k t103 bt127.2.2.2.2 t106 t107 t108 t109 bt127.1 bt127.2.1 bt127.2.2.1 bt127.2.2.2.1)) = some (r1, r2, r3, r4, r5, r6, r7, r8) := by rw [if_neg (show ¬ (false = true) by decide)] at H; exact H
  clear H
  have H := H1
  clear H1
  obtain ⟨ji29, hji29⟩ : ∃ j_ : Int, (mn 4 t108) = j_ := ⟨_, rfl⟩
  replace H : ((spec_randomImage.f k t103 t118 (mx 1 (ji29))).bind fun bt127 => (spec_DrawFindImage.j0 k t103 bt127.2.2.2.2 t106 t107 t108 t109 bt127.1 bt127.2.1 bt127.2.2.1 bt127.2.2.2.1)) = some (r1, r2, r3, r4, r5, r6, r7, r8) := by first | (rw [hji29] at H; exact H) | (simp only [hji29] at H ⊢; exact H)
  (try (have hji29h : ji29 ≤ 4 := by (rw [← hji29]; unfold mn; (repeat' split) <;> omega)))
  (try (have hji29g : ji29 ≤ 64 := by omega))
  have hji29_ : (if t108 < 4 then t108 else 4) = ji29 := hji29
  obtain ⟨ji30, hji30⟩ : ∃ j_ : Int, (mx 1 (ji29)) = j_ := ⟨_, rfl⟩
  replace H : ((spec_randomImage.f k t103 t118 (ji30)).bind fun bt127 => (spec_DrawFindImage.j0 k t103 bt127.2.2.2.2 t106 t107 t108 t109 bt127.1 bt127.2.1 bt127.2.2.1 bt127.2.2.2.1)) = some (r1, r2, r3, r4, r5, r6, r7, r8) := by first | (rw [hji30] at H; exact H) | (simp only [hji30] at H ⊢; exact H)
  have hji30_ : (if 1 < (ji29) then (ji29) else 1) = ji30 := hji30
  replace H := Option.bind_eq_some_iff.mp H
  obtain ⟨⟨t127, t128, t129, t130, t133⟩, A310, H⟩ := H
  replace H : (spec_DrawFindImage.j0 k t103 t133 t106 t107 t108 t109 t127 t128 t129 t130) = some (r1, r2, r3, r4, r5, r6, r7, r8) := H
  have A31 := Aside0.mk A310
  clear A310
  have H' := Aside0.mk H
  clear H
  have hnb32 := NB113_101.out
  have hnc32 := NB101_113.out
  have hnb33 := NB113_102.out
  have hnc33 := NB102_113.out
  have hnb34 := NB113_126.out
  have hnc34 := NB126_113.out
  have hnb35 := NB113_105.out
  have hnc35 := NB105_113.out
  obtain ⟨hcz36_0, hcz36_1, hcz36_2, hcz36_3, hfz36_0, hfz36_1, hfz36_2, hfz36_3⟩ := blk4_ BK113.out
  go_wp2_with (first | ((with_reducible refine gate_callee (f := 71) rfl ?_); refine goesL_ (some 26) rfl rfl Try.func71 (by kernel_rfl) rfl #[.pointer (some ⟨g105, 0, none⟩), .int .i64 ji30] rfl (by (try simp only [List.map_toArray, List.map_cons, List.map_nil]); first | done | (simp only [hji30]; rfl) | rfl | (simp only [List.length_drop, List.length_take]; rfl)) ?_; (with_reducible refine (spec_randomImage.calls k g105 t103 t118 ji30 t127 t128 t129 t130 t133 w _ ?side1 ?side2 A31.out).mono ?_); (case side1 => repeat (first | (with_reducible first | exact HI105.out | apply IsS87.alloc | apply IsS87.drewN | apply IsS87.drew | apply IsS87.set_1 | refine IsS87.far ?_ NB105_101.out _ | refine IsS87.far ?_ NB105_102.out _ | refine IsS87.far ?_ NB105_113.out _ | refine IsS87.far ?_ NB105_126.out _) | exact HI105.out)); (case side2 => repeat (first | (with_reducible first | exact HB.out | apply below_alloc | apply pw_below_drewN | apply below_drew1 | refine below_set ?_ (IsS87.ge HI105.out) | refine below_set ?_ GE101.out | refine below_set ?_ GE102.out | refine below_set ?_ GE113.out | refine below_set ?_ GE126.out) | exact HB.out)); rintro e w37 ⟨v131, rfl, ho0, hi, hb, hk⟩; refine ⟨_, rfl, ?_⟩; replace BK101 := am_ (KeepBut.blk hk (by exact far4_ BK101.out NB101_126.out _ _ _ _) NB101_105.out (by simp)); replace BK102 := am_ (KeepBut.blk hk (by exact far4_ BK102.out NB102_126.out _ _ _ _) NB102_105.out (by simp)); replace BK113 := am_ (KeepBut.blk hk (by exact far4_ BK113.out NB113_126.out _ _ _ _) NB113_105.out (by simp)); have HO132 := am_ (Kd.R_lower (Kd.R_new' (Kd.R_new' ho0 (Kd.Q_lt (by exact (Q4_ HO111.out BK126.out (by decide) _ _ _ _)))) (Kd.R_lt (by exact (R4_ HO124.out BK126.out (by decide) _ _ _ _)))) (below_size (by repeat (first | (with_reducible first | exact HB.out | apply below_alloc | apply pw_below_drewN | apply below_drew1 | refine below_set ?_ (IsS87.ge HI105.out) | refine below_set ?_ GE101.out | refine below_set ?_ GE102.out | refine below_set ?_ GE113.out | refine below_set ?_ GE126.out) | exact HB.out)))); replace HO111 := am_ (Kd.Q_mono (Kd.Q_told (Kd.Q_oldK (IsS87.apartQ (show IsS87 w _ g105 t103 t118 from by repeat (first | (with_reducible first | exact HI105.out | apply IsS87.alloc | apply IsS87.drewN | apply IsS87.drew | apply IsS87.set_1 | refine IsS87.far ?_ NB105_101.out _ | refine IsS87.far ?_ NB105_102.out _ | refine IsS87.far ?_ NB105_113.out _ | refine IsS87.far ?_ NB105_126.out _) | exact HI105.out)) (by exact (Q4_ HO111.out BK126.out (by decide) _ _ _ _)) (by decide)) hk) (Kd.R_base ho0)) (fun _ h_ => h_.1)); replace HO124 := am_ (Kd.R_mono (Kd.R_told (Kd.R_oldK (IsS87.apart (show IsS87 w _ g105 t103 t118 from by repeat (first | (with_reducible first | exact HI105.out | apply IsS87.alloc | apply IsS87.drewN | apply IsS87.drew | apply IsS87.set_1 | refine IsS87.far ?_ NB105_101.out _ | refine IsS87.far ?_ NB105_102.out _ | refine IsS87.far ?_ NB105_113.out _ | refine IsS87.far ?_ NB105_126.out _) | exact HI105.out)) (by exact (R4_ HO124.out BK126.out (by decide) _ _ _ _)) (by decide)) hk) (Kd.R_base ho0)) (fun _ h_ => h_.1)); replace BK126 := am_ (KeepBut.blk hk (by exact put4_ BK126.out _ _ _ _) NB126_105.out (by simp)); replace HB := am_ (hb); replace HI105 := am_ (hi); (try clear hb); (try clear hb2); (try clear hk); (try clear hi); (try clear ho0); have hnb38 := NB126_101.out; have hnc38 := NB101_126.out; have hnb39 := NB126_102.out; have hnc39 := NB102_126.out; have hnb40 := NB126_105.out; have hnc40 := NB105_126.out; obtain ⟨hcz41_0, hcz41_1, hcz41_2, hcz41_3, hfz41_0, hfz41_1, hfz41_2, hfz41_3⟩ := blk4_ BK126.out; obtain ⟨Ao42, co42, eo42⟩ := Kd.R_slice HO132.out; subst eo42))
  go_meet
  case rel => exact ⟨_, (t133), (t127), (t128), (t129), (t130), (.slice Ao42 t130.length co42), H', ⟨by first | omega | exact Nat.le_refl _⟩, ⟨by exact Kd.Q_mono (Kd.Q_far (p := ⟨gb126, 3, none⟩) (Kd.Q_far (p := ⟨gb126, 2, none⟩) (Kd.Q_far (p := ⟨gb126, 1, none⟩) (Kd.Q_far (p := ⟨gb126, 0, none⟩) (Kd.Q_types HO111.out BK126.out (by decide)) (fun _ hk => hk.2) (.int .i64 t127)) (fun _ hk => hk.2) (.int .i64 t128)) (fun _ hk => hk.2) (.int .i64 t129)) (fun _ hk => hk.2) (.slice Ao42 t130.length co42)) (fun _ hk => hk.1.2)⟩, ⟨Kd.Q_of_R (by exact Kd.R_mono (Kd.R_far (p := ⟨gb126, 3, none⟩) (Kd.R_far (p := ⟨gb126, 2, none⟩) (Kd.R_far (p := ⟨gb126, 1, none⟩) (Kd.R_far (p := ⟨gb126, 0, none⟩) (Kd.R_types HO132.out BK126.out (by decide)) (fun _ hk => hk.2) (.int .i64 t127)) (fun _ hk => hk.2) (.int .i64 t128)) (fun _ hk => hk.2) (.int .i64 t129)) (fun _ hk => hk.2) (.slice Ao42 t130.length co42)) (fun _ hk => hk.1.1.2))⟩, ⟨by exact far4_ BK101.out NB101_126.out _ _ _ _⟩, ⟨by exact far4_ BK102.out NB102_126.out _ _ _ _⟩, ⟨by exact far4_ BK113.out NB113_126.out _ _ _ _⟩, ⟨by exact put4_ BK126.out _ _ _ _⟩, ⟨by repeat (first | (with_reducible first | exact HI105.out | apply IsS87.alloc | apply IsS87.drewN | apply IsS87.drew | apply IsS87.set_1 | refine IsS87.far ?_ NB105_101.out _ | refine IsS87.far ?_ NB105_102.out _ | refine IsS87.far ?_ NB105_113.out _ | refine IsS87.far ?_ NB105_126.out _) | exact HI105.out)⟩, ⟨by repeat (first | (with_reducible first | exact HB.out | apply below_alloc | apply pw_below_drewN | apply below_drew1 | refine below_set ?_ (IsS87.ge HI105.out) | refine below_set ?_ GE101.out | refine below_set ?_ GE102.out | refine below_set ?_ GE113.out | refine below_set ?_ GE126.out) | exact HB.out)⟩⟩
 case rest =>
  clear HC6
  try clear c2
  try clear p2
  try clear c3
  try clear c4
  try clear c7
  try clear c8
  try clear c28
  try clear c32
  try clear c33
  try clear c34
  try clear c35
  try clear c38
  try clear c39
  try clear c40
  try clear hcz36_0
  try clear hcz36_1
  try clear hcz36_2
  try clear hcz36_3
  try clear hcz41_0
  try clear hcz41_1
  try clear hcz41_2
  try clear hcz41_3
  try clear hfz36_0
  try clear hfz36_1
  try clear hfz36_2
  try clear hfz36_3
  try clear hfz41_0
  try clear hfz41_1
  try clear hfz41_2
  try clear hfz41_3
  obtain ⟨kq, x106001_5, x127000_5, x127001_5, x127002_5, x127003_5, u127003, HA, HJ5, HO_114003, HO_127003, BK101, BK102, BK113, BK126, HI105, HB⟩ := hcut
  cases kq with
  | zero => exact absurd HA.out (by simp [spec_DrawFindImage.j0])
  | succ kj5 =>
   have H := HA.out
   clear HA
   simp only [spec_DrawFindImage.j0] at H
   replace H := Option.bind_eq_some_iff.mp H
   obtain ⟨⟨t134, t135⟩, A430, H⟩ := H
   replace H : (if t134 = 0 then ((spec_reader_pick.f kj5 t103 t135 256).bind fun bt136 => (if 0 < (x127003_5.length : Int) then (some (t106, t107, t108, t109, x127000_5, x127001_5, x127002_5, (x127003_5.set (0 : Int).toNat bt136.1))) else (none))) else (some (t106, t107, t108, t109, x127000_5, x127001_5, x127002_5, x127003_5))) = some (r1, r2, r3, r4, r5, r6, r7, r8) := H
   have A43 := Aside0.mk A430
   clear A430
   by_cases c44 : t134 = 0
   rotate_left
   ·
    rw [if_neg c44] at H
    have c44b0 : (t134 == 0) = false := beq_eq_false_iff_ne.mpr c44
    have c44b1 : (t134 != 0) = true := bne_iff_ne.mpr c44
    simp only [Option.some.injEq, Prod.mk.injEq] at H
    obtain ⟨rfl, rfl, rfl, rfl, rfl, rfl, rfl, rfl⟩ := H
    try go_wp2_with (first | ((with_reducible refine gate_callee (f := 73) rfl ?_); refine goesL_ (some 28) rfl rfl Try.func73 (by kernel_rfl) rfl #[.pointer (some ⟨g105, 0, none⟩), .int .i64 3] rfl (by simp only [List.map_toArray, List.map_cons, List.map_nil]; rfl) ?_; (with_reducible refine (spec_reader_pick.calls kj5 g105 t103 x106001_5 3 t134 t135 w _ ?side1 ?side2 A43.out).mono ?_); (case side1 => repeat (first | (with_reducible first | exact HI105.out | apply IsS87.alloc | apply IsS87.drewN | apply IsS87.drew | apply IsS87.set_1 | refine IsS87.far ?_ NB105_101.out _ | refine IsS87.far ?_ NB105_102.out _ | refine IsS87.far ?_ NB105_113.out _ | refine IsS87.far ?_ NB105_126.out _) | exact HI105.out)); (case side2 => repeat (first | (with_reducible first | exact HB.out | apply below_alloc | apply pw_below_drewN | apply below_drew1 | refine below_set ?_ (IsS87.ge HI105.out) | refine below_set ?_ GE101.out | refine below_set ?_ GE102.out | refine below_set ?_ GE113.out | refine below_set ?_ GE126.out) | exact HB.out)); rintro e w62 ⟨rfl, hi, hb, hk⟩; refine ⟨_, rfl, ?_⟩; replace HO_114003 := am_ (Kd.Q_mono (Kd.Q_keep (IsS87.apartQ (show IsS87 w _ g105 t103 x106001_5 from by repeat (first | (with_reducible first | exact HI105.out | apply IsS87.alloc | apply IsS87.drewN | apply IsS87.drew | apply IsS87.set_1 | refine IsS87.far ?_ NB105_101.out _ | refine IsS87.far ?_ NB105_102.out _ | refine IsS87.far ?_ NB105_113.out _ | refine IsS87.far ?_ NB105_126.out _) | exact HI105.out)) (by exact HO_114003.out) (by decide)) hk (fun _ h => h.2)) (fun _ h => h.1)); replace HO_127003 := am_ (Kd.Q_mono (Kd.Q_keep (IsS87.apartQ (show IsS87 w _ g105 t103 x106001_5 from by repeat (first | (with_reducible first | exact HI105.out | apply IsS87.alloc | apply IsS87.drewN | apply IsS87.drew | apply IsS87.set_1 | refine IsS87.far ?_ NB105_101.out _ | refine IsS87.far ?_ NB105_102.out _ | refine IsS87.far ?_ NB105_113.out _ | refine IsS87.far ?_ NB105_126.out _) | exact HI105.out)) (by exact HO_127003.out) (by decide)) hk (fun _ h => h.2)) (fun _ h => h.1)); replace BK101 := am_ (KeepBut.blk hk (by exact BK101.out) NB101_105.out (by simp)); replace BK102 := am_ (KeepBut.blk hk (by exact BK102.out) NB102_105.out (by simp)); replace BK113 := am_ (KeepBut.blk hk (by exact BK113.out) NB113_105.out (by simp)); replace BK126 := am_ (KeepBut.blk hk (by exact BK126.out) NB126_105.out (by simp)); replace HB := am_ (hb); replace HI105 := am_ (hi); (try clear hb); (try clear hb2); (try clear hk); (try clear hi)))
    replace HO_114003 := am_ (Kd.Q_drew HO_114003.out)
    replace HO_127003 := am_ (Kd.Q_drew HO_127003.out)
    replace BK101 := am_ (blk_drew BK101.out)
    replace BK102 := am_ (blk_drew BK102.out)
    replace BK113 := am_ (blk_drew BK113.out)
    replace BK126 := am_ (blk_drew BK126.out)
    replace HI105 := am_ (IsS87.drew HI105.out)
    replace HB := am_ (below_drew1 HB.out)
    obtain ⟨Ao71, co71, eo71, _⟩ := Kd.Q_slice HO_127003.out
    (first | subst eo71 | (injection eo71 with f1_ f2_ f3_; have f4_ := f1_.symm; have f5_ := f3_.symm; clear f1_ f2_ f3_; subst f4_; subst f5_))
    refine start_ (n := 4) (S := fun w' => w'.cell? ⟨gb113, 0, none⟩ = some (.int .i64 t106) ∧ w'.cell? ⟨gb113, 1, none⟩ = some (.int .i64 t107) ∧ w'.cell? ⟨gb113, 2, none⟩ = some (.int .i64 t108) ∧ w'.cell? ⟨gb113, 3, none⟩ = some (.slice Ao16 t109.length co16) ∧ w'.cell? ⟨gb126, 0, none⟩ = some (.int .i64 x127000_5) ∧ w'.cell? ⟨gb126, 1, none⟩ = some (.int .i64 x127001_5) ∧ w'.cell? ⟨gb126, 2, none⟩ = some (.int .i64 x127002_5) ∧ w'.cell? ⟨gb126, 3, none⟩ = some (.slice Ao71 x127003_5.length co71)) (ds := []) #[false, false, false, false] (by kernel_rfl) rfl rfl ⟨(blk_cell BK113.out 0).trans rfl, (blk_cell BK113.out 1).trans rfl, (blk_cell BK113.out 2).trans rfl, (blk_cell BK113.out 3).trans rfl, (blk_cell BK126.out 0).trans rfl, (blk_cell BK126.out 1).trans rfl, (blk_cell BK126.out 2).trans rfl, (blk_cell BK126.out 3).trans rfl⟩ (fun hHeld => ?_)
    generalize w62.drew = w63 at HO_114003 HO_127003 BK101 BK102 BK113 BK126 HI105 HB hHeld ⊢
    refine take_ (i := 0) (N := some 35) (v := ?_) (a' := ?_) #[true, false, false, false] rfl rfl (by kernel_rfl) (fun _ _ _ h => h) (Or.inl ⟨by rfl, ?_⟩) hHeld ?_ ?_
    rotate_left
    ·
     rintro w' ⟨s0, s1, s2, s3, s4, s5, s6, s7⟩
     go_simp
     with_reducible rfl
    rotate_left
    ·
     simp only [Act.put, List.setIfInBounds_toArray, List.set_cons_zero, List.set_cons_succ, i64_w, i32_w]
     rfl
    refine take_ (i := 1) (N := some 36) (v := ?_) (a' := ?_) #[true, true, false, false] rfl rfl (by kernel_rfl) (fun _ _ _ h => h) (Or.inl ⟨by rfl, ?_⟩) hHeld ?_ ?_
    rotate_left
    ·
     rintro w' ⟨s0, s1, s2, s3, s4, s5, s6, s7⟩
     go_simp
     with_reducible rfl
    rotate_left
    ·
     simp only [Act.put, List.setIfInBounds_toArray, List.set_cons_zero, List.set_cons_succ, i64_w, i32_w]
     rfl
    refine one_ (i := 2) (N := none) #[true, true, true, false] rfl rfl (by kernel_rfl) (by decide) (fun K hK => ?_)
    have hs64 : w63.cell? ⟨gb101, 0, none⟩ = some (.int .i64 0) := (blk_cell BK101.out 0).trans rfl
    have hfs64 := blk_frozen BK101.out 0
    have hns64_1 := NB102_101.out
    have hns64_2 := NB113_101.out
    have hns64_3 := NB126_101.out
    have hms64_1 := NB101_102.out
    have hms64_2 := NB101_113.out
    have hms64_3 := NB101_126.out
    have hs65 : w63.cell? ⟨gb101, 1, none⟩ = some (.int .i64 0) := (blk_cell BK101.out 1).trans rfl
    have hfs65 := blk_frozen BK101.out 1
    have hns65_1 := NB102_101.out
    have hns65_2 := NB113_101.out
    have hns65_3 := NB126_101.out
    have hms65_1 := NB101_102.out
    have hms65_2 := NB101_113.out
    have hms65_3 := NB101_126.out
    have hs66 : w63.cell? ⟨gb101, 2, none⟩ = some (.int .i64 0) := (blk_cell BK101.out 2).trans rfl
    have hfs66 := blk_frozen BK101.out 2
    have hns66_1 := NB102_101.out
    have hns66_2 := NB113_101.out
    have hns66_3 := NB126_101.out
    have hms66_1 := NB101_102.out
    have hms66_2 := NB101_113.out
    have hms66_3 := NB101_126.out
    have hs67 : w63.cell? ⟨gb101, 3, none⟩ = some (.slice none 0 0) := (blk_cell BK101.out 3).trans rfl
    have hfs67 := blk_frozen BK101.out 3
    have hns67_1 := NB102_101.out
    have hns67_2 := NB113_101.out
    have hns67_3 := NB126_101.out
    have hms67_1 := NB101_102.out
    have hms67_2 := NB101_113.out
    have hms67_3 := NB101_126.out
    refine skip_ (w1 := ?_) (by rfl) rfl ?_ ?_
    rotate_left
    ·
     go_simp
     rfl
    refine hK.out _ _ ⟨((cell_far (p := ⟨gb101, _, none⟩) NB113_101.out _).trans (((cell_far (p := ⟨gb101, _, none⟩) NB113_101.out _).trans (((cell_far (p := ⟨gb101, _, none⟩) NB113_101.out _).trans (((cell_far (p := ⟨gb101, _, none⟩) NB113_101.out _).trans (hHeld.1)))))))), ((cell_far (p := ⟨gb101, _, none⟩) NB113_101.out _).trans (((cell_far (p := ⟨gb101, _, none⟩) NB113_101.out _).trans (((cell_far (p := ⟨gb101, _, none⟩) NB113_101.out _).trans (((cell_far (p := ⟨gb101, _, none⟩) NB113_101.out _).trans (hHeld.2.1)))))))), ((cell_far (p := ⟨gb101, _, none⟩) NB113_101.out _).trans (((cell_far (p := ⟨gb101, _, none⟩) NB113_101.out _).trans (((cell_far (p := ⟨gb101, _, none⟩) NB113_101.out _).trans (((cell_far (p := ⟨gb101, _, none⟩) NB113_101.out _).trans (hHeld.2.2.1)))))))), ((cell_far (p := ⟨gb101, _, none⟩) NB113_101.out _).trans (((cell_far (p := ⟨gb101, _, none⟩) NB113_101.out _).trans (((cell_far (p := ⟨gb101, _, none⟩) NB113_101.out _).trans (((cell_far (p := ⟨gb101, _, none⟩) NB113_101.out _).trans (hHeld.2.2.2.1)))))))), ((cell_far (p := ⟨gb101, _, none⟩) NB126_101.out _).trans (((cell_far (p := ⟨gb101, _, none⟩) NB126_101.out _).trans (((cell_far (p := ⟨gb101, _, none⟩) NB126_101.out _).trans (((cell_far (p := ⟨gb101, _, none⟩) NB126_101.out _).trans (hHeld.2.2.2.2.1)))))))), ((cell_far (p := ⟨gb101, _, none⟩) NB126_101.out _).trans (((cell_far (p := ⟨gb101, _, none⟩) NB126_101.out _).trans (((cell_far (p := ⟨gb101, _, none⟩) NB126_101.out _).trans (((cell_far (p := ⟨gb101, _, none⟩) NB126_101.out _).trans (hHeld.2.2.2.2.2.1)))))))), ((cell_far (p := ⟨gb101, _, none⟩) NB126_101.out _).trans (((cell_far (p := ⟨gb101, _, none⟩) NB126_101.out _).trans (((cell_far (p := ⟨gb101, _, none⟩) NB126_101.out _).trans (((cell_far (p := ⟨gb101, _, none⟩) NB126_101.out _).trans (hHeld.2.2.2.2.2.2.1)))))))), ((cell_far (p := ⟨gb101, _, none⟩) NB126_101.out _).trans (((cell_far (p := ⟨gb101, _, none⟩) NB126_101.out _).trans (((cell_far (p := ⟨gb101, _, none⟩) NB126_101.out _).trans (((cell_far (p := ⟨gb101, _, none⟩) NB126_101.out _).trans (hHeld.2.2.2.2.2.2.2))))))))⟩ (fun hHeld => ?_)
    clear hK K
    refine one_ (i := 3) (N := none) #[true, true, true, true] rfl rfl (by kernel_rfl) (by decide) (fun K hK => ?_)
    have hs68 : w63.cell? ⟨gb102, 0, none⟩ = some (.int .i64 0) := (blk_cell BK102.out 0).trans rfl
    have hfs68 := blk_frozen BK102.out 0
    have hns68_0 := NB101_102.out
    have hns68_2 := NB113_102.out
    have hns68_3 := NB126_102.out
    have hms68_0 := NB102_101.out
    have hms68_2 := NB102_113.out
    have hms68_3 := NB102_126.out
    have hs69 : w63.cell? ⟨gb102, 1, none⟩ = some (.int .i64 0) := (blk_cell BK102.out 1).trans rfl
    have hfs69 := blk_frozen BK102.out 1
    have hns69_0 := NB101_102.out
    have hns69_2 := NB113_102.out
    have hns69_3 := NB126_102.out
    have hms69_0 := NB102_101.out
    have hms69_2 := NB102_113.out
    have hms69_3 := NB102_126.out
    have hs70 : w63.cell? ⟨gb102, 2, none⟩ = some (.int .i64 0) := (blk_cell BK102.out 2).trans rfl
    have hfs70 := blk_frozen BK102.out 2
    have hns70_0 := NB101_102.out
    have hns70_2 := NB113_102.out
    have hns70_3 := NB126_102.out
    have hms70_0 := NB102_101.out
    have hms70_2 := NB102_113.out
    have hms70_3 := NB102_126.out
    have hs72 : w63.cell? ⟨gb102, 3, none⟩ = some (.slice none 0 0) := (blk_cell BK102.out 3).trans rfl
    have hfs72 := blk_frozen BK102.out 3
    have hns72_0 := NB101_102.out
    have hns72_2 := NB113_102.out
    have hns72_3 := NB126_102.out
    have hms72_0 := NB102_101.out
    have hms72_2 := NB102_113.out
    have hms72_3 := NB102_126.out
    refine skip_ (w1 := ?_) (by rfl) rfl ?_ ?_
    rotate_left
    ·
     go_simp
     rfl
    refine hK.out _ _ ⟨((cell_far (p := ⟨gb102, _, none⟩) NB113_102.out _).trans (((cell_far (p := ⟨gb102, _, none⟩) NB113_102.out _).trans (((cell_far (p := ⟨gb102, _, none⟩) NB113_102.out _).trans (((cell_far (p := ⟨gb102, _, none⟩) NB113_102.out _).trans (hHeld.1)))))))), ((cell_far (p := ⟨gb102, _, none⟩) NB113_102.out _).trans (((cell_far (p := ⟨gb102, _, none⟩) NB113_102.out _).trans (((cell_far (p := ⟨gb102, _, none⟩) NB113_102.out _).trans (((cell_far (p := ⟨gb102, _, none⟩) NB113_102.out _).trans (hHeld.2.1)))))))), ((cell_far (p := ⟨gb102, _, none⟩) NB113_102.out _).trans (((cell_far (p := ⟨gb102, _, none⟩) NB113_102.out _).trans (((cell_far (p := ⟨gb102, _, none⟩) NB113_102.out _).trans (((cell_far (p := ⟨gb102, _, none⟩) NB113_102.out _).trans (hHeld.2.2.1)))))))), ((cell_far (p := ⟨gb102, _, none⟩) NB113_102.out _).trans (((cell_far (p := ⟨gb102, _, none⟩) NB113_102.out _).trans (((cell_far (p := ⟨gb102, _, none⟩) NB113_102.out _).trans (((cell_far (p := ⟨gb102, _, none⟩) NB113_102.out _).trans (hHeld.2.2.2.1)))))))), ((cell_far (p := ⟨gb102, _, none⟩) NB126_102.out _).trans (((cell_far (p := ⟨gb102, _, none⟩) NB126_102.out _).trans (((cell_far (p := ⟨gb102, _, none⟩) NB126_102.out _).trans (((cell_far (p := ⟨gb102, _, none⟩) NB126_102.out _).trans (hHeld.2.2.2.2.1)))))))), ((cell_far (p := ⟨gb102, _, none⟩) NB126_102.out _).trans (((cell_far (p := ⟨gb102, _, none⟩) NB126_102.out _).trans (((cell_far (p := ⟨gb102, _, none⟩) NB126_102.out _).trans (((cell_far (p := ⟨gb102, _, none⟩) NB126_102.out _).trans (hHeld.2.2.2.2.2.1)))))))), ((cell_far (p := ⟨gb102, _, none⟩) NB126_102.out _).trans (((cell_far (p := ⟨gb102, _, none⟩) NB126_102.out _).trans (((cell_far (p := ⟨gb102, _, none⟩) NB126_102.out _).trans (((cell_far (p := ⟨gb102, _, none⟩) NB126_102.out _).trans (hHeld.2.2.2.2.2.2.1)))))))), ((cell_far (p := ⟨gb102, _, none⟩) NB126_102.out _).trans (((cell_far (p := ⟨gb102, _, none⟩) NB126_102.out _).trans (((cell_far (p := ⟨gb102, _, none⟩) NB126_102.out _).trans (((cell_far (p := ⟨gb102, _, none⟩) NB126_102.out _).trans (hHeld.2.2.2.2.2.2.2))))))))⟩ (fun hHeld => ?_)
    clear hK K
    refine done_ (by kernel_rfl) ?_
    try go_wp2
    refine bodyPost_ret (results_cc rfl _ _ gb101 gb102 26 26 #[.int .i64 t106, .int .i64 t107, .int .i64 t108, .slice Ao16 t109.length co16] #[.int .i64 x127000_5, .int .i64 x127001_5, .int .i64 x127002_5, .slice Ao71 x127003_5.length co71] (0, 0) (0, 0) _ _ rfl (by (with_reducible repeat (first | refine blk_drewN ?_ _ | refine blk_drew ?_ | refine blk_alloc ?_ _)); refine blk_far ?_ NB101_102.out _; (with_reducible repeat (first | refine blk_drewN ?_ _ | refine blk_drew ?_ | refine blk_alloc ?_ _)); refine blk_far ?_ NB101_102.out _; (with_reducible repeat (first | refine blk_drewN ?_ _ | refine blk_drew ?_ | refine blk_alloc ?_ _)); refine blk_far ?_ NB101_102.out _; (with_reducible repeat (first | refine blk_drewN ?_ _ | refine blk_drew ?_ | refine blk_alloc ?_ _)); refine blk_far ?_ NB101_102.out _; (with_reducible repeat (first | refine blk_drewN ?_ _ | refine blk_drew ?_ | refine blk_alloc ?_ _)); refine blk_put (cs := #[.int .i64 t106, .int .i64 t107, .int .i64 t108, .slice none 0 0]) ?_ 3 _ rfl; (with_reducible repeat (first | refine blk_drewN ?_ _ | refine blk_drew ?_ | refine blk_alloc ?_ _)); refine blk_put (cs := #[.int .i64 t106, .int .i64 t107, .int .i64 0, .slice none 0 0]) ?_ 2 _ rfl; (with_reducible repeat (first | refine blk_drewN ?_ _ | refine blk_drew ?_ | refine blk_alloc ?_ _)); refine blk_put (cs := #[.int .i64 t106, .int .i64 0, .int .i64 0, .slice none 0 0]) ?_ 1 _ rfl; (with_reducible repeat (first | refine blk_drewN ?_ _ | refine blk_drew ?_ | refine blk_alloc ?_ _)); refine blk_put (cs := #[.int .i64 0, .int .i64 0, .int .i64 0, .slice none 0 0]) ?_ 0 _ rfl; (with_reducible repeat (first | refine blk_drewN ?_ _ | refine blk_drew ?_ | refine blk_alloc ?_ _)); exact BK101.out) Try.underlying26 rfl (by kernel_rfl) rfl (by (with_reducible repeat (first | refine blk_drewN ?_ _ | refine blk_drew ?_ | refine blk_alloc ?_ _)); refine blk_put (cs := #[.int .i64 x127000_5, .int .i64 x127001_5, .int .i64 x127002_5, .slice none 0 0]) ?_ 3 _ rfl; (with_reducible repeat (first | refine blk_drewN ?_ _ | refine blk_drew ?_ | refine blk_alloc ?_ _)); refine blk_put (cs := #[.int .i64 x127000_5, .int .i64 x127001_5, .int .i64 0, .slice none 0 0]) ?_ 2 _ rfl; (with_reducible repeat (first | refine blk_drewN ?_ _ | refine blk_drew ?_ | refine blk_alloc ?_ _)); refine blk_put (cs := #[.int .i64 x127000_5, .int .i64 0, .int .i64 0, .slice none 0 0]) ?_ 1 _ rfl; (with_reducible repeat (first | refine blk_drewN ?_ _ | refine blk_drew ?_ | refine blk_alloc ?_ _)); refine blk_put (cs := #[.int .i64 0, .int .i64 0, .int .i64 0, .slice none 0 0]) ?_ 0 _ rfl; (with_reducible repeat (first | refine blk_drewN ?_ _ | refine blk_drew ?_ | refine blk_alloc ?_ _)); refine blk_far ?_ NB102_101.out _; (with_reducible repeat (first | refine blk_drewN ?_ _ | refine blk_drew ?_ | refine blk_alloc ?_ _)); refine blk_far ?_ NB102_101.out _; (with_reducible repeat (first | refine blk_drewN ?_ _ | refine blk_drew ?_ | refine blk_alloc ?_ _)); refine blk_far ?_ NB102_101.out _; (with_reducible repeat (first | refine blk_drewN ?_ _ | refine blk_drew ?_ | refine blk_alloc ?_ _)); refine blk_far ?_ NB102_101.out _; (with_reducible repeat (first | refine blk_drewN ?_ _ | refine blk_drew ?_ | refine blk_alloc ?_ _)); exact BK102.out) Try.underlying26 rfl (by kernel_rfl)) rfl ?_
    exact ⟨_, _, by first | rfl | (simp [errW_none, errW_some] <;> rfl) | (simp [*, errW_none, errW_some] <;> rfl), by exact Kd.Q_mono (Kd.Q_far (p := ⟨gb102, 3, none⟩) (Kd.Q_far (p := ⟨gb102, 2, none⟩) (Kd.Q_far (p := ⟨gb102, 1, none⟩) (Kd.Q_far (p := ⟨gb102, 0, none⟩) (Kd.Q_far (p := ⟨gb101, 3, none⟩) (Kd.Q_far (p := ⟨gb101, 2, none⟩) (Kd.Q_far (p := ⟨gb101, 1, none⟩) (Kd.Q_far (p := ⟨gb101, 0, none⟩) (Kd.Q_types (Kd.Q_types HO_114003.out BK101.out (by decide)) BK102.out (by decide)) (fun _ hk => hk.1.2) (.int .i64 t106)) (fun _ hk => hk.1.2) (.int .i64 t107)) (fun _ hk => hk.1.2) (.int .i64 t108)) (fun _ hk => hk.1.2) (.slice Ao16 t109.length co16)) (fun _ hk => hk.2) (.int .i64 x127000_5)) (fun _ hk => hk.2) (.int .i64 x127001_5)) (fun _ hk => hk.2) (.int .i64 x127002_5)) (fun _ hk => hk.2) (.slice Ao71 x127003_5.length co71)) (fun _ hk => hk.1.1), by exact Kd.Q_mono (Kd.Q_far (p := ⟨gb102, 3, none⟩) (Kd.Q_far (p := ⟨gb102, 2, none⟩) (Kd.Q_far (p := ⟨gb102, 1, none⟩) (Kd.Q_far (p := ⟨gb102, 0, none⟩) (Kd.Q_far (p := ⟨gb101, 3, none⟩) (Kd.Q_far (p := ⟨gb101, 2, none⟩) (Kd.Q_far (p := ⟨gb101, 1, none⟩) (Kd.Q_far (p := ⟨gb101, 0, none⟩) (Kd.Q_types (Kd.Q_types HO_127003.out BK101.out (by decide)) BK102.out (by decide)) (fun _ hk => hk.1.2) (.int .i64 t106)) (fun _ hk => hk.1.2) (.int .i64 t107)) (fun _ hk => hk.1.2) (.int .i64 t108)) (fun _ hk => hk.1.2) (.slice Ao16 t109.length co16)) (fun _ hk => hk.2) (.int .i64 x127000_5)) (fun _ hk => hk.2) (.int .i64 x127001_5)) (fun _ hk => hk.2) (.int .i64 x127002_5)) (fun _ hk => hk.2) (.slice Ao71 x127003_5.length co71)) (fun _ hk => hk.1.1), by repeat (first | (with_reducible first | exact HB.out | apply below_alloc | apply pw_below_drewN | apply below_drew1 | refine below_set ?_ (IsS87.ge HI105.out) | refine below_set ?_ GE101.out | refine below_set ?_ GE102.out | refine below_set ?_ GE113.out | refine below_set ?_ GE126.out) | exact HB.out)⟩
   rw [if_pos c44] at H
   have c44b0 : (t134 == 0) = true := beq_iff_eq.mpr c44
   have c44b1 : (t134 != 0) = false := bne_eq_false_iff_eq.mpr c44
   clear c44
   replace H := Option.bind_eq_some_iff.mp H
   obtain ⟨⟨t136, t137⟩, A450, H⟩ := H
   replace H : (if 0 < (x127003_5.length : Int) then (some (t106, t107, t108, t109, x127000_5, x127001_5, x127002_5, (x127003_5.set (0 : Int).toNat t136))) else (none)) = some (r1, r2, r3, r4, r5, r6, r7, r8) := H
   have A45 := Aside0.mk A450
   clear A450
   by_cases c46 : 0 < (x127003_5.length : Int)
   rotate_left
   ·
    rw [if_neg c46] at H
    exact absurd H (by simp)
   rw [if_pos c46] at H
   have c46b0 : decide (0 < (x127003_5.length : Int)) = true := decide_eq_true c46
   have c46b1 : decide (0 < x127003_5.length) = true := decide_eq_true (by omega)
   clear c46
   obtain ⟨y138, hy138⟩ : ∃ y_ : List Int, y_ = (x127003_5.set (0 : Int).toNat t136) := ⟨_, rfl⟩
   replace H : (some (t106, t107, t108, t109, x127000_5, x127001_5, x127002_5, y138)) = some (r1, r2, r3, r4, r5, r6, r7, r8) := by first | (rw [hy138]; with_reducible exact H) | (have H2_ := (Option.bind_some _ _).symm.trans H; rw [hy138]; with_reducible exact H2_) | (have H2_ := (Option.bind_some _ _).symm.trans H; with_reducible exact H2_) | with_reducible exact H | (rw [hy138]; exact H) | exact H
   have Ny138 := Aside0.mk hy138
   clear hy138
   simp only [Option.some.injEq, Prod.mk.injEq] at H
   obtain ⟨rfl, rfl, rfl, rfl, rfl, rfl, rfl, rfl⟩ := H
   try go_wp2_with (first | ((with_reducible refine gate_callee (f := 73) rfl ?_); refine goesL_ (some 28) rfl rfl Try.func73 (by kernel_rfl) rfl #[.pointer (some ⟨g105, 0, none⟩), .int .i64 3] rfl (by simp only [List.map_toArray, List.map_cons, List.map_nil]; rfl) ?_; (with_reducible refine (spec_reader_pick.calls kj5 g105 t103 x106001_5 3 t134 t135 w _ ?side1 ?side2 A43.out).mono ?_); (case side1 => repeat (first | (with_reducible first | exact HI105.out | apply IsS87.alloc | apply IsS87.drewN | apply IsS87.drew | apply IsS87.set_1 | refine IsS87.far ?_ NB105_101.out _ | refine IsS87.far ?_ NB105_102.out _ | refine IsS87.far ?_ NB105_113.out _ | refine IsS87.far ?_ NB105_126.out _) | exact HI105.out)); (case side2 => repeat (first | (with_reducible first | exact HB.out | apply below_alloc | apply pw_below_drewN | apply below_drew1 | refine below_set ?_ (IsS87.ge HI105.out) | refine below_set ?_ GE101.out | refine below_set ?_ GE102.out | refine below_set ?_ GE113.out | refine below_set ?_ GE126.out) | exact HB.out)); rintro e w48 ⟨rfl, hi, hb, hk⟩; refine ⟨_, rfl, ?_⟩; replace HO_114003 := am_ (Kd.Q_mono (Kd.Q_keep (IsS87.apartQ (show IsS87 w _ g105 t103 x106001_5 from by repeat (first | (with_reducible first | exact HI105.out | apply IsS87.alloc | apply IsS87.drewN | apply IsS87.drew | apply IsS87.set_1 | refine IsS87.far ?_ NB105_101.out _ | refine IsS87.far ?_ NB105_102.out _ | refine IsS87.far ?_ NB105_113.out _ | refine IsS87.far ?_ NB105_126.out _) | exact HI105.out)) (by exact HO_114003.out) (by decide)) hk (fun _ h => h.2)) (fun _ h => h.1)); replace HO_127003 := am_ (Kd.Q_mono (Kd.Q_keep (IsS87.apartQ (show IsS87 w _ g105 t103 x106001_5 from by repeat (first | (with_reducible first | exact HI105.out | apply IsS87.alloc | apply IsS87.drewN | apply IsS87.drew | apply IsS87.set_1 | refine IsS87.far ?_ NB105_101.out _ | refine IsS87.far ?_ NB105_102.out _ | refine IsS87.far ?_ NB105_113.out _ | refine IsS87.far ?_ NB105_126.out _) | exact HI105.out)) (by exact HO_127003.out) (by decide)) hk (fun _ h => h.2)) (fun _ h => h.1)); replace BK101 := am_ (KeepBut.blk hk (by exact BK101.out) NB101_105.out (by simp)); replace BK102 := am_ (KeepBut.blk hk (by exact BK102.out) NB102_105.out (by simp)); replace BK113 := am_ (KeepBut.blk hk (by exact BK113.out) NB113_105.out (by simp)); replace BK126 := am_ (KeepBut.blk hk (by exact BK126.out) NB126_105.out (by simp)); replace HB := am_ (hb); replace HI105 := am_ (hi); (try clear hb); (try clear hb2); (try clear hk); (try clear hi)))
   replace HO_114003 := am_ (Kd.Q_drew HO_114003.out)
   replace HO_127003 := am_ (Kd.Q_drew HO_127003.out)
   replace BK101 := am_ (blk_drew BK101.out)
   replace BK102 := am_ (blk_drew BK102.out)
   replace BK113 := am_ (blk_drew BK113.out)
   replace BK126 := am_ (blk_drew BK126.out)
   replace HI105 := am_ (IsS87.drew HI105.out)
   replace HB := am_ (below_drew1 HB.out)
   refine start_ (n := 6) (S := fun w' => w'.cell? ⟨gb126, 0, none⟩ = some (.int .i64 x127000_5) ∧ w'.cell? ⟨gb126, 1, none⟩ = some (.int .i64 x127001_5) ∧ w'.cell? ⟨gb126, 2, none⟩ = some (.int .i64 x127002_5) ∧ w'.cell? ⟨gb126, 3, none⟩ = some (u127003)) (ds := [5]) #[false, false, false, false, false, false] (by kernel_rfl) rfl rfl ⟨(blk_cell BK126.out 0).trans rfl, (blk_cell BK126.out 1).trans rfl, (blk_cell BK126.out 2).trans rfl, (blk_cell BK126.out 3).trans rfl⟩ (fun hHeld => ?_)
   generalize w48.drew = w49 at HO_114003 HO_127003 BK101 BK102 BK113 BK126 HI105 HB hHeld ⊢
   refine pure_ (i := 0) (N := some 30) (v := ?_) (a' := ?_) #[true, false, false, false, false, false] rfl rfl (by kernel_rfl) (fun _ _ _ h => h) (Or.inl ⟨by rfl, ?_⟩) ?_ ?_
   rotate_left
   ·
    intro w'
    go_simp
    with_reducible rfl
   rotate_left
   ·
    simp only [Act.put, List.setIfInBounds_toArray, List.set_cons_zero, List.set_cons_succ, i64_w, i32_w]
    rfl
   refine pure_ (i := 2) (N := some 32) (v := ?_) (a' := ?_) #[true, false, true, false, false, false] rfl rfl (by kernel_rfl) (fun _ _ _ h => h) (Or.inl ⟨by rfl, ?_⟩) ?_ ?_
   rotate_left
   ·
    intro w'
    go_simp
    with_reducible rfl
   rotate_left
   ·
    simp only [Act.put, List.setIfInBounds_toArray, List.set_cons_zero, List.set_cons_succ, i64_w, i32_w]
    rfl
   refine take_ (i := 1) (N := some 31) (v := ?_) (a' := ?_) #[true, true, true, false, false, false] rfl rfl (by kernel_rfl) (fun _ _ _ h => h) (Or.inl ⟨by rfl, ?_⟩) hHeld ?_ ?_
   rotate_left
   ·
    rintro w' ⟨s0, s1, s2, s3⟩
    go_simp
    with_reducible rfl
   rotate_left
   ·
    simp only [Act.put, List.setIfInBounds_toArray, List.set_cons_zero, List.set_cons_succ, i64_w, i32_w]
    rfl
   refine one_ (i := 3) (N := some 33) #[true, true, true, true, false, false] rfl rfl (by kernel_rfl) (by decide) (fun K hK => ?_)
   refine goes_ Try.func73 (by kernel_rfl) rfl #[.pointer (some ⟨g105, 0, none⟩), .int .i64 256] (by rfl) rfl rfl (by simp only [List.map_toArray, List.map_cons, List.map_nil]; rfl) ?_
   with_reducible refine (spec_reader_pick.calls kj5 g105 t103 t135 256 t136 t137 w _ ?side1 ?side2 A45.out).mono ?_
   (case side1 => repeat (first | (with_reducible first | exact HI105.out | apply IsS87.alloc | apply IsS87.drewN | apply IsS87.drew | apply IsS87.set_1 | refine IsS87.far ?_ NB105_101.out _ | refine IsS87.far ?_ NB105_102.out _ | refine IsS87.far ?_ NB105_113.out _ | refine IsS87.far ?_ NB105_126.out _) | exact HI105.out))
   (case side2 => repeat (first | (with_reducible first | exact HB.out | apply below_alloc | apply pw_below_drewN | apply below_drew1 | refine below_set ?_ (IsS87.ge HI105.out) | refine below_set ?_ GE101.out | refine below_set ?_ GE102.out | refine below_set ?_ GE113.out | refine below_set ?_ GE126.out) | exact HB.out))
   rintro e w50 ⟨rfl, hi, hb, hk⟩
   refine ⟨_, rfl, ?_⟩
   replace HO_114003 := am_ (Kd.Q_mono (Kd.Q_keep (IsS87.apartQ (show IsS87 w _ g105 t103 t135 from by repeat (first | (with_reducible first | exact HI105.out | apply IsS87.alloc | apply IsS87.drewN | apply IsS87.drew | apply IsS87.set_1 | refine IsS87.far ?_ NB105_101.out _ | refine IsS87.far ?_ NB105_102.out _ | refine IsS87.far ?_ NB105_113.out _ | refine IsS87.far ?_ NB105_126.out _) | exact HI105.out)) (by exact HO_114003.out) (by decide)) hk (fun _ h => h.2)) (fun _ h => h.1))
   replace HO_127003 := am_ (Kd.Q_mono (Kd.Q_keep (IsS87.apartQ (show IsS87 w _ g105 t103 t135 from by repeat (first | (with_reducible first | exact HI105.out | apply IsS87.alloc | apply IsS87.drewN | apply IsS87.drew | apply IsS87.set_1 | refine IsS87.far ?_ NB105_101.out _ | refine IsS87.far ?_ NB105_102.out _ | refine IsS87.far ?_ NB105_113.out _ | refine IsS87.far ?_ NB105_126.out _) | exact HI105.out)) (by exact HO_127003.out) (by decide)) hk (fun _ h => h.2)) (fun _ h => h.1))
   replace BK101 := am_ (KeepBut.blk hk (by exact BK101.out) NB101_105.out (by simp))
   replace BK102 := am_ (KeepBut.blk hk (by exact BK102.out) NB102_105.out (by simp))
   replace BK113 := am_ (KeepBut.blk hk (by exact BK113.out) NB113_105.out (by simp))
   replace BK126 := am_ (KeepBut.blk hk (by exact BK126.out) NB126_105.out (by simp))
   replace HB := am_ (hb)
   replace HI105 := am_ (hi)
   (try clear hb)
   (try clear hb2)
   (try clear hk)
   (try clear hi)
   have p47 : 0 ≤ (0 : Int) := (by omega)
   have q47 : (0 : Int) < ((x127003_5.length : Int) : Int) := of_decide_eq_true (by first | with_reducible assumption | assumption)
   have qi47 : (0 < x127003_5.length) = True := eq_true (by omega)
   obtain ⟨go47, oo47, co47, eo47, gb47, gl47, cl47, HG47⟩ := Kd.Q_form HO_127003.out (by omega)
   (first | cases eo47 | (injection eo47 with ea_ en_ ec_; (first | subst ea_ | (injection ea_ with ea_; subst ea_)); subst ec_; clear en_))
   have GB47 := Aside0.mk gb47
   have GG47 := Aside0.mk HG47
   clear gb47 gl47 HG47
   obtain ⟨hx47_0, hf47_0⟩ := Kd.Q_cell 0 HO_127003.out (0 : Int) p47 q47
   (try rw [show ((0 : Int)).toNat = 0 from rfl] at hx47_0)
   (try simp only [Nat.reduceMul, Nat.zero_mul, Nat.zero_add, Nat.reduceAdd, Nat.add_zero] at hx47_0)
   (try rw [show ((0 : Int)).toNat = 0 from rfl] at hf47_0)
   (try simp only [Nat.reduceMul, Nat.zero_mul, Nat.zero_add, Nat.reduceAdd, Nat.add_zero] at hf47_0)
   replace p47 := eq_true p47
   replace q47 := eq_true q47
   have HN105_go47 := Aside0.mk (show g105 ≠ go47 from by have h_ := IsS87.own_neQ HI105.out HO_127003.out (by decide); intro e_; exact h_ (by rw [e_]; rfl))
   have HP51 := (Kd.Q_putg HO_127003.out (0 : Int) (by omega) (by have h_ : (0 : Int) < ((x127003_5.length : Int) : Int) := of_decide_eq_true (by first | with_reducible assumption | assumption); first | exact h_ | (have e_ := (Kd.Q_reads' HO_127003.out).1; omega) | simpa using h_) t136).1
   rw [← Ny138.out] at HP51
   have HQ51 := Aside0.mk HP51
   clear HP51
   refine hK.out _ _ ⟨(blk_cell BK126.out 0).trans rfl, (blk_cell BK126.out 1).trans rfl, (blk_cell BK126.out 2).trans rfl, (blk_cell BK126.out 3).trans rfl⟩ (fun hHeld => ?_)
   clear hK K
   refine norm_ (a' := ?_) ?_ ?_
   rotate_left
   ·
    show Act.put _ (some 33) _ = _
    simp only [Act.put, List.setIfInBounds_toArray, List.set_cons_zero, List.set_cons_succ, i64_w, i32_w]
    rfl
   refine pure_ (i := 4) (N := some 34) (v := ?_) (a' := ?_) #[true, true, true, true, true, false] rfl rfl (by kernel_rfl) (fun _ _ _ h => h) (Or.inl ⟨by rfl, ?_⟩) ?_ ?_
   rotate_left
   ·
    intro w'
    go_simp
    with_reducible rfl
   rotate_left
   ·
    simp only [Act.put, List.setIfInBounds_toArray, List.set_cons_zero, List.set_cons_succ, i64_w, i32_w]
    rfl
   refine last_ (i := 5) (N := none) #[true, true, true, true, true, true] rfl rfl (by kernel_rfl) (by decide) (fun K hK => ?_)
   refine skip_ (w1 := ?_) (by rfl) rfl ?_ ?_
   rotate_left
   ·
    go_simp
    rfl
   refine hK.out _ _ ?_
   clear hK K
   refine done_ (by kernel_rfl) ?_
   have n0_ : Aside0 (Kd.Q (Kd.int .i64) 3 (w50.setCell ⟨go47, oo47, none⟩ (.int .i64 t136)) w.heap.size (fun k_ => some k_ ≠ (.slice (some ⟨go47, oo47, none⟩) x127003_5.length co47 : Value).ownBlock) (.slice Ao16 t109.length co16) t109) := ⟨by exact Kd.Q_mono (Kd.Q_far (p := ⟨go47, oo47, none⟩) (Kd.Q_mono HO_114003.out (fun k_ hk => (⟨hk, fun e_ => hk (by rw [e_]; rfl)⟩ : _ ∧ k_ ≠ go47))) (fun _ hk => hk.2) (.int .i64 t136)) (fun _ hk => hk.1)⟩
   have n1_ : Aside0 (Kd.Q (Kd.int .i64) 3 (w50.setCell ⟨go47, oo47, none⟩ (.int .i64 t136)) w.heap.size (fun k_ => some k_ ≠ (.slice Ao16 t109.length co16 : Value).ownBlock) (.slice (some ⟨go47, oo47, none⟩) x127003_5.length co47) y138) := ⟨by exact HQ51.out⟩
   have n2_ : Aside0 ((w50.setCell ⟨go47, oo47, none⟩ (.int .i64 t136)).heap[gb101]? = some (.cells #[.int .i64 0, .int .i64 0, .int .i64 0, .slice none 0 0] 26 (0, 0))) := ⟨by (with_reducible repeat (first | refine blk_drewN ?_ _ | refine blk_drew ?_ | refine blk_alloc ?_ _)); refine blk_far ?_ (by have h_ := Kd.Q_ne HO_127003.out BK101.out (by decide); intro e_; exact h_ (by rw [e_]; rfl)) _; (with_reducible repeat (first | refine blk_drewN ?_ _ | refine blk_drew ?_ | refine blk_alloc ?_ _)); exact BK101.out⟩
   have n3_ : Aside0 ((w50.setCell ⟨go47, oo47, none⟩ (.int .i64 t136)).heap[gb102]? = some (.cells #[.int .i64 0, .int .i64 0, .int .i64 0, .slice none 0 0] 26 (0, 0))) := ⟨by (with_reducible repeat (first | refine blk_drewN ?_ _ | refine blk_drew ?_ | refine blk_alloc ?_ _)); refine blk_far ?_ (by have h_ := Kd.Q_ne HO_127003.out BK102.out (by decide); intro e_; exact h_ (by rw [e_]; rfl)) _; (with_reducible repeat (first | refine blk_drewN ?_ _ | refine blk_drew ?_ | refine blk_alloc ?_ _)); exact BK102.out⟩
   have n4_ : Aside0 ((w50.setCell ⟨go47, oo47, none⟩ (.int .i64 t136)).heap[gb113]? = some (.cells #[.int .i64 t106, .int .i64 t107, .int .i64 t108, .slice Ao16 t109.length co16] 26 (0, 0))) := ⟨by (with_reducible repeat (first | refine blk_drewN ?_ _ | refine blk_drew ?_ | refine blk_alloc ?_ _)); refine blk_far ?_ (by have h_ := Kd.Q_ne HO_127003.out BK113.out (by decide); intro e_; exact h_ (by rw [e_]; rfl)) _; (with_reducible repeat (first | refine blk_drewN ?_ _ | refine blk_drew ?_ | refine blk_alloc ?_ _)); exact BK113.out⟩
   have n5_ : Aside0 ((w50.setCell ⟨go47, oo47, none⟩ (.int .i64 t136)).heap[gb126]? = some (.cells #[.int .i64 x127000_5, .int .i64 x127001_5, .int .i64 x127002_5, .slice (some ⟨go47, oo47, none⟩) x127003_5.length co47] 26 (0, 0))) := ⟨by (with_reducible repeat (first | refine blk_drewN ?_ _ | refine blk_drew ?_ | refine blk_alloc ?_ _)); refine blk_far ?_ (by have h_ := Kd.Q_ne HO_127003.out BK126.out (by decide); intro e_; exact h_ (by rw [e_]; rfl)) _; (with_reducible repeat (first | refine blk_drewN ?_ _ | refine blk_drew ?_ | refine blk_alloc ?_ _)); exact BK126.out⟩
   have n6_ : Aside0 (IsS87 w (w50.setCell ⟨go47, oo47, none⟩ (.int .i64 t136)) g105 t103 t137) := ⟨by repeat (first | (with_reducible first | exact HI105.out | apply IsS87.alloc | apply IsS87.drewN | apply IsS87.drew | apply IsS87.set_1 | refine IsS87.far ?_ HN105_go47.out _ | refine IsS87.far ?_ NB105_101.out _ | refine IsS87.far ?_ NB105_102.out _ | refine IsS87.far ?_ NB105_113.out _ | refine IsS87.far ?_ NB105_126.out _) | exact HI105.out)⟩
   have n7_ : Aside0 (Below w.heap.size w (w50.setCell ⟨go47, oo47, none⟩ (.int .i64 t136))) := ⟨by repeat (first | (with_reducible first | exact HB.out | apply below_alloc | apply pw_below_drewN | apply below_drew1 | refine below_set ?_ GB47.out | refine below_set ?_ (IsS87.ge HI105.out) | refine below_set ?_ GE101.out | refine below_set ?_ GE102.out | refine below_set ?_ GE113.out | refine below_set ?_ GE126.out) | exact HB.out)⟩
   (try clear HO_114003)
   (try clear HO_127003)
   (try clear BK101)
   (try clear BK102)
   (try clear BK113)
   (try clear BK126)
   (try clear HI105)
   (try clear HB)
   generalize (w50.setCell ⟨go47, oo47, none⟩ (.int .i64 t136)) = w52 at n0_ n1_ n2_ n3_ n4_ n5_ n6_ n7_ ⊢
   have HO_114003 := n0_
   have HO_127003 := n1_
   have BK101 := n2_
   have BK102 := n3_
   have BK113 := n4_
   have BK126 := n5_
   have HI105 := n6_
   have HB := n7_
   clear n0_ n1_ n2_ n3_ n4_ n5_ n6_ n7_
   try go_wp2
   replace HO_114003 := am_ (Kd.Q_drew HO_114003.out)
   replace HO_127003 := am_ (Kd.Q_drew HO_127003.out)
   replace BK101 := am_ (blk_drew BK101.out)
   replace BK102 := am_ (blk_drew BK102.out)
   replace BK113 := am_ (blk_drew BK113.out)
   replace BK126 := am_ (blk_drew BK126.out)
   replace HI105 := am_ (IsS87.drew HI105.out)
   replace HB := am_ (below_drew1 HB.out)
   refine start_ (n := 4) (S := fun w' => w'.cell? ⟨gb113, 0, none⟩ = some (.int .i64 t106) ∧ w'.cell? ⟨gb113, 1, none⟩ = some (.int .i64 t107) ∧ w'.cell? ⟨gb113, 2, none⟩ = some (.int .i64 t108) ∧ w'.cell? ⟨gb113, 3, none⟩ = some (.slice Ao16 t109.length co16) ∧ w'.cell? ⟨gb126, 0, none⟩ = some (.int .i64 x127000_5) ∧ w'.cell? ⟨gb126, 1, none⟩ = some (.int .i64 x127001_5) ∧ w'.cell? ⟨gb126, 2, none⟩ = some (.int .i64 x127002_5) ∧ w'.cell? ⟨gb126, 3, none⟩ = some (.slice (some ⟨go47, oo47, none⟩) x127003_5.length co47)) (ds := []) #[false, false, false, false] (by kernel_rfl) rfl rfl ⟨(blk_cell BK113.out 0).trans rfl, (blk_cell BK113.out 1).trans rfl, (blk_cell BK113.out 2).trans rfl, (blk_cell BK113.out 3).trans rfl, (blk_cell BK126.out 0).trans rfl, (blk_cell BK126.out 1).trans rfl, (blk_cell BK126.out 2).trans rfl, (blk_cell BK126.out 3).trans rfl⟩ (fun hHeld => ?_)
   generalize w52.drew = w53 at HO_114003 HO_127003 BK101 BK102 BK113 BK126 HI105 HB hHeld ⊢
   refine take_ (i := 0) (N := some 35) (v := ?_) (a' := ?_) #[true, false, false, false] rfl rfl (by kernel_rfl) (fun _ _ _ h => h) (Or.inl ⟨by rfl, ?_⟩) hHeld ?_ ?_
   rotate_left
   ·
    rintro w' ⟨s0, s1, s2, s3, s4, s5, s6, s7⟩
    go_simp
    with_reducible rfl
   rotate_left
   ·
    simp only [Act.put, List.setIfInBounds_toArray, List.set_cons_zero, List.set_cons_succ, i64_w, i32_w]
    rfl
   refine take_ (i := 1) (N := some 36) (v := ?_) (a' := ?_) #[true, true, false, false] rfl rfl (by kernel_rfl) (fun _ _ _ h => h) (Or.inl ⟨by rfl, ?_⟩) hHeld ?_ ?_
   rotate_left
   ·
    rintro w' ⟨s0, s1, s2, s3, s4, s5, s6, s7⟩
    go_simp
    with_reducible rfl
   rotate_left
   ·
    simp only [Act.put, List.setIfInBounds_toArray, List.set_cons_zero, List.set_cons_succ, i64_w, i32_w]
    rfl
   refine one_ (i := 2) (N := none) #[true, true, true, false] rfl rfl (by kernel_rfl) (by decide) (fun K hK => ?_)
   have hs54 : w53.cell? ⟨gb101, 0, none⟩ = some (.int .i64 0) := (blk_cell BK101.out 0).trans rfl
   have hfs54 := blk_frozen BK101.out 0
   have hns54_1 := NB102_101.out
   have hns54_2 := NB113_101.out
   have hns54_3 := NB126_101.out
   have hms54_1 := NB101_102.out
   have hms54_2 := NB101_113.out
   have hms54_3 := NB101_126.out
   have hs55 : w53.cell? ⟨gb101, 1, none⟩ = some (.int .i64 0) := (blk_cell BK101.out 1).trans rfl
   have hfs55 := blk_frozen BK101.out 1
   have hns55_1 := NB102_101.out
   have hns55_2 := NB113_101.out
   have hns55_3 := NB126_101.out
   have hms55_1 := NB101_102.out
   have hms55_2 := NB101_113.out
   have hms55_3 := NB101_126.out
   have hs56 : w53.cell? ⟨gb101, 2, none⟩ = some (.int .i64 0) := (blk_cell BK101.out 2).trans rfl
   have hfs56 := blk_frozen BK101.out 2
   have hns56_1 := NB102_101.out
   have hns56_2 := NB113_101.out
   have hns56_3 := NB126_101.out
   have hms56_1 := NB101_102.out
   have hms56_2 := NB101_113.out
   have hms56_3 := NB101_126.out
   have hs57 : w53.cell? ⟨gb101, 3, none⟩ = some (.slice none 0 0) := (blk_cell BK101.out 3).trans rfl
   have hfs57 := blk_frozen BK101.out 3
   have hns57_1 := NB102_101.out
   have hns57_2 := NB113_101.out
   have hns57_3 := NB126_101.out
   have hms57_1 := NB101_102.out
   have hms57_2 := NB101_113.out
   have hms57_3 := NB101_126.out
   refine skip_ (w1 := ?_) (by rfl) rfl ?_ ?_
   rotate_left
   ·
    go_simp
    rfl
   refine hK.out _ _ ⟨((cell_far (p := ⟨gb101, _, none⟩) NB113_101.out _).trans (((cell_far (p := ⟨gb101, _, none⟩) NB113_101.out _).trans (((cell_far (p := ⟨gb101, _, none⟩) NB113_101.out _).trans (((cell_far (p := ⟨gb101, _, none⟩) NB113_101.out _).trans (hHeld.1)))))))), ((cell_far (p := ⟨gb101, _, none⟩) NB113_101.out _).trans (((cell_far (p := ⟨gb101, _, none⟩) NB113_101.out _).trans (((cell_far (p := ⟨gb101, _, none⟩) NB113_101.out _).trans (((cell_far (p := ⟨gb101, _, none⟩) NB113_101.out _).trans (hHeld.2.1)))))))), ((cell_far (p := ⟨gb101, _, none⟩) NB113_101.out _).trans (((cell_far (p := ⟨gb101, _, none⟩) NB113_101.out _).trans (((cell_far (p := ⟨gb101, _, none⟩) NB113_101.out _).trans (((cell_far (p := ⟨gb101, _, none⟩) NB113_101.out _).trans (hHeld.2.2.1)))))))), ((cell_far (p := ⟨gb101, _, none⟩) NB113_101.out _).trans (((cell_far (p := ⟨gb101, _, none⟩) NB113_101.out _).trans (((cell_far (p := ⟨gb101, _, none⟩) NB113_101.out _).trans (((cell_far (p := ⟨gb101, _, none⟩) NB113_101.out _).trans (hHeld.2.2.2.1)))))))), ((cell_far (p := ⟨gb101, _, none⟩) NB126_101.out _).trans (((cell_far (p := ⟨gb101, _, none⟩) NB126_101.out _).trans (((cell_far (p := ⟨gb101, _, none⟩) NB126_101.out _).trans (((cell_far (p := ⟨gb101, _, none⟩) NB126_101.out _).trans (hHeld.2.2.2.2.1)))))))), ((cell_far (p := ⟨gb101, _, none⟩) NB126_101.out _).trans (((cell_far (p := ⟨gb101, _, none⟩) NB126_101.out _).trans (((cell_far (p := ⟨gb101, _, none⟩) NB126_101.out _).trans (((cell_far (p := ⟨gb101, _, none⟩) NB126_101.out _).trans (hHeld.2.2.2.2.2.1)))))))), ((cell_far (p := ⟨gb101, _, none⟩) NB126_101.out _).trans (((cell_far (p := ⟨gb101, _, none⟩) NB126_101.out _).trans (((cell_far (p := ⟨gb101, _, none⟩) NB126_101.out _).trans (((cell_far (p := ⟨gb101, _, none⟩) NB126_101.out _).trans (hHeld.2.2.2.2.2.2.1)))))))), ((cell_far (p := ⟨gb101, _, none⟩) NB126_101.out _).trans (((cell_far (p := ⟨gb101, _, none⟩) NB126_101.out _).trans (((cell_far (p := ⟨gb101, _, none⟩) NB126_101.out _).trans (((cell_far (p := ⟨gb101, _, none⟩) NB126_101.out _).trans (hHeld.2.2.2.2.2.2.2))))))))⟩ (fun hHeld => ?_)
   clear hK K
   refine one_ (i := 3) (N := none) #[true, true, true, true] rfl rfl (by kernel_rfl) (by decide) (fun K hK => ?_)
   have hs58 : w53.cell? ⟨gb102, 0, none⟩ = some (.int .i64 0) := (blk_cell BK102.out 0).trans rfl
   have hfs58 := blk_frozen BK102.out 0
   have hns58_0 := NB101_102.out
   have hns58_2 := NB113_102.out
   have hns58_3 := NB126_102.out
   have hms58_0 := NB102_101.out
   have hms58_2 := NB102_113.out
   have hms58_3 := NB102_126.out
   have hs59 : w53.cell? ⟨gb102, 1, none⟩ = some (.int .i64 0) := (blk_cell BK102.out 1).trans rfl
   have hfs59 := blk_frozen BK102.out 1
   have hns59_0 := NB101_102.out
   have hns59_2 := NB113_102.out
   have hns59_3 := NB126_102.out
   have hms59_0 := NB102_101.out
   have hms59_2 := NB102_113.out
   have hms59_3 := NB102_126.out
   have hs60 : w53.cell? ⟨gb102, 2, none⟩ = some (.int .i64 0) := (blk_cell BK102.out 2).trans rfl
   have hfs60 := blk_frozen BK102.out 2
   have hns60_0 := NB101_102.out
   have hns60_2 := NB113_102.out
   have hns60_3 := NB126_102.out
   have hms60_0 := NB102_101.out
   have hms60_2 := NB102_113.out
   have hms60_3 := NB102_126.out
   have hs61 : w53.cell? ⟨gb102, 3, none⟩ = some (.slice none 0 0) := (blk_cell BK102.out 3).trans rfl
   have hfs61 := blk_frozen BK102.out 3
   have hns61_0 := NB101_102.out
   have hns61_2 := NB113_102.out
   have hns61_3 := NB126_102.out
   have hms61_0 := NB102_101.out
   have hms61_2 := NB102_113.out
   have hms61_3 := NB102_126.out
   refine skip_ (w1 := ?_) (by rfl) rfl ?_ ?_
   rotate_left
   ·
    go_simp
    rfl
   refine hK.out _ _ ⟨((cell_far (p := ⟨gb102, _, none⟩) NB113_102.out _).trans (((cell_far (p := ⟨gb102, _, none⟩) NB113_102.out _).trans (((cell_far (p := ⟨gb102, _, none⟩) NB113_102.out _).trans (((cell_far (p := ⟨gb102, _, none⟩) NB113_102.out _).trans (hHeld.1)))))))), ((cell_far (p := ⟨gb102, _, none⟩) NB113_102.out _).trans (((cell_far (p := ⟨gb102, _, none⟩) NB113_102.out _).trans (((cell_far (p := ⟨gb102, _, none⟩) NB113_102.out _).trans (((cell_far (p := ⟨gb102, _, none⟩) NB113_102.out _).trans (hHeld.2.1)))))))), ((cell_far (p := ⟨gb102, _, none⟩) NB113_102.out _).trans (((cell_far (p := ⟨gb102, _, none⟩) NB113_102.out _).trans (((cell_far (p := ⟨gb102, _, none⟩) NB113_102.out _).trans (((cell_far (p := ⟨gb102, _, none⟩) NB113_102.out _).trans (hHeld.2.2.1)))))))), ((cell_far (p := ⟨gb102, _, none⟩) NB113_102.out _).trans (((cell_far (p := ⟨gb102, _, none⟩) NB113_102.out _).trans (((cell_far (p := ⟨gb102, _, none⟩) NB113_102.out _).trans (((cell_far (p := ⟨gb102, _, none⟩) NB113_102.out _).trans (hHeld.2.2.2.1)))))))), ((cell_far (p := ⟨gb102, _, none⟩) NB126_102.out _).trans (((cell_far (p := ⟨gb102, _, none⟩) NB126_102.out _).trans (((cell_far (p := ⟨gb102, _, none⟩) NB126_102.out _).trans (((cell_far (p := ⟨gb102, _, none⟩) NB126_102.out _).trans (hHeld.2.2.2.2.1)))))))), ((cell_far (p := ⟨gb102, _, none⟩) NB126_102.out _).trans (((cell_far (p := ⟨gb102, _, none⟩) NB126_102.out _).trans (((cell_far (p := ⟨gb102, _, none⟩) NB126_102.out _).trans (((cell_far (p := ⟨gb102, _, none⟩) NB126_102.out _).trans (hHeld.2.2.2.2.2.1)))))))), ((cell_far (p := ⟨gb102, _, none⟩) NB126_102.out _).trans (((cell_far (p := ⟨gb102, _, none⟩) NB126_102.out _).trans (((cell_far (p := ⟨gb102, _, none⟩) NB126_102.out _).trans (((cell_far (p := ⟨gb102, _, none⟩) NB126_102.out _).trans (hHeld.2.2.2.2.2.2.1)))))))), ((cell_far (p := ⟨gb102, _, none⟩) NB126_102.out _).trans (((cell_far (p := ⟨gb102, _, none⟩) NB126_102.out _).trans (((cell_far (p := ⟨gb102, _, none⟩) NB126_102.out _).trans (((cell_far (p := ⟨gb102, _, none⟩) NB126_102.out _).trans (hHeld.2.2.2.2.2.2.2))))))))⟩ (fun hHeld => ?_)
   clear hK K
   refine done_ (by kernel_rfl) ?_
   try go_wp2
   refine bodyPost_ret (results_cc rfl _ _ gb101 gb102 26 26 #[.int .i64 t106, .int .i64 t107, .int .i64 t108, .slice Ao16 t109.length co16] #[.int .i64 x127000_5, .int .i64 x127001_5, .int .i64 x127002_5, .slice (some ⟨go47, oo47, none⟩) x127003_5.length co47] (0, 0) (0, 0) _ _ rfl (by (with_reducible repeat (first | refine blk_drewN ?_ _ | refine blk_drew ?_ | refine blk_alloc ?_ _)); refine blk_far ?_ NB101_102.out _; (with_reducible repeat (first | refine blk_drewN ?_ _ | refine blk_drew ?_ | refine blk_alloc ?_ _)); refine blk_far ?_ NB101_102.out _; (with_reducible repeat (first | refine blk_drewN ?_ _ | refine blk_drew ?_ | refine blk_alloc ?_ _)); refine blk_far ?_ NB101_102.out _; (with_reducible repeat (first | refine blk_drewN ?_ _ | refine blk_drew ?_ | refine blk_alloc ?_ _)); refine blk_far ?_ NB101_102.out _; (with_reducible repeat (first | refine blk_drewN ?_ _ | refine blk_drew ?_ | refine blk_alloc ?_ _)); refine blk_put (cs := #[.int .i64 t106, .int .i64 t107, .int .i64 t108, .slice none 0 0]) ?_ 3 _ rfl; (with_reducible repeat (first | refine blk_drewN ?_ _ | refine blk_drew ?_ | refine blk_alloc ?_ _)); refine blk_put (cs := #[.int .i64 t106, .int .i64 t107, .int .i64 0, .slice none 0 0]) ?_ 2 _ rfl; (with_reducible repeat (first | refine blk_drewN ?_ _ | refine blk_drew ?_ | refine blk_alloc ?_ _)); refine blk_put (cs := #[.int .i64 t106, .int .i64 0, .int .i64 0, .slice none 0 0]) ?_ 1 _ rfl; (with_reducible repeat (first | refine blk_drewN ?_ _ | refine blk_drew ?_ | refine blk_alloc ?_ _)); refine blk_put (cs := #[.int .i64 0, .int .i64 0, .int .i64 0, .slice none 0 0]) ?_ 0 _ rfl; (with_reducible repeat (first | refine blk_drewN ?_ _ | refine blk_drew ?_ | refine blk_alloc ?_ _)); exact BK101.out) Try.underlying26 rfl (by kernel_rfl) rfl (by (with_reducible repeat (first | refine blk_drewN ?_ _ | refine blk_drew ?_ | refine blk_alloc ?_ _)); refine blk_put (cs := #[.int .i64 x127000_5, .int .i64 x127001_5, .int .i64 x127002_5, .slice none 0 0]) ?_ 3 _ rfl; (with_reducible repeat (first | refine blk_drewN ?_ _ | refine blk_drew ?_ | refine blk_alloc ?_ _)); refine blk_put (cs := #[.int .i64 x127000_5, .int .i64 x127001_5, .int .i64 0, .slice none 0 0]) ?_ 2 _ rfl; (with_reducible repeat (first | refine blk_drewN ?_ _ | refine blk_drew ?_ | refine blk_alloc ?_ _)); refine blk_put (cs := #[.int .i64 x127000_5, .int .i64 0, .int .i64 0, .slice none 0 0]) ?_ 1 _ rfl; (with_reducible repeat (first | refine blk_drewN ?_ _ | refine blk_drew ?_ | refine blk_alloc ?_ _)); refine blk_put (cs := #[.int .i64 0, .int .i64 0, .int .i64 0, .slice none 0 0]) ?_ 0 _ rfl; (with_reducible repeat (first | refine blk_drewN ?_ _ | refine blk_drew ?_ | refine blk_alloc ?_ _)); refine blk_far ?_ NB102_101.out _; (with_reducible repeat (first | refine blk_drewN ?_ _ | refine blk_drew ?_ | refine blk_alloc ?_ _)); refine blk_far ?_ NB102_101.out _; (with_reducible repeat (first | refine blk_drewN ?_ _ | refine blk_drew ?_ | refine blk_alloc ?_ _)); refine blk_far ?_ NB102_101.out _; (with_reducible repeat (first | refine blk_drewN ?_ _ | refine blk_drew ?_ | refine blk_alloc ?_ _)); refine blk_far ?_ NB102_101.out _; (with_reducible repeat (first | refine blk_drewN ?_ _ | refine blk_drew ?_ | refine blk_alloc ?_ _)); exact BK102.out) Try.underlying26 rfl (by kernel_rfl)) rfl ?_
   exact ⟨_, _, by first | rfl | (simp [errW_none, errW_some] <;> rfl) | (simp [*, errW_none, errW_some] <;> rfl), by exact Kd.Q_mono (Kd.Q_far (p := ⟨gb102, 3, none⟩) (Kd.Q_far (p := ⟨gb102, 2, none⟩) (Kd.Q_far (p := ⟨gb102, 1, none⟩) (Kd.Q_far (p := ⟨gb102, 0, none⟩) (Kd.Q_far (p := ⟨gb101, 3, none⟩) (Kd.Q_far (p := ⟨gb101, 2, none⟩) (Kd.Q_far (p := ⟨gb101, 1, none⟩) (Kd.Q_far (p := ⟨gb101, 0, none⟩) (Kd.Q_types (Kd.Q_types HO_114003.out BK101.out (by decide)) BK102.out (by decide)) (fun _ hk => hk.1.2) (.int .i64 t106)) (fun _ hk => hk.1.2) (.int .i64 t107)) (fun _ hk => hk.1.2) (.int .i64 t108)) (fun _ hk => hk.1.2) (.slice Ao16 t109.length co16)) (fun _ hk => hk.2) (.int .i64 x127000_5)) (fun _ hk => hk.2) (.int .i64 x127001_5)) (fun _ hk => hk.2) (.int .i64 x127002_5)) (fun _ hk => hk.2) (.slice (some ⟨go47, oo47, none⟩) x127003_5.length co47)) (fun _ hk => hk.1.1), by exact Kd.Q_mono (Kd.Q_far (p := ⟨gb102, 3, none⟩) (Kd.Q_far (p := ⟨gb102, 2, none⟩) (Kd.Q_far (p := ⟨gb102, 1, none⟩) (Kd.Q_far (p := ⟨gb102, 0, none⟩) (Kd.Q_far (p := ⟨gb101, 3, none⟩) (Kd.Q_far (p := ⟨gb101, 2, none⟩) (Kd.Q_far (p := ⟨gb101, 1, none⟩) (Kd.Q_far (p := ⟨gb101, 0, none⟩) (Kd.Q_types (Kd.Q_types HO_127003.out BK101.out (by decide)) BK102.out (by decide)) (fun _ hk => hk.1.2) (.int .i64 t106)) (fun _ hk => hk.1.2) (.int .i64 t107)) (fun _ hk => hk.1.2) (.int .i64 t108)) (fun _ hk => hk.1.2) (.slice Ao16 t109.length co16)) (fun _ hk => hk.2) (.int .i64 x127000_5)) (fun _ hk => hk.2) (.int .i64 x127001_5)) (fun _ hk => hk.2) (.int .i64 x127002_5)) (fun _ hk => hk.2) (.slice (some ⟨go47, oo47, none⟩) x127003_5.length co47)) (fun _ hk => hk.1.1), by repeat (first | (with_reducible first | exact HB.out | apply below_alloc | apply pw_below_drewN | apply below_drew1 | refine below_set ?_ (IsS87.ge HI105.out) | refine below_set ?_ GE101.out | refine below_set ?_ GE102.out | refine below_set ?_ GE113.out | refine below_set ?_ GE126.out) | exact HB.out)⟩

end Go.Proofs.Ytmaiifghplcjeaa.Print
