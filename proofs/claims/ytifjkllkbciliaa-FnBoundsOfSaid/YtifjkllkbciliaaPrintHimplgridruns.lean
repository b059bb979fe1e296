-- laid by hp.py (a program of this work over the kit's print), with contracts by hand for what the print does not take
import Derived.Test.YtifjkllkbciliaaPrint0
import Derived.Test.YtifjkllkbciliaaPrintHhandGrid
import Derived.Test.YtifjkllkbciliaaPrintHhandRuns
namespace Go.Proofs.Ytifjkllkbciliaa.Print
open Go.RowKit Go.Proofs.YtifjkllkbciliaaW.PrintWords Go.Proofs.YtifjkllkbciliaaW.PrintLast Go.Proofs.YtifjkllkbciliaaW.PrintMore
attribute [local go_sem] max2_int min2_int max_two min_two max_three min_three max_four min_four   -- for this text's walks alone
set_option linter.unusedVariables false
set_option linter.unusedSimpArgs false

--SNIP impl_grid_runs
set_option maxHeartbeats 8000000 in
set_option maxRecDepth 100000 in
theorem impl_grid_runs.any (f : Nat → Bool) (w : World) :
    Calls Try.prog 46 #[.agg (gcells f)] w fun e w' => ∃ v0_ : Value, e = .returned v0_ ∧ Kd.R k45 45 w' w.heap.size (fun _ => True) v0_ (runsL f) ∧ Below w.heap.size w w' := by
  have hu45 := Try.underlying45
  have HB := Aside0.mk (below_alloc (Below.refl w.heap.size w) (.cells (gcells f) 59))
  have HG := IsGrid.new w f
  go_enter Try.func46, Try.ntmps46
  go_wp2_with (first | (refine wpList_box_grid rfl _ rfl f rfl ?_) | ((with_reducible refine gate_dst (N := 7) rfl ?_); refine Kd.R_lit k45 _ 45 ?hg (N := 7) ?hd (xs := ([] : List (S45))) (inner := []) (ok := fun _ => True) (okp := fun _ => True) ?hr ?hp (fun _ hk => hk) trivial (Below.refl _ _) (Nat.le_refl _) (by simp) ?_; (case hd => rfl); (case hg => rfl); (case hr => first | (go_simp; done) | (go_simp; rfl)); (case hp => exact (Reps.none _ _)); intro v104 w2 ho3 hb hg_ hnew_; clear hg_ hnew_; replace ho3 := Kd.R_lower ho3 (below_size HB.out); have HG1 := HG.below hb HG.lt; replace hb := below_step HB.out hb; clear HB HG))
  go_loopw [3, 8] (fun v i wr => ∃ y : Nat, y ≤ 16 ∧ i = .int .i64 y ∧ IsGrid wr w.heap.size f ∧ Aside0 (Kd.R k45 45 wr w.heap.size (fun _ => True) v (runsUpto f (16 * y))) ∧ Aside0 (Below w.heap.size w wr)) (fun _ i _ => 16 - (intOf i).toNat)
  case atStart => exact ⟨0, by omega, rfl, HG1, ⟨by (with_reducible repeat (first | apply Kd.R_alloc | apply Kd.R_drewN | apply Kd.R_drew)); exact ho3⟩, ⟨hb⟩⟩
  case round =>
    clear HG1 ho3 hb
    obtain ⟨y, hy, rfl, HG, HO, HB⟩ := hrel
    by_cases hlt : y < 16
    · obtain ⟨wo, rfl⟩ : ∃ wo : World, wo = wr := ⟨_, rfl⟩
      have hdy : decide ((y : Int) < 16) = true := decide_eq_true (by omega)
      go_wp2
      go_loopw [3, 5] (fun v i wr => ∃ x : Nat, x ≤ 17 ∧ i = .int .i64 x ∧ Aside0 (x = 0 ∨ 16 ≤ x ∨ f (16 * y + x - 1) = false) ∧ IsGrid wr w.heap.size f ∧ Aside0 (Kd.R k45 45 wr w.heap.size (fun _ => True) v (runsUpto f (16 * y + min x 16))) ∧ Aside0 (Below w.heap.size w wr)) (fun _ i _ => 17 - (intOf i).toNat)
      case atStart => exact ⟨0, by omega, rfl, ⟨.inl rfl⟩, HG, HO, HB⟩
      case round =>
        clear HG HO HB
        obtain ⟨x, hx, rfl, HS, HG, HO, HB⟩ := hrel
        by_cases hlx : x < 16
        · have hdx : decide ((x : Int) < 16) = true := decide_eq_true (by omega)
          have hi1 := run_index_grid w.heap.size y hlt
          have hi2 := run_index_line w.heap.size (y * 16) x hlx
          have hc : wr.cell? ⟨w.heap.size, y * 16 + x, none⟩ = some (.bool (f (16 * y + x))) := by rw [HG.cell _ (by omega), Nat.mul_comm]
          cases hf : f (16 * y + x) with
          | false =>
            have HF := Aside0.mk hf
            rw [hf] at hc
            clear hf
            go_wp2
            go_roundw
            case rel => exact ⟨x + 1, by omega, by go_num, ⟨.inr (.inr (by rw [show 16 * y + (x + 1) - 1 = 16 * y + x by omega]; exact HF.out))⟩, HG, ⟨by rw [show 16 * y + min (x + 1) 16 = 16 * y + x + 1 by omega, runsUpto_false f _ HF.out, show 16 * y + x = 16 * y + min x 16 by omega]; exact HO.out⟩, HB⟩
            case measure => simp [intOf]; omega
          | true =>
            have HF := Aside0.mk hf
            rw [hf] at hc
            clear hf
            have HE := Aside0.mk (endOf_facts f y (16 - x) x (by omega) rfl)
            have HGT := Aside0.mk (endOf_gt f y x hlx HF.out)
            obtain ⟨wi, rfl⟩ : ∃ wi : World, wi = wr := ⟨_, rfl⟩
            go_wp2
            go_loop [5] (fun i => ∃ x' : Nat, x ≤ x' ∧ x' ≤ 16 ∧ i = .int .i64 x' ∧ Aside0 (endOf f y x' = endOf f y x)) (fun i => 16 - (intOf i).toNat)
            case atStart => exact ⟨x, by omega, by omega, rfl, ⟨rfl⟩⟩
            case round =>
              clear hi2 hc hdx
              obtain ⟨x', hx1, hx2, rfl, HX⟩ := hrel
              by_cases hlx' : x' < 16
              · have hdx' : decide ((x' : Int) < 16) = true := decide_eq_true (by omega)
                have hi2 := run_index_line w.heap.size (y * 16) x' hlx'
                have hc : wi.cell? ⟨w.heap.size, y * 16 + x', none⟩ = some (.bool (f (16 * y + x'))) := by rw [HG.cell _ (by omega), Nat.mul_comm]
                replace hc := (pw_cell_below (below_alloc (Below.refl wi.heap.size wi) (.cells #[.int .i64 y, .int .i64 x, .int .i64 0] 45)) hc)
                cases hf : f (16 * y + x') with
                | true =>
                  have HX2 := Aside0.mk ((endOf_true f y x' hlx' hf).symm.trans HX.out)
                  rw [hf] at hc
                  clear hf
                  go_wp2
                  go_round
                  case rel => exact ⟨x' + 1, by omega, by omega, by go_num, HX2⟩
                  case measure => simp [intOf]; omega
                | false =>
                  have HX2 := Aside0.mk ((endOf_false f y x' hlx' hf).symm.trans HX.out)
                  rw [hf] at hc
                  clear hf
                  go_wp2_with (first | ((with_reducible refine gate_builtin (b := .append) (xs := #[.tmp 37, .tmp 39]) rfl ?_); at_builtin; (refine Kd.R_append k45 (w0 := w) w.heap.size rfl (.tmp 37) (.tmp 39) 22 45 (.agg #[(.int .i64 0), (.int .i64 0), (.int .i64 0)]) 24 rfl Try.underlying22 info45 rfl (by decide) (by omega) u3 (runsUpto f (16 * y + min x 16)) (⟨(y : Int), (x : Int), (x' : Int)⟩ : S45) [.int .i64 y, .int .i64 x, .int .i64 x'] (fun _ => True) (fun _ => False) rfl (by rw [gsize_alloc]; rfl) ?aP (fun _ hk => hk.elim) ?aF ?aO ?aB ?aS ?aL ?_); (case aP => exact k45_mkM _ _ _ (⟨(y : Int), (x : Int), (x' : Int)⟩ : S45)); (case aF => exact (fun _ _ => trivial)); (case aO => exact (by (with_reducible repeat (first | apply Kd.R_alloc | apply Kd.R_drewN | apply Kd.R_drew)); exact HO.out)); (case aB => exact (below_alloc HB.out _)); (case aS => exact (below_size (below_alloc HB.out _))); (case aL => have := runsUpto_length f (16 * y + min x 16); omega); intro v108 w17 ho hb hg hat; have HG2 : IsGrid w17 w.heap.size f := ⟨(hg.block w.heap.size (by rw [gsize_alloc]; have := HG.lt; omega) (Kd.R_ne HO.out HG.out (by decide))).trans (HG.alloc _).out⟩; clear hg hat))
                  have HX3 := Aside0.mk (runsUpto_run f y x hlx HF.out (by rcases HS.out with h | h | h; exact .inl h; omega; exact .inr h))
                  have hEx : endOf f y x = x' := HX2.out.symm
                  replace HX3 := Aside0.mk (by have h := HX3.out; rw [hEx] at h; exact h)
                  have hlast := HE.out.2.2.2
                  rw [hEx] at hlast
                  have HL := Aside0.mk hlast
                  clear hEx hlast
                  go_roundw
                  case rel => exact ⟨x' + 1, by omega, by go_num, ⟨by by_cases h16 : 16 ≤ x' + 1
                                                                      · exact .inr (.inl h16)
                                                                      · exact .inr (.inr (by rw [show 16 * y + (x' + 1) - 1 = 16 * y + x' by omega]; exact HL.out (by omega)))⟩, HG2, ⟨by
                      have hm : runsUpto f (16 * y + min (x' + 1) 16) = runsUpto f (16 * y + x') := by
                        by_cases h16 : x' < 16
                        · rw [show 16 * y + min (x' + 1) 16 = 16 * y + x' + 1 by omega, runsUpto_false f _ (HL.out h16)]
                        · rw [show 16 * y + min (x' + 1) 16 = 16 * y + x' by omega]
                      rw [hm, HX3.out, show 16 * y + x = 16 * y + min x 16 by omega]
                      exact ho⟩, ⟨hb⟩⟩
                  case measure => simp [intOf]; omega
              · have hdx' : decide ((x' : Int) < 16) = false := decide_eq_false (by omega)
                have HX2 : Aside0 (x' = endOf f y x) := ⟨by rw [← HX.out, endOf_out f y x' (by omega)]; omega⟩
                go_wp2_with (first | ((with_reducible refine gate_builtin (b := .append) (xs := #[.tmp 37, .tmp 39]) rfl ?_); at_builtin; (refine Kd.R_append k45 (w0 := w) w.heap.size rfl (.tmp 37) (.tmp 39) 22 45 (.agg #[(.int .i64 0), (.int .i64 0), (.int .i64 0)]) 24 rfl Try.underlying22 info45 rfl (by decide) (by omega) u3 (runsUpto f (16 * y + min x 16)) (⟨(y : Int), (x : Int), (x' : Int)⟩ : S45) [.int .i64 y, .int .i64 x, .int .i64 x'] (fun _ => True) (fun _ => False) rfl (by rw [gsize_alloc]; rfl) ?aP (fun _ hk => hk.elim) ?aF ?aO ?aB ?aS ?aL ?_); (case aP => exact k45_mkM _ _ _ (⟨(y : Int), (x : Int), (x' : Int)⟩ : S45)); (case aF => exact (fun _ _ => trivial)); (case aO => exact (by (with_reducible repeat (first | apply Kd.R_alloc | apply Kd.R_drewN | apply Kd.R_drew)); exact HO.out)); (case aB => exact (below_alloc HB.out _)); (case aS => exact (below_size (below_alloc HB.out _))); (case aL => have := runsUpto_length f (16 * y + min x 16); omega); intro v108 w17 ho hb hg hat; have HG2 : IsGrid w17 w.heap.size f := ⟨(hg.block w.heap.size (by rw [gsize_alloc]; have := HG.lt; omega) (Kd.R_ne HO.out HG.out (by decide))).trans (HG.alloc _).out⟩; clear hg hat))
                have HX3 := Aside0.mk (runsUpto_run f y x hlx HF.out (by rcases HS.out with h | h | h; exact .inl h; omega; exact .inr h))
                have hEx : endOf f y x = x' := HX2.out.symm
                replace HX3 := Aside0.mk (by have h := HX3.out; rw [hEx] at h; exact h)
                have hlast := HE.out.2.2.2
                rw [hEx] at hlast
                have HL := Aside0.mk hlast
                clear hEx hlast
                go_roundw
                case rel => exact ⟨x' + 1, by omega, by go_num, ⟨by by_cases h16 : 16 ≤ x' + 1
                                                                    · exact .inr (.inl h16)
                                                                    · exact .inr (.inr (by rw [show 16 * y + (x' + 1) - 1 = 16 * y + x' by omega]; exact HL.out (by omega)))⟩, HG2, ⟨by
                    have hm : runsUpto f (16 * y + min (x' + 1) 16) = runsUpto f (16 * y + x') := by
                      by_cases h16 : x' < 16
                      · rw [show 16 * y + min (x' + 1) 16 = 16 * y + x' + 1 by omega, runsUpto_false f _ (HL.out h16)]
                      · rw [show 16 * y + min (x' + 1) 16 = 16 * y + x' by omega]
                    rw [hm, HX3.out, show 16 * y + x = 16 * y + min x 16 by omega]
                    exact ho⟩, ⟨hb⟩⟩
                case measure => simp [intOf]; omega
        · have hdx : decide ((x : Int) < 16) = false := decide_eq_false (by omega)
          go_wp2
          go_roundw
          case rel => exact ⟨y + 1, by omega, by go_num, HG, ⟨by rw [show 16 * (y + 1) = 16 * y + min x 16 by omega]; exact HO.out⟩, HB⟩
          case measure => simp [intOf]; omega
    · have hy' : y = 16 := by omega
      subst hy'
      go_wp2
      go_ret
      exact ⟨_, rfl, by (with_reducible repeat (first | apply Kd.R_alloc | apply Kd.R_drewN | apply Kd.R_drew)); exact HO.out, HB.out⟩

end Go.Proofs.Ytifjkllkbciliaa.Print
