-- laid by hp.py (a program of this work over the kit's print), with contracts by hand for what the print does not take
import Derived.Test.YtbpeonhhlfadcaaPrint0
import Derived.Test.YtbpeonhhlfadcaaPrintHhandSort
import Derived.Test.YtbpeonhhlfadcaaPrintHx1
import Derived.Test.YtbpeonhhlfadcaaPrintR1x0
namespace Go.Proofs.Ytbpeonhhlfadcaa.Print
open Go.RowKit Go.Proofs.YtbpeonhhlfadcaaW.PrintWords Go.Proofs.YtbpeonhhlfadcaaW.PrintLast Go.Proofs.YtbpeonhhlfadcaaW.PrintMore
attribute [local go_sem] max2_int min2_int max_two min_two max_three min_three max_four min_four   -- for this text's walks alone
set_option linter.unusedVariables false
set_option linter.unusedSimpArgs false

--SNIP spec_tallFirst
/-! ### spec_tallFirst: function 26, by hand -/
def spec_tallFirst.f (l0 : List S33) : Option (List Int) := if l0.length ≤ 12 then some (intsN (orderL (hOf l0) l0.length)) else none
theorem intsN_insL (h : Nat → Int) (out : List Nat) (k j : Nat) (hj : atPos h out k out.length = j) : intsN (out.take j) ++ [(k : Int)] ++ intsN (out.drop j) = intsN (insL h out k) := by
  unfold insL intsN
  rw [hj, List.map_append, List.map_cons, List.append_assoc]
  rfl
theorem intsN_take (out : List Nat) (j : Nat) : (intsN out).take j = intsN (out.take j) := by unfold intsN; rw [List.map_take]
theorem intsN_drop (out : List Nat) (j : Nat) : (intsN out).drop j = intsN (out.drop j) := by unfold intsN; rw [List.map_drop]
set_option maxHeartbeats 8000000 in
set_option maxRecDepth 100000 in
theorem spec_tallFirst.calls (A0 : Option Addr) (c0 : Nat) (l0 : List S33) (r : List Int) (w : World) (hr0 : Kd.C k33 w A0 l0.length l0) (hc0 : l0.length ≤ c0) (h : spec_tallFirst.f l0 = some r) :
    Calls Try.prog 26 #[.slice A0 l0.length c0] w fun e w' => ∃ v0_ : Value, e = .returned v0_ ∧ Kd.R (Kd.int .i64) 3 w' w.heap.size (fun _ => True) v0_ r ∧ Below w.heap.size w w' := by
  unfold spec_tallFirst.f at h
  by_cases hn12 : l0.length ≤ 12
  case neg => rw [if_neg hn12] at h; cases h
  rw [if_pos hn12] at h
  obtain rfl := Option.some.inj h
  clear h
  have HR := Aside0.mk hr0
  clear hr0 hc0
  go_enter Try.func26, Try.ntmps26
  go_wp2_with ((with_reducible refine gate_dst (N := 6) rfl ?_); refine Kd.R_lit (Kd.int .i64) _ 3 ?hg (N := 6) ?hd (xs := ([] : List Int)) (inner := []) (ok := fun _ => True) (okp := fun _ => True) ?hr ?hp (fun _ hk => hk) trivial (Below.refl w.heap.size w) (Nat.le_refl _) (by simp) ?_; (case hd => rfl); (case hg => rfl); (case hr => first | (go_simp; done) | (go_simp; rfl)); (case hp => exact (Reps.none _ _)); intro v0 w2 ho hb hg_ hnew_; clear hg_ hnew_; have HO2 := Aside0.mk ho; have HB2 := Aside0.mk hb; clear hb ho)
  go_loopw [3, 4] (fun v i wr => ∃ k : Nat, k ≤ l0.length ∧ i = .int .i64 k ∧ Aside0 (Kd.R (Kd.int .i64) 3 wr w.heap.size (fun _ => True) v (intsN (orderL (hOf l0) k))) ∧ Aside0 (Below w.heap.size w wr)) (fun _ i _ => l0.length - (intOf i).toNat)
  case atStart => exact ⟨0, by omega, rfl, HO2, HB2⟩
  case round =>
    clear HO2 HB2
    obtain ⟨k, hk, rfl, HO, HB⟩ := hrel
    by_cases hlt : k < l0.length
    · have hdk : decide ((k : Int) < (l0.length : Int)) = true := decide_eq_true (by omega)
      have hdk2 : decide (k < l0.length) = true := decide_eq_true hlt
      obtain ⟨A3, c3, e3⟩ := Kd.R_slice HO.out
      subst e3
      rw [intsN_length, orderL_length] at HO ⊢
      have HNX : Aside0 (orderL (hOf l0) (k + 1) = insL (hOf l0) (orderL (hOf l0) k) k) := ⟨rfl⟩
      have HOL := Aside0.mk (orderL_length (hOf l0) k)
      have HLT : Aside0 (∀ x ∈ orderL (hOf l0) k, x < l0.length) := ⟨fun x hx => by have := orderL_lt _ _ _ hx; omega⟩
      generalize orderL (hOf l0) k = out at HO HNX HOL HLT
      obtain ⟨wo, rfl⟩ : ∃ wo : World, wo = wr := ⟨_, rfl⟩
      have hul_ := hlt
      go_wp2
      go_loopw [5] (fun a wr => ∃ j : Nat, j ≤ k ∧ a = .int .i64 j ∧ Aside0 (atPos (hOf l0) out k j = atPos (hOf l0) out k k) ∧ Aside0 (Kd.R (Kd.int .i64) 3 wr w.heap.size (fun _ => True) (.slice A3 k c3) (intsN (out))) ∧ Aside0 (Below w.heap.size w wr)) (fun a _ => (intOf a).toNat)
      case atStart => exact ⟨k, Nat.le_refl _, rfl, ⟨rfl⟩, HO, HB⟩
      case round =>
        clear HO HB
        obtain ⟨j, hj, rfl, HA, HO, HB⟩ := hrel
        have HEND : Aside0 (∀ j' : Nat, j' ≤ k → atPos (hOf l0) out k k = j' → intsN (out.take j') ++ [(k : Int)] ++ intsN (out.drop j') = intsN (orderL (hOf l0) (k + 1))) := ⟨fun j' _ hat => by rw [HNX.out]; exact intsN_insL _ _ _ _ (by rw [HOL.out]; exact hat)⟩
        by_cases hj0 : j = 0
        · have hd0 : decide ((0 : Int) < (j : Int)) = false := decide_eq_false (by omega)
          have hd1 : decide (0 < j) = false := decide_eq_false (by omega)
          have HJ := Aside0.mk (HEND.out j hj (by rw [← HA.out, hj0]; rfl))
          clear HA HEND hj0
          have hkc : k ≤ c3 := (Kd.R_reads' HO.out).2.1
          obtain ⟨i0, hi0, _, hsz, _⟩ := info_parts info3
          have hcut1 := cut_to (P := Try.prog) 47 3 .i64 Try.underlying47 hi0 A3 k c3 (j : Int) (by omega) (by omega) hkc
          rw [Int.toNat_natCast] at hcut1
          have hcut2 := cut_from (P := Try.prog) 47 3 .i64 Try.underlying47 hi0 1 hsz A3 k c3 (j : Int) (by omega) (by omega)
          rw [Int.toNat_natCast] at hcut2
          obtain ⟨A7, hA7⟩ : ∃ x, x = (if c3 = j then A3 else A3.map (·.add (j * 1))) := ⟨_, rfl⟩
          rw [← hA7] at hcut2
          have HTL : Aside0 ((intsN (out.take j)).length = j) := ⟨by rw [intsN_length, List.length_take]; have := HOL.out; omega⟩
          have HTD : Aside0 ((intsN (out.drop j)).length = k - j) := ⟨by rw [intsN_length, List.length_drop]; have := HOL.out; omega⟩
          have HCD : Aside0 (∀ W : World, Kd.C (Kd.int .i64) W A3 (intsN out).length (intsN out) → Kd.C (Kd.int .i64) W A7 (k - j) (intsN (out.drop j))) := ⟨fun W h => by
            have h2 := Kd.C_drop (m := j) (c := c3) h (by rw [intsN_length]; have := HOL.out; omega) (by rw [intsN_length]; have := HOL.out; omega)
            rw [intsN_drop, HTD.out] at h2
            rw [hA7]
            exact h2⟩
          have HCT : Aside0 (∀ W : World, Kd.C (Kd.int .i64) W A3 (intsN out).length (intsN out) → Calls Try.prog 36 #[.slice A3 j c3] W fun e w' => ∃ v0_ : Value, e = .returned v0_ ∧ Kd.R (Kd.int .i64) 3 w' W.heap.size (fun _ => True) v0_ (intsN (out.take j)) ∧ Below W.heap.size W w') := ⟨fun W h => by
            have h2 := Kd.C_take (m := j) h (by rw [intsN_length]; have := HOL.out; omega)
            rw [intsN_take] at h2
            have h3 := spec_copyInts.calls A3 c3 (intsN (out.take j)) (intsN (out.take j)) W h2 (by rw [HTL.out]; omega) (by unfold spec_copyInts.f; rw [Option.bind_some, if_pos (by rw [HTL.out]; simp only [List.length_nil]; omega)]; rfl)
            rw [HTL.out] at h3
            exact h3⟩
          have HKC := Aside0.mk hkc
          clear hA7 hi0 hsz hkc
          go_wp2
          go_quiet (fail)
          have HO1 := Aside0.mk (Kd.R_drewN HO.out nq)
          have HB1 := Aside0.mk (pw_below_drewN HB.out nq)
          clear HO HB
          generalize wr.drewN nq = w1 at HO1 HB1 ⊢
          go_wp2_with fail
          refine start_ (n := 12) (S := fun _ => True) (ds := []) #[false, false, false, false, false, false, false, false, false, false, false, false] (by kernel_rfl) rfl rfl trivial (fun hHeld => ?_)
          have HO2 := Aside0.mk (Kd.R_drew HO1.out)
          have HB2 := Aside0.mk (below_drew HB1.out)
          clear HO1 HB1
          generalize w1.drew = w2 at HO2 HB2 hHeld ⊢
          refine pure_ (i := 0) (N := some 36) (v := ?_) (a' := ?_) #[true, false, false, false, false, false, false, false, false, false, false, false] rfl rfl (by kernel_rfl) (fun _ _ _ h => h) (Or.inl ⟨by rfl, ?_⟩) ?_ ?_
          rotate_left
          · intro w'
            go_simp
            with_reducible rfl
          rotate_left
          · simp only [Act.put, List.setIfInBounds_toArray, List.set_cons_zero, List.set_cons_succ]
            rfl
          refine pure_ (i := 1) (N := some 37) (v := ?_) (a' := ?_) #[true, true, false, false, false, false, false, false, false, false, false, false] rfl rfl (by kernel_rfl) (fun _ _ _ h => h) (Or.inl ⟨by rfl, ?_⟩) ?_ ?_
          rotate_left
          · intro w'
            go_simp
            with_reducible rfl
          rotate_left
          · simp only [Act.put, List.setIfInBounds_toArray, List.set_cons_zero, List.set_cons_succ]
            rfl
          refine pure_ (i := 2) (N := some 38) (v := ?_) (a' := ?_) #[true, true, true, false, false, false, false, false, false, false, false, false] rfl rfl (by kernel_rfl) (fun _ _ _ h => h) (Or.inl ⟨by rfl, ?_⟩) ?_ ?_
          rotate_left
          · intro w'
            go_simp
            with_reducible rfl
          rotate_left
          · simp only [Act.put, List.setIfInBounds_toArray, List.set_cons_zero, List.set_cons_succ]
            rfl
          refine pure_ (i := 4) (N := some 40) (v := ?_) (a' := ?_) #[true, true, true, false, true, false, false, false, false, false, false, false] rfl rfl (by kernel_rfl) (fun _ _ _ h => h) (Or.inl ⟨by rfl, ?_⟩) ?_ ?_
          rotate_left
          · intro w'
            go_simp
            with_reducible rfl
          rotate_left
          · simp only [Act.put, List.setIfInBounds_toArray, List.set_cons_zero, List.set_cons_succ]
            rfl
          refine pure_ (i := 7) (N := some 43) (v := ?_) (a' := ?_) #[true, true, true, false, true, false, false, true, false, false, false, false] rfl rfl (by kernel_rfl) (fun _ _ _ h => h) (Or.inl ⟨by rfl, ?_⟩) ?_ ?_
          rotate_left
          · intro w'
            go_simp
            with_reducible rfl
          rotate_left
          · simp only [Act.put, List.setIfInBounds_toArray, List.set_cons_zero, List.set_cons_succ]
            rfl
          refine pure_ (i := 8) (N := some 44) (v := ?_) (a' := ?_) #[true, true, true, false, true, false, false, true, true, false, false, false] rfl rfl (by kernel_rfl) (fun _ _ _ h => h) (Or.inl ⟨by rfl, ?_⟩) ?_ ?_
          rotate_left
          · intro w'
            go_simp
            with_reducible rfl
          rotate_left
          · simp only [Act.put, List.setIfInBounds_toArray, List.set_cons_zero, List.set_cons_succ]
            rfl
          refine pure_ (i := 9) (N := some 45) (v := ?_) (a' := ?_) #[true, true, true, false, true, false, false, true, true, true, false, false] rfl rfl (by kernel_rfl) (fun _ _ _ h => h) (Or.inl ⟨by rfl, ?_⟩) ?_ ?_
          rotate_left
          · intro w'
            go_simp
            with_reducible rfl
          rotate_left
          · simp only [Act.put, List.setIfInBounds_toArray, List.set_cons_zero, List.set_cons_succ]
            rfl
          clear hcut1 hcut2
          refine two_ (i := 3) (j := 5) (Ni := some 39) (Nj := some 41) #[true, true, true, true, true, false, false, true, true, true, false, false] #[true, true, true, false, true, true, false, true, true, true, false, false] rfl rfl rfl rfl (by kernel_rfl) (by decide) (by decide) (fun K2 hK2 => ?_) (fun K2 hK2 => ?_)
          · refine goes_ Try.func36 (by kernel_rfl) rfl #[.slice A3 j c3] (by rfl) rfl rfl (by simp only [List.map_toArray, List.map_cons, List.map_nil]; rfl) ?_
            refine (HCT.out _ (Kd.R_reads' HO2.out).2.2).mono ?_
            rintro e w5 ⟨v5, rfl, ho, hb⟩
            refine ⟨_, rfl, ?_⟩
            have HO5 := Aside0.mk (Kd.R_elder' HO2.out (Kd.R_base ho) hb)
            have HV5 := Aside0.mk (Kd.R_lower ho HB2.out.size)
            have HB5 := Aside0.mk (below_step HB2.out hb)
            clear ho hb HO2 HB2
            refine hK2.out _ _ trivial (fun hHeld => ?_)
            clear hK2 K2
            refine norm_ (a' := ?_) ?_ ?_
            rotate_left
            · show Act.put _ (some 39) _ = _
              simp only [Act.put, List.setIfInBounds_toArray, List.set_cons_zero, List.set_cons_succ]
              rfl
            refine one_ (i := 5) (N := some 41) #[true, true, true, true, true, true, false, true, true, true, false, false] rfl rfl (by kernel_rfl) (by decide) (fun K' hK' => ?_)
            refine Kd.R_lit_step (Kd.int .i64) w.heap.size 3 (by rfl) (N := 41) ?hd (xs := [(k : Int)]) (inner := [.int .i64 (k : Int)]) (ok := fun _ => True) (okp := fun _ => True) ?hr ?hp (fun _ hk => hk) trivial HB5.out HB5.out.size (by simp) ?_
            case hd => rfl
            case hr => first | (go_simp; done) | (go_simp; rfl)
            case hp => exact (Reps.one (show Kd.M (Kd.int .i64) _ _ _ (k : Int) [.int .i64 (k : Int)] from rfl) (Reps.none _ _))
            intro v41 w6 ho hb hg hnew
            have HL6 := Aside0.mk ho
            have HV6 := Aside0.mk (Kd.R_grown HV5.out hg (fun _ _ he => nomatch he))
            have HO6 := Aside0.mk (Kd.R_grown HO5.out hg (fun _ _ he => nomatch he))
            have HB6 := Aside0.mk hb
            clear ho hb hg hnew HV5 HO5 HB5
            refine hK'.out _ _ trivial (fun hHeld => ?_)
            clear hK' K'
            refine norm_ (a' := ?_) ?_ ?_
            rotate_left
            · show Act.put _ (some 41) _ = _
              simp only [Act.put, List.setIfInBounds_toArray, List.set_cons_zero, List.set_cons_succ]
              rfl
            obtain ⟨A41, c41, e41⟩ := Kd.R_slice HL6.out
            subst e41
            refine one_ (i := 6) (N := some 42) #[true, true, true, true, true, true, true, true, true, true, false, false] rfl rfl (by kernel_rfl) (by decide) (fun K' hK' => ?_)
            refine Kd.R_append_rows_step (Kd.int .i64) (w0 := w) w.heap.size (by rfl) (.tmp 39) (.tmp 41) 47 3 (.int .i64 0) 8 rfl Try.underlying47 info3 rfl (by decide) (by omega) v5 (intsN (out.take j)) [(k : Int)] A41 1 c41 (fun _ => True) (fun _ => False) rfl rfl HV6.out (Kd.R_reads' HL6.out).2.2 (fun _ _ h => h) (fun _ h => h.elim) (fun _ _ => trivial) HB6.out HB6.out.size (by rw [HTL.out]; omega) ?_
            intro v6 w7 ho hb hg hat
            have HV7 := Aside0.mk ho
            have HB7 := Aside0.mk hb
            have HO7 := Aside0.mk (Kd.R_after (ok := fun _ => True) HO6.out hg hat)
            clear ho hb hg hat HV6 HO6 HB6 HL6
            refine hK'.out _ _ trivial (fun hHeld => ?_)
            clear hK' K'
            refine norm_ (a' := ?_) ?_ ?_
            rotate_left
            · show Act.put _ (some 42) _ = _
              simp only [Act.put, List.setIfInBounds_toArray, List.set_cons_zero, List.set_cons_succ]
              rfl
            refine one_ (i := 10) (N := some 46) #[true, true, true, true, true, true, true, true, true, true, true, false] rfl rfl (by kernel_rfl) (by decide) (fun K' hK' => ?_)
            refine Kd.R_append_rows_step (Kd.int .i64) (w0 := w) w.heap.size (by rfl) (.tmp 42) (.tmp 45) 47 3 (.int .i64 0) 8 rfl Try.underlying47 info3 rfl (by decide) (by omega) v6 (intsN (out.take j) ++ [(k : Int)]) (intsN (out.drop j)) A7 (k - j) (c3 - j) (fun _ => True) (fun _ => False) rfl rfl HV7.out (HCD.out _ (Kd.R_reads' HO7.out).2.2) (fun _ _ h => h) (fun _ h => h.elim) (fun _ _ => trivial) HB7.out HB7.out.size (by rw [List.length_append, HTL.out]; simp only [List.length_singleton]; omega) ?_
            intro v7 w8 ho hb hg hat
            rw [HJ.out] at ho
            have HO8 := Aside0.mk ho
            have HB8 := Aside0.mk hb
            clear ho hb hg hat HO7 HV7 HB7 HCD
            refine hK'.out _ _ trivial (fun hHeld => ?_)
            clear hK' K'
            refine norm_ (a' := ?_) ?_ ?_
            rotate_left
            · show Act.put _ (some 46) _ = _
              simp only [Act.put, List.setIfInBounds_toArray, List.set_cons_zero, List.set_cons_succ]
              rfl
            refine pure_ (i := 11) (N := some 3) (v := ?_) (a' := ?_) #[true, true, true, true, true, true, true, true, true, true, true, true] rfl rfl (by kernel_rfl) (fun _ _ _ h => h) (Or.inl ⟨by rfl, ?_⟩) ?_ ?_
            rotate_left
            · intro w'
              go_simp
              with_reducible rfl
            rotate_left
            · simp only [Act.put, List.setIfInBounds_toArray, List.set_cons_zero, List.set_cons_succ]
              rfl
            refine done_ (by kernel_rfl) ?_
            clear hHeld
            go_wp2
            go_roundw
            case rel => exact ⟨k + 1, by omega, by go_num, HO8, HB8⟩
            case measure => (simp [intOf]; try omega)
          · refine Kd.R_lit_step (Kd.int .i64) w.heap.size 3 (by rfl) (N := 41) ?hd (xs := [(k : Int)]) (inner := [.int .i64 (k : Int)]) (ok := fun _ => True) (okp := fun _ => True) ?hr ?hp (fun _ hk => hk) trivial HB2.out HB2.out.size (by simp) ?_
            case hd => rfl
            case hr => first | (go_simp; done) | (go_simp; rfl)
            case hp => exact (Reps.one (show Kd.M (Kd.int .i64) _ _ _ (k : Int) [.int .i64 (k : Int)] from rfl) (Reps.none _ _))
            intro v41 w5 ho hb hg hnew
            have HL5 := Aside0.mk ho
            have HO5 := Aside0.mk (Kd.R_grown HO2.out hg (fun _ _ he => nomatch he))
            have HB5 := Aside0.mk hb
            clear ho hb hg hnew HO2 HB2
            refine hK2.out _ _ trivial (fun hHeld => ?_)
            clear hK2 K2
            refine norm_ (a' := ?_) ?_ ?_
            rotate_left
            · show Act.put _ (some 41) _ = _
              simp only [Act.put, List.setIfInBounds_toArray, List.set_cons_zero, List.set_cons_succ]
              rfl
            refine one_ (i := 3) (N := some 39) #[true, true, true, true, true, true, false, true, true, true, false, false] rfl rfl (by kernel_rfl) (by decide) (fun K' hK' => ?_)
            refine goes_ Try.func36 (by kernel_rfl) rfl #[.slice A3 j c3] (by rfl) rfl rfl (by simp only [List.map_toArray, List.map_cons, List.map_nil]; rfl) ?_
            refine (HCT.out _ (Kd.R_reads' HO5.out).2.2).mono ?_
            rintro e w6 ⟨v5, rfl, ho, hb⟩
            refine ⟨_, rfl, ?_⟩
            have HO6 := Aside0.mk (Kd.R_elder' HO5.out (Kd.R_base ho) hb)
            have HV6 := Aside0.mk (Kd.R_lower ho HB5.out.size)
            have HL6 := Aside0.mk (Kd.R_below HL5.out hb)
            have HB6 := Aside0.mk (below_step HB5.out hb)
            clear ho hb HO5 HB5 HL5
            refine hK'.out _ _ trivial (fun hHeld => ?_)
            clear hK' K'
            refine norm_ (a' := ?_) ?_ ?_
            rotate_left
            · show Act.put _ (some 39) _ = _
              simp only [Act.put, List.setIfInBounds_toArray, List.set_cons_zero, List.set_cons_succ]
              rfl
            obtain ⟨A41, c41, e41⟩ := Kd.R_slice HL6.out
            subst e41
            refine one_ (i := 6) (N := some 42) #[true, true, true, true, true, true, true, true, true, true, false, false] rfl rfl (by kernel_rfl) (by decide) (fun K' hK' => ?_)
            refine Kd.R_append_rows_step (Kd.int .i64) (w0 := w) w.heap.size (by rfl) (.tmp 39) (.tmp 41) 47 3 (.int .i64 0) 8 rfl Try.underlying47 info3 rfl (by decide) (by omega) v5 (intsN (out.take j)) [(k : Int)] A41 1 c41 (fun _ => True) (fun _ => False) rfl rfl HV6.out (Kd.R_reads' HL6.out).2.2 (fun _ _ h => h) (fun _ h => h.elim) (fun _ _ => trivial) HB6.out HB6.out.size (by rw [HTL.out]; omega) ?_
            intro v6 w7 ho hb hg hat
            have HV7 := Aside0.mk ho
            have HB7 := Aside0.mk hb
            have HO7 := Aside0.mk (Kd.R_after (ok := fun _ => True) HO6.out hg hat)
            clear ho hb hg hat HV6 HO6 HB6 HL6
            refine hK'.out _ _ trivial (fun hHeld => ?_)
            clear hK' K'
            refine norm_ (a' := ?_) ?_ ?_
            rotate_left
            · show Act.put _ (some 42) _ = _
              simp only [Act.put, List.setIfInBounds_toArray, List.set_cons_zero, List.set_cons_succ]
              rfl
            refine one_ (i := 10) (N := some 46) #[true, true, true, true, true, true, true, true, true, true, true, false] rfl rfl (by kernel_rfl) (by decide) (fun K' hK' => ?_)
            refine Kd.R_append_rows_step (Kd.int .i64) (w0 := w) w.heap.size (by rfl) (.tmp 42) (.tmp 45) 47 3 (.int .i64 0) 8 rfl Try.underlying47 info3 rfl (by decide) (by omega) v6 (intsN (out.take j) ++ [(k : Int)]) (intsN (out.drop j)) A7 (k - j) (c3 - j) (fun _ => True) (fun _ => False) rfl rfl HV7.out (HCD.out _ (Kd.R_reads' HO7.out).2.2) (fun _ _ h => h) (fun _ h => h.elim) (fun _ _ => trivial) HB7.out HB7.out.size (by rw [List.length_append, HTL.out]; simp only [List.length_singleton]; omega) ?_
            intro v7 w8 ho hb hg hat
            rw [HJ.out] at ho
            have HO8 := Aside0.mk ho
            have HB8 := Aside0.mk hb
            clear ho hb hg hat HO7 HV7 HB7 HCD
            refine hK'.out _ _ trivial (fun hHeld => ?_)
            clear hK' K'
            refine norm_ (a' := ?_) ?_ ?_
            rotate_left
            · show Act.put _ (some 46) _ = _
              simp only [Act.put, List.setIfInBounds_toArray, List.set_cons_zero, List.set_cons_succ]
              rfl
            refine pure_ (i := 11) (N := some 3) (v := ?_) (a' := ?_) #[true, true, true, true, true, true, true, true, true, true, true, true] rfl rfl (by kernel_rfl) (fun _ _ _ h => h) (Or.inl ⟨by rfl, ?_⟩) ?_ ?_
            rotate_left
            · intro w'
              go_simp
              with_reducible rfl
            rotate_left
            · simp only [Act.put, List.setIfInBounds_toArray, List.set_cons_zero, List.set_cons_succ]
              rfl
            refine done_ (by kernel_rfl) ?_
            clear hHeld
            go_wp2
            go_roundw
            case rel => exact ⟨k + 1, by omega, by go_num, HO8, HB8⟩
            case measure => (simp [intOf]; try omega)
        · obtain ⟨q, rfl⟩ : ∃ i, j = i + 1 := ⟨j - 1, by omega⟩
          have hd0 : decide ((0 : Int) < ((q + 1 : Nat) : Int)) = true := decide_eq_true (by omega)
          have hd1 : decide (0 < q + 1) = true := decide_eq_true (by omega)
          have hd0' : decide ((0 : Int) < (q : Int) + 1) = true := decide_eq_true (by omega)
          have hjo : q < out.length := by have := HOL.out; omega
          obtain ⟨ad3, e, hx⟩ := Kd.at_int (Kd.R_reads' HO.out).2.2 (q : Int) (by omega) (by rw [intsN_length]; omega)
          obtain rfl := e
          rw [intsN_rd _ _ hjo, List.getD_eq_getElem?_getD, List.getElem?_eq_getElem hjo, Option.getD_some] at hx
          simp only [Int.toNat_natCast] at hx
          have HST : Aside0 (atPos (hOf l0) out k (q + 1) = if hOf l0 out[q] < hOf l0 k then atPos (hOf l0) out k q else q + 1) := ⟨by
            show (if hOf l0 (out.getD q 0) < hOf l0 k then atPos (hOf l0) out k q else q + 1) = _
            rw [List.getD_eq_getElem?_getD, List.getElem?_eq_getElem hjo]
            rfl⟩
          have hul := HLT.out _ (List.getElem_mem hjo)
          generalize out[q] = u at hx HST hul
          obtain ⟨ad2, e, hs0, hs1⟩ := at_T33 (Kd.C_below HR.out HB.out) (u : Int) (by omega) (by omega)
          obtain rfl := e
          obtain ⟨ad4, e, ht0, ht1⟩ := at_T33 (Kd.C_below HR.out HB.out) (k : Int) (by omega) (by omega)
          obtain rfl : ad2 = ad4 := by injection e
          clear e
          simp only [Int.toNat_natCast] at hs0 hs1 ht0 ht1
          rw [show hOf l0 u = (rd_T33 l0 (u : Int)).f1 from rfl, show hOf l0 k = (rd_T33 l0 (k : Int)).f1 from rfl] at HST
          generalize (rd_T33 l0 (u : Int)).f1 = hu at hs1 HST
          generalize (rd_T33 l0 (k : Int)).f1 = hq at ht1 HST
          have hhp := Try.underlying33
          have gs : IntKind.i64.wrap (((q + 1 : Nat) : Int) - 1) = (q : Int) := by rw [show ((q + 1 : Nat) : Int) - 1 = (q : Int) by omega]; exact IntWalk.i64_in _ (by omega)
          have gs2 : IntKind.i64.wrap ((q : Int) + 1 - 1) = (q : Int) := by rw [show (q : Int) + 1 - 1 = (q : Int) by omega]; exact IntWalk.i64_in _ (by omega)
          have gs3 : IntKind.i64.wrap (q : Int) = (q : Int) := IntWalk.i64_in _ (by omega)
          have pp2 : ((q : Int) < (k : Int)) = True := eq_true (by omega)
          have pp3 : (q < k) = True := eq_true (by omega)
          have pp5 : ((u : Int) < (l0.length : Int)) = True := eq_true (by omega)
          have pp6 : ((k : Int) < (l0.length : Int)) = True := eq_true (by omega)
          by_cases hlt2 : hu < hq
          · have hd2 : decide (hu < hq) = true := decide_eq_true hlt2
            have HA2 : Aside0 (atPos (hOf l0) out k q = atPos (hOf l0) out k k) := ⟨by rw [← HA.out, HST.out, if_pos hlt2]⟩
            clear HST HA HEND
            go_wp2
            go_quiet (fail)
            go_wp2
            go_roundw
            case rel => exact ⟨q, by omega, by go_num, HA2, ⟨Kd.R_drewN HO.out _⟩, ⟨pw_below_drewN HB.out _⟩⟩
            case measure => (simp [intOf]; try omega)
          · have hd2 : decide (hu < hq) = false := decide_eq_false hlt2
            have HJ := Aside0.mk (HEND.out (q + 1) (by omega) (by rw [← HA.out, HST.out, if_neg hlt2]))
            clear HST HA HEND
            go_wp2
            go_quiet (fail)
            have HO' := HO
            have HB' := HB
            clear HO HB
            have HO := HO'
            have HB := HB'
            clear HO' HB' hx hs0 hs1 ht0 ht1 gs gs2 gs3 pp2 pp3 pp5 pp6 hhp hd0 hd1 hd0' hd2
            obtain ⟨j, hj1⟩ : ∃ x, x = q + 1 := ⟨_, rfl⟩
            obtain ⟨A3, hA3⟩ : ∃ x, x = some ad3 := ⟨_, rfl⟩
            have e1 : (q : Int) + 1 = (j : Int) := by omega
            have hj' : j ≤ k := by omega
            rw [← hA3] at HO ⊢
            rw [e1]
            rw [← hj1] at HJ
            clear hA3 e1 hj1 hj hjo
            have hkc : k ≤ c3 := (Kd.R_reads' HO.out).2.1
            obtain ⟨i0, hi0, _, hsz, _⟩ := info_parts info3
            have hcut1 := cut_to (P := Try.prog) 47 3 .i64 Try.underlying47 hi0 A3 k c3 (j : Int) (by omega) (by omega) hkc
            rw [Int.toNat_natCast] at hcut1
            have hcut2 := cut_from (P := Try.prog) 47 3 .i64 Try.underlying47 hi0 1 hsz A3 k c3 (j : Int) (by omega) (by omega)
            rw [Int.toNat_natCast] at hcut2
            obtain ⟨A7, hA7⟩ : ∃ x, x = (if c3 = j then A3 else A3.map (·.add (j * 1))) := ⟨_, rfl⟩
            rw [← hA7] at hcut2
            have HTL : Aside0 ((intsN (out.take j)).length = j) := ⟨by rw [intsN_length, List.length_take]; have := HOL.out; omega⟩
            have HTD : Aside0 ((intsN (out.drop j)).length = k - j) := ⟨by rw [intsN_length, List.length_drop]; have := HOL.out; omega⟩
            have HCD : Aside0 (∀ W : World, Kd.C (Kd.int .i64) W A3 (intsN out).length (intsN out) → Kd.C (Kd.int .i64) W A7 (k - j) (intsN (out.drop j))) := ⟨fun W h => by
              have h2 := Kd.C_drop (m := j) (c := c3) h (by rw [intsN_length]; have := HOL.out; omega) (by rw [intsN_length]; have := HOL.out; omega)
              rw [intsN_drop, HTD.out] at h2
              rw [hA7]
              exact h2⟩
            have HCT : Aside0 (∀ W : World, Kd.C (Kd.int .i64) W A3 (intsN out).length (intsN out) → Calls Try.prog 36 #[.slice A3 j c3] W fun e w' => ∃ v0_ : Value, e = .returned v0_ ∧ Kd.R (Kd.int .i64) 3 w' W.heap.size (fun _ => True) v0_ (intsN (out.take j)) ∧ Below W.heap.size W w') := ⟨fun W h => by
              have h2 := Kd.C_take (m := j) h (by rw [intsN_length]; have := HOL.out; omega)
              rw [intsN_take] at h2
              have h3 := spec_copyInts.calls A3 c3 (intsN (out.take j)) (intsN (out.take j)) W h2 (by rw [HTL.out]; omega) (by unfold spec_copyInts.f; rw [Option.bind_some, if_pos (by rw [HTL.out]; simp only [List.length_nil]; omega)]; rfl)
              rw [HTL.out] at h3
              exact h3⟩
            have HKC := Aside0.mk hkc
            clear hA7 hi0 hsz hkc
            have HO1 := Aside0.mk (Kd.R_drewN HO.out nq)
            have HB1 := Aside0.mk (pw_below_drewN HB.out nq)
            clear HO HB
            generalize wr.drewN nq = w1 at HO1 HB1 ⊢
            go_wp2_with fail
            refine start_ (n := 12) (S := fun _ => True) (ds := []) #[false, false, false, false, false, false, false, false, false, false, false, false] (by kernel_rfl) rfl rfl trivial (fun hHeld => ?_)
            have HO2 := Aside0.mk (Kd.R_drew HO1.out)
            have HB2 := Aside0.mk (below_drew HB1.out)
            clear HO1 HB1
            generalize w1.drew = w2 at HO2 HB2 hHeld ⊢
            refine pure_ (i := 0) (N := some 36) (v := ?_) (a' := ?_) #[true, false, false, false, false, false, false, false, false, false, false, false] rfl rfl (by kernel_rfl) (fun _ _ _ h => h) (Or.inl ⟨by rfl, ?_⟩) ?_ ?_
            rotate_left
            · intro w'
              go_simp
              with_reducible rfl
            rotate_left
            · simp only [Act.put, List.setIfInBounds_toArray, List.set_cons_zero, List.set_cons_succ]
              rfl
            refine pure_ (i := 1) (N := some 37) (v := ?_) (a' := ?_) #[true, true, false, false, false, false, false, false, false, false, false, false] rfl rfl (by kernel_rfl) (fun _ _ _ h => h) (Or.inl ⟨by rfl, ?_⟩) ?_ ?_
            rotate_left
            · intro w'
              go_simp
              with_reducible rfl
            rotate_left
            · simp only [Act.put, List.setIfInBounds_toArray, List.set_cons_zero, List.set_cons_succ]
              rfl
            refine pure_ (i := 2) (N := some 38) (v := ?_) (a' := ?_) #[true, true, true, false, false, false, false, false, false, false, false, false] rfl rfl (by kernel_rfl) (fun _ _ _ h => h) (Or.inl ⟨by rfl, ?_⟩) ?_ ?_
            rotate_left
            · intro w'
              go_simp
              with_reducible rfl
            rotate_left
            · simp only [Act.put, List.setIfInBounds_toArray, List.set_cons_zero, List.set_cons_succ]
              rfl
            refine pure_ (i := 4) (N := some 40) (v := ?_) (a' := ?_) #[true, true, true, false, true, false, false, false, false, false, false, false] rfl rfl (by kernel_rfl) (fun _ _ _ h => h) (Or.inl ⟨by rfl, ?_⟩) ?_ ?_
            rotate_left
            · intro w'
              go_simp
              with_reducible rfl
            rotate_left
            · simp only [Act.put, List.setIfInBounds_toArray, List.set_cons_zero, List.set_cons_succ]
              rfl
            refine pure_ (i := 7) (N := some 43) (v := ?_) (a' := ?_) #[true, true, true, false, true, false, false, true, false, false, false, false] rfl rfl (by kernel_rfl) (fun _ _ _ h => h) (Or.inl ⟨by rfl, ?_⟩) ?_ ?_
            rotate_left
            · intro w'
              go_simp
              with_reducible rfl
            rotate_left
            · simp only [Act.put, List.setIfInBounds_toArray, List.set_cons_zero, List.set_cons_succ]
              rfl
            refine pure_ (i := 8) (N := some 44) (v := ?_) (a' := ?_) #[true, true, true, false, true, false, false, true, true, false, false, false] rfl rfl (by kernel_rfl) (fun _ _ _ h => h) (Or.inl ⟨by rfl, ?_⟩) ?_ ?_
            rotate_left
            · intro w'
              go_simp
              with_reducible rfl
            rotate_left
            · simp only [Act.put, List.setIfInBounds_toArray, List.set_cons_zero, List.set_cons_succ]
              rfl
            refine pure_ (i := 9) (N := some 45) (v := ?_) (a' := ?_) #[true, true, true, false, true, false, false, true, true, true, false, false] rfl rfl (by kernel_rfl) (fun _ _ _ h => h) (Or.inl ⟨by rfl, ?_⟩) ?_ ?_
            rotate_left
            · intro w'
              go_simp
              with_reducible rfl
            rotate_left
            · simp only [Act.put, List.setIfInBounds_toArray, List.set_cons_zero, List.set_cons_succ]
              rfl
            clear hcut1 hcut2
            refine two_ (i := 3) (j := 5) (Ni := some 39) (Nj := some 41) #[true, true, true, true, true, false, false, true, true, true, false, false] #[true, true, true, false, true, true, false, true, true, true, false, false] rfl rfl rfl rfl (by kernel_rfl) (by decide) (by decide) (fun K2 hK2 => ?_) (fun K2 hK2 => ?_)
            · refine goes_ Try.func36 (by kernel_rfl) rfl #[.slice A3 j c3] (by rfl) rfl rfl (by simp only [List.map_toArray, List.map_cons, List.map_nil]; rfl) ?_
              refine (HCT.out _ (Kd.R_reads' HO2.out).2.2).mono ?_
              rintro e w5 ⟨v5, rfl, ho, hb⟩
              refine ⟨_, rfl, ?_⟩
              have HO5 := Aside0.mk (Kd.R_elder' HO2.out (Kd.R_base ho) hb)
              have HV5 := Aside0.mk (Kd.R_lower ho HB2.out.size)
              have HB5 := Aside0.mk (below_step HB2.out hb)
              clear ho hb HO2 HB2
              refine hK2.out _ _ trivial (fun hHeld => ?_)
              clear hK2 K2
              refine norm_ (a' := ?_) ?_ ?_
              rotate_left
              · show Act.put _ (some 39) _ = _
                simp only [Act.put, List.setIfInBounds_toArray, List.set_cons_zero, List.set_cons_succ]
                rfl
              refine one_ (i := 5) (N := some 41) #[true, true, true, true, true, true, false, true, true, true, false, false] rfl rfl (by kernel_rfl) (by decide) (fun K' hK' => ?_)
              refine Kd.R_lit_step (Kd.int .i64) w.heap.size 3 (by rfl) (N := 41) ?hd (xs := [(k : Int)]) (inner := [.int .i64 (k : Int)]) (ok := fun _ => True) (okp := fun _ => True) ?hr ?hp (fun _ hk => hk) trivial HB5.out HB5.out.size (by simp) ?_
              case hd => rfl
              case hr => first | (go_simp; done) | (go_simp; rfl)
              case hp => exact (Reps.one (show Kd.M (Kd.int .i64) _ _ _ (k : Int) [.int .i64 (k : Int)] from rfl) (Reps.none _ _))
              intro v41 w6 ho hb hg hnew
              have HL6 := Aside0.mk ho
              have HV6 := Aside0.mk (Kd.R_grown HV5.out hg (fun _ _ he => nomatch he))
              have HO6 := Aside0.mk (Kd.R_grown HO5.out hg (fun _ _ he => nomatch he))
              have HB6 := Aside0.mk hb
              clear ho hb hg hnew HV5 HO5 HB5
              refine hK'.out _ _ trivial (fun hHeld => ?_)
              clear hK' K'
              refine norm_ (a' := ?_) ?_ ?_
              rotate_left
              · show Act.put _ (some 41) _ = _
                simp only [Act.put, List.setIfInBounds_toArray, List.set_cons_zero, List.set_cons_succ]
                rfl
              obtain ⟨A41, c41, e41⟩ := Kd.R_slice HL6.out
              subst e41
              refine one_ (i := 6) (N := some 42) #[true, true, true, true, true, true, true, true, true, true, false, false] rfl rfl (by kernel_rfl) (by decide) (fun K' hK' => ?_)
              refine Kd.R_append_rows_step (Kd.int .i64) (w0 := w) w.heap.size (by rfl) (.tmp 39) (.tmp 41) 47 3 (.int .i64 0) 8 rfl Try.underlying47 info3 rfl (by decide) (by omega) v5 (intsN (out.take j)) [(k : Int)] A41 1 c41 (fun _ => True) (fun _ => False) rfl rfl HV6.out (Kd.R_reads' HL6.out).2.2 (fun _ _ h => h) (fun _ h => h.elim) (fun _ _ => trivial) HB6.out HB6.out.size (by rw [HTL.out]; omega) ?_
              intro v6 w7 ho hb hg hat
              have HV7 := Aside0.mk ho
              have HB7 := Aside0.mk hb
              have HO7 := Aside0.mk (Kd.R_after (ok := fun _ => True) HO6.out hg hat)
              clear ho hb hg hat HV6 HO6 HB6 HL6
              refine hK'.out _ _ trivial (fun hHeld => ?_)
              clear hK' K'
              refine norm_ (a' := ?_) ?_ ?_
              rotate_left
              · show Act.put _ (some 42) _ = _
                simp only [Act.put, List.setIfInBounds_toArray, List.set_cons_zero, List.set_cons_succ]
                rfl
              refine one_ (i := 10) (N := some 46) #[true, true, true, true, true, true, true, true, true, true, true, false] rfl rfl (by kernel_rfl) (by decide) (fun K' hK' => ?_)
              refine Kd.R_append_rows_step (Kd.int .i64) (w0 := w) w.heap.size (by rfl) (.tmp 42) (.tmp 45) 47 3 (.int .i64 0) 8 rfl Try.underlying47 info3 rfl (by decide) (by omega) v6 (intsN (out.take j) ++ [(k : Int)]) (intsN (out.drop j)) A7 (k - j) (c3 - j) (fun _ => True) (fun _ => False) rfl rfl HV7.out (HCD.out _ (Kd.R_reads' HO7.out).2.2) (fun _ _ h => h) (fun _ h => h.elim) (fun _ _ => trivial) HB7.out HB7.out.size (by rw [List.length_append, HTL.out]; simp only [List.length_singleton]; omega) ?_
              intro v7 w8 ho hb hg hat
              rw [HJ.out] at ho
              have HO8 := Aside0.mk ho
              have HB8 := Aside0.mk hb
              clear ho hb hg hat HO7 HV7 HB7 HCD
              refine hK'.out _ _ trivial (fun hHeld => ?_)
              clear hK' K'
              refine norm_ (a' := ?_) ?_ ?_
              rotate_left
              · show Act.put _ (some 46) _ = _
                simp only [Act.put, List.setIfInBounds_toArray, List.set_cons_zero, List.set_cons_succ]
                rfl
              refine pure_ (i := 11) (N := some 3) (v := ?_) (a' := ?_) #[true, true, true, true, true, true, true, true, true, true, true, true] rfl rfl (by kernel_rfl) (fun _ _ _ h => h) (Or.inl ⟨by rfl, ?_⟩) ?_ ?_
              rotate_left
              · intro w'
                go_simp
                with_reducible rfl
              rotate_left
              · simp only [Act.put, List.setIfInBounds_toArray, List.set_cons_zero, List.set_cons_succ]
                rfl
              refine done_ (by kernel_rfl) ?_
              clear hHeld
              go_wp2
              go_roundw
              case rel => exact ⟨k + 1, by omega, by go_num, HO8, HB8⟩
              case measure => (simp [intOf]; try omega)
            · refine Kd.R_lit_step (Kd.int .i64) w.heap.size 3 (by rfl) (N := 41) ?hd (xs := [(k : Int)]) (inner := [.int .i64 (k : Int)]) (ok := fun _ => True) (okp := fun _ => True) ?hr ?hp (fun _ hk => hk) trivial HB2.out HB2.out.size (by simp) ?_
              case hd => rfl
              case hr => first | (go_simp; done) | (go_simp; rfl)
              case hp => exact (Reps.one (show Kd.M (Kd.int .i64) _ _ _ (k : Int) [.int .i64 (k : Int)] from rfl) (Reps.none _ _))
              intro v41 w5 ho hb hg hnew
              have HL5 := Aside0.mk ho
              have HO5 := Aside0.mk (Kd.R_grown HO2.out hg (fun _ _ he => nomatch he))
              have HB5 := Aside0.mk hb
              clear ho hb hg hnew HO2 HB2
              refine hK2.out _ _ trivial (fun hHeld => ?_)
              clear hK2 K2
              refine norm_ (a' := ?_) ?_ ?_
              rotate_left
              · show Act.put _ (some 41) _ = _
                simp only [Act.put, List.setIfInBounds_toArray, List.set_cons_zero, List.set_cons_succ]
                rfl
              refine one_ (i := 3) (N := some 39) #[true, true, true, true, true, true, false, true, true, true, false, false] rfl rfl (by kernel_rfl) (by decide) (fun K' hK' => ?_)
              refine goes_ Try.func36 (by kernel_rfl) rfl #[.slice A3 j c3] (by rfl) rfl rfl (by simp only [List.map_toArray, List.map_cons, List.map_nil]; rfl) ?_
              refine (HCT.out _ (Kd.R_reads' HO5.out).2.2).mono ?_
              rintro e w6 ⟨v5, rfl, ho, hb⟩
              refine ⟨_, rfl, ?_⟩
              have HO6 := Aside0.mk (Kd.R_elder' HO5.out (Kd.R_base ho) hb)
              have HV6 := Aside0.mk (Kd.R_lower ho HB5.out.size)
              have HL6 := Aside0.mk (Kd.R_below HL5.out hb)
              have HB6 := Aside0.mk (below_step HB5.out hb)
              clear ho hb HO5 HB5 HL5
              refine hK'.out _ _ trivial (fun hHeld => ?_)
              clear hK' K'
              refine norm_ (a' := ?_) ?_ ?_
              rotate_left
              · show Act.put _ (some 39) _ = _
                simp only [Act.put, List.setIfInBounds_toArray, List.set_cons_zero, List.set_cons_succ]
                rfl
              obtain ⟨A41, c41, e41⟩ := Kd.R_slice HL6.out
              subst e41
              refine one_ (i := 6) (N := some 42) #[true, true, true, true, true, true, true, true, true, true, false, false] rfl rfl (by kernel_rfl) (by decide) (fun K' hK' => ?_)
              refine Kd.R_append_rows_step (Kd.int .i64) (w0 := w) w.heap.size (by rfl) (.tmp 39) (.tmp 41) 47 3 (.int .i64 0) 8 rfl Try.underlying47 info3 rfl (by decide) (by omega) v5 (intsN (out.take j)) [(k : Int)] A41 1 c41 (fun _ => True) (fun _ => False) rfl rfl HV6.out (Kd.R_reads' HL6.out).2.2 (fun _ _ h => h) (fun _ h => h.elim) (fun _ _ => trivial) HB6.out HB6.out.size (by rw [HTL.out]; omega) ?_
              intro v6 w7 ho hb hg hat
              have HV7 := Aside0.mk ho
              have HB7 := Aside0.mk hb
              have HO7 := Aside0.mk (Kd.R_after (ok := fun _ => True) HO6.out hg hat)
              clear ho hb hg hat HV6 HO6 HB6 HL6
              refine hK'.out _ _ trivial (fun hHeld => ?_)
              clear hK' K'
              refine norm_ (a' := ?_) ?_ ?_
              rotate_left
              · show Act.put _ (some 42) _ = _
                simp only [Act.put, List.setIfInBounds_toArray, List.set_cons_zero, List.set_cons_succ]
                rfl
              refine one_ (i := 10) (N := some 46) #[true, true, true, true, true, true, true, true, true, true, true, false] rfl rfl (by kernel_rfl) (by decide) (fun K' hK' => ?_)
              refine Kd.R_append_rows_step (Kd.int .i64) (w0 := w) w.heap.size (by rfl) (.tmp 42) (.tmp 45) 47 3 (.int .i64 0) 8 rfl Try.underlying47 info3 rfl (by decide) (by omega) v6 (intsN (out.take j) ++ [(k : Int)]) (intsN (out.drop j)) A7 (k - j) (c3 - j) (fun _ => True) (fun _ => False) rfl rfl HV7.out (HCD.out _ (Kd.R_reads' HO7.out).2.2) (fun _ _ h => h) (fun _ h => h.elim) (fun _ _ => trivial) HB7.out HB7.out.size (by rw [List.length_append, HTL.out]; simp only [List.length_singleton]; omega) ?_
              intro v7 w8 ho hb hg hat
              rw [HJ.out] at ho
              have HO8 := Aside0.mk ho
              have HB8 := Aside0.mk hb
              clear ho hb hg hat HO7 HV7 HB7 HCD
              refine hK'.out _ _ trivial (fun hHeld => ?_)
              clear hK' K'
              refine norm_ (a' := ?_) ?_ ?_
              rotate_left
              · show Act.put _ (some 46) _ = _
                simp only [Act.put, List.setIfInBounds_toArray, List.set_cons_zero, List.set_cons_succ]
                rfl
              refine pure_ (i := 11) (N := some 3) (v := ?_) (a' := ?_) #[true, true, true, true, true, true, true, true, true, true, true, true] rfl rfl (by kernel_rfl) (fun _ _ _ h => h) (Or.inl ⟨by rfl, ?_⟩) ?_ ?_
              rotate_left
              · intro w'
                go_simp
                with_reducible rfl
              rotate_left
              · simp only [Act.put, List.setIfInBounds_toArray, List.set_cons_zero, List.set_cons_succ]
                rfl
              refine done_ (by kernel_rfl) ?_
              clear hHeld
              go_wp2
              go_roundw
              case rel => exact ⟨k + 1, by omega, by go_num, HO8, HB8⟩
              case measure => (simp [intOf]; try omega)
    · obtain rfl : k = l0.length := by omega
      have hdk : decide ((l0.length : Int) < (l0.length : Int)) = false := decide_eq_false (by omega)
      have hdk2 : decide (l0.length < l0.length) = false := decide_eq_false (by omega)
      go_wp2
      go_ret
      exact ⟨_, rfl, HO.out, HB.out⟩

end Go.Proofs.Ytbpeonhhlfadcaa.Print
