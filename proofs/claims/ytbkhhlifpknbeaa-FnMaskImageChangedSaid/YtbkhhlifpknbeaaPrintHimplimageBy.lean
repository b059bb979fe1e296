-- laid by hp.py (a program of this work over the kit's print), with contracts by hand for what the print does not take
import Derived.Test.YtbkhhlifpknbeaaPrint0
import Derived.Test.YtbkhhlifpknbeaaPrintHx0
namespace Go.Proofs.Ytbkhhlifpknbeaa.Print
open Go.RowKit Go.Proofs.YtbkhhlifpknbeaaW.PrintWords Go.Proofs.YtbkhhlifpknbeaaW.PrintLast Go.Proofs.YtbkhhlifpknbeaaW.PrintMore
attribute [local go_sem] max2_int min2_int max_two min_two max_three min_three max_four min_four   -- for this text's walks alone
set_option linter.unusedVariables false
set_option linter.unusedSimpArgs false

--SNIP impl_imageBy
/-- The first n pixels of an image whose pixels are told. -/
def pixelsUpto (f : Nat → Nat → List Int) (W n : Nat) : List Int := (List.range n).flatMap fun i => f (i % W) (i / W)
theorem pixelsUpto_zero (f : Nat → Nat → List Int) (W : Nat) : pixelsUpto f W 0 = [] := rfl
theorem pixelsUpto_snoc (f : Nat → Nat → List Int) (W x y : Nat) (hx : x < W) : pixelsUpto f W (W * y + x + 1) = pixelsUpto f W (W * y + x) ++ f x y := by
  unfold pixelsUpto
  rw [List.range_succ, List.flatMap_append]
  congr 1
  rw [List.flatMap_cons, List.flatMap_nil, List.append_nil, Nat.mul_add_mod, Nat.mod_eq_of_lt hx, Nat.mul_add_div (by omega), Nat.div_eq_of_lt hx, Nat.add_zero]
theorem pixelsUpto_len (f : Nat → Nat → List Int) (W H : Nat) (hf : ∀ x y, x < W → y < H → (f x y).length ≤ 16) (n : Nat) (hn : n ≤ W * H) : (pixelsUpto f W n).length ≤ 16 * n := by
  induction n with
  | zero => simp [pixelsUpto]
  | succ n ih =>
    have h1 := ih (by omega)
    have hW : 0 < W := by
      rcases Nat.eq_zero_or_pos W with h | h
      · subst h; omega
      · exact h
    unfold pixelsUpto at h1 ⊢
    rw [List.range_succ, List.flatMap_append, List.length_append]
    have h2 := hf (n % W) (n / W) (Nat.mod_lt _ hW) (by rw [Nat.div_lt_iff_lt_mul hW, Nat.mul_comm]; omega)
    rw [List.flatMap_cons, List.flatMap_nil, List.append_nil]
    omega
set_option maxHeartbeats 8000000 in
set_option maxRecDepth 100000 in
theorem impl_imageBy.any (K : FuncId) (fn : Func) (caps : Array Value) (f : Nat → Nat → List Int) (hK : Try.prog.funcs[K]? = some fn) (hname : (fn.name == "runtime.NumGoroutine") = false) (hb : fn.body.isSome = true)
    (W H : Nat) (p : Int) (w : World) (hW : W ≤ 16) (hH : H ≤ 16) (hp : ∀ x y, x < W → y < H → (f x y).length ≤ 16)
    (hf : ∀ (x y : Nat) (w' : World), x < W → y < H → Below w.heap.size w w' → Calls Try.prog K (#[.int .i64 x, .int .i64 y] ++ caps) w' fun e w'' => ∃ (A : Option Addr) (c : Nat), e = .returned (.slice A (f x y).length c) ∧ Kd.C (Kd.int .i64) w'' A (f x y).length (f x y) ∧ Below w'.heap.size w' w'') :
    Calls Try.prog 26 #[.int .i64 W, .int .i64 H, .int .i64 p, .func (.func K) #[] caps] w fun e w' =>
      ∃ v : Value, e = .returned (.agg #[.int .i64 W, .int .i64 H, .int .i64 p, v]) ∧ Kd.R (Kd.int .i64) 3 w' w.heap.size (fun _ => True) v (pixelsUpto f W (W * H)) ∧ Below w.heap.size w w' := by
  have HF := Aside0.mk hf
  have HP := Aside0.mk hp
  have hcall : ∀ (args : Array Value) (W : World), (callFunc K args).run Try.prog W = .ok (.enter K args) W := fun args W => enters_ hK hname hb args W
  have HC := Aside0.mk hcall
  have hu := Try.underlying25
  clear hf hK hname hb hp hcall
  go_enter Try.func26, Try.ntmps26
  go_wp2
  have HI0 := Aside0.mk (IsImg.new (w.alloc (.cells #[.int .i64 0, .int .i64 0, .int .i64 0, .slice none 0 0] 25)) (W : Int) (H : Int) p (.slice none 0 0))
  have HZ0 := Aside0.mk (IsImg.old w 0 0 0 (.slice none 0 0) (.cells #[.int .i64 W, .int .i64 H, .int .i64 p, .slice none 0 0] 25))
  have HB0 := Aside0.mk (below_alloc (below_alloc (Below.refl w.heap.size w) (.cells #[.int .i64 0, .int .i64 0, .int .i64 0, .slice none 0 0] 25)) (.cells #[.int .i64 W, .int .i64 H, .int .i64 p, .slice none 0 0] 25))
  go_loopw [17] (fun i wr => ∃ (y : Nat) (v : Value), y ≤ H ∧ i = .int .i64 y ∧ Aside0 (IsImg wr (w.heap.size + 1) W H p v) ∧ Aside0 (IsImg wr w.heap.size 0 0 0 (.slice none 0 0)) ∧ Aside0 (Kd.R (Kd.int .i64) 3 wr w.heap.size (fun _ => True) v (pixelsUpto f W (W * y))) ∧ Aside0 (Below w.heap.size w wr)) (fun i _ => H - (intOf i).toNat)
  case atStart => exact ⟨0, _, by omega, rfl, ⟨by have h := HI0.out; rw [wsize_alloc] at h; exact h⟩, HZ0, ⟨by rw [Nat.mul_zero, pixelsUpto_zero]; exact Kd.R_nil _ _ _ _ _⟩, HB0⟩
  case round =>
    clear HI0 HZ0 HB0
    obtain ⟨y, v, hy, rfl, HI, HZ, HO, HB⟩ := hrel
    by_cases hlt : y < H
    · obtain ⟨wo, rfl⟩ : ∃ wo : World, wo = wr := ⟨_, rfl⟩
      have hdy : decide (y < H) = true := decide_eq_true hlt
      go_wp2
      go_loopw [21] (fun i wr => ∃ (x : Nat) (v : Value), x ≤ W ∧ i = .int .i64 x ∧ Aside0 (IsImg wr (w.heap.size + 1) W H p v) ∧ Aside0 (IsImg wr w.heap.size 0 0 0 (.slice none 0 0)) ∧ Aside0 (Kd.R (Kd.int .i64) 3 wr w.heap.size (fun _ => True) v (pixelsUpto f W (W * y + x))) ∧ Aside0 (Below w.heap.size w wr)) (fun i _ => W - (intOf i).toNat)
      case atStart => exact ⟨0, _, by omega, rfl, HI, HZ, HO, HB⟩
      case round =>
        clear HI HZ HO HB
        obtain ⟨x, v, hx, rfl, HI, HZ, HO, HB⟩ := hrel
        by_cases hlx : x < W
        · have hdx : decide (x < W) = true := decide_eq_true hlx
          have HL : Aside0 ((pixelsUpto f W (W * y + x)).length ≤ 4096) := ⟨by
            have h1 : W * (y + 1) ≤ W * H := Nat.mul_le_mul_left _ hlt
            have h2 : W * H ≤ 16 * 16 := Nat.mul_le_mul hW hH
            have h3 := pixelsUpto_len f W H HP.out (W * y + x) (by rw [Nat.mul_succ] at h1; omega)
            rw [Nat.mul_succ] at h1
            omega⟩
          go_wp2_with fail
          refine start_ (n := 9) (S := fun w' => w'.cell? ⟨w.heap.size + 1, 3, none⟩ = some v) (ds := [8]) #[false, false, false, false, false, false, false, false, false] (by kernel_rfl) rfl rfl HI.out.drew.c3 (fun hHeld => ?_)
          have HI1 := Aside0.mk HI.out.drew
          have HZ1 := Aside0.mk HZ.out.drew
          have HO1 := Aside0.mk (Kd.R_drew HO.out)
          have HB1 := Aside0.mk (below_drew HB.out)
          clear HI HZ HO HB
          generalize wr.drew = w3 at HI1 HZ1 HO1 HB1 hHeld ⊢
          refine pure_ (i := 0) (N := some 24) (v := ?_) (a' := ?_) #[true, false, false, false, false, false, false, false, false] rfl rfl (by kernel_rfl) (fun _ _ _ h => h) (Or.inl ⟨by rfl, ?_⟩) ?_ ?_
          rotate_left
          · intro w'
            go_simp
            with_reducible rfl
          rotate_left
          · simp only [Act.put, List.setIfInBounds_toArray, List.set_cons_zero, List.set_cons_succ]
            rfl
          refine pure_ (i := 2) (N := some 26) (v := ?_) (a' := ?_) #[true, false, true, false, false, false, false, false, false] rfl rfl (by kernel_rfl) (fun _ _ _ h => h) (Or.inl ⟨by rfl, ?_⟩) ?_ ?_
          rotate_left
          · intro w'
            go_simp
            with_reducible rfl
          rotate_left
          · simp only [Act.put, List.setIfInBounds_toArray, List.set_cons_zero, List.set_cons_succ]
            rfl
          refine pure_ (i := 3) (N := some 27) (v := ?_) (a' := ?_) #[true, false, true, true, false, false, false, false, false] rfl rfl (by kernel_rfl) (fun _ _ _ h => h) (Or.inl ⟨by rfl, ?_⟩) ?_ ?_
          rotate_left
          · intro w'
            go_simp
            with_reducible rfl
          rotate_left
          · simp only [Act.put, List.setIfInBounds_toArray, List.set_cons_zero, List.set_cons_succ]
            rfl
          refine pure_ (i := 4) (N := some 28) (v := ?_) (a' := ?_) #[true, false, true, true, true, false, false, false, false] rfl rfl (by kernel_rfl) (fun _ _ _ h => h) (Or.inl ⟨by rfl, ?_⟩) ?_ ?_
          rotate_left
          · intro w'
            go_simp
            with_reducible rfl
          rotate_left
          · simp only [Act.put, List.setIfInBounds_toArray, List.set_cons_zero, List.set_cons_succ]
            rfl
          refine take_ (i := 1) (N := some 25) (v := ?_) (a' := ?_) #[true, true, true, true, true, false, false, false, false] rfl rfl (by kernel_rfl) (fun _ _ _ h => h) (Or.inl ⟨by rfl, ?_⟩) hHeld ?_ ?_
          rotate_left
          · intro w' s0
            go_simp
            with_reducible rfl
          rotate_left
          · simp only [Act.put, List.setIfInBounds_toArray, List.set_cons_zero, List.set_cons_succ]
            rfl
          refine one_ (i := 5) (N := some 29) #[true, true, true, true, true, true, false, false, false] rfl rfl (by kernel_rfl) (by decide) (fun K' hK' => ?_)
          refine goesF_ HC.out (#[.int .i64 x, .int .i64 y] ++ caps) (by rfl) rfl rfl (by rfl) (by simp only [List.map_toArray, List.map_cons, List.map_nil]; rfl) ?_
          refine (HF.out x y _ hlx hlt HB1.out).mono ?_
          rintro e w4 ⟨A, c, rfl, hC, hb4⟩
          refine ⟨_, rfl, ?_⟩
          have HI2 := Aside0.mk (HI1.out.below hb4)
          have HZ2 := Aside0.mk (HZ1.out.below hb4)
          have HO2 := Aside0.mk (Kd.R_below HO1.out hb4)
          have HB2 := Aside0.mk (below_step HB1.out hb4)
          clear HI1 HZ1 HO1 HB1 hb4
          refine hK'.out _ _ HI2.out.c3 (fun hHeld => ?_)
          clear hK' K'
          refine norm_ (a' := ?_) ?_ ?_
          rotate_left
          · show Act.put _ (some 29) _ = _
            simp only [Act.put, List.setIfInBounds_toArray, List.set_cons_zero, List.set_cons_succ]
            rfl
          refine one_ (i := 6) (N := some 30) #[true, true, true, true, true, true, true, false, false] rfl rfl (by kernel_rfl) (by decide) (fun K' hK' => ?_)
          refine Kd.R_append_rows_step (Kd.int .i64) (w0 := w) w.heap.size (by rfl) (.tmp 25) (.tmp 29) 23 3 (.int .i64 0) 8 rfl Try.underlying23 info3 rfl (by decide) (by omega) v (pixelsUpto f W (W * y + x)) (f x y) A (f x y).length c (fun _ => True) (fun _ => False) rfl rfl HO2.out hC (fun _ _ h => h) (fun _ h => h.elim) (fun _ _ => trivial) HB2.out (below_size HB2.out) (by have := HL.out; have := HP.out x y hlx hlt; omega) ?_
          intro v1 w5 ho hb hg hat
          rw [← pixelsUpto_snoc f W x y hlx] at ho
          have HI3 := Aside0.mk (HI2.out.grown hg (Kd.R_ne HO2.out HI2.out.out (by decide)))
          have HZ3 := Aside0.mk (HZ2.out.grown hg (Kd.R_ne HO2.out HZ2.out.out (by decide)))
          have HO3 := Aside0.mk ho
          have HB3 := Aside0.mk hb
          clear HI2 HZ2 HO2 HB2 hC hb hg hat ho
          refine hK'.out _ _ HI3.out.c3 (fun hHeld => ?_)
          clear hK' K'
          refine norm_ (a' := ?_) ?_ ?_
          rotate_left
          · show Act.put _ (some 30) _ = _
            simp only [Act.put, List.setIfInBounds_toArray, List.set_cons_zero, List.set_cons_succ]
            rfl
          refine pure_ (i := 7) (N := some 31) (v := ?_) (a' := ?_) #[true, true, true, true, true, true, true, true, false] rfl rfl (by kernel_rfl) (fun _ _ _ h => h) (Or.inl ⟨by rfl, ?_⟩) ?_ ?_
          rotate_left
          · intro w'
            go_simp
            with_reducible rfl
          rotate_left
          · simp only [Act.put, List.setIfInBounds_toArray, List.set_cons_zero, List.set_cons_succ]
            rfl
          refine last_ (i := 8) (N := none) #[true, true, true, true, true, true, true, true, true] rfl rfl (by kernel_rfl) (by decide) (fun K' hK' => ?_)
          have hc3 := HI3.out.c3
          have hf3 := HI3.out.fz 3
          have h1 := own_one HO3.out
          obtain ⟨A1, c1, hv1⟩ := Kd.R_slice HO3.out
          subst hv1
          refine skip_ (w1 := ?_) (by rfl) rfl ?_ ?_
          rotate_left
          · go_simp
            rfl
          refine hK'.out _ _ ?_
          clear hK' K'
          refine done_ (by kernel_rfl) ?_
          have HI4 := Aside0.mk (HI3.out.set3 (.slice A1 (pixelsUpto f W (W * y + x + 1)).length c1))
          have HZ4 := Aside0.mk (HZ3.out.far (p := ⟨w.heap.size + 1, 3, none⟩) (by simp) (.slice A1 (pixelsUpto f W (W * y + x + 1)).length c1))
          have HO4 := Aside0.mk (Kd.R_set HO3.out HI3.out.out (by decide) 3 (.slice A1 (pixelsUpto f W (W * y + x + 1)).length c1))
          have HB4 := Aside0.mk (below_set (v := .slice A1 (pixelsUpto f W (W * y + x + 1)).length c1) (j := 3) HB3.out (show w.heap.size ≤ w.heap.size + 1 by omega))
          clear HI3 HZ3 HO3 HB3 hc3 hf3 h1 hHeld
          go_wp2
          go_roundw
          case rel => exact ⟨x + 1, _, by omega, by go_num, HI4, HZ4, HO4, HB4⟩
          case measure => simp [intOf]; omega
        · have hx' : x = W := by omega
          subst hx'
          have hdx : decide (x < x) = false := decide_eq_false (by omega)
          go_wp2
          go_roundw
          case rel => exact ⟨y + 1, _, by omega, by go_num, HI, HZ, ⟨by rw [Nat.mul_succ]; exact HO.out⟩, HB⟩
          case measure => simp [intOf]; omega
    · have hy' : y = H := by omega
      subst hy'
      have hdy : decide (y < y) = false := decide_eq_false (by omega)
      have HS := Aside0.mk (own_one HO.out)
      go_wp2_with (first | (refine wpList_load_img rfl _ rfl (w.heap.size + 1) W y p v rfl HI.out ?_) | (refine wpList_store_img rfl _ _ rfl w.heap.size 0 0 0 W y p _ v rfl rfl HS.out HZ.out ?_))
      refine bodyPost_ret (results_cell_row rfl _ _ w.heap.size _ _ _ _ rfl (HZ.out.row W y p v).out Try.underlying25 rfl img_size) rfl ⟨v, rfl, ?_, ?_⟩
      · exact Kd.R_mono (Kd.R_step (Kd.R_types HO.out HZ.out.out (by decide)) (fun j hj _ => setRow_other _ _ _ _ hj.2)) (fun _ _ => trivial)
      · exact below_putRow HB.out _ _ (Nat.le_refl _)

end Go.Proofs.Ytbkhhlifpknbeaa.Print
