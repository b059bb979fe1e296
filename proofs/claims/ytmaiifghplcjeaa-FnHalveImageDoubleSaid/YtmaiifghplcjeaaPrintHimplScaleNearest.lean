-- laid by hp.py (a program of this work over the kit's print), with contracts by hand for what the print does not take
import Derived.Test.YtmaiifghplcjeaaPrint0
import Derived.Test.YtmaiifghplcjeaaPrintHimplimageBy
import Derived.Test.YtmaiifghplcjeaaPrintHx0
import Derived.Test.YtmaiifghplcjeaaPrintHx2
import Derived.Test.YtmaiifghplcjeaaPrintR0x0
namespace Go.Proofs.Ytmaiifghplcjeaa.Print
open Go.RowKit Go.Proofs.YtmaiifghplcjeaaW.PrintWords Go.Proofs.YtmaiifghplcjeaaW.PrintLast Go.Proofs.YtmaiifghplcjeaaW.PrintMore
attribute [local go_sem] max2_int min2_int max_two min_two max_three min_three max_four min_four   -- for this text's walks alone
set_option linter.unusedVariables false
set_option linter.unusedSimpArgs false

--SNIP impl_ScaleNearest
/-! ### impl_ScaleNearest: function 33, by hand -/
set_option maxHeartbeats 8000000 in
set_option maxRecDepth 100000 in
theorem impl_ScaleNearest_1.any (x y m n bw bh : Nat) (hx : x < m) (hy : y < n) (hm1 : 1 ≤ m) (hm2 : m ≤ 16) (hn1 : 1 ≤ n) (hn2 : n ≤ 16) (W H p : Nat) (A : Option Addr) (c : Nat) (l : List Int) (b : Nat) (w : World) (hI : IsImg w b W H p (.slice A l.length c)) (hr : Kd.C (Kd.int .i64) w A l.length l) (hc : l.length ≤ c) (hl : l.length = W * H * p) (hW0 : 1 ≤ W) (hH0 : 1 ≤ H) (hp0 : 1 ≤ p) (hW : W ≤ 16) (hH : H ≤ 16) (hp : p ≤ 4) (hw : w.cell? ⟨bw, 0, none⟩ = some (.int .i64 (m : Int))) (hh : w.cell? ⟨bh, 0, none⟩ = some (.int .i64 (n : Int))) :
    Calls Try.prog 78 #[.int .i64 x, .int .i64 y, .pointer (some ⟨b, 0, none⟩), .pointer (some ⟨bw, 0, none⟩), .pointer (some ⟨bh, 0, none⟩)] w fun e w' => ∃ (A' : Option Addr) (c' : Nat), e = .returned (.slice A' (pixN W p l (x * W / m) (y * H / n)).length c') ∧ Kd.C (Kd.int .i64) w' A' (pixN W p l (x * W / m) (y * H / n)).length (pixN W p l (x * W / m) (y * H / n)) ∧ Below w.heap.size w w' := by
  have HAT : Aside0 (∀ (u v : Nat) (w1 : World), u < W → v < H → Below w.heap.size w w1 → Calls Try.prog 56 #[.agg #[.int .i64 W, .int .i64 H, .int .i64 p, .slice A l.length c], .int .i64 u, .int .i64 v] w1 fun e w' => ∃ (A' : Option Addr) (c' : Nat), e = .returned (.slice A' (pixN W p l u v).length c') ∧ Kd.C (Kd.int .i64) w' A' (pixN W p l u v).length (pixN W p l u v) ∧ (pixN W p l u v).length ≤ c' ∧ Below w1.heap.size w1 w') := ⟨fun u v w1 hu hv hb => impl_Image_at.any W H p A c l u v w1 (Kd.C_below hr hb) hc hl hW hH hp hu hv⟩
  have hu := Try.underlying26
  have hu1 : Aside0 (x * W / m < W) := ⟨by rw [Nat.div_lt_iff_lt_mul (by omega), Nat.mul_comm W m]; exact Nat.mul_lt_mul_of_pos_right hx (by omega)⟩
  have hv1 : Aside0 (y * H / n < H) := ⟨by rw [Nat.div_lt_iff_lt_mul (by omega), Nat.mul_comm H n]; exact Nat.mul_lt_mul_of_pos_right hy (by omega)⟩
  have q1 : x * W ≤ 16 * 16 := Nat.mul_le_mul (by omega) hW
  have q2 : y * H ≤ 16 * 16 := Nat.mul_le_mul (by omega) hH
  have e1 : (x : Int) * (W : Int) = ((x * W : Nat) : Int) := by push_cast; rfl
  have e2 : (y : Int) * (H : Int) = ((y * H : Nat) : Int) := by push_cast; rfl
  have q3 : x * W / m ≤ x * W := Nat.div_le_self _ _
  have q4 : y * H / n ≤ y * H := Nat.div_le_self _ _
  have g1 : (m = 0) = False := eq_false (by omega)
  have g2 : (n = 0) = False := eq_false (by omega)
  have g3 : IntKind.i64.wrap ((x : Int) * (W : Int)) = (x : Int) * (W : Int) := by rw [e1]; exact i64_nat _ (by omega)
  have g4 : IntKind.i64.wrap ((y : Int) * (H : Int)) = (y : Int) * (H : Int) := by rw [e2]; exact i64_nat _ (by omega)
  have g5 : Int.tdiv ((x : Int) * (W : Int)) (m : Int) = (x : Int) * (W : Int) / (m : Int) := by rw [e1]; rfl
  have g6 : Int.tdiv ((y : Int) * (H : Int)) (n : Int) = (y : Int) * (H : Int) / (n : Int) := by rw [e2]; rfl
  have g7 : IntKind.i64.wrap ((x : Int) * (W : Int) / (m : Int)) = (x : Int) * (W : Int) / (m : Int) := by rw [e1]; exact i64_nat (x * W / m) (Nat.le_trans q3 (Nat.le_trans q1 (by decide)))
  have g8 : IntKind.i64.wrap ((y : Int) * (H : Int) / (n : Int)) = (y : Int) * (H : Int) / (n : Int) := by rw [e2]; exact i64_nat (y * H / n) (Nat.le_trans q4 (Nat.le_trans q2 (by decide)))
  clear e1 e2 q1 q2 q3 q4
  clear hr hc hl
  go_enter Try.func78, Try.ntmps78
  go_wp2
  refine start_ (n := 15) (S := fun w' => (w'.cell? ⟨b, 0, none⟩ = some (.int .i64 (W : Int)) ∧ w'.cell? ⟨b, 1, none⟩ = some (.int .i64 (H : Int)) ∧ w'.cell? ⟨b, 2, none⟩ = some (.int .i64 (p : Int)) ∧ w'.cell? ⟨b, 3, none⟩ = some (.slice A l.length c)) ∧ w'.cell? ⟨bw, 0, none⟩ = some (.int .i64 (m : Int)) ∧ w'.cell? ⟨bh, 0, none⟩ = some (.int .i64 (n : Int))) (ds := []) #[false, false, false, false, false, false, false, false, false, false, false, false, false, false, false] (by kernel_rfl) rfl rfl ⟨⟨hI.drew.c0, hI.drew.c1, hI.drew.c2, hI.drew.c3⟩, hw, hh⟩ (fun hHeld => ?_)
  have HI1 := Aside0.mk hI.drew
  have HB1 := Aside0.mk (below_drew (Below.refl w.heap.size w))
  have hw_1 : w.drew.cell? ⟨bw, 0, none⟩ = some (.int .i64 (m : Int)) := hw
  have hh_1 : w.drew.cell? ⟨bh, 0, none⟩ = some (.int .i64 (n : Int)) := hh
  clear hI hw hh
  generalize w.drew = w1 at HI1 HB1 hw_1 hh_1 hHeld ⊢
  refine take_ (i := 0) (N := some 8) (v := ?_) (a' := ?_) #[true, false, false, false, false, false, false, false, false, false, false, false, false, false, false] rfl rfl (by kernel_rfl) (fun _ _ _ h => h) (Or.inl ⟨by rfl, ?_⟩) hHeld ?_ ?_
  rotate_left
  · rintro w' ⟨⟨s0, s1, s2, s3⟩, s4, s5⟩
    go_simp
    with_reducible rfl
  rotate_left
  · simp only [Act.put, List.setIfInBounds_toArray, List.set_cons_zero, List.set_cons_succ]
    rfl
  refine pure_ (i := 1) (N := some 9) (v := ?_) (a' := ?_) #[true, true, false, false, false, false, false, false, false, false, false, false, false, false, false] rfl rfl (by kernel_rfl) (fun _ _ _ h => h) (Or.inl ⟨by rfl, ?_⟩) ?_ ?_
  rotate_left
  · intro w'
    go_simp
    with_reducible rfl
  rotate_left
  · simp only [Act.put, List.setIfInBounds_toArray, List.set_cons_zero, List.set_cons_succ]
    rfl
  refine pure_ (i := 2) (N := some 10) (v := ?_) (a' := ?_) #[true, true, true, false, false, false, false, false, false, false, false, false, false, false, false] rfl rfl (by kernel_rfl) (fun _ _ _ h => h) (Or.inl ⟨by rfl, ?_⟩) ?_ ?_
  rotate_left
  · intro w'
    go_simp
    with_reducible rfl
  rotate_left
  · simp only [Act.put, List.setIfInBounds_toArray, List.set_cons_zero, List.set_cons_succ]
    rfl
  refine take_ (i := 3) (N := some 11) (v := ?_) (a' := ?_) #[true, true, true, true, false, false, false, false, false, false, false, false, false, false, false] rfl rfl (by kernel_rfl) (fun _ _ _ h => h) (Or.inl ⟨by rfl, ?_⟩) hHeld ?_ ?_
  rotate_left
  · rintro w' ⟨⟨s0, s1, s2, s3⟩, s4, s5⟩
    go_simp
    with_reducible rfl
  rotate_left
  · simp only [Act.put, List.setIfInBounds_toArray, List.set_cons_zero, List.set_cons_succ]
    rfl
  refine pure_ (i := 4) (N := some 12) (v := ?_) (a' := ?_) #[true, true, true, true, true, false, false, false, false, false, false, false, false, false, false] rfl rfl (by kernel_rfl) (fun _ _ _ h => h) (Or.inl ⟨by rfl, ?_⟩) ?_ ?_
  rotate_left
  · intro w'
    go_simp
    with_reducible rfl
  rotate_left
  · simp only [Act.put, List.setIfInBounds_toArray, List.set_cons_zero, List.set_cons_succ]
    rfl
  refine take_ (i := 5) (N := some 13) (v := ?_) (a' := ?_) #[true, true, true, true, true, true, false, false, false, false, false, false, false, false, false] rfl rfl (by kernel_rfl) (fun _ _ _ h => h) (Or.inl ⟨by rfl, ?_⟩) hHeld ?_ ?_
  rotate_left
  · rintro w' ⟨⟨s0, s1, s2, s3⟩, s4, s5⟩
    go_simp
    with_reducible rfl
  rotate_left
  · simp only [Act.put, List.setIfInBounds_toArray, List.set_cons_zero, List.set_cons_succ]
    rfl
  refine pure_ (i := 6) (N := some 14) (v := ?_) (a' := ?_) #[true, true, true, true, true, true, true, false, false, false, false, false, false, false, false] rfl rfl (by kernel_rfl) (fun _ _ _ h => h) (Or.inl ⟨by rfl, ?_⟩) ?_ ?_
  rotate_left
  · intro w'
    go_simp
    with_reducible rfl
  rotate_left
  · simp only [Act.put, List.setIfInBounds_toArray, List.set_cons_zero, List.set_cons_succ]
    rfl
  refine pure_ (i := 7) (N := some 15) (v := ?_) (a' := ?_) #[true, true, true, true, true, true, true, true, false, false, false, false, false, false, false] rfl rfl (by kernel_rfl) (fun _ _ _ h => h) (Or.inl ⟨by rfl, ?_⟩) ?_ ?_
  rotate_left
  · intro w'
    go_simp
    with_reducible rfl
  rotate_left
  · simp only [Act.put, List.setIfInBounds_toArray, List.set_cons_zero, List.set_cons_succ]
    rfl
  refine pure_ (i := 8) (N := some 16) (v := ?_) (a' := ?_) #[true, true, true, true, true, true, true, true, true, false, false, false, false, false, false] rfl rfl (by kernel_rfl) (fun _ _ _ h => h) (Or.inl ⟨by rfl, ?_⟩) ?_ ?_
  rotate_left
  · intro w'
    go_simp
    with_reducible rfl
  rotate_left
  · simp only [Act.put, List.setIfInBounds_toArray, List.set_cons_zero, List.set_cons_succ]
    rfl
  refine take_ (i := 9) (N := some 17) (v := ?_) (a' := ?_) #[true, true, true, true, true, true, true, true, true, true, false, false, false, false, false] rfl rfl (by kernel_rfl) (fun _ _ _ h => h) (Or.inl ⟨by rfl, ?_⟩) hHeld ?_ ?_
  rotate_left
  · rintro w' ⟨⟨s0, s1, s2, s3⟩, s4, s5⟩
    go_simp
    with_reducible rfl
  rotate_left
  · simp only [Act.put, List.setIfInBounds_toArray, List.set_cons_zero, List.set_cons_succ]
    rfl
  refine pure_ (i := 10) (N := some 18) (v := ?_) (a' := ?_) #[true, true, true, true, true, true, true, true, true, true, true, false, false, false, false] rfl rfl (by kernel_rfl) (fun _ _ _ h => h) (Or.inl ⟨by rfl, ?_⟩) ?_ ?_
  rotate_left
  · intro w'
    go_simp
    with_reducible rfl
  rotate_left
  · simp only [Act.put, List.setIfInBounds_toArray, List.set_cons_zero, List.set_cons_succ]
    rfl
  refine take_ (i := 11) (N := some 19) (v := ?_) (a' := ?_) #[true, true, true, true, true, true, true, true, true, true, true, true, false, false, false] rfl rfl (by kernel_rfl) (fun _ _ _ h => h) (Or.inl ⟨by rfl, ?_⟩) hHeld ?_ ?_
  rotate_left
  · rintro w' ⟨⟨s0, s1, s2, s3⟩, s4, s5⟩
    go_simp
    with_reducible rfl
  rotate_left
  · simp only [Act.put, List.setIfInBounds_toArray, List.set_cons_zero, List.set_cons_succ]
    rfl
  refine pure_ (i := 12) (N := some 20) (v := ?_) (a' := ?_) #[true, true, true, true, true, true, true, true, true, true, true, true, true, false, false] rfl rfl (by kernel_rfl) (fun _ _ _ h => h) (Or.inl ⟨by rfl, ?_⟩) ?_ ?_
  rotate_left
  · intro w'
    go_simp
    with_reducible rfl
  rotate_left
  · simp only [Act.put, List.setIfInBounds_toArray, List.set_cons_zero, List.set_cons_succ]
    rfl
  refine one_ (i := 13) (N := some 21) #[true, true, true, true, true, true, true, true, true, true, true, true, true, true, false] rfl rfl (by kernel_rfl) (by decide) (fun K' hK' => ?_)
  refine goes_ Try.func56 (by kernel_rfl) rfl #[.agg #[.int .i64 W, .int .i64 H, .int .i64 p, .slice A l.length c], .int .i64 ((x : Int) * (W : Int) / (m : Int)), .int .i64 ((y : Int) * (H : Int) / (n : Int))] (by rfl) rfl rfl (by simp only [List.map_toArray, List.map_cons, List.map_nil]; rfl) ?_
  refine (HAT.out (x * W / m) (y * H / n) _ hu1.out hv1.out HB1.out).mono ?_
  rintro e w2 ⟨A2, c2, rfl, hC2, hcap2, hb2⟩
  refine ⟨_, rfl, ?_⟩
  have HI2 := Aside0.mk (HI1.out.below hb2)
  have HB2 := Aside0.mk (below_step HB1.out hb2)
  have hw_2 := pw_cell_below hb2 hw_1
  have hh_2 := pw_cell_below hb2 hh_1
  refine hK'.out _ _ ⟨⟨HI2.out.c0, HI2.out.c1, HI2.out.c2, HI2.out.c3⟩, hw_2, hh_2⟩ (fun hHeld => ?_)
  clear hK' K'
  refine norm_ (a' := ?_) ?_ ?_
  rotate_left
  · show Act.put _ (some 21) _ = _
    simp only [Act.put, List.setIfInBounds_toArray, List.set_cons_zero, List.set_cons_succ]
    rfl
  refine pure_ (i := 14) (N := some 7) (v := ?_) (a' := ?_) #[true, true, true, true, true, true, true, true, true, true, true, true, true, true, true] rfl rfl (by kernel_rfl) (fun _ _ _ h => h) (Or.inl ⟨by rfl, ?_⟩) ?_ ?_
  rotate_left
  · intro w'
    go_simp
    with_reducible rfl
  rotate_left
  · simp only [Act.put, List.setIfInBounds_toArray, List.set_cons_zero, List.set_cons_succ]
    rfl
  refine done_ (by kernel_rfl) ?_
  go_wp2
  go_ret
  exact ⟨_, _, rfl, hC2, HB2.out⟩
/-- The pixels of an image in another size. -/
def nearestF (a0 a1 a2 : Int) (l : List Int) (m n : Nat) (x y : Nat) : List Int := pixN a0.toNat a2.toNat l (x * a0.toNat / m) (y * a1.toNat / n)
def SizeOk (a0 a1 a2 : Int) (l : List Int) (a3 a4 : Int) : Prop := ImgOk a0 a1 a2 l ∧ (1 ≤ a3 ∧ a3 ≤ 16) ∧ (1 ≤ a4 ∧ a4 ≤ 16)
instance (a0 a1 a2 : Int) (l : List Int) (a3 a4 : Int) : Decidable (SizeOk a0 a1 a2 l a3 a4) := by unfold SizeOk; exact inferInstance
def impl_ScaleNearest.f (a0_0 : Int) (a0_1 : Int) (a0_2 : Int) (l0_3 : List Int) (a1 : Int) (a2 : Int) : Option (Int × Int × Int × List Int) := some (if SizeOk a0_0 a0_1 a0_2 l0_3 a1 a2 then (a1, a2, a0_2, pixelsUpto (nearestF a0_0 a0_1 a0_2 l0_3 a1.toNat a2.toNat) a1.toNat (a1.toNat * a2.toNat)) else (0, 0, 0, []))
set_option maxHeartbeats 8000000 in
set_option maxRecDepth 100000 in
theorem impl_ScaleNearest.no1 (a0 a1 a2 : Int) (A : Option Addr) (c : Nat) (l : List Int) (a3 a4 : Int) (w : World) (hr : Kd.C (Kd.int .i64) w A l.length l) (hc : l.length ≤ c) (h : ¬ ImgOk a0 a1 a2 l) :
    Calls Try.prog 33 #[.agg #[.int .i64 a0, .int .i64 a1, .int .i64 a2, .slice A l.length c], .int .i64 a3, .int .i64 a4] w fun e w' => e = .returned (.agg #[.int .i64 0, .int .i64 0, .int .i64 0, .slice none 0 0]) ∧ Below w.heap.size w w' := by
  have HV : Aside0 (∀ W' : World, Below w.heap.size w W' → Calls Try.prog 52 #[.agg #[.int .i64 a0, .int .i64 a1, .int .i64 a2, .slice A l.length c]] W' fun e w' => e = .returned (.bool false) ∧ Below W'.heap.size W' w') := ⟨fun W' hW => isImage_false h A c W' (Kd.C_below hr hW) hc⟩
  have HB0 := Aside0.mk (allocs_below [.cells #[.int .i64 a0, .int .i64 a1, .int .i64 a2, .slice A l.length c] 26, .cells #[.int .i64 a3] 3, .cells #[.int .i64 a4] 3, .cells #[.int .i64 0, .int .i64 0, .int .i64 0, .slice none 0 0] 26] w)
  have HI0 : Aside0 (IsImg (allocs w [.cells #[.int .i64 a0, .int .i64 a1, .int .i64 a2, .slice A l.length c] 26, .cells #[.int .i64 a3] 3, .cells #[.int .i64 a4] 3, .cells #[.int .i64 0, .int .i64 0, .int .i64 0, .slice none 0 0] 26]) w.heap.size a0 a1 a2 (.slice A l.length c)) := ⟨allocs_img _ w 0 _ _ _ _ rfl⟩
  have hi1_0 : (allocs w [.cells #[.int .i64 a0, .int .i64 a1, .int .i64 a2, .slice A l.length c] 26, .cells #[.int .i64 a3] 3, .cells #[.int .i64 a4] 3, .cells #[.int .i64 0, .int .i64 0, .int .i64 0, .slice none 0 0] 26]).cell? ⟨w.heap.size + 1, 0, none⟩ = some (.int .i64 a3) := allocs_cell _ w 1 _ _ rfl
  have hi2_0 : (allocs w [.cells #[.int .i64 a0, .int .i64 a1, .int .i64 a2, .slice A l.length c] 26, .cells #[.int .i64 a3] 3, .cells #[.int .i64 a4] 3, .cells #[.int .i64 0, .int .i64 0, .int .i64 0, .slice none 0 0] 26]).cell? ⟨w.heap.size + 2, 0, none⟩ = some (.int .i64 a4) := allocs_cell _ w 2 _ _ rfl
  have HZ0 : Aside0 (IsImg (allocs w [.cells #[.int .i64 a0, .int .i64 a1, .int .i64 a2, .slice A l.length c] 26, .cells #[.int .i64 a3] 3, .cells #[.int .i64 a4] 3, .cells #[.int .i64 0, .int .i64 0, .int .i64 0, .slice none 0 0] 26]) (w.heap.size + 3) 0 0 0 (.slice none 0 0)) := ⟨allocs_img _ w 3 _ _ _ _ rfl⟩
  have hu := Try.underlying26
  clear hr hc h
  go_enter Try.func33, Try.ntmps33
  go_wp2_with (first
    | (refine wpList_load_img rfl _ rfl w.heap.size a0 a1 a2 _ rfl HI0.out ?_)
    | (go_at_call 52; refine (HV.out _ HB0.out).mono ?_; rintro e w1 ⟨rfl, hb⟩; have HI1 := Aside0.mk (HI0.out.below hb); have hc0_1 := HI1.out.c0; have hc1_1 := HI1.out.c1; have hc2_1 := HI1.out.c2; have hi1_1 := pw_cell_below hb hi1_0; have hi2_1 := pw_cell_below hb hi2_0; have HZ1 := Aside0.mk (HZ0.out.below hb); have HB1 := Aside0.mk (below_step HB0.out hb); clear hb)
    | (refine wpList_store_img rfl _ _ rfl _ 0 0 0 0 0 0 _ _ rfl rfl rfl HZ1.out ?_))
  refine bodyPost_ret (results_cell_row rfl _ _ (w.heap.size + 3) _ _ _ _ rfl (HZ1.out.row 0 0 0 _).out Try.underlying26 rfl img_size) rfl ⟨rfl, below_putRow HB1.out _ _ (by omega)⟩
set_option maxHeartbeats 8000000 in
set_option maxRecDepth 100000 in
theorem impl_ScaleNearest.no2 (a0 a1 a2 : Int) (A : Option Addr) (c : Nat) (l : List Int) (a3 a4 : Int) (w : World) (hr : Kd.C (Kd.int .i64) w A l.length l) (hc : l.length ≤ c) (h : ImgOk a0 a1 a2 l) (hs1' : ¬ (1 ≤ a3 ∧ a3 ≤ 16)) :
    Calls Try.prog 33 #[.agg #[.int .i64 a0, .int .i64 a1, .int .i64 a2, .slice A l.length c], .int .i64 a3, .int .i64 a4] w fun e w' => e = .returned (.agg #[.int .i64 0, .int .i64 0, .int .i64 0, .slice none 0 0]) ∧ Below w.heap.size w w' := by
  have HV : Aside0 (∀ W' : World, Below w.heap.size w W' → Calls Try.prog 52 #[.agg #[.int .i64 a0, .int .i64 a1, .int .i64 a2, .slice A l.length c]] W' fun e w' => e = .returned (.bool true) ∧ Below W'.heap.size W' w') := ⟨fun W' hW => isImage_true h A c W' (Kd.C_below hr hW) hc⟩
  have hs1 : Aside0 (impl_isSide.f a3 = some false) := ⟨by rw [impl_isSide.eq, decide_eq_false hs1']⟩
  have HB0 := Aside0.mk (allocs_below [.cells #[.int .i64 a0, .int .i64 a1, .int .i64 a2, .slice A l.length c] 26, .cells #[.int .i64 a3] 3, .cells #[.int .i64 a4] 3, .cells #[.int .i64 0, .int .i64 0, .int .i64 0, .slice none 0 0] 26] w)
  have HI0 : Aside0 (IsImg (allocs w [.cells #[.int .i64 a0, .int .i64 a1, .int .i64 a2, .slice A l.length c] 26, .cells #[.int .i64 a3] 3, .cells #[.int .i64 a4] 3, .cells #[.int .i64 0, .int .i64 0, .int .i64 0, .slice none 0 0] 26]) w.heap.size a0 a1 a2 (.slice A l.length c)) := ⟨allocs_img _ w 0 _ _ _ _ rfl⟩
  have hi1_0 : (allocs w [.cells #[.int .i64 a0, .int .i64 a1, .int .i64 a2, .slice A l.length c] 26, .cells #[.int .i64 a3] 3, .cells #[.int .i64 a4] 3, .cells #[.int .i64 0, .int .i64 0, .int .i64 0, .slice none 0 0] 26]).cell? ⟨w.heap.size + 1, 0, none⟩ = some (.int .i64 a3) := allocs_cell _ w 1 _ _ rfl
  have hi2_0 : (allocs w [.cells #[.int .i64 a0, .int .i64 a1, .int .i64 a2, .slice A l.length c] 26, .cells #[.int .i64 a3] 3, .cells #[.int .i64 a4] 3, .cells #[.int .i64 0, .int .i64 0, .int .i64 0, .slice none 0 0] 26]).cell? ⟨w.heap.size + 2, 0, none⟩ = some (.int .i64 a4) := allocs_cell _ w 2 _ _ rfl
  have HZ0 : Aside0 (IsImg (allocs w [.cells #[.int .i64 a0, .int .i64 a1, .int .i64 a2, .slice A l.length c] 26, .cells #[.int .i64 a3] 3, .cells #[.int .i64 a4] 3, .cells #[.int .i64 0, .int .i64 0, .int .i64 0, .slice none 0 0] 26]) (w.heap.size + 3) 0 0 0 (.slice none 0 0)) := ⟨allocs_img _ w 3 _ _ _ _ rfl⟩
  have hu := Try.underlying26
  clear hr hc h hs1'
  go_enter Try.func33, Try.ntmps33
  go_wp2_with (first
    | (refine wpList_load_img rfl _ rfl w.heap.size a0 a1 a2 _ rfl HI0.out ?_)
    | (go_at_call 52; refine (HV.out _ HB0.out).mono ?_; rintro e w1 ⟨rfl, hb⟩; have HI1 := Aside0.mk (HI0.out.below hb); have hc0_1 := HI1.out.c0; have hc1_1 := HI1.out.c1; have hc2_1 := HI1.out.c2; have hi1_1 := pw_cell_below hb hi1_0; have hi2_1 := pw_cell_below hb hi2_0; have HZ1 := Aside0.mk (HZ0.out.below hb); have HB1 := Aside0.mk (below_step HB0.out hb); clear hb)
    | (refine wpList_load_img rfl _ rfl w.heap.size a0 a1 a2 _ rfl HI1.out ?_)
    | (go_at_call_of 53 (Value.int .i64 a3); refine (impl_isSide.calls a3 false _ hs1.out).mono ?_; rintro e w2 ⟨rfl, hd⟩; have hb := hd.below; clear hd; have HI2 := Aside0.mk (HI1.out.below hb); have hc0_2 := HI2.out.c0; have hc1_2 := HI2.out.c1; have hc2_2 := HI2.out.c2; have hi1_2 := pw_cell_below hb hi1_1; have hi2_2 := pw_cell_below hb hi2_1; have HZ2 := Aside0.mk (HZ1.out.below hb); have HB2 := Aside0.mk (below_step HB1.out hb); clear hb)
    | (refine wpList_store_img rfl _ _ rfl _ 0 0 0 0 0 0 _ _ rfl rfl rfl HZ2.out ?_))
  refine bodyPost_ret (results_cell_row rfl _ _ (w.heap.size + 3) _ _ _ _ rfl (HZ2.out.row 0 0 0 _).out Try.underlying26 rfl img_size) rfl ⟨rfl, below_putRow HB2.out _ _ (by omega)⟩
set_option maxHeartbeats 8000000 in
set_option maxRecDepth 100000 in
theorem impl_ScaleNearest.no3 (a0 a1 a2 : Int) (A : Option Addr) (c : Nat) (l : List Int) (a3 a4 : Int) (w : World) (hr : Kd.C (Kd.int .i64) w A l.length l) (hc : l.length ≤ c) (h : ImgOk a0 a1 a2 l) (hs1' : 1 ≤ a3 ∧ a3 ≤ 16) (hs2' : ¬ (1 ≤ a4 ∧ a4 ≤ 16)) :
    Calls Try.prog 33 #[.agg #[.int .i64 a0, .int .i64 a1, .int .i64 a2, .slice A l.length c], .int .i64 a3, .int .i64 a4] w fun e w' => e = .returned (.agg #[.int .i64 0, .int .i64 0, .int .i64 0, .slice none 0 0]) ∧ Below w.heap.size w w' := by
  have HV : Aside0 (∀ W' : World, Below w.heap.size w W' → Calls Try.prog 52 #[.agg #[.int .i64 a0, .int .i64 a1, .int .i64 a2, .slice A l.length c]] W' fun e w' => e = .returned (.bool true) ∧ Below W'.heap.size W' w') := ⟨fun W' hW => isImage_true h A c W' (Kd.C_below hr hW) hc⟩
  have hs1 : Aside0 (impl_isSide.f a3 = some true) := ⟨by rw [impl_isSide.eq, decide_eq_true hs1']⟩
  have hs2 : Aside0 (impl_isSide.f a4 = some false) := ⟨by rw [impl_isSide.eq, decide_eq_false hs2']⟩
  have HB0 := Aside0.mk (allocs_below [.cells #[.int .i64 a0, .int .i64 a1, .int .i64 a2, .slice A l.length c] 26, .cells #[.int .i64 a3] 3, .cells #[.int .i64 a4] 3, .cells #[.int .i64 0, .int .i64 0, .int .i64 0, .slice none 0 0] 26] w)
  have HI0 : Aside0 (IsImg (allocs w [.cells #[.int .i64 a0, .int .i64 a1, .int .i64 a2, .slice A l.length c] 26, .cells #[.int .i64 a3] 3, .cells #[.int .i64 a4] 3, .cells #[.int .i64 0, .int .i64 0, .int .i64 0, .slice none 0 0] 26]) w.heap.size a0 a1 a2 (.slice A l.length c)) := ⟨allocs_img _ w 0 _ _ _ _ rfl⟩
  have hi1_0 : (allocs w [.cells #[.int .i64 a0, .int .i64 a1, .int .i64 a2, .slice A l.length c] 26, .cells #[.int .i64 a3] 3, .cells #[.int .i64 a4] 3, .cells #[.int .i64 0, .int .i64 0, .int .i64 0, .slice none 0 0] 26]).cell? ⟨w.heap.size + 1, 0, none⟩ = some (.int .i64 a3) := allocs_cell _ w 1 _ _ rfl
  have hi2_0 : (allocs w [.cells #[.int .i64 a0, .int .i64 a1, .int .i64 a2, .slice A l.length c] 26, .cells #[.int .i64 a3] 3, .cells #[.int .i64 a4] 3, .cells #[.int .i64 0, .int .i64 0, .int .i64 0, .slice none 0 0] 26]).cell? ⟨w.heap.size + 2, 0, none⟩ = some (.int .i64 a4) := allocs_cell _ w 2 _ _ rfl
  have HZ0 : Aside0 (IsImg (allocs w [.cells #[.int .i64 a0, .int .i64 a1, .int .i64 a2, .slice A l.length c] 26, .cells #[.int .i64 a3] 3, .cells #[.int .i64 a4] 3, .cells #[.int .i64 0, .int .i64 0, .int .i64 0, .slice none 0 0] 26]) (w.heap.size + 3) 0 0 0 (.slice none 0 0)) := ⟨allocs_img _ w 3 _ _ _ _ rfl⟩
  have hu := Try.underlying26
  clear hr hc h hs1' hs2'
  go_enter Try.func33, Try.ntmps33
  go_wp2_with (first
    | (refine wpList_load_img rfl _ rfl w.heap.size a0 a1 a2 _ rfl HI0.out ?_)
    | (go_at_call 52; refine (HV.out _ HB0.out).mono ?_; rintro e w1 ⟨rfl, hb⟩; have HI1 := Aside0.mk (HI0.out.below hb); have hc0_1 := HI1.out.c0; have hc1_1 := HI1.out.c1; have hc2_1 := HI1.out.c2; have hi1_1 := pw_cell_below hb hi1_0; have hi2_1 := pw_cell_below hb hi2_0; have HZ1 := Aside0.mk (HZ0.out.below hb); have HB1 := Aside0.mk (below_step HB0.out hb); clear hb)
    | (refine wpList_load_img rfl _ rfl w.heap.size a0 a1 a2 _ rfl HI1.out ?_)
    | (go_at_call_of 53 (Value.int .i64 a3); refine (impl_isSide.calls a3 true _ hs1.out).mono ?_; rintro e w2 ⟨rfl, hd⟩; have hb := hd.below; clear hd; have HI2 := Aside0.mk (HI1.out.below hb); have hc0_2 := HI2.out.c0; have hc1_2 := HI2.out.c1; have hc2_2 := HI2.out.c2; have hi1_2 := pw_cell_below hb hi1_1; have hi2_2 := pw_cell_below hb hi2_1; have HZ2 := Aside0.mk (HZ1.out.below hb); have HB2 := Aside0.mk (below_step HB1.out hb); clear hb)
    | (refine wpList_load_img rfl _ rfl w.heap.size a0 a1 a2 _ rfl HI2.out ?_)
    | (go_at_call_of 53 (Value.int .i64 a4); refine (impl_isSide.calls a4 false _ hs2.out).mono ?_; rintro e w3 ⟨rfl, hd⟩; have hb := hd.below; clear hd; have HI3 := Aside0.mk (HI2.out.below hb); have hc0_3 := HI3.out.c0; have hc1_3 := HI3.out.c1; have hc2_3 := HI3.out.c2; have hi1_3 := pw_cell_below hb hi1_2; have hi2_3 := pw_cell_below hb hi2_2; have HZ3 := Aside0.mk (HZ2.out.below hb); have HB3 := Aside0.mk (below_step HB2.out hb); clear hb)
    | (refine wpList_store_img rfl _ _ rfl _ 0 0 0 0 0 0 _ _ rfl rfl rfl HZ3.out ?_))
  refine bodyPost_ret (results_cell_row rfl _ _ (w.heap.size + 3) _ _ _ _ rfl (HZ3.out.row 0 0 0 _).out Try.underlying26 rfl img_size) rfl ⟨rfl, below_putRow HB3.out _ _ (by omega)⟩
set_option maxHeartbeats 8000000 in
set_option maxRecDepth 100000 in
theorem impl_ScaleNearest.yes (W H p : Nat) (A : Option Addr) (c : Nat) (l : List Int) (m n : Nat) (w : World) (hr : Kd.C (Kd.int .i64) w A l.length l) (hc : l.length ≤ c) (h : ImgOk W H p l) (hl : l.length = W * H * p) (hW0 : 1 ≤ W) (hH0 : 1 ≤ H) (hp0 : 1 ≤ p) (hW1 : W ≤ 16) (hH1 : H ≤ 16) (hp1 : p ≤ 4) (hs1' : 1 ≤ (m : Int) ∧ (m : Int) ≤ 16) (hs2' : 1 ≤ (n : Int) ∧ (n : Int) ≤ 16) :
    Calls Try.prog 33 #[.agg #[.int .i64 W, .int .i64 H, .int .i64 p, .slice A l.length c], .int .i64 m, .int .i64 n] w fun e w' => ∃ v : Value, e = .returned (.agg #[.int .i64 m, .int .i64 n, .int .i64 p, v]) ∧ Kd.R (Kd.int .i64) 3 w' w.heap.size (fun _ => True) v (pixelsUpto (fun x y => pixN W p l (x * W / m) (y * H / n)) m (m * n)) ∧ Below w.heap.size w w' := by
  have HV : Aside0 (∀ W' : World, Below w.heap.size w W' → Calls Try.prog 52 #[.agg #[.int .i64 W, .int .i64 H, .int .i64 p, .slice A l.length c]] W' fun e w' => e = .returned (.bool true) ∧ Below W'.heap.size W' w') := ⟨fun W' hW => isImage_true h A c W' (Kd.C_below hr hW) hc⟩
  have hs1 : Aside0 (impl_isSide.f m = some true) := ⟨by rw [impl_isSide.eq, decide_eq_true hs1']⟩
  have hs2 : Aside0 (impl_isSide.f n = some true) := ⟨by rw [impl_isSide.eq, decide_eq_true hs2']⟩
  have HM : Aside0 (∀ W' : World, Below w.heap.size w W' → IsImg W' w.heap.size W H p (.slice A l.length c) → W'.cell? ⟨w.heap.size + 1, 0, none⟩ = some (.int .i64 (m : Int)) → W'.cell? ⟨w.heap.size + 2, 0, none⟩ = some (.int .i64 (n : Int)) → Calls Try.prog 54 #[.int .i64 (m : Nat), .int .i64 (n : Nat), .int .i64 p, .func (.func 78) #[] #[.pointer (some ⟨w.heap.size, 0, none⟩), .pointer (some ⟨w.heap.size + 1, 0, none⟩), .pointer (some ⟨w.heap.size + 2, 0, none⟩)]] W' fun e w' => ∃ v : Value, e = .returned (.agg #[.int .i64 (m : Nat), .int .i64 (n : Nat), .int .i64 p, v]) ∧ Kd.R (Kd.int .i64) 3 w' W'.heap.size (fun _ => True) v (pixelsUpto (fun x y => pixN W p l (x * W / m) (y * H / n)) (m) ((m) * (n))) ∧ Below W'.heap.size W' w') :=
    ⟨fun W' hW hI f1 f2 => impl_imageBy.any 78 _ #[.pointer (some ⟨w.heap.size, 0, none⟩), .pointer (some ⟨w.heap.size + 1, 0, none⟩), .pointer (some ⟨w.heap.size + 2, 0, none⟩)] (fun x y => pixN W p l (x * W / m) (y * H / n)) Try.func78 (by kernel_rfl) rfl (m) (n) p W' (by omega) (by omega) (fun x y hx hy => by rw [pixN_length (show x * W / m < W by rw [Nat.div_lt_iff_lt_mul (by omega), Nat.mul_comm W m]; exact Nat.mul_lt_mul_of_pos_right hx (by omega)) (show y * H / n < H by rw [Nat.div_lt_iff_lt_mul (by omega), Nat.mul_comm H n]; exact Nat.mul_lt_mul_of_pos_right hy (by omega)) hl]; omega) (fun x y w' hx hy hb => (impl_ScaleNearest_1.any x y m n (w.heap.size + 1) (w.heap.size + 2) hx hy (by omega) (by omega) (by omega) (by omega) W H p A c l w.heap.size w' (hI.below hb) (Kd.C_below hr (below_step hW hb)) hc hl hW0 hH0 hp0 hW1 hH1 hp1 (pw_cell_below hb f1) (pw_cell_below hb f2)))⟩
  have HB0 := Aside0.mk (allocs_below [.cells #[.int .i64 W, .int .i64 H, .int .i64 p, .slice A l.length c] 26, .cells #[.int .i64 m] 3, .cells #[.int .i64 n] 3, .cells #[.int .i64 0, .int .i64 0, .int .i64 0, .slice none 0 0] 26] w)
  have HI0 : Aside0 (IsImg (allocs w [.cells #[.int .i64 W, .int .i64 H, .int .i64 p, .slice A l.length c] 26, .cells #[.int .i64 m] 3, .cells #[.int .i64 n] 3, .cells #[.int .i64 0, .int .i64 0, .int .i64 0, .slice none 0 0] 26]) w.heap.size W H p (.slice A l.length c)) := ⟨allocs_img _ w 0 _ _ _ _ rfl⟩
  have hi1_0 : (allocs w [.cells #[.int .i64 W, .int .i64 H, .int .i64 p, .slice A l.length c] 26, .cells #[.int .i64 m] 3, .cells #[.int .i64 n] 3, .cells #[.int .i64 0, .int .i64 0, .int .i64 0, .slice none 0 0] 26]).cell? ⟨w.heap.size + 1, 0, none⟩ = some (.int .i64 m) := allocs_cell _ w 1 _ _ rfl
  have hi2_0 : (allocs w [.cells #[.int .i64 W, .int .i64 H, .int .i64 p, .slice A l.length c] 26, .cells #[.int .i64 m] 3, .cells #[.int .i64 n] 3, .cells #[.int .i64 0, .int .i64 0, .int .i64 0, .slice none 0 0] 26]).cell? ⟨w.heap.size + 2, 0, none⟩ = some (.int .i64 n) := allocs_cell _ w 2 _ _ rfl
  have HZ0 : Aside0 (IsImg (allocs w [.cells #[.int .i64 W, .int .i64 H, .int .i64 p, .slice A l.length c] 26, .cells #[.int .i64 m] 3, .cells #[.int .i64 n] 3, .cells #[.int .i64 0, .int .i64 0, .int .i64 0, .slice none 0 0] 26]) (w.heap.size + 3) 0 0 0 (.slice none 0 0)) := ⟨allocs_img _ w 3 _ _ _ _ rfl⟩
  have hu := Try.underlying26
  clear hr hc h hl hs1' hs2'
  go_enter Try.func33, Try.ntmps33
  go_wp2_with (first
    | (refine wpList_load_img rfl _ rfl w.heap.size W H p _ rfl HI0.out ?_)
    | (go_at_call 52; refine (HV.out _ HB0.out).mono ?_; rintro e w1 ⟨rfl, hb⟩; have HI1 := Aside0.mk (HI0.out.below hb); have hc0_1 := HI1.out.c0; have hc1_1 := HI1.out.c1; have hc2_1 := HI1.out.c2; have hi1_1 := pw_cell_below hb hi1_0; have hi2_1 := pw_cell_below hb hi2_0; have HZ1 := Aside0.mk (HZ0.out.below hb); have HB1 := Aside0.mk (below_step HB0.out hb); clear hb)
    | (refine wpList_load_img rfl _ rfl w.heap.size W H p _ rfl HI1.out ?_)
    | (go_at_call_of 53 (Value.int .i64 m); refine (impl_isSide.calls m true _ hs1.out).mono ?_; rintro e w2 ⟨rfl, hd⟩; have hb := hd.below; clear hd; have HI2 := Aside0.mk (HI1.out.below hb); have hc0_2 := HI2.out.c0; have hc1_2 := HI2.out.c1; have hc2_2 := HI2.out.c2; have hi1_2 := pw_cell_below hb hi1_1; have hi2_2 := pw_cell_below hb hi2_1; have HZ2 := Aside0.mk (HZ1.out.below hb); have HB2 := Aside0.mk (below_step HB1.out hb); clear hb)
    | (refine wpList_load_img rfl _ rfl w.heap.size W H p _ rfl HI2.out ?_)
    | (go_at_call_of 53 (Value.int .i64 n); refine (impl_isSide.calls n true _ hs2.out).mono ?_; rintro e w3 ⟨rfl, hd⟩; have hb := hd.below; clear hd; have HI3 := Aside0.mk (HI2.out.below hb); have hc0_3 := HI3.out.c0; have hc1_3 := HI3.out.c1; have hc2_3 := HI3.out.c2; have hi1_3 := pw_cell_below hb hi1_2; have hi2_3 := pw_cell_below hb hi2_2; have HZ3 := Aside0.mk (HZ2.out.below hb); have HB3 := Aside0.mk (below_step HB2.out hb); clear hb)
    | (refine wpList_load_img rfl _ rfl w.heap.size W H p _ rfl HI3.out ?_)
    | (go_at_call 54; refine (HM.out _ HB3.out HI3.out hi1_3 hi2_3).mono ?_; rintro e w4 ⟨v, rfl, ho, hb⟩; have HZ4 := Aside0.mk (HZ3.out.below hb); have HO := Aside0.mk (Kd.R_lower ho (below_size HB3.out)); have HB4 := Aside0.mk (below_step HB3.out hb); clear hb ho; have H1 := Aside0.mk (own_one HO.out))
    | (refine wpList_store_img rfl _ _ rfl _ 0 0 0 m n p _ _ rfl rfl H1.out HZ4.out ?_))
  refine bodyPost_ret (results_cell_row rfl _ _ (w.heap.size + 3) _ _ _ _ rfl (HZ4.out.row m n p _).out Try.underlying26 rfl img_size) rfl ⟨v, rfl, ?_, below_putRow HB4.out _ _ (by omega)⟩
  exact Kd.R_mono (Kd.R_step (Kd.R_types HO.out HZ4.out.out (by decide)) (fun j hj _ => setRow_other _ _ _ _ hj.2)) (fun _ _ => trivial)
theorem impl_ScaleNearest.calls (a0_0 : Int) (a0_1 : Int) (a0_2 : Int) (A0_3 : Option Addr) (c0_3 : Nat) (l0_3 : List Int) (a1 : Int) (a2 : Int) (r1 : Int) (r2 : Int) (r3 : Int) (r4 : List Int) (w : World) (hr0_3 : Kd.C (Kd.int .i64) w A0_3 l0_3.length l0_3) (hc0_3 : l0_3.length ≤ c0_3) (h : impl_ScaleNearest.f a0_0 a0_1 a0_2 l0_3 a1 a2 = some (r1, r2, r3, r4)) :
    Calls Try.prog 33 #[.agg #[.int .i64 a0_0, .int .i64 a0_1, .int .i64 a0_2, .slice A0_3 l0_3.length c0_3], .int .i64 a1, .int .i64 a2] w fun e w' => ∃ v3_ : Value, e = .returned (.agg #[.int .i64 r1, .int .i64 r2, .int .i64 r3, v3_]) ∧ Kd.R (Kd.int .i64) 3 w' w.heap.size (fun _ => True) v3_ r4 ∧ Below w.heap.size w w' := by
  unfold impl_ScaleNearest.f at h
  by_cases hk : SizeOk a0_0 a0_1 a0_2 l0_3 a1 a2
  · rw [if_pos hk] at h
    simp only [Option.some.injEq, Prod.mk.injEq] at h
    obtain ⟨rfl, rfl, rfl, rfl⟩ := h
    obtain ⟨hi, h1, h2⟩ := hk
    obtain ⟨W, H, p, rfl, rfl, rfl, hl, b1, b2, b3, b4, b5, b6⟩ := hi.nats
    obtain ⟨m, rfl⟩ := Int.eq_ofNat_of_zero_le (show 0 ≤ a1 by omega)
    obtain ⟨n, rfl⟩ := Int.eq_ofNat_of_zero_le (show 0 ≤ a2 by omega)
    exact impl_ScaleNearest.yes W H p A0_3 c0_3 l0_3 m n w hr0_3 hc0_3 hi hl b1 b2 b3 b4 b5 b6 h1 h2
  · rw [if_neg hk] at h
    simp only [Option.some.injEq, Prod.mk.injEq] at h
    obtain ⟨rfl, rfl, rfl, rfl⟩ := h
    have hn : Calls Try.prog 33 #[.agg #[.int .i64 a0_0, .int .i64 a0_1, .int .i64 a0_2, .slice A0_3 l0_3.length c0_3], .int .i64 a1, .int .i64 a2] w fun e w' => e = .returned (.agg #[.int .i64 0, .int .i64 0, .int .i64 0, .slice none 0 0]) ∧ Below w.heap.size w w' := by
      by_cases h1 : ImgOk a0_0 a0_1 a0_2 l0_3
      · by_cases h2 : 1 ≤ a1 ∧ a1 ≤ 16
        · exact impl_ScaleNearest.no3 _ _ _ A0_3 c0_3 l0_3 a1 a2 w hr0_3 hc0_3 h1 h2 (fun h3 => hk ⟨h1, h2, h3⟩)
        · exact impl_ScaleNearest.no2 _ _ _ A0_3 c0_3 l0_3 a1 a2 w hr0_3 hc0_3 h1 h2
      · exact impl_ScaleNearest.no1 _ _ _ A0_3 c0_3 l0_3 a1 a2 w hr0_3 hc0_3 h1
    refine hn.mono ?_
    rintro e w1 ⟨rfl, hb⟩
    exact ⟨_, rfl, Kd.R_nil _ _ _ _ _, hb⟩

end Go.Proofs.Ytmaiifghplcjeaa.Print
