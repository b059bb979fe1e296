-- laid by hp.py (a program of this work over the kit's print), with contracts by hand for what the print does not take
import Derived.Test.YtmaiifghplcjeaaPrint0
import Derived.Test.YtmaiifghplcjeaaPrintHimplimageBy
import Derived.Test.YtmaiifghplcjeaaPrintHx0
import Derived.Test.YtmaiifghplcjeaaPrintHx2
import Derived.Test.YtmaiifghplcjeaaPrintR0x0
namespace Go.Proofs.Ytmaiifghplcjeaa.Print
open Go.RowKit Go.Proofs.YtmaiifghplcjeaaW.PrintWords Go.Proofs.YtmaiifghplcjeaaW.PrintLast Go.Proofs.YtmaiifghplcjeaaW.PrintMore
attribute [local go_sem] max2_int min2_int max_two min_two max_three min_three max_four min_four   -- for this text's walks alone
set_option linter.unusedVariables false
set_option linter.unusedSimpArgs false

--SNIP impl_RepeatImage
/-! ### impl_RepeatImage: function 18, by hand -/
set_option maxHeartbeats 8000000 in
set_option maxRecDepth 100000 in
theorem impl_RepeatImage_1.any (x y : Nat) (hx : x < 16) (hy : y < 16) (W H p : Nat) (A : Option Addr) (c : Nat) (l : List Int) (b : Nat) (w : World) (hI : IsImg w b W H p (.slice A l.length c)) (hr : Kd.C (Kd.int .i64) w A l.length l) (hc : l.length ≤ c) (hl : l.length = W * H * p) (hW0 : 1 ≤ W) (hH0 : 1 ≤ H) (hp0 : 1 ≤ p) (hW : W ≤ 16) (hH : H ≤ 16) (hp : p ≤ 4) :
    Calls Try.prog 55 #[.int .i64 x, .int .i64 y, .pointer (some ⟨b, 0, none⟩)] w fun e w' => ∃ (A' : Option Addr) (c' : Nat), e = .returned (.slice A' (pixN W p l (x % W) (y % H)).length c') ∧ Kd.C (Kd.int .i64) w' A' (pixN W p l (x % W) (y % H)).length (pixN W p l (x % W) (y % H)) ∧ Below w.heap.size w w' := by
  have HAT : Aside0 (∀ (u v : Nat) (w1 : World), u < W → v < H → Below w.heap.size w w1 → Calls Try.prog 56 #[.agg #[.int .i64 W, .int .i64 H, .int .i64 p, .slice A l.length c], .int .i64 u, .int .i64 v] w1 fun e w' => ∃ (A' : Option Addr) (c' : Nat), e = .returned (.slice A' (pixN W p l u v).length c') ∧ Kd.C (Kd.int .i64) w' A' (pixN W p l u v).length (pixN W p l u v) ∧ (pixN W p l u v).length ≤ c' ∧ Below w1.heap.size w1 w') := ⟨fun u v w1 hu hv hb => impl_Image_at.any W H p A c l u v w1 (Kd.C_below hr hb) hc hl hW hH hp hu hv⟩
  have hu := Try.underlying26
  have g1 : (W = 0) = False := eq_false (by omega)
  have g2 : (H = 0) = False := eq_false (by omega)
  have g3 : Int.tmod (x : Int) (W : Int) = ((x % W : Nat) : Int) := rfl
  have g4 : Int.tmod (y : Int) (H : Int) = ((y % H : Nat) : Int) := rfl
  clear hr hc hl
  go_enter Try.func55, Try.ntmps55
  go_wp2
  refine start_ (n := 11) (S := fun w' => w'.cell? ⟨b, 0, none⟩ = some (.int .i64 (W : Int)) ∧ w'.cell? ⟨b, 1, none⟩ = some (.int .i64 (H : Int)) ∧ w'.cell? ⟨b, 2, none⟩ = some (.int .i64 (p : Int)) ∧ w'.cell? ⟨b, 3, none⟩ = some (.slice A l.length c)) (ds := []) #[false, false, false, false, false, false, false, false, false, false, false] (by kernel_rfl) rfl rfl ⟨hI.drew.c0, hI.drew.c1, hI.drew.c2, hI.drew.c3⟩ (fun hHeld => ?_)
  have HI1 := Aside0.mk hI.drew
  have HB1 := Aside0.mk (below_drew (Below.refl w.heap.size w))
  clear hI
  generalize w.drew = w1 at HI1 HB1 hHeld ⊢
  refine take_ (i := 0) (N := some 6) (v := ?_) (a' := ?_) #[true, false, false, false, false, false, false, false, false, false, false] rfl rfl (by kernel_rfl) (fun _ _ _ h => h) (Or.inl ⟨by rfl, ?_⟩) hHeld ?_ ?_
  rotate_left
  · rintro w' ⟨s0, s1, s2, s3⟩
    go_simp
    with_reducible rfl
  rotate_left
  · simp only [Act.put, List.setIfInBounds_toArray, List.set_cons_zero, List.set_cons_succ]
    rfl
  refine pure_ (i := 1) (N := some 7) (v := ?_) (a' := ?_) #[true, true, false, false, false, false, false, false, false, false, false] rfl rfl (by kernel_rfl) (fun _ _ _ h => h) (Or.inl ⟨by rfl, ?_⟩) ?_ ?_
  rotate_left
  · intro w'
    go_simp
    with_reducible rfl
  rotate_left
  · simp only [Act.put, List.setIfInBounds_toArray, List.set_cons_zero, List.set_cons_succ]
    rfl
  refine pure_ (i := 2) (N := some 8) (v := ?_) (a' := ?_) #[true, true, true, false, false, false, false, false, false, false, false] rfl rfl (by kernel_rfl) (fun _ _ _ h => h) (Or.inl ⟨by rfl, ?_⟩) ?_ ?_
  rotate_left
  · intro w'
    go_simp
    with_reducible rfl
  rotate_left
  · simp only [Act.put, List.setIfInBounds_toArray, List.set_cons_zero, List.set_cons_succ]
    rfl
  refine take_ (i := 3) (N := some 9) (v := ?_) (a' := ?_) #[true, true, true, true, false, false, false, false, false, false, false] rfl rfl (by kernel_rfl) (fun _ _ _ h => h) (Or.inl ⟨by rfl, ?_⟩) hHeld ?_ ?_
  rotate_left
  · rintro w' ⟨s0, s1, s2, s3⟩
    go_simp
    with_reducible rfl
  rotate_left
  · simp only [Act.put, List.setIfInBounds_toArray, List.set_cons_zero, List.set_cons_succ]
    rfl
  refine pure_ (i := 4) (N := some 10) (v := ?_) (a' := ?_) #[true, true, true, true, true, false, false, false, false, false, false] rfl rfl (by kernel_rfl) (fun _ _ _ h => h) (Or.inl ⟨by rfl, ?_⟩) ?_ ?_
  rotate_left
  · intro w'
    go_simp
    with_reducible rfl
  rotate_left
  · simp only [Act.put, List.setIfInBounds_toArray, List.set_cons_zero, List.set_cons_succ]
    rfl
  refine pure_ (i := 5) (N := some 11) (v := ?_) (a' := ?_) #[true, true, true, true, true, true, false, false, false, false, false] rfl rfl (by kernel_rfl) (fun _ _ _ h => h) (Or.inl ⟨by rfl, ?_⟩) ?_ ?_
  rotate_left
  · intro w'
    go_simp
    with_reducible rfl
  rotate_left
  · simp only [Act.put, List.setIfInBounds_toArray, List.set_cons_zero, List.set_cons_succ]
    rfl
  refine pure_ (i := 6) (N := some 12) (v := ?_) (a' := ?_) #[true, true, true, true, true, true, true, false, false, false, false] rfl rfl (by kernel_rfl) (fun _ _ _ h => h) (Or.inl ⟨by rfl, ?_⟩) ?_ ?_
  rotate_left
  · intro w'
    go_simp
    with_reducible rfl
  rotate_left
  · simp only [Act.put, List.setIfInBounds_toArray, List.set_cons_zero, List.set_cons_succ]
    rfl
  refine take_ (i := 7) (N := some 13) (v := ?_) (a' := ?_) #[true, true, true, true, true, true, true, true, false, false, false] rfl rfl (by kernel_rfl) (fun _ _ _ h => h) (Or.inl ⟨by rfl, ?_⟩) hHeld ?_ ?_
  rotate_left
  · rintro w' ⟨s0, s1, s2, s3⟩
    go_simp
    with_reducible rfl
  rotate_left
  · simp only [Act.put, List.setIfInBounds_toArray, List.set_cons_zero, List.set_cons_succ]
    rfl
  refine pure_ (i := 8) (N := some 14) (v := ?_) (a' := ?_) #[true, true, true, true, true, true, true, true, true, false, false] rfl rfl (by kernel_rfl) (fun _ _ _ h => h) (Or.inl ⟨by rfl, ?_⟩) ?_ ?_
  rotate_left
  · intro w'
    go_simp
    with_reducible rfl
  rotate_left
  · simp only [Act.put, List.setIfInBounds_toArray, List.set_cons_zero, List.set_cons_succ]
    rfl
  refine one_ (i := 9) (N := some 15) #[true, true, true, true, true, true, true, true, true, true, false] rfl rfl (by kernel_rfl) (by decide) (fun K' hK' => ?_)
  refine goes_ Try.func56 (by kernel_rfl) rfl #[.agg #[.int .i64 W, .int .i64 H, .int .i64 p, .slice A l.length c], .int .i64 (((x % W : Nat) : Int)), .int .i64 (((y % H : Nat) : Int))] (by rfl) rfl rfl (by simp only [List.map_toArray, List.map_cons, List.map_nil]; rfl) ?_
  refine (HAT.out (x % W) (y % H) _ (Nat.mod_lt _ (by omega)) (Nat.mod_lt _ (by omega)) HB1.out).mono ?_
  rintro e w2 ⟨A2, c2, rfl, hC2, hcap2, hb2⟩
  refine ⟨_, rfl, ?_⟩
  have HI2 := Aside0.mk (HI1.out.below hb2)
  have HB2 := Aside0.mk (below_step HB1.out hb2)
  refine hK'.out _ _ ⟨HI2.out.c0, HI2.out.c1, HI2.out.c2, HI2.out.c3⟩ (fun hHeld => ?_)
  clear hK' K'
  refine norm_ (a' := ?_) ?_ ?_
  rotate_left
  · show Act.put _ (some 15) _ = _
    simp only [Act.put, List.setIfInBounds_toArray, List.set_cons_zero, List.set_cons_succ]
    rfl
  refine pure_ (i := 10) (N := some 5) (v := ?_) (a' := ?_) #[true, true, true, true, true, true, true, true, true, true, true] rfl rfl (by kernel_rfl) (fun _ _ _ h => h) (Or.inl ⟨by rfl, ?_⟩) ?_ ?_
  rotate_left
  · intro w'
    go_simp
    with_reducible rfl
  rotate_left
  · simp only [Act.put, List.setIfInBounds_toArray, List.set_cons_zero, List.set_cons_succ]
    rfl
  refine done_ (by kernel_rfl) ?_
  go_wp2
  go_ret
  exact ⟨_, _, rfl, hC2, HB2.out⟩
/-- The pixels of a repetition. -/
def repeatF (a0 a1 a2 : Int) (l : List Int) (x y : Nat) : List Int := pixN a0.toNat a2.toNat l (x % a0.toNat) (y % a1.toNat)
def RepeatOk (a0 a1 a2 : Int) (l : List Int) (a3 a4 : Int) : Prop := ImgOk a0 a1 a2 l ∧ (1 ≤ a3 ∧ a3 ≤ 16) ∧ (1 ≤ a4 ∧ a4 ≤ 16)
instance (a0 a1 a2 : Int) (l : List Int) (a3 a4 : Int) : Decidable (RepeatOk a0 a1 a2 l a3 a4) := by unfold RepeatOk; exact inferInstance
def impl_RepeatImage.f (a0_0 : Int) (a0_1 : Int) (a0_2 : Int) (l0_3 : List Int) (a1 : Int) (a2 : Int) : Option (Int × Int × Int × List Int) := some (if RepeatOk a0_0 a0_1 a0_2 l0_3 a1 a2 then (a1, a2, a0_2, pixelsUpto (repeatF a0_0 a0_1 a0_2 l0_3) a1.toNat (a1.toNat * a2.toNat)) else (0, 0, 0, []))
set_option maxHeartbeats 8000000 in
set_option maxRecDepth 100000 in
theorem impl_RepeatImage.no1 (a0 a1 a2 : Int) (A : Option Addr) (c : Nat) (l : List Int) (a3 a4 : Int) (w : World) (hr : Kd.C (Kd.int .i64) w A l.length l) (hc : l.length ≤ c) (h : ¬ ImgOk a0 a1 a2 l) :
    Calls Try.prog 18 #[.agg #[.int .i64 a0, .int .i64 a1, .int .i64 a2, .slice A l.length c], .int .i64 a3, .int .i64 a4] w fun e w' => e = .returned (.agg #[.int .i64 0, .int .i64 0, .int .i64 0, .slice none 0 0]) ∧ Below w.heap.size w w' := by
  have HV : Aside0 (∀ W' : World, Below w.heap.size w W' → Calls Try.prog 52 #[.agg #[.int .i64 a0, .int .i64 a1, .int .i64 a2, .slice A l.length c]] W' fun e w' => e = .returned (.bool false) ∧ Below W'.heap.size W' w') := ⟨fun W' hW => isImage_false h A c W' (Kd.C_below hr hW) hc⟩
  have HB0 := Aside0.mk (allocs_below [.cells #[.int .i64 a0, .int .i64 a1, .int .i64 a2, .slice A l.length c] 26, .cells #[.int .i64 0, .int .i64 0, .int .i64 0, .slice none 0 0] 26] w)
  have HI0 : Aside0 (IsImg (allocs w [.cells #[.int .i64 a0, .int .i64 a1, .int .i64 a2, .slice A l.length c] 26, .cells #[.int .i64 0, .int .i64 0, .int .i64 0, .slice none 0 0] 26]) w.heap.size a0 a1 a2 (.slice A l.length c)) := ⟨allocs_img _ w 0 _ _ _ _ rfl⟩
  have HZ0 : Aside0 (IsImg (allocs w [.cells #[.int .i64 a0, .int .i64 a1, .int .i64 a2, .slice A l.length c] 26, .cells #[.int .i64 0, .int .i64 0, .int .i64 0, .slice none 0 0] 26]) (w.heap.size + 1) 0 0 0 (.slice none 0 0)) := ⟨allocs_img _ w 1 _ _ _ _ rfl⟩
  have hu := Try.underlying26
  clear hr hc h
  go_enter Try.func18, Try.ntmps18
  go_wp2_with (first
    | (refine wpList_load_img rfl _ rfl w.heap.size a0 a1 a2 _ rfl HI0.out ?_)
    | (go_at_call 52; refine (HV.out _ HB0.out).mono ?_; rintro e w1 ⟨rfl, hb⟩; have HI1 := Aside0.mk (HI0.out.below hb); have hc0_1 := HI1.out.c0; have hc1_1 := HI1.out.c1; have hc2_1 := HI1.out.c2; have HZ1 := Aside0.mk (HZ0.out.below hb); have HB1 := Aside0.mk (below_step HB0.out hb); clear hb)
    | (refine wpList_store_img rfl _ _ rfl _ 0 0 0 0 0 0 _ _ rfl rfl rfl HZ1.out ?_))
  refine bodyPost_ret (results_cell_row rfl _ _ (w.heap.size + 1) _ _ _ _ rfl (HZ1.out.row 0 0 0 _).out Try.underlying26 rfl img_size) rfl ⟨rfl, below_putRow HB1.out _ _ (by omega)⟩
set_option maxHeartbeats 8000000 in
set_option maxRecDepth 100000 in
theorem impl_RepeatImage.no2 (a0 a1 a2 : Int) (A : Option Addr) (c : Nat) (l : List Int) (a3 a4 : Int) (w : World) (hr : Kd.C (Kd.int .i64) w A l.length l) (hc : l.length ≤ c) (h : ImgOk a0 a1 a2 l) (hs1' : ¬ (1 ≤ a3 ∧ a3 ≤ 16)) :
    Calls Try.prog 18 #[.agg #[.int .i64 a0, .int .i64 a1, .int .i64 a2, .slice A l.length c], .int .i64 a3, .int .i64 a4] w fun e w' => e = .returned (.agg #[.int .i64 0, .int .i64 0, .int .i64 0, .slice none 0 0]) ∧ Below w.heap.size w w' := by
  have HV : Aside0 (∀ W' : World, Below w.heap.size w W' → Calls Try.prog 52 #[.agg #[.int .i64 a0, .int .i64 a1, .int .i64 a2, .slice A l.length c]] W' fun e w' => e = .returned (.bool true) ∧ Below W'.heap.size W' w') := ⟨fun W' hW => isImage_true h A c W' (Kd.C_below hr hW) hc⟩
  have hs1 : Aside0 (impl_isSide.f a3 = some false) := ⟨by rw [impl_isSide.eq, decide_eq_false hs1']⟩
  have HB0 := Aside0.mk (allocs_below [.cells #[.int .i64 a0, .int .i64 a1, .int .i64 a2, .slice A l.length c] 26, .cells #[.int .i64 0, .int .i64 0, .int .i64 0, .slice none 0 0] 26] w)
  have HI0 : Aside0 (IsImg (allocs w [.cells #[.int .i64 a0, .int .i64 a1, .int .i64 a2, .slice A l.length c] 26, .cells #[.int .i64 0, .int .i64 0, .int .i64 0, .slice none 0 0] 26]) w.heap.size a0 a1 a2 (.slice A l.length c)) := ⟨allocs_img _ w 0 _ _ _ _ rfl⟩
  have HZ0 : Aside0 (IsImg (allocs w [.cells #[.int .i64 a0, .int .i64 a1, .int .i64 a2, .slice A l.length c] 26, .cells #[.int .i64 0, .int .i64 0, .int .i64 0, .slice none 0 0] 26]) (w.heap.size + 1) 0 0 0 (.slice none 0 0)) := ⟨allocs_img _ w 1 _ _ _ _ rfl⟩
  have hu := Try.underlying26
  clear hr hc h hs1'
  go_enter Try.func18, Try.ntmps18
  go_wp2_with (first
    | (refine wpList_load_img rfl _ rfl w.heap.size a0 a1 a2 _ rfl HI0.out ?_)
    | (go_at_call 52; refine (HV.out _ HB0.out).mono ?_; rintro e w1 ⟨rfl, hb⟩; have HI1 := Aside0.mk (HI0.out.below hb); have hc0_1 := HI1.out.c0; have hc1_1 := HI1.out.c1; have hc2_1 := HI1.out.c2; have HZ1 := Aside0.mk (HZ0.out.below hb); have HB1 := Aside0.mk (below_step HB0.out hb); clear hb)
    | (refine wpList_load_img rfl _ rfl w.heap.size a0 a1 a2 _ rfl HI1.out ?_)
    | (go_at_call_of 53 (Value.int .i64 a3); refine (impl_isSide.calls a3 false _ hs1.out).mono ?_; rintro e w2 ⟨rfl, hd⟩; have hb := hd.below; clear hd; have HI2 := Aside0.mk (HI1.out.below hb); have hc0_2 := HI2.out.c0; have hc1_2 := HI2.out.c1; have hc2_2 := HI2.out.c2; have HZ2 := Aside0.mk (HZ1.out.below hb); have HB2 := Aside0.mk (below_step HB1.out hb); clear hb)
    | (refine wpList_store_img rfl _ _ rfl _ 0 0 0 0 0 0 _ _ rfl rfl rfl HZ2.out ?_))
  refine bodyPost_ret (results_cell_row rfl _ _ (w.heap.size + 1) _ _ _ _ rfl (HZ2.out.row 0 0 0 _).out Try.underlying26 rfl img_size) rfl ⟨rfl, below_putRow HB2.out _ _ (by omega)⟩
set_option maxHeartbeats 8000000 in
set_option maxRecDepth 100000 in
theorem impl_RepeatImage.no3 (a0 a1 a2 : Int) (A : Option Addr) (c : Nat) (l : List Int) (a3 a4 : Int) (w : World) (hr : Kd.C (Kd.int .i64) w A l.length l) (hc : l.length ≤ c) (h : ImgOk a0 a1 a2 l) (hs1' : 1 ≤ a3 ∧ a3 ≤ 16) (hs2' : ¬ (1 ≤ a4 ∧ a4 ≤ 16)) :
    Calls Try.prog 18 #[.agg #[.int .i64 a0, .int .i64 a1, .int .i64 a2, .slice A l.length c], .int .i64 a3, .int .i64 a4] w fun e w' => e = .returned (.agg #[.int .i64 0, .int .i64 0, .int .i64 0, .slice none 0 0]) ∧ Below w.heap.size w w' := by
  have HV : Aside0 (∀ W' : World, Below w.heap.size w W' → Calls Try.prog 52 #[.agg #[.int .i64 a0, .int .i64 a1, .int .i64 a2, .slice A l.length c]] W' fun e w' => e = .returned (.bool true) ∧ Below W'.heap.size W' w') := ⟨fun W' hW => isImage_true h A c W' (Kd.C_below hr hW) hc⟩
  have hs1 : Aside0 (impl_isSide.f a3 = some true) := ⟨by rw [impl_isSide.eq, decide_eq_true hs1']⟩
  have hs2 : Aside0 (impl_isSide.f a4 = some false) := ⟨by rw [impl_isSide.eq, decide_eq_false hs2']⟩
  have HB0 := Aside0.mk (allocs_below [.cells #[.int .i64 a0, .int .i64 a1, .int .i64 a2, .slice A l.length c] 26, .cells #[.int .i64 0, .int .i64 0, .int .i64 0, .slice none 0 0] 26] w)
  have HI0 : Aside0 (IsImg (allocs w [.cells #[.int .i64 a0, .int .i64 a1, .int .i64 a2, .slice A l.length c] 26, .cells #[.int .i64 0, .int .i64 0, .int .i64 0, .slice none 0 0] 26]) w.heap.size a0 a1 a2 (.slice A l.length c)) := ⟨allocs_img _ w 0 _ _ _ _ rfl⟩
  have HZ0 : Aside0 (IsImg (allocs w [.cells #[.int .i64 a0, .int .i64 a1, .int .i64 a2, .slice A l.length c] 26, .cells #[.int .i64 0, .int .i64 0, .int .i64 0, .slice none 0 0] 26]) (w.heap.size + 1) 0 0 0 (.slice none 0 0)) := ⟨allocs_img _ w 1 _ _ _ _ rfl⟩
  have hu := Try.underlying26
  clear hr hc h hs1' hs2'
  go_enter Try.func18, Try.ntmps18
  go_wp2_with (first
    | (refine wpList_load_img rfl _ rfl w.heap.size a0 a1 a2 _ rfl HI0.out ?_)
    | (go_at_call 52; refine (HV.out _ HB0.out).mono ?_; rintro e w1 ⟨rfl, hb⟩; have HI1 := Aside0.mk (HI0.out.below hb); have hc0_1 := HI1.out.c0; have hc1_1 := HI1.out.c1; have hc2_1 := HI1.out.c2; have HZ1 := Aside0.mk (HZ0.out.below hb); have HB1 := Aside0.mk (below_step HB0.out hb); clear hb)
    | (refine wpList_load_img rfl _ rfl w.heap.size a0 a1 a2 _ rfl HI1.out ?_)
    | (go_at_call_of 53 (Value.int .i64 a3); refine (impl_isSide.calls a3 true _ hs1.out).mono ?_; rintro e w2 ⟨rfl, hd⟩; have hb := hd.below; clear hd; have HI2 := Aside0.mk (HI1.out.below hb); have hc0_2 := HI2.out.c0; have hc1_2 := HI2.out.c1; have hc2_2 := HI2.out.c2; have HZ2 := Aside0.mk (HZ1.out.below hb); have HB2 := Aside0.mk (below_step HB1.out hb); clear hb)
    | (refine wpList_load_img rfl _ rfl w.heap.size a0 a1 a2 _ rfl HI2.out ?_)
    | (go_at_call_of 53 (Value.int .i64 a4); refine (impl_isSide.calls a4 false _ hs2.out).mono ?_; rintro e w3 ⟨rfl, hd⟩; have hb := hd.below; clear hd; have HI3 := Aside0.mk (HI2.out.below hb); have hc0_3 := HI3.out.c0; have hc1_3 := HI3.out.c1; have hc2_3 := HI3.out.c2; have HZ3 := Aside0.mk (HZ2.out.below hb); have HB3 := Aside0.mk (below_step HB2.out hb); clear hb)
    | (refine wpList_store_img rfl _ _ rfl _ 0 0 0 0 0 0 _ _ rfl rfl rfl HZ3.out ?_))
  refine bodyPost_ret (results_cell_row rfl _ _ (w.heap.size + 1) _ _ _ _ rfl (HZ3.out.row 0 0 0 _).out Try.underlying26 rfl img_size) rfl ⟨rfl, below_putRow HB3.out _ _ (by omega)⟩
set_option maxHeartbeats 8000000 in
set_option maxRecDepth 100000 in
theorem impl_RepeatImage.yes (W H p : Nat) (A : Option Addr) (c : Nat) (l : List Int) (m n : Nat) (w : World) (hr : Kd.C (Kd.int .i64) w A l.length l) (hc : l.length ≤ c) (h : ImgOk W H p l) (hl : l.length = W * H * p) (hW0 : 1 ≤ W) (hH0 : 1 ≤ H) (hp0 : 1 ≤ p) (hW1 : W ≤ 16) (hH1 : H ≤ 16) (hp1 : p ≤ 4) (hs1' : 1 ≤ (m : Int) ∧ (m : Int) ≤ 16) (hs2' : 1 ≤ (n : Int) ∧ (n : Int) ≤ 16) :
    Calls Try.prog 18 #[.agg #[.int .i64 W, .int .i64 H, .int .i64 p, .slice A l.length c], .int .i64 m, .int .i64 n] w fun e w' => ∃ v : Value, e = .returned (.agg #[.int .i64 m, .int .i64 n, .int .i64 p, v]) ∧ Kd.R (Kd.int .i64) 3 w' w.heap.size (fun _ => True) v (pixelsUpto (fun x y => pixN W p l (x % W) (y % H)) m (m * n)) ∧ Below w.heap.size w w' := by
  have HV : Aside0 (∀ W' : World, Below w.heap.size w W' → Calls Try.prog 52 #[.agg #[.int .i64 W, .int .i64 H, .int .i64 p, .slice A l.length c]] W' fun e w' => e = .returned (.bool true) ∧ Below W'.heap.size W' w') := ⟨fun W' hW => isImage_true h A c W' (Kd.C_below hr hW) hc⟩
  have hs1 : Aside0 (impl_isSide.f m = some true) := ⟨by rw [impl_isSide.eq, decide_eq_true hs1']⟩
  have hs2 : Aside0 (impl_isSide.f n = some true) := ⟨by rw [impl_isSide.eq, decide_eq_true hs2']⟩
  have HM : Aside0 (∀ W' : World, Below w.heap.size w W' → IsImg W' w.heap.size W H p (.slice A l.length c) → Calls Try.prog 54 #[.int .i64 m, .int .i64 n, .int .i64 p, .func (.func 55) #[] #[.pointer (some ⟨w.heap.size, 0, none⟩)]] W' fun e w' => ∃ v : Value, e = .returned (.agg #[.int .i64 m, .int .i64 n, .int .i64 p, v]) ∧ Kd.R (Kd.int .i64) 3 w' W'.heap.size (fun _ => True) v (pixelsUpto (fun x y => pixN W p l (x % W) (y % H)) m (m * n)) ∧ Below W'.heap.size W' w') :=
    ⟨fun W' hW hI => impl_imageBy.any 55 _ #[.pointer (some ⟨w.heap.size, 0, none⟩)] (fun x y => pixN W p l (x % W) (y % H)) Try.func55 (by kernel_rfl) rfl m n p W' (by omega) (by omega) (fun x y _ _ => by rw [pixN_length (Nat.mod_lt _ (by omega)) (Nat.mod_lt _ (by omega)) hl]; omega) (fun x y w' hx hy hb => (impl_RepeatImage_1.any x y (by omega) (by omega) W H p A c l w.heap.size w' (hI.below hb) (Kd.C_below hr (below_step hW hb)) hc hl hW0 hH0 hp0 hW1 hH1 hp1))⟩
  have HB0 := Aside0.mk (allocs_below [.cells #[.int .i64 W, .int .i64 H, .int .i64 p, .slice A l.length c] 26, .cells #[.int .i64 0, .int .i64 0, .int .i64 0, .slice none 0 0] 26] w)
  have HI0 : Aside0 (IsImg (allocs w [.cells #[.int .i64 W, .int .i64 H, .int .i64 p, .slice A l.length c] 26, .cells #[.int .i64 0, .int .i64 0, .int .i64 0, .slice none 0 0] 26]) w.heap.size W H p (.slice A l.length c)) := ⟨allocs_img _ w 0 _ _ _ _ rfl⟩
  have HZ0 : Aside0 (IsImg (allocs w [.cells #[.int .i64 W, .int .i64 H, .int .i64 p, .slice A l.length c] 26, .cells #[.int .i64 0, .int .i64 0, .int .i64 0, .slice none 0 0] 26]) (w.heap.size + 1) 0 0 0 (.slice none 0 0)) := ⟨allocs_img _ w 1 _ _ _ _ rfl⟩
  have hu := Try.underlying26
  clear hr hc h hl hs1' hs2'
  go_enter Try.func18, Try.ntmps18
  go_wp2_with (first
    | (refine wpList_load_img rfl _ rfl w.heap.size W H p _ rfl HI0.out ?_)
    | (go_at_call 52; refine (HV.out _ HB0.out).mono ?_; rintro e w1 ⟨rfl, hb⟩; have HI1 := Aside0.mk (HI0.out.below hb); have hc0_1 := HI1.out.c0; have hc1_1 := HI1.out.c1; have hc2_1 := HI1.out.c2; have HZ1 := Aside0.mk (HZ0.out.below hb); have HB1 := Aside0.mk (below_step HB0.out hb); clear hb)
    | (refine wpList_load_img rfl _ rfl w.heap.size W H p _ rfl HI1.out ?_)
    | (go_at_call_of 53 (Value.int .i64 m); refine (impl_isSide.calls m true _ hs1.out).mono ?_; rintro e w2 ⟨rfl, hd⟩; have hb := hd.below; clear hd; have HI2 := Aside0.mk (HI1.out.below hb); have hc0_2 := HI2.out.c0; have hc1_2 := HI2.out.c1; have hc2_2 := HI2.out.c2; have HZ2 := Aside0.mk (HZ1.out.below hb); have HB2 := Aside0.mk (below_step HB1.out hb); clear hb)
    | (refine wpList_load_img rfl _ rfl w.heap.size W H p _ rfl HI2.out ?_)
    | (go_at_call_of 53 (Value.int .i64 n); refine (impl_isSide.calls n true _ hs2.out).mono ?_; rintro e w3 ⟨rfl, hd⟩; have hb := hd.below; clear hd; have HI3 := Aside0.mk (HI2.out.below hb); have hc0_3 := HI3.out.c0; have hc1_3 := HI3.out.c1; have hc2_3 := HI3.out.c2; have HZ3 := Aside0.mk (HZ2.out.below hb); have HB3 := Aside0.mk (below_step HB2.out hb); clear hb)
    | (refine wpList_load_img rfl _ rfl w.heap.size W H p _ rfl HI3.out ?_)
    | (go_at_call 54; refine (HM.out _ HB3.out HI3.out).mono ?_; rintro e w4 ⟨v, rfl, ho, hb⟩; have HZ4 := Aside0.mk (HZ3.out.below hb); have HO := Aside0.mk (Kd.R_lower ho (below_size HB3.out)); have HB4 := Aside0.mk (below_step HB3.out hb); clear hb ho; have H1 := Aside0.mk (own_one HO.out))
    | (refine wpList_store_img rfl _ _ rfl _ 0 0 0 m n p _ _ rfl rfl H1.out HZ4.out ?_))
  refine bodyPost_ret (results_cell_row rfl _ _ (w.heap.size + 1) _ _ _ _ rfl (HZ4.out.row m n p _).out Try.underlying26 rfl img_size) rfl ⟨v, rfl, ?_, below_putRow HB4.out _ _ (by omega)⟩
  exact Kd.R_mono (Kd.R_step (Kd.R_types HO.out HZ4.out.out (by decide)) (fun j hj _ => setRow_other _ _ _ _ hj.2)) (fun _ _ => trivial)
theorem impl_RepeatImage.calls (a0_0 : Int) (a0_1 : Int) (a0_2 : Int) (A0_3 : Option Addr) (c0_3 : Nat) (l0_3 : List Int) (a1 : Int) (a2 : Int) (r1 : Int) (r2 : Int) (r3 : Int) (r4 : List Int) (w : World) (hr0_3 : Kd.C (Kd.int .i64) w A0_3 l0_3.length l0_3) (hc0_3 : l0_3.length ≤ c0_3) (h : impl_RepeatImage.f a0_0 a0_1 a0_2 l0_3 a1 a2 = some (r1, r2, r3, r4)) :
    Calls Try.prog 18 #[.agg #[.int .i64 a0_0, .int .i64 a0_1, .int .i64 a0_2, .slice A0_3 l0_3.length c0_3], .int .i64 a1, .int .i64 a2] w fun e w' => ∃ v3_ : Value, e = .returned (.agg #[.int .i64 r1, .int .i64 r2, .int .i64 r3, v3_]) ∧ Kd.R (Kd.int .i64) 3 w' w.heap.size (fun _ => True) v3_ r4 ∧ Below w.heap.size w w' := by
  unfold impl_RepeatImage.f at h
  by_cases hk : RepeatOk a0_0 a0_1 a0_2 l0_3 a1 a2
  · rw [if_pos hk] at h
    simp only [Option.some.injEq, Prod.mk.injEq] at h
    obtain ⟨rfl, rfl, rfl, rfl⟩ := h
    obtain ⟨hi, h1, h2⟩ := hk
    obtain ⟨W, H, p, rfl, rfl, rfl, hl, b1, b2, b3, b4, b5, b6⟩ := hi.nats
    obtain ⟨m, rfl⟩ := Int.eq_ofNat_of_zero_le (show 0 ≤ a1 by omega)
    obtain ⟨n, rfl⟩ := Int.eq_ofNat_of_zero_le (show 0 ≤ a2 by omega)
    exact impl_RepeatImage.yes W H p A0_3 c0_3 l0_3 m n w hr0_3 hc0_3 hi hl b1 b2 b3 b4 b5 b6 h1 h2
  · rw [if_neg hk] at h
    simp only [Option.some.injEq, Prod.mk.injEq] at h
    obtain ⟨rfl, rfl, rfl, rfl⟩ := h
    have hn : Calls Try.prog 18 #[.agg #[.int .i64 a0_0, .int .i64 a0_1, .int .i64 a0_2, .slice A0_3 l0_3.length c0_3], .int .i64 a1, .int .i64 a2] w fun e w' => e = .returned (.agg #[.int .i64 0, .int .i64 0, .int .i64 0, .slice none 0 0]) ∧ Below w.heap.size w w' := by
      by_cases h1 : ImgOk a0_0 a0_1 a0_2 l0_3
      · by_cases h2 : 1 ≤ a1 ∧ a1 ≤ 16
        · exact impl_RepeatImage.no3 _ _ _ A0_3 c0_3 l0_3 a1 a2 w hr0_3 hc0_3 h1 h2 (fun h3 => hk ⟨h1, h2, h3⟩)
        · exact impl_RepeatImage.no2 _ _ _ A0_3 c0_3 l0_3 a1 a2 w hr0_3 hc0_3 h1 h2
      · exact impl_RepeatImage.no1 _ _ _ A0_3 c0_3 l0_3 a1 a2 w hr0_3 hc0_3 h1
    refine hn.mono ?_
    rintro e w1 ⟨rfl, hb⟩
    exact ⟨_, rfl, Kd.R_nil _ _ _ _ _, hb⟩

end Go.Proofs.Ytmaiifghplcjeaa.Print
