-- laid by hp.py (a program of this work over the kit's print), with contracts by hand for what the print does not take
import Derived.Test.YtbkhhlifpknbeaaPrint0
import Derived.Test.YtbkhhlifpknbeaaPrintHimplimageBy
import Derived.Test.YtbkhhlifpknbeaaPrintHx0
import Derived.Test.YtbkhhlifpknbeaaPrintHx2
import Derived.Test.YtbkhhlifpknbeaaPrintR1x2
namespace Go.Proofs.Ytbkhhlifpknbeaa.Print
open Go.RowKit Go.Proofs.YtbkhhlifpknbeaaW.PrintWords Go.Proofs.YtbkhhlifpknbeaaW.PrintLast Go.Proofs.YtbkhhlifpknbeaaW.PrintMore
attribute [local go_sem] max2_int min2_int max_two min_two max_three min_three max_four min_four   -- for this text's walks alone
set_option linter.unusedVariables false
set_option linter.unusedSimpArgs false

--SNIP impl_MaskImage
/-! ### impl_MaskImage: function 6, by hand -/
set_option maxHeartbeats 8000000 in
set_option maxRecDepth 100000 in
theorem impl_MaskImage_1.any (g : Nat → Bool) (x y W H p : Nat) (hx : x < W) (hy : y < H) (A : Option Addr) (c : Nat) (l : List Int) (B : Option Addr) (d : Nat) (q : List Int) (bg bq b : Nat) (w : World) (hg : IsGrid w bg g) (hI : IsImg w b W H p (.slice A l.length c)) (hJ : IsImg w bq W H p (.slice B q.length d)) (hr : Kd.C (Kd.int .i64) w A l.length l) (hc : l.length ≤ c) (hrq : Kd.C (Kd.int .i64) w B q.length q) (hcq : q.length ≤ d) (hl : l.length = W * H * p) (hq : q.length = W * H * p) (hW : W ≤ 16) (hH : H ≤ 16) (hp : p ≤ 4) :
    Calls Try.prog 27 #[.int .i64 x, .int .i64 y, .pointer (some ⟨bg, 0, none⟩), .pointer (some ⟨bq, 0, none⟩), .pointer (some ⟨b, 0, none⟩)] w fun e w' => ∃ (A' : Option Addr) (c' : Nat), e = .returned (.slice A' (if g (16 * y + x) = true then pixN W p q x y else pixN W p l x y).length c') ∧ Kd.C (Kd.int .i64) w' A' (if g (16 * y + x) = true then pixN W p q x y else pixN W p l x y).length (if g (16 * y + x) = true then pixN W p q x y else pixN W p l x y) ∧ Below w.heap.size w w' := by
  have HAT : Aside0 (∀ (w1 : World), Below w.heap.size w w1 → Calls Try.prog 28 #[.agg #[.int .i64 W, .int .i64 H, .int .i64 p, .slice A l.length c], .int .i64 x, .int .i64 y] w1 fun e w' => ∃ (A' : Option Addr) (c' : Nat), e = .returned (.slice A' (pixN W p l x y).length c') ∧ Kd.C (Kd.int .i64) w' A' (pixN W p l x y).length (pixN W p l x y) ∧ (pixN W p l x y).length ≤ c' ∧ Below w1.heap.size w1 w') := ⟨fun w1 hb => impl_Image_at.any W H p A c l x y w1 (Kd.C_below hr hb) hc hl hW hH hp hx hy⟩
  have HAQ : Aside0 (∀ (w1 : World), Below w.heap.size w w1 → Calls Try.prog 28 #[.agg #[.int .i64 W, .int .i64 H, .int .i64 p, .slice B q.length d], .int .i64 x, .int .i64 y] w1 fun e w' => ∃ (A' : Option Addr) (c' : Nat), e = .returned (.slice A' (pixN W p q x y).length c') ∧ Kd.C (Kd.int .i64) w' A' (pixN W p q x y).length (pixN W p q x y) ∧ (pixN W p q x y).length ≤ c' ∧ Below w1.heap.size w1 w') := ⟨fun w1 hb => impl_Image_at.any W H p B d q x y w1 (Kd.C_below hrq hb) hcq hq hW hH hp hx hy⟩
  have hi1 := run_index_grid bg y (by omega)
  have hi2 := run_index_line bg (y * 16) x (by omega)
  have hcell := hg.cell (y * 16 + x) (by omega)
  have e16 : 16 * y + x = y * 16 + x := by omega
  rw [e16]
  have HI0 := Aside0.mk hI
  have HJ0 := Aside0.mk hJ
  have hu := Try.underlying25
  clear hr hc hl hI hJ hg hrq hcq hq e16
  cases hgv : g (y * 16 + x) with
  | true =>
    rw [hgv] at hcell
    simp only [if_true]
    clear hgv
    go_enter Try.func27, Try.ntmps27
    go_wp2_with (first
      | (refine wpList_load_img rfl _ rfl bq W H p _ rfl HJ0.out ?_)
      | (go_at_call 28; refine (HAQ.out _ (Below.refl _ _)).mono ?_; rintro e w2 ⟨A2, c2, rfl, hC2, hcap2, hb2⟩))
    go_ret
    exact ⟨_, _, rfl, hC2, hb2⟩
  | false =>
    rw [hgv] at hcell
    simp only [Bool.false_eq_true, if_false]
    clear hgv
    go_enter Try.func27, Try.ntmps27
    go_wp2_with (first
      | (refine wpList_load_img rfl _ rfl b W H p _ rfl HI0.out ?_)
      | (go_at_call 28; refine (HAT.out _ (Below.refl _ _)).mono ?_; rintro e w2 ⟨A2, c2, rfl, hC2, hcap2, hb2⟩))
    go_ret
    exact ⟨_, _, rfl, hC2, hb2⟩
theorem impl_alikeImages.eq (a0 a1 a2 : Int) (l : List Int) (b0 b1 b2 : Int) (q : List Int) : impl_alikeImages.f a0 a1 a2 l b0 b1 b2 q = some (decide (a0 = b0 ∧ a1 = b1 ∧ a2 = b2)) := by
  unfold impl_alikeImages.f
  by_cases h1 : a0 = b0
  · rw [if_pos h1]
    by_cases h2 : a1 = b1
    · rw [if_pos h2]
      congr 1
      rw [Bool.eq_iff_iff]
      simp [h1, h2]
    · rw [if_neg h2, decide_eq_false (fun h => h2 h.2.1)]
  · rw [if_neg h1, decide_eq_false (fun h => h1 h.1)]
def MaskOk (a0 a1 a2 : Int) (l : List Int) (b0 b1 b2 : Int) (q : List Int) (lr : List S59) : Prop := ImgOk a0 a1 a2 l ∧ ImgOk b0 b1 b2 q ∧ (a0 = b0 ∧ a1 = b1 ∧ a2 = b2) ∧ Valid lr
instance (a0 a1 a2 : Int) (l : List Int) (b0 b1 b2 : Int) (q : List Int) (lr : List S59) : Decidable (MaskOk a0 a1 a2 l b0 b1 b2 q lr) := by unfold MaskOk; exact inferInstance
/-- The pixels of a masked image. -/
def maskF (a0 a2 : Int) (l q : List Int) (g : Nat → Bool) (x y : Nat) : List Int := if g (16 * y + x) = true then pixN a0.toNat a2.toNat q x y else pixN a0.toNat a2.toNat l x y
def impl_MaskImage.f (a0_0 : Int) (a0_1 : Int) (a0_2 : Int) (l0_3 : List Int) (a1_0 : Int) (a1_1 : Int) (a1_2 : Int) (l1_3 : List Int) (l2 : List S59) : Option (Int × Int × Int × List Int × Bool) := some (if MaskOk a0_0 a0_1 a0_2 l0_3 a1_0 a1_1 a1_2 l1_3 l2 then (a0_0, a0_1, a0_2, pixelsUpto (maskF a0_0 a0_2 l0_3 l1_3 (gridF l2)) a0_0.toNat (a0_0.toNat * a0_1.toNat), true) else (0, 0, 0, [], false))
set_option maxHeartbeats 8000000 in
set_option maxRecDepth 100000 in
theorem impl_MaskImage.no1 (a0 a1 a2 : Int) (A : Option Addr) (c : Nat) (l : List Int) (b0 b1 b2 : Int) (B : Option Addr) (d : Nat) (q : List Int) (R : Option Addr) (dr : Nat) (lr : List S59) (w : World) (hr : Kd.C (Kd.int .i64) w A l.length l) (hc : l.length ≤ c) (hrq : Kd.C (Kd.int .i64) w B q.length q) (hcq : q.length ≤ d) (hrr : Kd.C k59 w R lr.length lr) (hcr : lr.length ≤ dr) (h : ¬ ImgOk a0 a1 a2 l) :
    Calls Try.prog 6 #[.agg #[.int .i64 a0, .int .i64 a1, .int .i64 a2, .slice A l.length c], .agg #[.int .i64 b0, .int .i64 b1, .int .i64 b2, .slice B q.length d], .slice R lr.length dr] w fun e w' => e = .returned (.tuple #[.agg #[.int .i64 0, .int .i64 0, .int .i64 0, .slice none 0 0], .bool false]) ∧ Below w.heap.size w w' := by
  have HV : Aside0 (∀ W' : World, Below w.heap.size w W' → Calls Try.prog 22 #[.agg #[.int .i64 a0, .int .i64 a1, .int .i64 a2, .slice A l.length c]] W' fun e w' => e = .returned (.bool false) ∧ Below W'.heap.size W' w') := ⟨fun W' hW => isImage_false h A c W' (Kd.C_below hr hW) hc⟩
  have HB0 := Aside0.mk (allocs_below [.cells #[.int .i64 a0, .int .i64 a1, .int .i64 a2, .slice A l.length c] 25, .cells #[.int .i64 b0, .int .i64 b1, .int .i64 b2, .slice B q.length d] 25, .cells #[.int .i64 0, .int .i64 0, .int .i64 0, .slice none 0 0] 25] w)
  have HI0 := Aside0.mk (show IsImg (allocs w [.cells #[.int .i64 a0, .int .i64 a1, .int .i64 a2, .slice A l.length c] 25, .cells #[.int .i64 b0, .int .i64 b1, .int .i64 b2, .slice B q.length d] 25, .cells #[.int .i64 0, .int .i64 0, .int .i64 0, .slice none 0 0] 25]) w.heap.size a0 a1 a2 _ from allocs_img [.cells #[.int .i64 a0, .int .i64 a1, .int .i64 a2, .slice A l.length c] 25, .cells #[.int .i64 b0, .int .i64 b1, .int .i64 b2, .slice B q.length d] 25, .cells #[.int .i64 0, .int .i64 0, .int .i64 0, .slice none 0 0] 25] w 0 _ _ _ _ rfl)
  have c0_HI_0 := HI0.out.c0
  have c1_HI_0 := HI0.out.c1
  have c2_HI_0 := HI0.out.c2
  have HJ0 := Aside0.mk (show IsImg (allocs w [.cells #[.int .i64 a0, .int .i64 a1, .int .i64 a2, .slice A l.length c] 25, .cells #[.int .i64 b0, .int .i64 b1, .int .i64 b2, .slice B q.length d] 25, .cells #[.int .i64 0, .int .i64 0, .int .i64 0, .slice none 0 0] 25]) (w.heap.size + 1) b0 b1 b2 _ from allocs_img [.cells #[.int .i64 a0, .int .i64 a1, .int .i64 a2, .slice A l.length c] 25, .cells #[.int .i64 b0, .int .i64 b1, .int .i64 b2, .slice B q.length d] 25, .cells #[.int .i64 0, .int .i64 0, .int .i64 0, .slice none 0 0] 25] w 1 _ _ _ _ rfl)
  have c0_HJ_0 := HJ0.out.c0
  have c1_HJ_0 := HJ0.out.c1
  have c2_HJ_0 := HJ0.out.c2
  have HZ0 := Aside0.mk (allocs_img [.cells #[.int .i64 a0, .int .i64 a1, .int .i64 a2, .slice A l.length c] 25, .cells #[.int .i64 b0, .int .i64 b1, .int .i64 b2, .slice B q.length d] 25, .cells #[.int .i64 0, .int .i64 0, .int .i64 0, .slice none 0 0] 25] w 2 _ _ _ _ rfl)
  have hu := Try.underlying25
  clear hr hc hrq hcq hrr hcr h
  go_enter Try.func6, Try.ntmps6
  go_wp2_with (first
    | (refine wpList_load_img rfl _ rfl w.heap.size a0 a1 a2 _ rfl HI0.out ?_)
    | (refine gate_guard (by rfl) ?_; dsimp only; refine wpList_load_img rfl _ rfl w.heap.size a0 a1 a2 _ rfl HI0.out ?_)
    | (refine wpList_load_img rfl _ rfl (w.heap.size + 1) b0 b1 b2 _ rfl HJ0.out ?_)
    | (refine gate_guard (by rfl) ?_; dsimp only; refine wpList_load_img rfl _ rfl (w.heap.size + 1) b0 b1 b2 _ rfl HJ0.out ?_)
    | (go_at_call_of 22 (Value.agg #[.int .i64 a0, .int .i64 a1, .int .i64 a2, .slice A l.length c]); refine (HV.out _ HB0.out).mono ?_; rintro e w1 ⟨rfl, hb⟩; have HI1 := Aside0.mk (HI0.out.below hb); have c0_HI_1 := HI1.out.c0; have c1_HI_1 := HI1.out.c1; have c2_HI_1 := HI1.out.c2; have HJ1 := Aside0.mk (HJ0.out.below hb); have c0_HJ_1 := HJ1.out.c0; have c1_HJ_1 := HJ1.out.c1; have c2_HJ_1 := HJ1.out.c2; have HZ1 := Aside0.mk (HZ0.out.below hb); have HB1 := Aside0.mk (below_step HB0.out hb); clear hb)
    | (refine wpList_store_img rfl _ _ rfl _ 0 0 0 0 0 0 _ _ rfl rfl rfl HZ1.out ?_))
  refine bodyPost_ret (results_ct (p := 6) (u := 7) rfl _ _ (w.heap.size + 2) _ _ _ _ rfl (HZ1.out.row 0 0 0 _).out Try.underlying25 rfl img_size) rfl ?_
  exact ⟨rfl, below_putRow HB1.out _ _ (by omega)⟩
set_option maxHeartbeats 8000000 in
set_option maxRecDepth 100000 in
theorem impl_MaskImage.no2 (a0 a1 a2 : Int) (A : Option Addr) (c : Nat) (l : List Int) (b0 b1 b2 : Int) (B : Option Addr) (d : Nat) (q : List Int) (R : Option Addr) (dr : Nat) (lr : List S59) (w : World) (hr : Kd.C (Kd.int .i64) w A l.length l) (hc : l.length ≤ c) (hrq : Kd.C (Kd.int .i64) w B q.length q) (hcq : q.length ≤ d) (hrr : Kd.C k59 w R lr.length lr) (hcr : lr.length ≤ dr) (h : ImgOk a0 a1 a2 l) (hj : ¬ ImgOk b0 b1 b2 q) :
    Calls Try.prog 6 #[.agg #[.int .i64 a0, .int .i64 a1, .int .i64 a2, .slice A l.length c], .agg #[.int .i64 b0, .int .i64 b1, .int .i64 b2, .slice B q.length d], .slice R lr.length dr] w fun e w' => e = .returned (.tuple #[.agg #[.int .i64 0, .int .i64 0, .int .i64 0, .slice none 0 0], .bool false]) ∧ Below w.heap.size w w' := by
  have HV : Aside0 (∀ W' : World, Below w.heap.size w W' → Calls Try.prog 22 #[.agg #[.int .i64 a0, .int .i64 a1, .int .i64 a2, .slice A l.length c]] W' fun e w' => e = .returned (.bool true) ∧ Below W'.heap.size W' w') := ⟨fun W' hW => isImage_true h A c W' (Kd.C_below hr hW) hc⟩
  have HU : Aside0 (∀ W' : World, Below w.heap.size w W' → Calls Try.prog 22 #[.agg #[.int .i64 b0, .int .i64 b1, .int .i64 b2, .slice B q.length d]] W' fun e w' => e = .returned (.bool false) ∧ Below W'.heap.size W' w') := ⟨fun W' hW => isImage_false hj B d W' (Kd.C_below hrq hW) hcq⟩
  have HB0 := Aside0.mk (allocs_below [.cells #[.int .i64 a0, .int .i64 a1, .int .i64 a2, .slice A l.length c] 25, .cells #[.int .i64 b0, .int .i64 b1, .int .i64 b2, .slice B q.length d] 25, .cells #[.int .i64 0, .int .i64 0, .int .i64 0, .slice none 0 0] 25] w)
  have HI0 := Aside0.mk (show IsImg (allocs w [.cells #[.int .i64 a0, .int .i64 a1, .int .i64 a2, .slice A l.length c] 25, .cells #[.int .i64 b0, .int .i64 b1, .int .i64 b2, .slice B q.length d] 25, .cells #[.int .i64 0, .int .i64 0, .int .i64 0, .slice none 0 0] 25]) w.heap.size a0 a1 a2 _ from allocs_img [.cells #[.int .i64 a0, .int .i64 a1, .int .i64 a2, .slice A l.length c] 25, .cells #[.int .i64 b0, .int .i64 b1, .int .i64 b2, .slice B q.length d] 25, .cells #[.int .i64 0, .int .i64 0, .int .i64 0, .slice none 0 0] 25] w 0 _ _ _ _ rfl)
  have c0_HI_0 := HI0.out.c0
  have c1_HI_0 := HI0.out.c1
  have c2_HI_0 := HI0.out.c2
  have HJ0 := Aside0.mk (show IsImg (allocs w [.cells #[.int .i64 a0, .int .i64 a1, .int .i64 a2, .slice A l.length c] 25, .cells #[.int .i64 b0, .int .i64 b1, .int .i64 b2, .slice B q.length d] 25, .cells #[.int .i64 0, .int .i64 0, .int .i64 0, .slice none 0 0] 25]) (w.heap.size + 1) b0 b1 b2 _ from allocs_img [.cells #[.int .i64 a0, .int .i64 a1, .int .i64 a2, .slice A l.length c] 25, .cells #[.int .i64 b0, .int .i64 b1, .int .i64 b2, .slice B q.length d] 25, .cells #[.int .i64 0, .int .i64 0, .int .i64 0, .slice none 0 0] 25] w 1 _ _ _ _ rfl)
  have c0_HJ_0 := HJ0.out.c0
  have c1_HJ_0 := HJ0.out.c1
  have c2_HJ_0 := HJ0.out.c2
  have HZ0 := Aside0.mk (allocs_img [.cells #[.int .i64 a0, .int .i64 a1, .int .i64 a2, .slice A l.length c] 25, .cells #[.int .i64 b0, .int .i64 b1, .int .i64 b2, .slice B q.length d] 25, .cells #[.int .i64 0, .int .i64 0, .int .i64 0, .slice none 0 0] 25] w 2 _ _ _ _ rfl)
  have hu := Try.underlying25
  clear hr hc hrq hcq hrr hcr h hj
  go_enter Try.func6, Try.ntmps6
  go_wp2_with (first
    | (refine wpList_load_img rfl _ rfl w.heap.size a0 a1 a2 _ rfl HI0.out ?_)
    | (refine gate_guard (by rfl) ?_; dsimp only; refine wpList_load_img rfl _ rfl w.heap.size a0 a1 a2 _ rfl HI0.out ?_)
    | (refine wpList_load_img rfl _ rfl (w.heap.size + 1) b0 b1 b2 _ rfl HJ0.out ?_)
    | (refine gate_guard (by rfl) ?_; dsimp only; refine wpList_load_img rfl _ rfl (w.heap.size + 1) b0 b1 b2 _ rfl HJ0.out ?_)
    | (go_at_call_of 22 (Value.agg #[.int .i64 a0, .int .i64 a1, .int .i64 a2, .slice A l.length c]); refine (HV.out _ HB0.out).mono ?_; rintro e w1 ⟨rfl, hb⟩; have HI1 := Aside0.mk (HI0.out.below hb); have c0_HI_1 := HI1.out.c0; have c1_HI_1 := HI1.out.c1; have c2_HI_1 := HI1.out.c2; have HJ1 := Aside0.mk (HJ0.out.below hb); have c0_HJ_1 := HJ1.out.c0; have c1_HJ_1 := HJ1.out.c1; have c2_HJ_1 := HJ1.out.c2; have HZ1 := Aside0.mk (HZ0.out.below hb); have HB1 := Aside0.mk (below_step HB0.out hb); clear hb)
    | (refine wpList_load_img rfl _ rfl w.heap.size a0 a1 a2 _ rfl HI1.out ?_)
    | (refine gate_guard (by rfl) ?_; dsimp only; refine wpList_load_img rfl _ rfl w.heap.size a0 a1 a2 _ rfl HI1.out ?_)
    | (refine wpList_load_img rfl _ rfl (w.heap.size + 1) b0 b1 b2 _ rfl HJ1.out ?_)
    | (refine gate_guard (by rfl) ?_; dsimp only; refine wpList_load_img rfl _ rfl (w.heap.size + 1) b0 b1 b2 _ rfl HJ1.out ?_)
    | (go_at_call_of 22 (Value.agg #[.int .i64 b0, .int .i64 b1, .int .i64 b2, .slice B q.length d]); refine (HU.out _ HB1.out).mono ?_; rintro e w2 ⟨rfl, hb⟩; have HI2 := Aside0.mk (HI1.out.below hb); have c0_HI_2 := HI2.out.c0; have c1_HI_2 := HI2.out.c1; have c2_HI_2 := HI2.out.c2; have HJ2 := Aside0.mk (HJ1.out.below hb); have c0_HJ_2 := HJ2.out.c0; have c1_HJ_2 := HJ2.out.c1; have c2_HJ_2 := HJ2.out.c2; have HZ2 := Aside0.mk (HZ1.out.below hb); have HB2 := Aside0.mk (below_step HB1.out hb); clear hb)
    | (refine wpList_store_img rfl _ _ rfl _ 0 0 0 0 0 0 _ _ rfl rfl rfl HZ2.out ?_))
  refine bodyPost_ret (results_ct (p := 6) (u := 7) rfl _ _ (w.heap.size + 2) _ _ _ _ rfl (HZ2.out.row 0 0 0 _).out Try.underlying25 rfl img_size) rfl ?_
  exact ⟨rfl, below_putRow HB2.out _ _ (by omega)⟩
set_option maxHeartbeats 8000000 in
set_option maxRecDepth 100000 in
theorem impl_MaskImage.no3 (a0 a1 a2 : Int) (A : Option Addr) (c : Nat) (l : List Int) (b0 b1 b2 : Int) (B : Option Addr) (d : Nat) (q : List Int) (R : Option Addr) (dr : Nat) (lr : List S59) (w : World) (hr : Kd.C (Kd.int .i64) w A l.length l) (hc : l.length ≤ c) (hrq : Kd.C (Kd.int .i64) w B q.length q) (hcq : q.length ≤ d) (hrr : Kd.C k59 w R lr.length lr) (hcr : lr.length ≤ dr) (h : ImgOk a0 a1 a2 l) (hj : ImgOk b0 b1 b2 q) (hk : ¬ (a0 = b0 ∧ a1 = b1 ∧ a2 = b2)) :
    Calls Try.prog 6 #[.agg #[.int .i64 a0, .int .i64 a1, .int .i64 a2, .slice A l.length c], .agg #[.int .i64 b0, .int .i64 b1, .int .i64 b2, .slice B q.length d], .slice R lr.length dr] w fun e w' => e = .returned (.tuple #[.agg #[.int .i64 0, .int .i64 0, .int .i64 0, .slice none 0 0], .bool false]) ∧ Below w.heap.size w w' := by
  have HV : Aside0 (∀ W' : World, Below w.heap.size w W' → Calls Try.prog 22 #[.agg #[.int .i64 a0, .int .i64 a1, .int .i64 a2, .slice A l.length c]] W' fun e w' => e = .returned (.bool true) ∧ Below W'.heap.size W' w') := ⟨fun W' hW => isImage_true h A c W' (Kd.C_below hr hW) hc⟩
  have HU : Aside0 (∀ W' : World, Below w.heap.size w W' → Calls Try.prog 22 #[.agg #[.int .i64 b0, .int .i64 b1, .int .i64 b2, .slice B q.length d]] W' fun e w' => e = .returned (.bool true) ∧ Below W'.heap.size W' w') := ⟨fun W' hW => isImage_true hj B d W' (Kd.C_below hrq hW) hcq⟩
  have HL : Aside0 (∀ W' : World, Below w.heap.size w W' → Calls Try.prog 23 #[.agg #[.int .i64 a0, .int .i64 a1, .int .i64 a2, .slice A l.length c], .agg #[.int .i64 b0, .int .i64 b1, .int .i64 b2, .slice B q.length d]] W' fun e w' => e = .returned (.bool false) ∧ Below W'.heap.size W' w') := ⟨fun W' hW => impl_alikeImages.calls a0 a1 a2 A c l b0 b1 b2 B d q false W' (Kd.C_below hr hW) hc (Kd.C_below hrq hW) hcq (by rw [impl_alikeImages.eq, decide_eq_false hk])⟩
  have HB0 := Aside0.mk (allocs_below [.cells #[.int .i64 a0, .int .i64 a1, .int .i64 a2, .slice A l.length c] 25, .cells #[.int .i64 b0, .int .i64 b1, .int .i64 b2, .slice B q.length d] 25, .cells #[.int .i64 0, .int .i64 0, .int .i64 0, .slice none 0 0] 25] w)
  have HI0 := Aside0.mk (show IsImg (allocs w [.cells #[.int .i64 a0, .int .i64 a1, .int .i64 a2, .slice A l.length c] 25, .cells #[.int .i64 b0, .int .i64 b1, .int .i64 b2, .slice B q.length d] 25, .cells #[.int .i64 0, .int .i64 0, .int .i64 0, .slice none 0 0] 25]) w.heap.size a0 a1 a2 _ from allocs_img [.cells #[.int .i64 a0, .int .i64 a1, .int .i64 a2, .slice A l.length c] 25, .cells #[.int .i64 b0, .int .i64 b1, .int .i64 b2, .slice B q.length d] 25, .cells #[.int .i64 0, .int .i64 0, .int .i64 0, .slice none 0 0] 25] w 0 _ _ _ _ rfl)
  have c0_HI_0 := HI0.out.c0
  have c1_HI_0 := HI0.out.c1
  have c2_HI_0 := HI0.out.c2
  have HJ0 := Aside0.mk (show IsImg (allocs w [.cells #[.int .i64 a0, .int .i64 a1, .int .i64 a2, .slice A l.length c] 25, .cells #[.int .i64 b0, .int .i64 b1, .int .i64 b2, .slice B q.length d] 25, .cells #[.int .i64 0, .int .i64 0, .int .i64 0, .slice none 0 0] 25]) (w.heap.size + 1) b0 b1 b2 _ from allocs_img [.cells #[.int .i64 a0, .int .i64 a1, .int .i64 a2, .slice A l.length c] 25, .cells #[.int .i64 b0, .int .i64 b1, .int .i64 b2, .slice B q.length d] 25, .cells #[.int .i64 0, .int .i64 0, .int .i64 0, .slice none 0 0] 25] w 1 _ _ _ _ rfl)
  have c0_HJ_0 := HJ0.out.c0
  have c1_HJ_0 := HJ0.out.c1
  have c2_HJ_0 := HJ0.out.c2
  have HZ0 := Aside0.mk (allocs_img [.cells #[.int .i64 a0, .int .i64 a1, .int .i64 a2, .slice A l.length c] 25, .cells #[.int .i64 b0, .int .i64 b1, .int .i64 b2, .slice B q.length d] 25, .cells #[.int .i64 0, .int .i64 0, .int .i64 0, .slice none 0 0] 25] w 2 _ _ _ _ rfl)
  have hu := Try.underlying25
  clear hr hc hrq hcq hrr hcr h hj hk
  go_enter Try.func6, Try.ntmps6
  go_wp2_with (first
    | (refine wpList_load_img rfl _ rfl w.heap.size a0 a1 a2 _ rfl HI0.out ?_)
    | (refine gate_guard (by rfl) ?_; dsimp only; refine wpList_load_img rfl _ rfl w.heap.size a0 a1 a2 _ rfl HI0.out ?_)
    | (refine wpList_load_img rfl _ rfl (w.heap.size + 1) b0 b1 b2 _ rfl HJ0.out ?_)
    | (refine gate_guard (by rfl) ?_; dsimp only; refine wpList_load_img rfl _ rfl (w.heap.size + 1) b0 b1 b2 _ rfl HJ0.out ?_)
    | (go_at_call_of 22 (Value.agg #[.int .i64 a0, .int .i64 a1, .int .i64 a2, .slice A l.length c]); refine (HV.out _ HB0.out).mono ?_; rintro e w1 ⟨rfl, hb⟩; have HI1 := Aside0.mk (HI0.out.below hb); have c0_HI_1 := HI1.out.c0; have c1_HI_1 := HI1.out.c1; have c2_HI_1 := HI1.out.c2; have HJ1 := Aside0.mk (HJ0.out.below hb); have c0_HJ_1 := HJ1.out.c0; have c1_HJ_1 := HJ1.out.c1; have c2_HJ_1 := HJ1.out.c2; have HZ1 := Aside0.mk (HZ0.out.below hb); have HB1 := Aside0.mk (below_step HB0.out hb); clear hb)
    | (refine wpList_load_img rfl _ rfl w.heap.size a0 a1 a2 _ rfl HI1.out ?_)
    | (refine gate_guard (by rfl) ?_; dsimp only; refine wpList_load_img rfl _ rfl w.heap.size a0 a1 a2 _ rfl HI1.out ?_)
    | (refine wpList_load_img rfl _ rfl (w.heap.size + 1) b0 b1 b2 _ rfl HJ1.out ?_)
    | (refine gate_guard (by rfl) ?_; dsimp only; refine wpList_load_img rfl _ rfl (w.heap.size + 1) b0 b1 b2 _ rfl HJ1.out ?_)
    | (go_at_call_of 22 (Value.agg #[.int .i64 b0, .int .i64 b1, .int .i64 b2, .slice B q.length d]); refine (HU.out _ HB1.out).mono ?_; rintro e w2 ⟨rfl, hb⟩; have HI2 := Aside0.mk (HI1.out.below hb); have c0_HI_2 := HI2.out.c0; have c1_HI_2 := HI2.out.c1; have c2_HI_2 := HI2.out.c2; have HJ2 := Aside0.mk (HJ1.out.below hb); have c0_HJ_2 := HJ2.out.c0; have c1_HJ_2 := HJ2.out.c1; have c2_HJ_2 := HJ2.out.c2; have HZ2 := Aside0.mk (HZ1.out.below hb); have HB2 := Aside0.mk (below_step HB1.out hb); clear hb)
    | (refine wpList_load_img rfl _ rfl w.heap.size a0 a1 a2 _ rfl HI2.out ?_)
    | (refine gate_guard (by rfl) ?_; dsimp only; refine wpList_load_img rfl _ rfl w.heap.size a0 a1 a2 _ rfl HI2.out ?_)
    | (refine wpList_load_img rfl _ rfl (w.heap.size + 1) b0 b1 b2 _ rfl HJ2.out ?_)
    | (refine gate_guard (by rfl) ?_; dsimp only; refine wpList_load_img rfl _ rfl (w.heap.size + 1) b0 b1 b2 _ rfl HJ2.out ?_)
    | (go_at_call 23; refine (HL.out _ HB2.out).mono ?_; rintro e w3 ⟨rfl, hb⟩; have HI3 := Aside0.mk (HI2.out.below hb); have c0_HI_3 := HI3.out.c0; have c1_HI_3 := HI3.out.c1; have c2_HI_3 := HI3.out.c2; have HJ3 := Aside0.mk (HJ2.out.below hb); have c0_HJ_3 := HJ3.out.c0; have c1_HJ_3 := HJ3.out.c1; have c2_HJ_3 := HJ3.out.c2; have HZ3 := Aside0.mk (HZ2.out.below hb); have HB3 := Aside0.mk (below_step HB2.out hb); clear hb)
    | (refine wpList_store_img rfl _ _ rfl _ 0 0 0 0 0 0 _ _ rfl rfl rfl HZ3.out ?_))
  refine bodyPost_ret (results_ct (p := 6) (u := 7) rfl _ _ (w.heap.size + 2) _ _ _ _ rfl (HZ3.out.row 0 0 0 _).out Try.underlying25 rfl img_size) rfl ?_
  exact ⟨rfl, below_putRow HB3.out _ _ (by omega)⟩
set_option maxHeartbeats 8000000 in
set_option maxRecDepth 100000 in
theorem impl_MaskImage.no4 (a0 a1 a2 : Int) (A : Option Addr) (c : Nat) (l : List Int) (b0 b1 b2 : Int) (B : Option Addr) (d : Nat) (q : List Int) (R : Option Addr) (dr : Nat) (lr : List S59) (w : World) (hr : Kd.C (Kd.int .i64) w A l.length l) (hc : l.length ≤ c) (hrq : Kd.C (Kd.int .i64) w B q.length q) (hcq : q.length ≤ d) (hrr : Kd.C k59 w R lr.length lr) (hcr : lr.length ≤ dr) (h : ImgOk a0 a1 a2 l) (hj : ImgOk b0 b1 b2 q) (hk : a0 = b0 ∧ a1 = b1 ∧ a2 = b2) (hv : ¬ Valid lr) :
    Calls Try.prog 6 #[.agg #[.int .i64 a0, .int .i64 a1, .int .i64 a2, .slice A l.length c], .agg #[.int .i64 b0, .int .i64 b1, .int .i64 b2, .slice B q.length d], .slice R lr.length dr] w fun e w' => e = .returned (.tuple #[.agg #[.int .i64 0, .int .i64 0, .int .i64 0, .slice none 0 0], .bool false]) ∧ Below w.heap.size w w' := by
  have HV : Aside0 (∀ W' : World, Below w.heap.size w W' → Calls Try.prog 22 #[.agg #[.int .i64 a0, .int .i64 a1, .int .i64 a2, .slice A l.length c]] W' fun e w' => e = .returned (.bool true) ∧ Below W'.heap.size W' w') := ⟨fun W' hW => isImage_true h A c W' (Kd.C_below hr hW) hc⟩
  have HU : Aside0 (∀ W' : World, Below w.heap.size w W' → Calls Try.prog 22 #[.agg #[.int .i64 b0, .int .i64 b1, .int .i64 b2, .slice B q.length d]] W' fun e w' => e = .returned (.bool true) ∧ Below W'.heap.size W' w') := ⟨fun W' hW => isImage_true hj B d W' (Kd.C_below hrq hW) hcq⟩
  have HL : Aside0 (∀ W' : World, Below w.heap.size w W' → Calls Try.prog 23 #[.agg #[.int .i64 a0, .int .i64 a1, .int .i64 a2, .slice A l.length c], .agg #[.int .i64 b0, .int .i64 b1, .int .i64 b2, .slice B q.length d]] W' fun e w' => e = .returned (.bool true) ∧ Below W'.heap.size W' w') := ⟨fun W' hW => impl_alikeImages.calls a0 a1 a2 A c l b0 b1 b2 B d q true W' (Kd.C_below hr hW) hc (Kd.C_below hrq hW) hcq (by rw [impl_alikeImages.eq, decide_eq_true hk])⟩
  have HR : Aside0 (∀ W' : World, Below w.heap.size w W' → Calls Try.prog 24 #[.slice R lr.length dr] W' fun e w' => e = .returned (.bool false) ∧ Below W'.heap.size W' w') := ⟨fun W' hW => by have h_ := isRegion_calls R dr lr W' (Kd.C_below hrr hW) hcr; rw [decide_eq_false hv] at h_; exact h_⟩
  have HB0 := Aside0.mk (allocs_below [.cells #[.int .i64 a0, .int .i64 a1, .int .i64 a2, .slice A l.length c] 25, .cells #[.int .i64 b0, .int .i64 b1, .int .i64 b2, .slice B q.length d] 25, .cells #[.int .i64 0, .int .i64 0, .int .i64 0, .slice none 0 0] 25] w)
  have HI0 := Aside0.mk (show IsImg (allocs w [.cells #[.int .i64 a0, .int .i64 a1, .int .i64 a2, .slice A l.length c] 25, .cells #[.int .i64 b0, .int .i64 b1, .int .i64 b2, .slice B q.length d] 25, .cells #[.int .i64 0, .int .i64 0, .int .i64 0, .slice none 0 0] 25]) w.heap.size a0 a1 a2 _ from allocs_img [.cells #[.int .i64 a0, .int .i64 a1, .int .i64 a2, .slice A l.length c] 25, .cells #[.int .i64 b0, .int .i64 b1, .int .i64 b2, .slice B q.length d] 25, .cells #[.int .i64 0, .int .i64 0, .int .i64 0, .slice none 0 0] 25] w 0 _ _ _ _ rfl)
  have c0_HI_0 := HI0.out.c0
  have c1_HI_0 := HI0.out.c1
  have c2_HI_0 := HI0.out.c2
  have HJ0 := Aside0.mk (show IsImg (allocs w [.cells #[.int .i64 a0, .int .i64 a1, .int .i64 a2, .slice A l.length c] 25, .cells #[.int .i64 b0, .int .i64 b1, .int .i64 b2, .slice B q.length d] 25, .cells #[.int .i64 0, .int .i64 0, .int .i64 0, .slice none 0 0] 25]) (w.heap.size + 1) b0 b1 b2 _ from allocs_img [.cells #[.int .i64 a0, .int .i64 a1, .int .i64 a2, .slice A l.length c] 25, .cells #[.int .i64 b0, .int .i64 b1, .int .i64 b2, .slice B q.length d] 25, .cells #[.int .i64 0, .int .i64 0, .int .i64 0, .slice none 0 0] 25] w 1 _ _ _ _ rfl)
  have c0_HJ_0 := HJ0.out.c0
  have c1_HJ_0 := HJ0.out.c1
  have c2_HJ_0 := HJ0.out.c2
  have HZ0 := Aside0.mk (allocs_img [.cells #[.int .i64 a0, .int .i64 a1, .int .i64 a2, .slice A l.length c] 25, .cells #[.int .i64 b0, .int .i64 b1, .int .i64 b2, .slice B q.length d] 25, .cells #[.int .i64 0, .int .i64 0, .int .i64 0, .slice none 0 0] 25] w 2 _ _ _ _ rfl)
  have hu := Try.underlying25
  clear hr hc hrq hcq hrr hcr h hj hk hv
  go_enter Try.func6, Try.ntmps6
  go_wp2_with (first
    | (refine wpList_load_img rfl _ rfl w.heap.size a0 a1 a2 _ rfl HI0.out ?_)
    | (refine gate_guard (by rfl) ?_; dsimp only; refine wpList_load_img rfl _ rfl w.heap.size a0 a1 a2 _ rfl HI0.out ?_)
    | (refine wpList_load_img rfl _ rfl (w.heap.size + 1) b0 b1 b2 _ rfl HJ0.out ?_)
    | (refine gate_guard (by rfl) ?_; dsimp only; refine wpList_load_img rfl _ rfl (w.heap.size + 1) b0 b1 b2 _ rfl HJ0.out ?_)
    | (go_at_call_of 22 (Value.agg #[.int .i64 a0, .int .i64 a1, .int .i64 a2, .slice A l.length c]); refine (HV.out _ HB0.out).mono ?_; rintro e w1 ⟨rfl, hb⟩; have HI1 := Aside0.mk (HI0.out.below hb); have c0_HI_1 := HI1.out.c0; have c1_HI_1 := HI1.out.c1; have c2_HI_1 := HI1.out.c2; have HJ1 := Aside0.mk (HJ0.out.below hb); have c0_HJ_1 := HJ1.out.c0; have c1_HJ_1 := HJ1.out.c1; have c2_HJ_1 := HJ1.out.c2; have HZ1 := Aside0.mk (HZ0.out.below hb); have HB1 := Aside0.mk (below_step HB0.out hb); clear hb)
    | (refine wpList_load_img rfl _ rfl w.heap.size a0 a1 a2 _ rfl HI1.out ?_)
    | (refine gate_guard (by rfl) ?_; dsimp only; refine wpList_load_img rfl _ rfl w.heap.size a0 a1 a2 _ rfl HI1.out ?_)
    | (refine wpList_load_img rfl _ rfl (w.heap.size + 1) b0 b1 b2 _ rfl HJ1.out ?_)
    | (refine gate_guard (by rfl) ?_; dsimp only; refine wpList_load_img rfl _ rfl (w.heap.size + 1) b0 b1 b2 _ rfl HJ1.out ?_)
    | (go_at_call_of 22 (Value.agg #[.int .i64 b0, .int .i64 b1, .int .i64 b2, .slice B q.length d]); refine (HU.out _ HB1.out).mono ?_; rintro e w2 ⟨rfl, hb⟩; have HI2 := Aside0.mk (HI1.out.below hb); have c0_HI_2 := HI2.out.c0; have c1_HI_2 := HI2.out.c1; have c2_HI_2 := HI2.out.c2; have HJ2 := Aside0.mk (HJ1.out.below hb); have c0_HJ_2 := HJ2.out.c0; have c1_HJ_2 := HJ2.out.c1; have c2_HJ_2 := HJ2.out.c2; have HZ2 := Aside0.mk (HZ1.out.below hb); have HB2 := Aside0.mk (below_step HB1.out hb); clear hb)
    | (refine wpList_load_img rfl _ rfl w.heap.size a0 a1 a2 _ rfl HI2.out ?_)
    | (refine gate_guard (by rfl) ?_; dsimp only; refine wpList_load_img rfl _ rfl w.heap.size a0 a1 a2 _ rfl HI2.out ?_)
    | (refine wpList_load_img rfl _ rfl (w.heap.size + 1) b0 b1 b2 _ rfl HJ2.out ?_)
    | (refine gate_guard (by rfl) ?_; dsimp only; refine wpList_load_img rfl _ rfl (w.heap.size + 1) b0 b1 b2 _ rfl HJ2.out ?_)
    | (go_at_call 23; refine (HL.out _ HB2.out).mono ?_; rintro e w3 ⟨rfl, hb⟩; have HI3 := Aside0.mk (HI2.out.below hb); have c0_HI_3 := HI3.out.c0; have c1_HI_3 := HI3.out.c1; have c2_HI_3 := HI3.out.c2; have HJ3 := Aside0.mk (HJ2.out.below hb); have c0_HJ_3 := HJ3.out.c0; have c1_HJ_3 := HJ3.out.c1; have c2_HJ_3 := HJ3.out.c2; have HZ3 := Aside0.mk (HZ2.out.below hb); have HB3 := Aside0.mk (below_step HB2.out hb); clear hb)
    | (refine wpList_load_img rfl _ rfl w.heap.size a0 a1 a2 _ rfl HI3.out ?_)
    | (refine gate_guard (by rfl) ?_; dsimp only; refine wpList_load_img rfl _ rfl w.heap.size a0 a1 a2 _ rfl HI3.out ?_)
    | (refine wpList_load_img rfl _ rfl (w.heap.size + 1) b0 b1 b2 _ rfl HJ3.out ?_)
    | (refine gate_guard (by rfl) ?_; dsimp only; refine wpList_load_img rfl _ rfl (w.heap.size + 1) b0 b1 b2 _ rfl HJ3.out ?_)
    | (go_at_call 24; refine (HR.out _ HB3.out).mono ?_; rintro e w4 ⟨rfl, hb⟩; have HI4 := Aside0.mk (HI3.out.below hb); have c0_HI_4 := HI4.out.c0; have c1_HI_4 := HI4.out.c1; have c2_HI_4 := HI4.out.c2; have HJ4 := Aside0.mk (HJ3.out.below hb); have c0_HJ_4 := HJ4.out.c0; have c1_HJ_4 := HJ4.out.c1; have c2_HJ_4 := HJ4.out.c2; have HZ4 := Aside0.mk (HZ3.out.below hb); have HB4 := Aside0.mk (below_step HB3.out hb); clear hb)
    | (refine wpList_store_img rfl _ _ rfl _ 0 0 0 0 0 0 _ _ rfl rfl rfl HZ4.out ?_))
  refine bodyPost_ret (results_ct (p := 6) (u := 7) rfl _ _ (w.heap.size + 2) _ _ _ _ rfl (HZ4.out.row 0 0 0 _).out Try.underlying25 rfl img_size) rfl ?_
  exact ⟨rfl, below_putRow HB4.out _ _ (by omega)⟩
set_option maxHeartbeats 8000000 in
set_option maxRecDepth 100000 in
theorem impl_MaskImage.yes (W H p : Nat) (A : Option Addr) (c : Nat) (l : List Int) (B : Option Addr) (d : Nat) (q : List Int) (R : Option Addr) (dr : Nat) (lr : List S59) (w : World) (hr : Kd.C (Kd.int .i64) w A l.length l) (hc : l.length ≤ c) (hrq : Kd.C (Kd.int .i64) w B q.length q) (hcq : q.length ≤ d) (hrr : Kd.C k59 w R lr.length lr) (hcr : lr.length ≤ dr) (h : ImgOk W H p l) (hj : ImgOk W H p q) (hl : l.length = W * H * p) (hq : q.length = W * H * p) (hW1 : W ≤ 16) (hH1 : H ≤ 16) (hp1 : p ≤ 4) (hv : Valid lr) :
    Calls Try.prog 6 #[.agg #[.int .i64 W, .int .i64 H, .int .i64 p, .slice A l.length c], .agg #[.int .i64 W, .int .i64 H, .int .i64 p, .slice B q.length d], .slice R lr.length dr] w fun e w' => ∃ v : Value, e = .returned (.tuple #[.agg #[.int .i64 W, .int .i64 H, .int .i64 p, v], .bool true]) ∧ Kd.R (Kd.int .i64) 3 w' w.heap.size (fun _ => True) v (pixelsUpto (fun x y => if gridF lr (16 * y + x) = true then pixN W p q x y else pixN W p l x y) W (W * H)) ∧ Below w.heap.size w w' := by
  have HV : Aside0 (∀ W' : World, Below w.heap.size w W' → Calls Try.prog 22 #[.agg #[.int .i64 W, .int .i64 H, .int .i64 p, .slice A l.length c]] W' fun e w' => e = .returned (.bool true) ∧ Below W'.heap.size W' w') := ⟨fun W' hW => isImage_true h A c W' (Kd.C_below hr hW) hc⟩
  have HU : Aside0 (∀ W' : World, Below w.heap.size w W' → Calls Try.prog 22 #[.agg #[.int .i64 W, .int .i64 H, .int .i64 p, .slice B q.length d]] W' fun e w' => e = .returned (.bool true) ∧ Below W'.heap.size W' w') := ⟨fun W' hW => isImage_true hj B d W' (Kd.C_below hrq hW) hcq⟩
  have HL : Aside0 (∀ W' : World, Below w.heap.size w W' → Calls Try.prog 23 #[.agg #[.int .i64 W, .int .i64 H, .int .i64 p, .slice A l.length c], .agg #[.int .i64 W, .int .i64 H, .int .i64 p, .slice B q.length d]] W' fun e w' => e = .returned (.bool true) ∧ Below W'.heap.size W' w') := ⟨fun W' hW => impl_alikeImages.calls W H p A c l W H p B d q true W' (Kd.C_below hr hW) hc (Kd.C_below hrq hW) hcq (by rw [impl_alikeImages.eq, decide_eq_true ⟨rfl, rfl, rfl⟩])⟩
  have HR : Aside0 (∀ W' : World, Below w.heap.size w W' → Calls Try.prog 24 #[.slice R lr.length dr] W' fun e w' => e = .returned (.bool true) ∧ Below W'.heap.size W' w') := ⟨fun W' hW => by have h_ := isRegion_calls R dr lr W' (Kd.C_below hrr hW) hcr; rw [decide_eq_true hv] at h_; exact h_⟩
  have HGR : Aside0 (∀ W' : World, Below w.heap.size w W' → Calls Try.prog 25 #[.slice R lr.length dr] W' fun e w' => e = .returned (.agg (gcells (gridF lr))) ∧ Below W'.heap.size W' w') := ⟨fun W' hW => impl_gridOf.any R dr lr W' (Kd.C_below hrr hW) hrr.2.1 hv.runsOk⟩
  have HM : Aside0 (∀ (bg : Nat) (W' : World), Below w.heap.size w W' → IsGrid W' bg (gridF lr) → IsImg W' w.heap.size W H p (.slice A l.length c) → IsImg W' (w.heap.size + 1) W H p (.slice B q.length d) → Calls Try.prog 26 #[.int .i64 W, .int .i64 H, .int .i64 p, .func (.func 27) #[] #[.pointer (some ⟨bg, 0, none⟩), .pointer (some ⟨w.heap.size + 1, 0, none⟩), .pointer (some ⟨w.heap.size, 0, none⟩)]] W' fun e w' => ∃ v : Value, e = .returned (.agg #[.int .i64 W, .int .i64 H, .int .i64 p, v]) ∧ Kd.R (Kd.int .i64) 3 w' W'.heap.size (fun _ => True) v (pixelsUpto (fun x y => if gridF lr (16 * y + x) = true then pixN W p q x y else pixN W p l x y) W (W * H)) ∧ Below W'.heap.size W' w') :=
    ⟨fun bg W' hW hg hI hJ => impl_imageBy.any 27 _ #[.pointer (some ⟨bg, 0, none⟩), .pointer (some ⟨w.heap.size + 1, 0, none⟩), .pointer (some ⟨w.heap.size, 0, none⟩)] (fun x y => if gridF lr (16 * y + x) = true then pixN W p q x y else pixN W p l x y) Try.func27 (by kernel_rfl) rfl W H p W' hW1 hH1 (fun x y hx hy => by split; rw [pixN_length hx hy hq]; omega; rw [pixN_length hx hy hl]; omega) (fun x y w' hx hy hb => (impl_MaskImage_1.any (gridF lr) x y W H p hx hy A c l B d q bg (w.heap.size + 1) w.heap.size w' (hg.below hb hg.lt) (hI.below hb) (hJ.below hb) (Kd.C_below hr (below_step hW hb)) hc (Kd.C_below hrq (below_step hW hb)) hcq hl hq hW1 hH1 hp1))⟩
  have HB0 := Aside0.mk (allocs_below [.cells #[.int .i64 W, .int .i64 H, .int .i64 p, .slice A l.length c] 25, .cells #[.int .i64 W, .int .i64 H, .int .i64 p, .slice B q.length d] 25, .cells #[.int .i64 0, .int .i64 0, .int .i64 0, .slice none 0 0] 25] w)
  have HI0 := Aside0.mk (show IsImg (allocs w [.cells #[.int .i64 W, .int .i64 H, .int .i64 p, .slice A l.length c] 25, .cells #[.int .i64 W, .int .i64 H, .int .i64 p, .slice B q.length d] 25, .cells #[.int .i64 0, .int .i64 0, .int .i64 0, .slice none 0 0] 25]) w.heap.size W H p _ from allocs_img [.cells #[.int .i64 W, .int .i64 H, .int .i64 p, .slice A l.length c] 25, .cells #[.int .i64 W, .int .i64 H, .int .i64 p, .slice B q.length d] 25, .cells #[.int .i64 0, .int .i64 0, .int .i64 0, .slice none 0 0] 25] w 0 _ _ _ _ rfl)
  have c0_HI_0 := HI0.out.c0
  have c1_HI_0 := HI0.out.c1
  have c2_HI_0 := HI0.out.c2
  have HJ0 := Aside0.mk (show IsImg (allocs w [.cells #[.int .i64 W, .int .i64 H, .int .i64 p, .slice A l.length c] 25, .cells #[.int .i64 W, .int .i64 H, .int .i64 p, .slice B q.length d] 25, .cells #[.int .i64 0, .int .i64 0, .int .i64 0, .slice none 0 0] 25]) (w.heap.size + 1) W H p _ from allocs_img [.cells #[.int .i64 W, .int .i64 H, .int .i64 p, .slice A l.length c] 25, .cells #[.int .i64 W, .int .i64 H, .int .i64 p, .slice B q.length d] 25, .cells #[.int .i64 0, .int .i64 0, .int .i64 0, .slice none 0 0] 25] w 1 _ _ _ _ rfl)
  have c0_HJ_0 := HJ0.out.c0
  have c1_HJ_0 := HJ0.out.c1
  have c2_HJ_0 := HJ0.out.c2
  have HZ0 := Aside0.mk (allocs_img [.cells #[.int .i64 W, .int .i64 H, .int .i64 p, .slice A l.length c] 25, .cells #[.int .i64 W, .int .i64 H, .int .i64 p, .slice B q.length d] 25, .cells #[.int .i64 0, .int .i64 0, .int .i64 0, .slice none 0 0] 25] w 2 _ _ _ _ rfl)
  have hu := Try.underlying25
  clear hr hc hrq hcq hrr hcr h hj hv hl hq hW1 hH1 hp1
  go_enter Try.func6, Try.ntmps6
  go_wp2_with (first
    | (refine wpList_load_img rfl _ rfl w.heap.size W H p _ rfl HI0.out ?_)
    | (refine gate_guard (by rfl) ?_; dsimp only; refine wpList_load_img rfl _ rfl w.heap.size W H p _ rfl HI0.out ?_)
    | (refine wpList_load_img rfl _ rfl (w.heap.size + 1) W H p _ rfl HJ0.out ?_)
    | (refine gate_guard (by rfl) ?_; dsimp only; refine wpList_load_img rfl _ rfl (w.heap.size + 1) W H p _ rfl HJ0.out ?_)
    | (go_at_call_of 22 (Value.agg #[.int .i64 W, .int .i64 H, .int .i64 p, .slice A l.length c]); refine (HV.out _ HB0.out).mono ?_; rintro e w1 ⟨rfl, hb⟩; have HI1 := Aside0.mk (HI0.out.below hb); have c0_HI_1 := HI1.out.c0; have c1_HI_1 := HI1.out.c1; have c2_HI_1 := HI1.out.c2; have HJ1 := Aside0.mk (HJ0.out.below hb); have c0_HJ_1 := HJ1.out.c0; have c1_HJ_1 := HJ1.out.c1; have c2_HJ_1 := HJ1.out.c2; have HZ1 := Aside0.mk (HZ0.out.below hb); have HB1 := Aside0.mk (below_step HB0.out hb); clear hb)
    | (refine wpList_load_img rfl _ rfl w.heap.size W H p _ rfl HI1.out ?_)
    | (refine gate_guard (by rfl) ?_; dsimp only; refine wpList_load_img rfl _ rfl w.heap.size W H p _ rfl HI1.out ?_)
    | (refine wpList_load_img rfl _ rfl (w.heap.size + 1) W H p _ rfl HJ1.out ?_)
    | (refine gate_guard (by rfl) ?_; dsimp only; refine wpList_load_img rfl _ rfl (w.heap.size + 1) W H p _ rfl HJ1.out ?_)
    | (go_at_call_of 22 (Value.agg #[.int .i64 W, .int .i64 H, .int .i64 p, .slice B q.length d]); refine (HU.out _ HB1.out).mono ?_; rintro e w2 ⟨rfl, hb⟩; have HI2 := Aside0.mk (HI1.out.below hb); have c0_HI_2 := HI2.out.c0; have c1_HI_2 := HI2.out.c1; have c2_HI_2 := HI2.out.c2; have HJ2 := Aside0.mk (HJ1.out.below hb); have c0_HJ_2 := HJ2.out.c0; have c1_HJ_2 := HJ2.out.c1; have c2_HJ_2 := HJ2.out.c2; have HZ2 := Aside0.mk (HZ1.out.below hb); have HB2 := Aside0.mk (below_step HB1.out hb); clear hb)
    | (refine wpList_load_img rfl _ rfl w.heap.size W H p _ rfl HI2.out ?_)
    | (refine gate_guard (by rfl) ?_; dsimp only; refine wpList_load_img rfl _ rfl w.heap.size W H p _ rfl HI2.out ?_)
    | (refine wpList_load_img rfl _ rfl (w.heap.size + 1) W H p _ rfl HJ2.out ?_)
    | (refine gate_guard (by rfl) ?_; dsimp only; refine wpList_load_img rfl _ rfl (w.heap.size + 1) W H p _ rfl HJ2.out ?_)
    | (go_at_call 23; refine (HL.out _ HB2.out).mono ?_; rintro e w3 ⟨rfl, hb⟩; have HI3 := Aside0.mk (HI2.out.below hb); have c0_HI_3 := HI3.out.c0; have c1_HI_3 := HI3.out.c1; have c2_HI_3 := HI3.out.c2; have HJ3 := Aside0.mk (HJ2.out.below hb); have c0_HJ_3 := HJ3.out.c0; have c1_HJ_3 := HJ3.out.c1; have c2_HJ_3 := HJ3.out.c2; have HZ3 := Aside0.mk (HZ2.out.below hb); have HB3 := Aside0.mk (below_step HB2.out hb); clear hb)
    | (refine wpList_load_img rfl _ rfl w.heap.size W H p _ rfl HI3.out ?_)
    | (refine gate_guard (by rfl) ?_; dsimp only; refine wpList_load_img rfl _ rfl w.heap.size W H p _ rfl HI3.out ?_)
    | (refine wpList_load_img rfl _ rfl (w.heap.size + 1) W H p _ rfl HJ3.out ?_)
    | (refine gate_guard (by rfl) ?_; dsimp only; refine wpList_load_img rfl _ rfl (w.heap.size + 1) W H p _ rfl HJ3.out ?_)
    | (go_at_call 24; refine (HR.out _ HB3.out).mono ?_; rintro e w4 ⟨rfl, hb⟩; have HI4 := Aside0.mk (HI3.out.below hb); have c0_HI_4 := HI4.out.c0; have c1_HI_4 := HI4.out.c1; have c2_HI_4 := HI4.out.c2; have HJ4 := Aside0.mk (HJ3.out.below hb); have c0_HJ_4 := HJ4.out.c0; have c1_HJ_4 := HJ4.out.c1; have c2_HJ_4 := HJ4.out.c2; have HZ4 := Aside0.mk (HZ3.out.below hb); have HB4 := Aside0.mk (below_step HB3.out hb); clear hb)
    | (go_at_call 25; refine (HGR.out _ HB4.out).mono ?_; rintro e w5 ⟨rfl, hb⟩; have HI5 := Aside0.mk (HI4.out.below hb); have c0_HI_5 := HI5.out.c0; have c1_HI_5 := HI5.out.c1; have c2_HI_5 := HI5.out.c2; have HJ5 := Aside0.mk (HJ4.out.below hb); have c0_HJ_5 := HJ5.out.c0; have c1_HJ_5 := HJ5.out.c1; have c2_HJ_5 := HJ5.out.c2; have HZ5 := Aside0.mk (HZ4.out.below hb); have HB5 := Aside0.mk (below_step HB4.out hb); clear hb)
    | (refine wpList_alloc_grid_abs rfl rfl ?_; intro gb w6 hc_ hs_ hg_ hb_; have HG6 := Aside0.mk hg_; have HGE := Aside0.mk (Nat.lt_of_lt_of_le HZ5.out.lt hs_); have HI6 := Aside0.mk (HI5.out.below hb_); have c0_HI_6 := HI6.out.c0; have c1_HI_6 := HI6.out.c1; have c2_HI_6 := HI6.out.c2; have HJ6 := Aside0.mk (HJ5.out.below hb_); have c0_HJ_6 := HJ6.out.c0; have c1_HJ_6 := HJ6.out.c1; have c2_HJ_6 := HJ6.out.c2; have HZ6 := Aside0.mk (HZ5.out.below hb_); have HB6 := Aside0.mk (below_step HB5.out hb_); clear hc_ hs_ hg_ hb_)
    | (refine wpList_store_grid rfl _ _ rfl gb (gridF lr) (fun _ => false) rfl rfl HG6.out ?_; have HG7 := Aside0.mk (HG6.out.setRow (gridF lr)); have HI7 := Aside0.mk (HI6.out.otherRow gb (gcells (gridF lr)) (by have := HGE.out; omega)); have HJ7 := Aside0.mk (HJ6.out.otherRow gb (gcells (gridF lr)) (by have := HGE.out; omega)); have HZ7 := Aside0.mk (HZ6.out.otherRow gb (gcells (gridF lr)) (by have := HGE.out; omega)); have HB7 := Aside0.mk (below_setRow HB6.out gb (gcells (gridF lr)) (by have := HGE.out; omega)); generalize w6.setRow gb (gcells (gridF lr)) = w7 at HI7 HJ7 HG7 HZ7 HB7 ⊢; have c0_HI_7 := HI7.out.c0; have c1_HI_7 := HI7.out.c1; have c2_HI_7 := HI7.out.c2; have c0_HJ_7 := HJ7.out.c0; have c1_HJ_7 := HJ7.out.c1; have c2_HJ_7 := HJ7.out.c2)
    | (go_at_call 26; refine (HM.out gb _ HB7.out HG7.out HI7.out HJ7.out).mono ?_; rintro e w8 ⟨v, rfl, ho, hb⟩; have HZ8 := Aside0.mk (HZ7.out.below hb); have HO := Aside0.mk (Kd.R_lower ho (below_size HB7.out)); have HB8 := Aside0.mk (below_step HB7.out hb); clear hb ho; have H1 := Aside0.mk (own_one HO.out))
    | (refine wpList_store_img rfl _ _ rfl _ 0 0 0 W H p _ _ rfl rfl H1.out HZ8.out ?_))
  refine bodyPost_ret (results_ct (p := 6) (u := 7) rfl _ _ (w.heap.size + 2) _ _ _ _ rfl (HZ8.out.row W H p _).out Try.underlying25 rfl img_size) rfl ?_
  refine ⟨v, rfl, ?_, below_putRow HB8.out _ _ (by omega)⟩
  exact Kd.R_mono (Kd.R_step (Kd.R_types HO.out HZ8.out.out (by decide)) (fun j hj _ => setRow_other _ _ _ _ hj.2)) (fun _ _ => trivial)
theorem impl_MaskImage.calls (a0_0 : Int) (a0_1 : Int) (a0_2 : Int) (A0_3 : Option Addr) (c0_3 : Nat) (l0_3 : List Int) (a1_0 : Int) (a1_1 : Int) (a1_2 : Int) (A1_3 : Option Addr) (c1_3 : Nat) (l1_3 : List Int) (A2 : Option Addr) (c2 : Nat) (l2 : List S59) (r1 : Int) (r2 : Int) (r3 : Int) (r4 : List Int) (r5 : Bool) (w : World) (hr0_3 : Kd.C (Kd.int .i64) w A0_3 l0_3.length l0_3) (hc0_3 : l0_3.length ≤ c0_3) (hr1_3 : Kd.C (Kd.int .i64) w A1_3 l1_3.length l1_3) (hc1_3 : l1_3.length ≤ c1_3) (hr2 : Kd.C k59 w A2 l2.length l2) (hc2 : l2.length ≤ c2) (h : impl_MaskImage.f a0_0 a0_1 a0_2 l0_3 a1_0 a1_1 a1_2 l1_3 l2 = some (r1, r2, r3, r4, r5)) :
    Calls Try.prog 6 #[.agg #[.int .i64 a0_0, .int .i64 a0_1, .int .i64 a0_2, .slice A0_3 l0_3.length c0_3], .agg #[.int .i64 a1_0, .int .i64 a1_1, .int .i64 a1_2, .slice A1_3 l1_3.length c1_3], .slice A2 l2.length c2] w fun e w' => ∃ v3_ : Value, e = .returned (.tuple #[.agg #[.int .i64 r1, .int .i64 r2, .int .i64 r3, v3_], .bool r5]) ∧ Kd.R (Kd.int .i64) 3 w' w.heap.size (fun _ => True) v3_ r4 ∧ Below w.heap.size w w' := by
  unfold impl_MaskImage.f at h
  by_cases hk : MaskOk a0_0 a0_1 a0_2 l0_3 a1_0 a1_1 a1_2 l1_3 l2
  · rw [if_pos hk] at h
    simp only [Option.some.injEq, Prod.mk.injEq] at h
    obtain ⟨rfl, rfl, rfl, rfl, rfl⟩ := h
    obtain ⟨hi, hj, ⟨rfl, rfl, rfl⟩, hv⟩ := hk
    obtain ⟨W, H, p, rfl, rfl, rfl, hl, b1, b2, b3, b4, b5, b6⟩ := hi.nats
    have hq : l1_3.length = W * H * p := by have := hj.2.2.2.1; have e : ((W * H * p : Nat) : Int) = (W : Int) * (H : Int) * (p : Int) := by push_cast; rfl
                                            omega
    exact impl_MaskImage.yes W H p A0_3 c0_3 l0_3 A1_3 c1_3 l1_3 A2 c2 l2 w hr0_3 hc0_3 hr1_3 hc1_3 hr2 hc2 hi hj hl hq b4 b5 b6 hv
  · rw [if_neg hk] at h
    simp only [Option.some.injEq, Prod.mk.injEq] at h
    obtain ⟨rfl, rfl, rfl, rfl, rfl⟩ := h
    have hn : Calls Try.prog 6 #[.agg #[.int .i64 a0_0, .int .i64 a0_1, .int .i64 a0_2, .slice A0_3 l0_3.length c0_3], .agg #[.int .i64 a1_0, .int .i64 a1_1, .int .i64 a1_2, .slice A1_3 l1_3.length c1_3], .slice A2 l2.length c2] w fun e w' => e = .returned (.tuple #[.agg #[.int .i64 0, .int .i64 0, .int .i64 0, .slice none 0 0], .bool false]) ∧ Below w.heap.size w w' := by
      by_cases h1 : ImgOk a0_0 a0_1 a0_2 l0_3
      · by_cases h2 : ImgOk a1_0 a1_1 a1_2 l1_3
        · by_cases h3 : a0_0 = a1_0 ∧ a0_1 = a1_1 ∧ a0_2 = a1_2
          · exact impl_MaskImage.no4 _ _ _ A0_3 c0_3 l0_3 _ _ _ A1_3 c1_3 l1_3 A2 c2 l2 w hr0_3 hc0_3 hr1_3 hc1_3 hr2 hc2 h1 h2 h3 (fun h4 => hk ⟨h1, h2, h3, h4⟩)
          · exact impl_MaskImage.no3 _ _ _ A0_3 c0_3 l0_3 _ _ _ A1_3 c1_3 l1_3 A2 c2 l2 w hr0_3 hc0_3 hr1_3 hc1_3 hr2 hc2 h1 h2 h3
        · exact impl_MaskImage.no2 _ _ _ A0_3 c0_3 l0_3 _ _ _ A1_3 c1_3 l1_3 A2 c2 l2 w hr0_3 hc0_3 hr1_3 hc1_3 hr2 hc2 h1 h2
      · exact impl_MaskImage.no1 _ _ _ A0_3 c0_3 l0_3 _ _ _ A1_3 c1_3 l1_3 A2 c2 l2 w hr0_3 hc0_3 hr1_3 hc1_3 hr2 hc2 h1
    refine hn.mono ?_
    rintro e w1 ⟨rfl, hb⟩
    exact ⟨_, rfl, Kd.R_nil _ _ _ _ _, hb⟩

end Go.Proofs.Ytbkhhlifpknbeaa.Print
