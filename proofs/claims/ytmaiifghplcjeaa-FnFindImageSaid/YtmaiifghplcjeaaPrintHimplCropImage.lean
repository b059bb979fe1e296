-- laid by hp.py (a program of this work over the kit's print), with contracts by hand for what the print does not take
import Derived.Test.YtmaiifghplcjeaaPrint0
import Derived.Test.YtmaiifghplcjeaaPrintHimplimageBy
import Derived.Test.YtmaiifghplcjeaaPrintHx0
import Derived.Test.YtmaiifghplcjeaaPrintHx2
import Derived.Test.YtmaiifghplcjeaaPrintR1x0
namespace Go.Proofs.Ytmaiifghplcjeaa.Print
open Go.RowKit Go.Proofs.YtmaiifghplcjeaaW.PrintWords Go.Proofs.YtmaiifghplcjeaaW.PrintLast Go.Proofs.YtmaiifghplcjeaaW.PrintMore
attribute [local go_sem] max2_int min2_int max_two min_two max_three min_three max_four min_four   -- for this text's walks alone
set_option linter.unusedVariables false
set_option linter.unusedSimpArgs false

--SNIP impl_CropImage
/-! ### impl_CropImage: function 25, by hand -/
set_option maxHeartbeats 8000000 in
set_option maxRecDepth 100000 in
theorem impl_CropImage_1.any (x y X Y bx W H p : Nat) (hx : X + x < W) (hy : Y + y < H) (A : Option Addr) (c : Nat) (l : List Int) (b : Nat) (w : World) (hI : IsImg w b W H p (.slice A l.length c)) (hr : Kd.C (Kd.int .i64) w A l.length l) (hc : l.length ≤ c) (hl : l.length = W * H * p) (hW0 : 1 ≤ W) (hH0 : 1 ≤ H) (hp0 : 1 ≤ p) (hW : W ≤ 16) (hH : H ≤ 16) (hp : p ≤ 4) (hX : w.cell? ⟨bx, 0, none⟩ = some (.int .i64 (X : Int))) (hY : w.cell? ⟨bx, 1, none⟩ = some (.int .i64 (Y : Int))) :
    Calls Try.prog 66 #[.int .i64 x, .int .i64 y, .pointer (some ⟨b, 0, none⟩), .pointer (some ⟨bx, 0, none⟩)] w fun e w' => ∃ (A' : Option Addr) (c' : Nat), e = .returned (.slice A' (pixN W p l (X + x) (Y + y)).length c') ∧ Kd.C (Kd.int .i64) w' A' (pixN W p l (X + x) (Y + y)).length (pixN W p l (X + x) (Y + y)) ∧ Below w.heap.size w w' := by
  have HAT : Aside0 (∀ (u v : Nat) (w1 : World), u < W → v < H → Below w.heap.size w w1 → Calls Try.prog 56 #[.agg #[.int .i64 W, .int .i64 H, .int .i64 p, .slice A l.length c], .int .i64 u, .int .i64 v] w1 fun e w' => ∃ (A' : Option Addr) (c' : Nat), e = .returned (.slice A' (pixN W p l u v).length c') ∧ Kd.C (Kd.int .i64) w' A' (pixN W p l u v).length (pixN W p l u v) ∧ (pixN W p l u v).length ≤ c' ∧ Below w1.heap.size w1 w') := ⟨fun u v w1 hu hv hb => impl_Image_at.any W H p A c l u v w1 (Kd.C_below hr hb) hc hl hW hH hp hu hv⟩
  have hu := Try.underlying26
  have g1 : IntKind.i64.wrap ((X : Int) + (x : Int)) = ((X + x : Nat) : Int) := by rw [show (X : Int) + (x : Int) = ((X + x : Nat) : Int) by omega]; exact i64_nat _ (by omega)
  have g2 : IntKind.i64.wrap ((Y : Int) + (y : Int)) = ((Y + y : Nat) : Int) := by rw [show (Y : Int) + (y : Int) = ((Y + y : Nat) : Int) by omega]; exact i64_nat _ (by omega)
  have hub := Try.underlying40
  have HI0 := Aside0.mk hI
  clear hr hc hl hI
  go_enter Try.func66, Try.ntmps66
  go_wp2_with (first
    | (refine wpList_load_img rfl _ rfl b W H p _ rfl HI0.out ?_)
    | (go_at_call 56; refine (HAT.out (X + x) (Y + y) _ hx hy (Below.refl _ _)).mono ?_; rintro e w2 ⟨A2, c2, rfl, hC2, hcap2, hb2⟩))
  go_ret
  exact ⟨_, _, rfl, hC2, hb2⟩
theorem box_size : (Try.prog.info? 40).map (·.size) = some 4 := by kernel_rfl
/-- A box on an image. -/
def BoxOn (a0 a1 x y w h : Int) : Prop := 0 ≤ x ∧ x < a0 ∧ 0 ≤ y ∧ y < a1 ∧ 1 ≤ w ∧ w ≤ a0 - x ∧ 1 ≤ h ∧ h ≤ a1 - y
instance (a0 a1 x y w h : Int) : Decidable (BoxOn a0 a1 x y w h) := by unfold BoxOn; exact inferInstance
theorem impl_isBoxOn.eq (a0 a1 a2 : Int) (l : List Int) (x y w h : Int) (h0 : 1 ≤ a0 ∧ a0 ≤ 16) (h1 : 1 ≤ a1 ∧ a1 ≤ 16) : impl_isBoxOn.f a0 a1 a2 l x y w h = some (decide (BoxOn a0 a1 x y w h)) := by
  unfold impl_isBoxOn.f
  by_cases c1 : 0 ≤ x
  · rw [if_pos c1]
    by_cases c2 : x < a0
    · rw [if_pos c2]
      by_cases c3 : 0 ≤ y
      · rw [if_pos c3]
        by_cases c4 : y < a1
        · rw [if_pos c4]
          by_cases c5 : 1 ≤ w
          · rw [if_pos c5, wrapIn (x := a0 - x) (by omega) (by omega)]
            by_cases c6 : w ≤ a0 - x
            · rw [if_pos c6]
              by_cases c7 : 1 ≤ h
              · rw [if_pos c7, wrapIn (x := a1 - y) (by omega) (by omega)]
                congr 1
                rw [Bool.eq_iff_iff]
                simp only [decide_eq_true_eq]
                exact ⟨fun c8 => ⟨c1, c2, c3, c4, c5, c6, c7, c8⟩, fun hb => hb.2.2.2.2.2.2.2⟩
              · rw [if_neg c7, decide_eq_false (fun hb : BoxOn a0 a1 x y w h => c7 hb.2.2.2.2.2.2.1)]
            · rw [if_neg c6, decide_eq_false (fun hb : BoxOn a0 a1 x y w h => c6 hb.2.2.2.2.2.1)]
          · rw [if_neg c5, decide_eq_false (fun hb : BoxOn a0 a1 x y w h => c5 hb.2.2.2.2.1)]
        · rw [if_neg c4, decide_eq_false (fun hb : BoxOn a0 a1 x y w h => c4 hb.2.2.2.1)]
      · rw [if_neg c3, decide_eq_false (fun hb : BoxOn a0 a1 x y w h => c3 hb.2.2.1)]
    · rw [if_neg c2, decide_eq_false (fun hb : BoxOn a0 a1 x y w h => c2 hb.2.1)]
  · rw [if_neg c1, decide_eq_false (fun hb : BoxOn a0 a1 x y w h => c1 hb.1)]
def CropOk (a0 a1 a2 : Int) (l : List Int) (x y w h : Int) : Prop := ImgOk a0 a1 a2 l ∧ BoxOn a0 a1 x y w h
instance (a0 a1 a2 : Int) (l : List Int) (x y w h : Int) : Decidable (CropOk a0 a1 a2 l x y w h) := by unfold CropOk; exact inferInstance
/-- The pixels of a part. -/
def cropF (a0 a2 : Int) (l : List Int) (X Y : Nat) (x y : Nat) : List Int := pixN a0.toNat a2.toNat l (X + x) (Y + y)
def impl_CropImage.f (a0_0 : Int) (a0_1 : Int) (a0_2 : Int) (l0_3 : List Int) (a1_0 : Int) (a1_1 : Int) (a1_2 : Int) (a1_3 : Int) : Option (Int × Int × Int × List Int × Bool) := some (if CropOk a0_0 a0_1 a0_2 l0_3 a1_0 a1_1 a1_2 a1_3 then (a1_2, a1_3, a0_2, pixelsUpto (cropF a0_0 a0_2 l0_3 a1_0.toNat a1_1.toNat) a1_2.toNat (a1_2.toNat * a1_3.toNat), true) else (0, 0, 0, [], false))
set_option maxHeartbeats 8000000 in
set_option maxRecDepth 100000 in
theorem impl_CropImage.no1 (a0 a1 a2 : Int) (A : Option Addr) (c : Nat) (l : List Int) (x y k n : Int) (w : World) (hr : Kd.C (Kd.int .i64) w A l.length l) (hc : l.length ≤ c) (h : ¬ ImgOk a0 a1 a2 l) :
    Calls Try.prog 25 #[.agg #[.int .i64 a0, .int .i64 a1, .int .i64 a2, .slice A l.length c], .agg #[.int .i64 x, .int .i64 y, .int .i64 k, .int .i64 n]] w fun e w' => e = .returned (.tuple #[.agg #[.int .i64 0, .int .i64 0, .int .i64 0, .slice none 0 0], .bool false]) ∧ Below w.heap.size w w' := by
  have HV : Aside0 (∀ W' : World, Below w.heap.size w W' → Calls Try.prog 52 #[.agg #[.int .i64 a0, .int .i64 a1, .int .i64 a2, .slice A l.length c]] W' fun e w' => e = .returned (.bool false) ∧ Below W'.heap.size W' w') := ⟨fun W' hW => isImage_false h A c W' (Kd.C_below hr hW) hc⟩
  have HB0 := Aside0.mk (allocs_below [.cells #[.int .i64 a0, .int .i64 a1, .int .i64 a2, .slice A l.length c] 26, .cells #[.int .i64 x, .int .i64 y, .int .i64 k, .int .i64 n] 40, .cells #[.int .i64 0, .int .i64 0, .int .i64 0, .slice none 0 0] 26] w)
  have HI0 : Aside0 (IsImg (allocs w [.cells #[.int .i64 a0, .int .i64 a1, .int .i64 a2, .slice A l.length c] 26, .cells #[.int .i64 x, .int .i64 y, .int .i64 k, .int .i64 n] 40, .cells #[.int .i64 0, .int .i64 0, .int .i64 0, .slice none 0 0] 26]) w.heap.size a0 a1 a2 (.slice A l.length c)) := ⟨allocs_img _ w 0 _ _ _ _ rfl⟩
  have hx1_0_0 : (allocs w [.cells #[.int .i64 a0, .int .i64 a1, .int .i64 a2, .slice A l.length c] 26, .cells #[.int .i64 x, .int .i64 y, .int .i64 k, .int .i64 n] 40, .cells #[.int .i64 0, .int .i64 0, .int .i64 0, .slice none 0 0] 26]).cell? ⟨w.heap.size + 1, 0, none⟩ = some (.int .i64 x) := (blk_cell (allocs_at [.cells #[.int .i64 a0, .int .i64 a1, .int .i64 a2, .slice A l.length c] 26, .cells #[.int .i64 x, .int .i64 y, .int .i64 k, .int .i64 n] 40, .cells #[.int .i64 0, .int .i64 0, .int .i64 0, .slice none 0 0] 26] w 1 _ rfl) 0).trans rfl
  have hx1_1_0 : (allocs w [.cells #[.int .i64 a0, .int .i64 a1, .int .i64 a2, .slice A l.length c] 26, .cells #[.int .i64 x, .int .i64 y, .int .i64 k, .int .i64 n] 40, .cells #[.int .i64 0, .int .i64 0, .int .i64 0, .slice none 0 0] 26]).cell? ⟨w.heap.size + 1, 1, none⟩ = some (.int .i64 y) := (blk_cell (allocs_at [.cells #[.int .i64 a0, .int .i64 a1, .int .i64 a2, .slice A l.length c] 26, .cells #[.int .i64 x, .int .i64 y, .int .i64 k, .int .i64 n] 40, .cells #[.int .i64 0, .int .i64 0, .int .i64 0, .slice none 0 0] 26] w 1 _ rfl) 1).trans rfl
  have hx1_2_0 : (allocs w [.cells #[.int .i64 a0, .int .i64 a1, .int .i64 a2, .slice A l.length c] 26, .cells #[.int .i64 x, .int .i64 y, .int .i64 k, .int .i64 n] 40, .cells #[.int .i64 0, .int .i64 0, .int .i64 0, .slice none 0 0] 26]).cell? ⟨w.heap.size + 1, 2, none⟩ = some (.int .i64 k) := (blk_cell (allocs_at [.cells #[.int .i64 a0, .int .i64 a1, .int .i64 a2, .slice A l.length c] 26, .cells #[.int .i64 x, .int .i64 y, .int .i64 k, .int .i64 n] 40, .cells #[.int .i64 0, .int .i64 0, .int .i64 0, .slice none 0 0] 26] w 1 _ rfl) 2).trans rfl
  have hx1_3_0 : (allocs w [.cells #[.int .i64 a0, .int .i64 a1, .int .i64 a2, .slice A l.length c] 26, .cells #[.int .i64 x, .int .i64 y, .int .i64 k, .int .i64 n] 40, .cells #[.int .i64 0, .int .i64 0, .int .i64 0, .slice none 0 0] 26]).cell? ⟨w.heap.size + 1, 3, none⟩ = some (.int .i64 n) := (blk_cell (allocs_at [.cells #[.int .i64 a0, .int .i64 a1, .int .i64 a2, .slice A l.length c] 26, .cells #[.int .i64 x, .int .i64 y, .int .i64 k, .int .i64 n] 40, .cells #[.int .i64 0, .int .i64 0, .int .i64 0, .slice none 0 0] 26] w 1 _ rfl) 3).trans rfl
  have HX1_0 : Aside0 ((allocs w [.cells #[.int .i64 a0, .int .i64 a1, .int .i64 a2, .slice A l.length c] 26, .cells #[.int .i64 x, .int .i64 y, .int .i64 k, .int .i64 n] 40, .cells #[.int .i64 0, .int .i64 0, .int .i64 0, .slice none 0 0] 26]).heap[(w.heap.size + 1)]? = some (.cells #[.int .i64 x, .int .i64 y, .int .i64 k, .int .i64 n] 40 (0, 0))) := ⟨allocs_at [.cells #[.int .i64 a0, .int .i64 a1, .int .i64 a2, .slice A l.length c] 26, .cells #[.int .i64 x, .int .i64 y, .int .i64 k, .int .i64 n] 40, .cells #[.int .i64 0, .int .i64 0, .int .i64 0, .slice none 0 0] 26] w 1 _ rfl⟩
  have HZ0 : Aside0 (IsImg (allocs w [.cells #[.int .i64 a0, .int .i64 a1, .int .i64 a2, .slice A l.length c] 26, .cells #[.int .i64 x, .int .i64 y, .int .i64 k, .int .i64 n] 40, .cells #[.int .i64 0, .int .i64 0, .int .i64 0, .slice none 0 0] 26]) (w.heap.size + 2) 0 0 0 (.slice none 0 0)) := ⟨allocs_img _ w 2 _ _ _ _ rfl⟩
  have hu := Try.underlying26
  have hub := Try.underlying40
  clear hr hc h
  go_enter Try.func25, Try.ntmps25
  go_wp2_with (first
    | (refine wpList_load_img rfl _ rfl w.heap.size a0 a1 a2 _ rfl HI0.out ?_)
    | (refine gate_guard (by rfl) ?_; dsimp only; refine wpList_load_img rfl _ rfl w.heap.size a0 a1 a2 _ rfl HI0.out ?_)
    | (refine gate_guard (by rfl) ?_; dsimp only; refine wpList_load_row rfl 40 _ rfl (w.heap.size + 1) rfl _ _ _ _ HX1_0.out Try.underlying40 rfl box_size ?_)
    | (go_at_call 52; refine (HV.out _ HB0.out).mono ?_; rintro e w1 ⟨rfl, hb⟩; have HI1 := Aside0.mk (HI0.out.below hb); have hc0_1 := HI1.out.c0; have hc1_1 := HI1.out.c1; have hc2_1 := HI1.out.c2; have hx1_0_1 := pw_cell_below hb hx1_0_0; have hx1_1_1 := pw_cell_below hb hx1_1_0; have hx1_2_1 := pw_cell_below hb hx1_2_0; have hx1_3_1 := pw_cell_below hb hx1_3_0; have HX1_1 := Aside0.mk ((hb.block (w.heap.size + 1) (blk_lt HX1_0.out)).trans HX1_0.out); have HZ1 := Aside0.mk (HZ0.out.below hb); have HB1 := Aside0.mk (below_step HB0.out hb); clear hb)
    | (refine wpList_store_img rfl _ _ rfl _ 0 0 0 0 0 0 _ _ rfl rfl rfl HZ1.out ?_))
  refine bodyPost_ret (results_ct rfl _ _ (w.heap.size + 2) _ _ _ _ rfl (HZ1.out.row 0 0 0 _).out Try.underlying26 rfl img_size) rfl ⟨rfl, below_putRow HB1.out _ _ (by omega)⟩
set_option maxHeartbeats 8000000 in
set_option maxRecDepth 100000 in
theorem impl_CropImage.no2 (a0 a1 a2 : Int) (A : Option Addr) (c : Nat) (l : List Int) (x y k n : Int) (w : World) (hr : Kd.C (Kd.int .i64) w A l.length l) (hc : l.length ≤ c) (h : ImgOk a0 a1 a2 l) (hbx : ¬ BoxOn a0 a1 x y k n) :
    Calls Try.prog 25 #[.agg #[.int .i64 a0, .int .i64 a1, .int .i64 a2, .slice A l.length c], .agg #[.int .i64 x, .int .i64 y, .int .i64 k, .int .i64 n]] w fun e w' => e = .returned (.tuple #[.agg #[.int .i64 0, .int .i64 0, .int .i64 0, .slice none 0 0], .bool false]) ∧ Below w.heap.size w w' := by
  have HV : Aside0 (∀ W' : World, Below w.heap.size w W' → Calls Try.prog 52 #[.agg #[.int .i64 a0, .int .i64 a1, .int .i64 a2, .slice A l.length c]] W' fun e w' => e = .returned (.bool true) ∧ Below W'.heap.size W' w') := ⟨fun W' hW => isImage_true h A c W' (Kd.C_below hr hW) hc⟩
  have HBX : Aside0 (∀ W' : World, Below w.heap.size w W' → Calls Try.prog 65 #[.agg #[.int .i64 a0, .int .i64 a1, .int .i64 a2, .slice A l.length c], .agg #[.int .i64 x, .int .i64 y, .int .i64 k, .int .i64 n]] W' fun e w' => e = .returned (.bool false) ∧ Below W'.heap.size W' w') := ⟨fun W' hW => impl_isBoxOn.calls _ _ _ A c l x y k n false W' (Kd.C_below hr hW) hc (by rw [impl_isBoxOn.eq _ _ _ l x y k n h.1 h.2.1, decide_eq_false hbx])⟩
  have HB0 := Aside0.mk (allocs_below [.cells #[.int .i64 a0, .int .i64 a1, .int .i64 a2, .slice A l.length c] 26, .cells #[.int .i64 x, .int .i64 y, .int .i64 k, .int .i64 n] 40, .cells #[.int .i64 0, .int .i64 0, .int .i64 0, .slice none 0 0] 26] w)
  have HI0 : Aside0 (IsImg (allocs w [.cells #[.int .i64 a0, .int .i64 a1, .int .i64 a2, .slice A l.length c] 26, .cells #[.int .i64 x, .int .i64 y, .int .i64 k, .int .i64 n] 40, .cells #[.int .i64 0, .int .i64 0, .int .i64 0, .slice none 0 0] 26]) w.heap.size a0 a1 a2 (.slice A l.length c)) := ⟨allocs_img _ w 0 _ _ _ _ rfl⟩
  have hx1_0_0 : (allocs w [.cells #[.int .i64 a0, .int .i64 a1, .int .i64 a2, .slice A l.length c] 26, .cells #[.int .i64 x, .int .i64 y, .int .i64 k, .int .i64 n] 40, .cells #[.int .i64 0, .int .i64 0, .int .i64 0, .slice none 0 0] 26]).cell? ⟨w.heap.size + 1, 0, none⟩ = some (.int .i64 x) := (blk_cell (allocs_at [.cells #[.int .i64 a0, .int .i64 a1, .int .i64 a2, .slice A l.length c] 26, .cells #[.int .i64 x, .int .i64 y, .int .i64 k, .int .i64 n] 40, .cells #[.int .i64 0, .int .i64 0, .int .i64 0, .slice none 0 0] 26] w 1 _ rfl) 0).trans rfl
  have hx1_1_0 : (allocs w [.cells #[.int .i64 a0, .int .i64 a1, .int .i64 a2, .slice A l.length c] 26, .cells #[.int .i64 x, .int .i64 y, .int .i64 k, .int .i64 n] 40, .cells #[.int .i64 0, .int .i64 0, .int .i64 0, .slice none 0 0] 26]).cell? ⟨w.heap.size + 1, 1, none⟩ = some (.int .i64 y) := (blk_cell (allocs_at [.cells #[.int .i64 a0, .int .i64 a1, .int .i64 a2, .slice A l.length c] 26, .cells #[.int .i64 x, .int .i64 y, .int .i64 k, .int .i64 n] 40, .cells #[.int .i64 0, .int .i64 0, .int .i64 0, .slice none 0 0] 26] w 1 _ rfl) 1).trans rfl
  have hx1_2_0 : (allocs w [.cells #[.int .i64 a0, .int .i64 a1, .int .i64 a2, .slice A l.length c] 26, .cells #[.int .i64 x, .int .i64 y, .int .i64 k, .int .i64 n] 40, .cells #[.int .i64 0, .int .i64 0, .int .i64 0, .slice none 0 0] 26]).cell? ⟨w.heap.size + 1, 2, none⟩ = some (.int .i64 k) := (blk_cell (allocs_at [.cells #[.int .i64 a0, .int .i64 a1, .int .i64 a2, .slice A l.length c] 26, .cells #[.int .i64 x, .int .i64 y, .int .i64 k, .int .i64 n] 40, .cells #[.int .i64 0, .int .i64 0, .int .i64 0, .slice none 0 0] 26] w 1 _ rfl) 2).trans rfl
  have hx1_3_0 : (allocs w [.cells #[.int .i64 a0, .int .i64 a1, .int .i64 a2, .slice A l.length c] 26, .cells #[.int .i64 x, .int .i64 y, .int .i64 k, .int .i64 n] 40, .cells #[.int .i64 0, .int .i64 0, .int .i64 0, .slice none 0 0] 26]).cell? ⟨w.heap.size + 1, 3, none⟩ = some (.int .i64 n) := (blk_cell (allocs_at [.cells #[.int .i64 a0, .int .i64 a1, .int .i64 a2, .slice A l.length c] 26, .cells #[.int .i64 x, .int .i64 y, .int .i64 k, .int .i64 n] 40, .cells #[.int .i64 0, .int .i64 0, .int .i64 0, .slice none 0 0] 26] w 1 _ rfl) 3).trans rfl
  have HX1_0 : Aside0 ((allocs w [.cells #[.int .i64 a0, .int .i64 a1, .int .i64 a2, .slice A l.length c] 26, .cells #[.int .i64 x, .int .i64 y, .int .i64 k, .int .i64 n] 40, .cells #[.int .i64 0, .int .i64 0, .int .i64 0, .slice none 0 0] 26]).heap[(w.heap.size + 1)]? = some (.cells #[.int .i64 x, .int .i64 y, .int .i64 k, .int .i64 n] 40 (0, 0))) := ⟨allocs_at [.cells #[.int .i64 a0, .int .i64 a1, .int .i64 a2, .slice A l.length c] 26, .cells #[.int .i64 x, .int .i64 y, .int .i64 k, .int .i64 n] 40, .cells #[.int .i64 0, .int .i64 0, .int .i64 0, .slice none 0 0] 26] w 1 _ rfl⟩
  have HZ0 : Aside0 (IsImg (allocs w [.cells #[.int .i64 a0, .int .i64 a1, .int .i64 a2, .slice A l.length c] 26, .cells #[.int .i64 x, .int .i64 y, .int .i64 k, .int .i64 n] 40, .cells #[.int .i64 0, .int .i64 0, .int .i64 0, .slice none 0 0] 26]) (w.heap.size + 2) 0 0 0 (.slice none 0 0)) := ⟨allocs_img _ w 2 _ _ _ _ rfl⟩
  have hu := Try.underlying26
  have hub := Try.underlying40
  clear hr hc h hbx
  go_enter Try.func25, Try.ntmps25
  go_wp2_with (first
    | (refine wpList_load_img rfl _ rfl w.heap.size a0 a1 a2 _ rfl HI0.out ?_)
    | (refine gate_guard (by rfl) ?_; dsimp only; refine wpList_load_img rfl _ rfl w.heap.size a0 a1 a2 _ rfl HI0.out ?_)
    | (refine gate_guard (by rfl) ?_; dsimp only; refine wpList_load_row rfl 40 _ rfl (w.heap.size + 1) rfl _ _ _ _ HX1_0.out Try.underlying40 rfl box_size ?_)
    | (go_at_call 52; refine (HV.out _ HB0.out).mono ?_; rintro e w1 ⟨rfl, hb⟩; have HI1 := Aside0.mk (HI0.out.below hb); have hc0_1 := HI1.out.c0; have hc1_1 := HI1.out.c1; have hc2_1 := HI1.out.c2; have hx1_0_1 := pw_cell_below hb hx1_0_0; have hx1_1_1 := pw_cell_below hb hx1_1_0; have hx1_2_1 := pw_cell_below hb hx1_2_0; have hx1_3_1 := pw_cell_below hb hx1_3_0; have HX1_1 := Aside0.mk ((hb.block (w.heap.size + 1) (blk_lt HX1_0.out)).trans HX1_0.out); have HZ1 := Aside0.mk (HZ0.out.below hb); have HB1 := Aside0.mk (below_step HB0.out hb); clear hb)
    | (refine wpList_load_img rfl _ rfl w.heap.size a0 a1 a2 _ rfl HI1.out ?_)
    | (refine gate_guard (by rfl) ?_; dsimp only; refine wpList_load_img rfl _ rfl w.heap.size a0 a1 a2 _ rfl HI1.out ?_)
    | (refine gate_guard (by rfl) ?_; dsimp only; refine wpList_load_row rfl 40 _ rfl (w.heap.size + 1) rfl _ _ _ _ HX1_1.out Try.underlying40 rfl box_size ?_)
    | (go_at_call 65; refine (HBX.out _ HB1.out).mono ?_; rintro e w2 ⟨rfl, hb⟩; have HI2 := Aside0.mk (HI1.out.below hb); have hc0_2 := HI2.out.c0; have hc1_2 := HI2.out.c1; have hc2_2 := HI2.out.c2; have hx1_0_2 := pw_cell_below hb hx1_0_1; have hx1_1_2 := pw_cell_below hb hx1_1_1; have hx1_2_2 := pw_cell_below hb hx1_2_1; have hx1_3_2 := pw_cell_below hb hx1_3_1; have HX1_2 := Aside0.mk ((hb.block (w.heap.size + 1) (blk_lt HX1_1.out)).trans HX1_1.out); have HZ2 := Aside0.mk (HZ1.out.below hb); have HB2 := Aside0.mk (below_step HB1.out hb); clear hb)
    | (refine wpList_store_img rfl _ _ rfl _ 0 0 0 0 0 0 _ _ rfl rfl rfl HZ2.out ?_))
  refine bodyPost_ret (results_ct rfl _ _ (w.heap.size + 2) _ _ _ _ rfl (HZ2.out.row 0 0 0 _).out Try.underlying26 rfl img_size) rfl ⟨rfl, below_putRow HB2.out _ _ (by omega)⟩
set_option maxHeartbeats 8000000 in
set_option maxRecDepth 100000 in
theorem impl_CropImage.yes (W H p : Nat) (A : Option Addr) (c : Nat) (l : List Int) (X Y m n : Nat) (w : World) (hr : Kd.C (Kd.int .i64) w A l.length l) (hc : l.length ≤ c) (h : ImgOk W H p l) (hl : l.length = W * H * p) (hW0 : 1 ≤ W) (hH0 : 1 ≤ H) (hp0 : 1 ≤ p) (hW1 : W ≤ 16) (hH1 : H ≤ 16) (hp1 : p ≤ 4) (hbx : BoxOn W H X Y m n) :
    Calls Try.prog 25 #[.agg #[.int .i64 W, .int .i64 H, .int .i64 p, .slice A l.length c], .agg #[.int .i64 X, .int .i64 Y, .int .i64 m, .int .i64 n]] w fun e w' => ∃ v : Value, e = .returned (.tuple #[.agg #[.int .i64 m, .int .i64 n, .int .i64 p, v], .bool true]) ∧ Kd.R (Kd.int .i64) 3 w' w.heap.size (fun _ => True) v (pixelsUpto (fun x y => pixN W p l (X + x) (Y + y)) m (m * n)) ∧ Below w.heap.size w w' := by
  have HV : Aside0 (∀ W' : World, Below w.heap.size w W' → Calls Try.prog 52 #[.agg #[.int .i64 W, .int .i64 H, .int .i64 p, .slice A l.length c]] W' fun e w' => e = .returned (.bool true) ∧ Below W'.heap.size W' w') := ⟨fun W' hW => isImage_true h A c W' (Kd.C_below hr hW) hc⟩
  have HBX : Aside0 (∀ W' : World, Below w.heap.size w W' → Calls Try.prog 65 #[.agg #[.int .i64 W, .int .i64 H, .int .i64 p, .slice A l.length c], .agg #[.int .i64 X, .int .i64 Y, .int .i64 m, .int .i64 n]] W' fun e w' => e = .returned (.bool true) ∧ Below W'.heap.size W' w') := ⟨fun W' hW => impl_isBoxOn.calls _ _ _ A c l X Y m n true W' (Kd.C_below hr hW) hc (by rw [impl_isBoxOn.eq _ _ _ l X Y m n h.1 h.2.1, decide_eq_true hbx])⟩
  have HM : Aside0 (∀ W' : World, Below w.heap.size w W' → IsImg W' w.heap.size W H p (.slice A l.length c) → W'.cell? ⟨w.heap.size + 1, 0, none⟩ = some (.int .i64 (X : Int)) → W'.cell? ⟨w.heap.size + 1, 1, none⟩ = some (.int .i64 (Y : Int)) → Calls Try.prog 54 #[.int .i64 (m : Nat), .int .i64 (n : Nat), .int .i64 p, .func (.func 66) #[] #[.pointer (some ⟨w.heap.size, 0, none⟩), .pointer (some ⟨w.heap.size + 1, 0, none⟩)]] W' fun e w' => ∃ v : Value, e = .returned (.agg #[.int .i64 (m : Nat), .int .i64 (n : Nat), .int .i64 p, v]) ∧ Kd.R (Kd.int .i64) 3 w' W'.heap.size (fun _ => True) v (pixelsUpto (fun x y => pixN W p l (X + x) (Y + y)) (m) ((m) * (n))) ∧ Below W'.heap.size W' w') :=
    ⟨fun W' hW hI f1 f2 => impl_imageBy.any 66 _ #[.pointer (some ⟨w.heap.size, 0, none⟩), .pointer (some ⟨w.heap.size + 1, 0, none⟩)] (fun x y => pixN W p l (X + x) (Y + y)) Try.func66 (by kernel_rfl) rfl (m) (n) p W' (by unfold BoxOn at hbx; omega) (by unfold BoxOn at hbx; omega) (fun x y hx hy => by rw [pixN_length (show X + x < W by unfold BoxOn at hbx; omega) (show Y + y < H by unfold BoxOn at hbx; omega) hl]; omega) (fun x y w' hx hy hb => (impl_CropImage_1.any x y X Y (w.heap.size + 1) W H p (by unfold BoxOn at hbx; omega) (by unfold BoxOn at hbx; omega) A c l w.heap.size w' (hI.below hb) (Kd.C_below hr (below_step hW hb)) hc hl hW0 hH0 hp0 hW1 hH1 hp1 (pw_cell_below hb f1) (pw_cell_below hb f2)))⟩
  have HB0 := Aside0.mk (allocs_below [.cells #[.int .i64 W, .int .i64 H, .int .i64 p, .slice A l.length c] 26, .cells #[.int .i64 X, .int .i64 Y, .int .i64 m, .int .i64 n] 40, .cells #[.int .i64 0, .int .i64 0, .int .i64 0, .slice none 0 0] 26] w)
  have HI0 : Aside0 (IsImg (allocs w [.cells #[.int .i64 W, .int .i64 H, .int .i64 p, .slice A l.length c] 26, .cells #[.int .i64 X, .int .i64 Y, .int .i64 m, .int .i64 n] 40, .cells #[.int .i64 0, .int .i64 0, .int .i64 0, .slice none 0 0] 26]) w.heap.size W H p (.slice A l.length c)) := ⟨allocs_img _ w 0 _ _ _ _ rfl⟩
  have hx1_0_0 : (allocs w [.cells #[.int .i64 W, .int .i64 H, .int .i64 p, .slice A l.length c] 26, .cells #[.int .i64 X, .int .i64 Y, .int .i64 m, .int .i64 n] 40, .cells #[.int .i64 0, .int .i64 0, .int .i64 0, .slice none 0 0] 26]).cell? ⟨w.heap.size + 1, 0, none⟩ = some (.int .i64 X) := (blk_cell (allocs_at [.cells #[.int .i64 W, .int .i64 H, .int .i64 p, .slice A l.length c] 26, .cells #[.int .i64 X, .int .i64 Y, .int .i64 m, .int .i64 n] 40, .cells #[.int .i64 0, .int .i64 0, .int .i64 0, .slice none 0 0] 26] w 1 _ rfl) 0).trans rfl
  have hx1_1_0 : (allocs w [.cells #[.int .i64 W, .int .i64 H, .int .i64 p, .slice A l.length c] 26, .cells #[.int .i64 X, .int .i64 Y, .int .i64 m, .int .i64 n] 40, .cells #[.int .i64 0, .int .i64 0, .int .i64 0, .slice none 0 0] 26]).cell? ⟨w.heap.size + 1, 1, none⟩ = some (.int .i64 Y) := (blk_cell (allocs_at [.cells #[.int .i64 W, .int .i64 H, .int .i64 p, .slice A l.length c] 26, .cells #[.int .i64 X, .int .i64 Y, .int .i64 m, .int .i64 n] 40, .cells #[.int .i64 0, .int .i64 0, .int .i64 0, .slice none 0 0] 26] w 1 _ rfl) 1).trans rfl
  have hx1_2_0 : (allocs w [.cells #[.int .i64 W, .int .i64 H, .int .i64 p, .slice A l.length c] 26, .cells #[.int .i64 X, .int .i64 Y, .int .i64 m, .int .i64 n] 40, .cells #[.int .i64 0, .int .i64 0, .int .i64 0, .slice none 0 0] 26]).cell? ⟨w.heap.size + 1, 2, none⟩ = some (.int .i64 m) := (blk_cell (allocs_at [.cells #[.int .i64 W, .int .i64 H, .int .i64 p, .slice A l.length c] 26, .cells #[.int .i64 X, .int .i64 Y, .int .i64 m, .int .i64 n] 40, .cells #[.int .i64 0, .int .i64 0, .int .i64 0, .slice none 0 0] 26] w 1 _ rfl) 2).trans rfl
  have hx1_3_0 : (allocs w [.cells #[.int .i64 W, .int .i64 H, .int .i64 p, .slice A l.length c] 26, .cells #[.int .i64 X, .int .i64 Y, .int .i64 m, .int .i64 n] 40, .cells #[.int .i64 0, .int .i64 0, .int .i64 0, .slice none 0 0] 26]).cell? ⟨w.heap.size + 1, 3, none⟩ = some (.int .i64 n) := (blk_cell (allocs_at [.cells #[.int .i64 W, .int .i64 H, .int .i64 p, .slice A l.length c] 26, .cells #[.int .i64 X, .int .i64 Y, .int .i64 m, .int .i64 n] 40, .cells #[.int .i64 0, .int .i64 0, .int .i64 0, .slice none 0 0] 26] w 1 _ rfl) 3).trans rfl
  have HX1_0 : Aside0 ((allocs w [.cells #[.int .i64 W, .int .i64 H, .int .i64 p, .slice A l.length c] 26, .cells #[.int .i64 X, .int .i64 Y, .int .i64 m, .int .i64 n] 40, .cells #[.int .i64 0, .int .i64 0, .int .i64 0, .slice none 0 0] 26]).heap[(w.heap.size + 1)]? = some (.cells #[.int .i64 X, .int .i64 Y, .int .i64 m, .int .i64 n] 40 (0, 0))) := ⟨allocs_at [.cells #[.int .i64 W, .int .i64 H, .int .i64 p, .slice A l.length c] 26, .cells #[.int .i64 X, .int .i64 Y, .int .i64 m, .int .i64 n] 40, .cells #[.int .i64 0, .int .i64 0, .int .i64 0, .slice none 0 0] 26] w 1 _ rfl⟩
  have HZ0 : Aside0 (IsImg (allocs w [.cells #[.int .i64 W, .int .i64 H, .int .i64 p, .slice A l.length c] 26, .cells #[.int .i64 X, .int .i64 Y, .int .i64 m, .int .i64 n] 40, .cells #[.int .i64 0, .int .i64 0, .int .i64 0, .slice none 0 0] 26]) (w.heap.size + 2) 0 0 0 (.slice none 0 0)) := ⟨allocs_img _ w 2 _ _ _ _ rfl⟩
  have hu := Try.underlying26
  have hub := Try.underlying40
  clear hr hc h hl hbx
  go_enter Try.func25, Try.ntmps25
  go_wp2_with (first
    | (refine wpList_load_img rfl _ rfl w.heap.size W H p _ rfl HI0.out ?_)
    | (refine gate_guard (by rfl) ?_; dsimp only; refine wpList_load_img rfl _ rfl w.heap.size W H p _ rfl HI0.out ?_)
    | (refine gate_guard (by rfl) ?_; dsimp only; refine wpList_load_row rfl 40 _ rfl (w.heap.size + 1) rfl _ _ _ _ HX1_0.out Try.underlying40 rfl box_size ?_)
    | (go_at_call 52; refine (HV.out _ HB0.out).mono ?_; rintro e w1 ⟨rfl, hb⟩; have HI1 := Aside0.mk (HI0.out.below hb); have hc0_1 := HI1.out.c0; have hc1_1 := HI1.out.c1; have hc2_1 := HI1.out.c2; have hx1_0_1 := pw_cell_below hb hx1_0_0; have hx1_1_1 := pw_cell_below hb hx1_1_0; have hx1_2_1 := pw_cell_below hb hx1_2_0; have hx1_3_1 := pw_cell_below hb hx1_3_0; have HX1_1 := Aside0.mk ((hb.block (w.heap.size + 1) (blk_lt HX1_0.out)).trans HX1_0.out); have HZ1 := Aside0.mk (HZ0.out.below hb); have HB1 := Aside0.mk (below_step HB0.out hb); clear hb)
    | (refine wpList_load_img rfl _ rfl w.heap.size W H p _ rfl HI1.out ?_)
    | (refine gate_guard (by rfl) ?_; dsimp only; refine wpList_load_img rfl _ rfl w.heap.size W H p _ rfl HI1.out ?_)
    | (refine gate_guard (by rfl) ?_; dsimp only; refine wpList_load_row rfl 40 _ rfl (w.heap.size + 1) rfl _ _ _ _ HX1_1.out Try.underlying40 rfl box_size ?_)
    | (go_at_call 65; refine (HBX.out _ HB1.out).mono ?_; rintro e w2 ⟨rfl, hb⟩; have HI2 := Aside0.mk (HI1.out.below hb); have hc0_2 := HI2.out.c0; have hc1_2 := HI2.out.c1; have hc2_2 := HI2.out.c2; have hx1_0_2 := pw_cell_below hb hx1_0_1; have hx1_1_2 := pw_cell_below hb hx1_1_1; have hx1_2_2 := pw_cell_below hb hx1_2_1; have hx1_3_2 := pw_cell_below hb hx1_3_1; have HX1_2 := Aside0.mk ((hb.block (w.heap.size + 1) (blk_lt HX1_1.out)).trans HX1_1.out); have HZ2 := Aside0.mk (HZ1.out.below hb); have HB2 := Aside0.mk (below_step HB1.out hb); clear hb)
    | (refine wpList_load_img rfl _ rfl w.heap.size W H p _ rfl HI2.out ?_)
    | (go_at_call 54; refine (HM.out _ HB2.out HI2.out hx1_0_2 hx1_1_2).mono ?_; rintro e w3 ⟨v, rfl, ho, hb⟩; have HZ3 := Aside0.mk (HZ2.out.below hb); have HO := Aside0.mk (Kd.R_lower ho (below_size HB2.out)); have HB3 := Aside0.mk (below_step HB2.out hb); clear hb ho; have H1 := Aside0.mk (own_one HO.out))
    | (refine wpList_store_img rfl _ _ rfl _ 0 0 0 m n p _ _ rfl rfl H1.out HZ3.out ?_))
  refine bodyPost_ret (results_ct rfl _ _ (w.heap.size + 2) _ _ _ _ rfl (HZ3.out.row m n p _).out Try.underlying26 rfl img_size) rfl ⟨v, rfl, ?_, below_putRow HB3.out _ _ (by omega)⟩
  exact Kd.R_mono (Kd.R_step (Kd.R_types HO.out HZ3.out.out (by decide)) (fun j hj _ => setRow_other _ _ _ _ hj.2)) (fun _ _ => trivial)
theorem impl_CropImage.calls (a0_0 : Int) (a0_1 : Int) (a0_2 : Int) (A0_3 : Option Addr) (c0_3 : Nat) (l0_3 : List Int) (a1_0 : Int) (a1_1 : Int) (a1_2 : Int) (a1_3 : Int) (r1 : Int) (r2 : Int) (r3 : Int) (r4 : List Int) (r5 : Bool) (w : World) (hr0_3 : Kd.C (Kd.int .i64) w A0_3 l0_3.length l0_3) (hc0_3 : l0_3.length ≤ c0_3) (h : impl_CropImage.f a0_0 a0_1 a0_2 l0_3 a1_0 a1_1 a1_2 a1_3 = some (r1, r2, r3, r4, r5)) :
    Calls Try.prog 25 #[.agg #[.int .i64 a0_0, .int .i64 a0_1, .int .i64 a0_2, .slice A0_3 l0_3.length c0_3], .agg #[.int .i64 a1_0, .int .i64 a1_1, .int .i64 a1_2, .int .i64 a1_3]] w fun e w' => ∃ v3_ : Value, e = .returned (.tuple #[.agg #[.int .i64 r1, .int .i64 r2, .int .i64 r3, v3_], .bool r5]) ∧ Kd.R (Kd.int .i64) 3 w' w.heap.size (fun _ => True) v3_ r4 ∧ Below w.heap.size w w' := by
  unfold impl_CropImage.f at h
  by_cases hk : CropOk a0_0 a0_1 a0_2 l0_3 a1_0 a1_1 a1_2 a1_3
  · rw [if_pos hk] at h
    simp only [Option.some.injEq, Prod.mk.injEq] at h
    obtain ⟨rfl, rfl, rfl, rfl, rfl⟩ := h
    obtain ⟨hi, hbx⟩ := hk
    obtain ⟨W, H, p, rfl, rfl, rfl, hl, b1, b2, b3, b4, b5, b6⟩ := hi.nats
    have hbx2 := hbx
    unfold BoxOn at hbx2
    obtain ⟨X, rfl⟩ := Int.eq_ofNat_of_zero_le (show 0 ≤ a1_0 by omega)
    obtain ⟨Y, rfl⟩ := Int.eq_ofNat_of_zero_le (show 0 ≤ a1_1 by omega)
    obtain ⟨m, rfl⟩ := Int.eq_ofNat_of_zero_le (show 0 ≤ a1_2 by omega)
    obtain ⟨n, rfl⟩ := Int.eq_ofNat_of_zero_le (show 0 ≤ a1_3 by omega)
    exact impl_CropImage.yes W H p A0_3 c0_3 l0_3 X Y m n w hr0_3 hc0_3 hi hl b1 b2 b3 b4 b5 b6 hbx
  · rw [if_neg hk] at h
    simp only [Option.some.injEq, Prod.mk.injEq] at h
    obtain ⟨rfl, rfl, rfl, rfl, rfl⟩ := h
    have hn : Calls Try.prog 25 #[.agg #[.int .i64 a0_0, .int .i64 a0_1, .int .i64 a0_2, .slice A0_3 l0_3.length c0_3], .agg #[.int .i64 a1_0, .int .i64 a1_1, .int .i64 a1_2, .int .i64 a1_3]] w fun e w' => e = .returned (.tuple #[.agg #[.int .i64 0, .int .i64 0, .int .i64 0, .slice none 0 0], .bool false]) ∧ Below w.heap.size w w' := by
      by_cases h1 : ImgOk a0_0 a0_1 a0_2 l0_3
      · exact impl_CropImage.no2 _ _ _ A0_3 c0_3 l0_3 _ _ _ _ w hr0_3 hc0_3 h1 (fun h3 => hk ⟨h1, h3⟩)
      · exact impl_CropImage.no1 _ _ _ A0_3 c0_3 l0_3 _ _ _ _ w hr0_3 hc0_3 h1
    refine hn.mono ?_
    rintro e w1 ⟨rfl, hb⟩
    exact ⟨_, rfl, Kd.R_nil _ _ _ _ _, hb⟩

end Go.Proofs.Ytmaiifghplcjeaa.Print
