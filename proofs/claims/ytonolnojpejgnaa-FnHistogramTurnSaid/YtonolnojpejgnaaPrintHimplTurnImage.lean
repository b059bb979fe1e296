-- laid by hp.py (a program of this work over the kit's print), with contracts by hand for what the print does not take
import Derived.Test.YtonolnojpejgnaaPrint0
import Derived.Test.YtonolnojpejgnaaPrintHimplimageBy
import Derived.Test.YtonolnojpejgnaaPrintHx0
import Derived.Test.YtonolnojpejgnaaPrintHx2
import Derived.Test.YtonolnojpejgnaaPrintR1x2
namespace Go.Proofs.Ytonolnojpejgnaa.Print
open Go.RowKit Go.Proofs.YtonolnojpejgnaaW.PrintWords Go.Proofs.YtonolnojpejgnaaW.PrintLast Go.Proofs.YtonolnojpejgnaaW.PrintMore
attribute [local go_sem] max2_int min2_int max_two min_two max_three min_three max_four min_four   -- for this text's walks alone
set_option linter.unusedVariables false
set_option linter.unusedSimpArgs false

--SNIP impl_TurnImage
/-! ### impl_TurnImage: function 28, by hand -/
set_option maxHeartbeats 8000000 in
set_option maxRecDepth 100000 in
theorem impl_TurnImage_1.any (x y W H p : Nat) (hx : x < H) (hy : y < W) (A : Option Addr) (c : Nat) (l : List Int) (b : Nat) (w : World) (hI : IsImg w b W H p (.slice A l.length c)) (hr : Kd.C (Kd.int .i64) w A l.length l) (hc : l.length ≤ c) (hl : l.length = W * H * p) (hW0 : 1 ≤ W) (hH0 : 1 ≤ H) (hp0 : 1 ≤ p) (hW : W ≤ 16) (hH : H ≤ 16) (hp : p ≤ 4) :
    Calls Try.prog 55 #[.int .i64 x, .int .i64 y, .pointer (some ⟨b, 0, none⟩)] w fun e w' => ∃ (A' : Option Addr) (c' : Nat), e = .returned (.slice A' (pixN W p l y (H - 1 - x)).length c') ∧ Kd.C (Kd.int .i64) w' A' (pixN W p l y (H - 1 - x)).length (pixN W p l y (H - 1 - x)) ∧ Below w.heap.size w w' := by
  have HAT : Aside0 (∀ (u v : Nat) (w1 : World), u < W → v < H → Below w.heap.size w w1 → Calls Try.prog 56 #[.agg #[.int .i64 W, .int .i64 H, .int .i64 p, .slice A l.length c], .int .i64 u, .int .i64 v] w1 fun e w' => ∃ (A' : Option Addr) (c' : Nat), e = .returned (.slice A' (pixN W p l u v).length c') ∧ Kd.C (Kd.int .i64) w' A' (pixN W p l u v).length (pixN W p l u v) ∧ (pixN W p l u v).length ≤ c' ∧ Below w1.heap.size w1 w') := ⟨fun u v w1 hu hv hb => impl_Image_at.any W H p A c l u v w1 (Kd.C_below hr hb) hc hl hW hH hp hu hv⟩
  have hu := Try.underlying27
  have g1 : (H : Int) - 1 - (x : Int) = ((H - 1 - x : Nat) : Int) := by omega
  have g2 : IntKind.i64.wrap ((H : Int) - 1) = (H : Int) - 1 := IntWalk.i64_in _ (by omega)
  have g3 : IntKind.i64.wrap ((H : Int) - 1 - (x : Int)) = ((H - 1 - x : Nat) : Int) := by rw [IntWalk.i64_in _ (by omega)]; exact g1
  have hc1 := hI.c1
  have HI0 := Aside0.mk hI
  clear hr hc hl hI
  go_enter Try.func55, Try.ntmps55
  go_wp2_with (first
    | (refine wpList_load_img rfl _ rfl b W H p _ rfl HI0.out ?_)
    | (go_at_call 56; refine (HAT.out y (H - 1 - x) _ hy (by omega) (Below.refl _ _)).mono ?_; rintro e w2 ⟨A2, c2, rfl, hC2, hcap2, hb2⟩))
  go_ret
  exact ⟨_, _, rfl, hC2, hb2⟩
/-- An image (its width, its height, its numbers) after so many quarters. -/
def turnN (W H p : Nat) (l : List Int) : Nat → Nat × Nat × List Int
  | 0 => (W, H, l)
  | k + 1 => ((turnN W H p l k).2.1, (turnN W H p l k).1, pixelsUpto (fun x y => pixN (turnN W H p l k).1 p (turnN W H p l k).2.2 y ((turnN W H p l k).2.1 - 1 - x)) (turnN W H p l k).2.1 ((turnN W H p l k).2.1 * (turnN W H p l k).1))
theorem pixelsUpto_lenB (f : Nat → Nat → List Int) (W H p : Nat) (hf : ∀ x y, x < W → y < H → (f x y).length = p) (n : Nat) (hn : n ≤ W * H) : (pixelsUpto f W n).length = n * p := by
  induction n with
  | zero => simp [pixelsUpto]
  | succ n ih =>
    have h1 := ih (by omega)
    have hW : 0 < W := by
      rcases Nat.eq_zero_or_pos W with h | h
      · subst h; omega
      · exact h
    unfold pixelsUpto at h1 ⊢
    rw [List.range_succ, List.flatMap_append, List.length_append, h1]
    have h2 := hf (n % W) (n / W) (Nat.mod_lt _ hW) (by rw [Nat.div_lt_iff_lt_mul hW, Nat.mul_comm]; omega)
    rw [List.flatMap_cons, List.flatMap_nil, List.append_nil, h2, Nat.succ_mul]
theorem turn_len (W H p : Nat) (l : List Int) (hl : l.length = W * H * p) : (pixelsUpto (fun x y => pixN W p l y (H - 1 - x)) H (H * W)).length = H * W * p :=
  pixelsUpto_lenB _ H W p (fun x y hx hy => pixN_length hy (by omega) hl) (H * W) (Nat.le_refl _)
/-- What is known of an image on its way. -/
structure TurnOk (W H p : Nat) (l : List Int) : Prop where
  len : l.length = W * H * p
  w0 : 1 ≤ W
  h0 : 1 ≤ H
  w1 : W ≤ 16
  h1 : H ≤ 16
theorem TurnOk.step {W H p : Nat} {l : List Int} (h : TurnOk W H p l) : TurnOk H W p (pixelsUpto (fun x y => pixN W p l y (H - 1 - x)) H (H * W)) := ⟨turn_len W H p l h.len, h.h0, h.w0, h.h1, h.w1⟩
set_option maxHeartbeats 8000000 in
set_option maxRecDepth 100000 in
theorem impl_TurnImage.no1 (a0 a1 a2 : Int) (A : Option Addr) (c : Nat) (l : List Int) (a3 : Int) (w : World) (hr : Kd.C (Kd.int .i64) w A l.length l) (hc : l.length ≤ c) (h : ¬ ImgOk a0 a1 a2 l) :
    Calls Try.prog 28 #[.agg #[.int .i64 a0, .int .i64 a1, .int .i64 a2, .slice A l.length c], .int .i64 a3] w fun e w' => e = .returned (.agg #[.int .i64 0, .int .i64 0, .int .i64 0, .slice none 0 0]) ∧ Below w.heap.size w w' := by
  have HV : Aside0 (∀ W' : World, Below w.heap.size w W' → Calls Try.prog 47 #[.agg #[.int .i64 a0, .int .i64 a1, .int .i64 a2, .slice A l.length c]] W' fun e w' => e = .returned (.bool false) ∧ Below W'.heap.size W' w') := ⟨fun W' hW => isImage_false h A c W' (Kd.C_below hr hW) hc⟩
  have HB0 := Aside0.mk (allocs_below [.cells #[.int .i64 a0, .int .i64 a1, .int .i64 a2, .slice A l.length c] 27, .cells #[.int .i64 0, .int .i64 0, .int .i64 0, .slice none 0 0] 27] w)
  have HI0 : Aside0 (IsImg (allocs w [.cells #[.int .i64 a0, .int .i64 a1, .int .i64 a2, .slice A l.length c] 27, .cells #[.int .i64 0, .int .i64 0, .int .i64 0, .slice none 0 0] 27]) w.heap.size a0 a1 a2 (.slice A l.length c)) := ⟨allocs_img _ w 0 _ _ _ _ rfl⟩
  have HZ0 : Aside0 (IsImg (allocs w [.cells #[.int .i64 a0, .int .i64 a1, .int .i64 a2, .slice A l.length c] 27, .cells #[.int .i64 0, .int .i64 0, .int .i64 0, .slice none 0 0] 27]) (w.heap.size + 1) 0 0 0 (.slice none 0 0)) := ⟨allocs_img _ w 1 _ _ _ _ rfl⟩
  have hu := Try.underlying27
  clear hr hc h
  go_enter Try.func28, Try.ntmps28
  go_wp2_with (first
    | (refine wpList_load_img rfl _ rfl w.heap.size a0 a1 a2 _ rfl HI0.out ?_)
    | (go_at_call 47; refine (HV.out _ HB0.out).mono ?_; rintro e w1 ⟨rfl, hb⟩; have HI1 := Aside0.mk (HI0.out.below hb); have hc0_1 := HI1.out.c0; have hc1_1 := HI1.out.c1; have hc2_1 := HI1.out.c2; have HZ1 := Aside0.mk (HZ0.out.below hb); have HB1 := Aside0.mk (below_step HB0.out hb); clear hb)
    | (refine wpList_store_img rfl _ _ rfl _ 0 0 0 0 0 0 _ _ rfl rfl rfl HZ1.out ?_))
  refine bodyPost_ret (results_cell_row rfl _ _ (w.heap.size + 1) _ _ _ _ rfl (HZ1.out.row 0 0 0 _).out Try.underlying27 rfl img_size) rfl ⟨rfl, below_putRow HB1.out _ _ (by omega)⟩
set_option maxHeartbeats 8000000 in
set_option maxRecDepth 100000 in
theorem impl_TurnImage.no2 (a0 a1 a2 : Int) (A : Option Addr) (c : Nat) (l : List Int) (a3 : Int) (w : World) (hr : Kd.C (Kd.int .i64) w A l.length l) (hc : l.length ≤ c) (h : ImgOk a0 a1 a2 l) (h3 : a3 < 0) :
    Calls Try.prog 28 #[.agg #[.int .i64 a0, .int .i64 a1, .int .i64 a2, .slice A l.length c], .int .i64 a3] w fun e w' => e = .returned (.agg #[.int .i64 0, .int .i64 0, .int .i64 0, .slice none 0 0]) ∧ Below w.heap.size w w' := by
  have HV : Aside0 (∀ W' : World, Below w.heap.size w W' → Calls Try.prog 47 #[.agg #[.int .i64 a0, .int .i64 a1, .int .i64 a2, .slice A l.length c]] W' fun e w' => e = .returned (.bool true) ∧ Below W'.heap.size W' w') := ⟨fun W' hW => isImage_true h A c W' (Kd.C_below hr hW) hc⟩
  have d0 : decide (a3 < 0) = true := decide_eq_true h3
  have HB0 := Aside0.mk (allocs_below [.cells #[.int .i64 a0, .int .i64 a1, .int .i64 a2, .slice A l.length c] 27, .cells #[.int .i64 0, .int .i64 0, .int .i64 0, .slice none 0 0] 27] w)
  have HI0 : Aside0 (IsImg (allocs w [.cells #[.int .i64 a0, .int .i64 a1, .int .i64 a2, .slice A l.length c] 27, .cells #[.int .i64 0, .int .i64 0, .int .i64 0, .slice none 0 0] 27]) w.heap.size a0 a1 a2 (.slice A l.length c)) := ⟨allocs_img _ w 0 _ _ _ _ rfl⟩
  have HZ0 : Aside0 (IsImg (allocs w [.cells #[.int .i64 a0, .int .i64 a1, .int .i64 a2, .slice A l.length c] 27, .cells #[.int .i64 0, .int .i64 0, .int .i64 0, .slice none 0 0] 27]) (w.heap.size + 1) 0 0 0 (.slice none 0 0)) := ⟨allocs_img _ w 1 _ _ _ _ rfl⟩
  have hu := Try.underlying27
  clear hr hc h
  go_enter Try.func28, Try.ntmps28
  go_wp2_with (first
    | (refine wpList_load_img rfl _ rfl w.heap.size a0 a1 a2 _ rfl HI0.out ?_)
    | (go_at_call 47; refine (HV.out _ HB0.out).mono ?_; rintro e w1 ⟨rfl, hb⟩; have HI1 := Aside0.mk (HI0.out.below hb); have hc0_1 := HI1.out.c0; have hc1_1 := HI1.out.c1; have hc2_1 := HI1.out.c2; have HZ1 := Aside0.mk (HZ0.out.below hb); have HB1 := Aside0.mk (below_step HB0.out hb); clear hb)
    | (refine wpList_store_img rfl _ _ rfl _ 0 0 0 0 0 0 _ _ rfl rfl rfl HZ1.out ?_))
  refine bodyPost_ret (results_cell_row rfl _ _ (w.heap.size + 1) _ _ _ _ rfl (HZ1.out.row 0 0 0 _).out Try.underlying27 rfl img_size) rfl ⟨rfl, below_putRow HB1.out _ _ (by omega)⟩
set_option maxHeartbeats 8000000 in
set_option maxRecDepth 100000 in
theorem impl_TurnImage.no3 (a0 a1 a2 : Int) (A : Option Addr) (c : Nat) (l : List Int) (a3 : Int) (w : World) (hr : Kd.C (Kd.int .i64) w A l.length l) (hc : l.length ≤ c) (h : ImgOk a0 a1 a2 l) (h3 : 3 < a3) :
    Calls Try.prog 28 #[.agg #[.int .i64 a0, .int .i64 a1, .int .i64 a2, .slice A l.length c], .int .i64 a3] w fun e w' => e = .returned (.agg #[.int .i64 0, .int .i64 0, .int .i64 0, .slice none 0 0]) ∧ Below w.heap.size w w' := by
  have HV : Aside0 (∀ W' : World, Below w.heap.size w W' → Calls Try.prog 47 #[.agg #[.int .i64 a0, .int .i64 a1, .int .i64 a2, .slice A l.length c]] W' fun e w' => e = .returned (.bool true) ∧ Below W'.heap.size W' w') := ⟨fun W' hW => isImage_true h A c W' (Kd.C_below hr hW) hc⟩
  have d0 : decide (a3 < 0) = false := decide_eq_false (by omega)
  have d1 : decide (3 < a3) = true := decide_eq_true h3
  have HB0 := Aside0.mk (allocs_below [.cells #[.int .i64 a0, .int .i64 a1, .int .i64 a2, .slice A l.length c] 27, .cells #[.int .i64 0, .int .i64 0, .int .i64 0, .slice none 0 0] 27] w)
  have HI0 : Aside0 (IsImg (allocs w [.cells #[.int .i64 a0, .int .i64 a1, .int .i64 a2, .slice A l.length c] 27, .cells #[.int .i64 0, .int .i64 0, .int .i64 0, .slice none 0 0] 27]) w.heap.size a0 a1 a2 (.slice A l.length c)) := ⟨allocs_img _ w 0 _ _ _ _ rfl⟩
  have HZ0 : Aside0 (IsImg (allocs w [.cells #[.int .i64 a0, .int .i64 a1, .int .i64 a2, .slice A l.length c] 27, .cells #[.int .i64 0, .int .i64 0, .int .i64 0, .slice none 0 0] 27]) (w.heap.size + 1) 0 0 0 (.slice none 0 0)) := ⟨allocs_img _ w 1 _ _ _ _ rfl⟩
  have hu := Try.underlying27
  clear hr hc h
  go_enter Try.func28, Try.ntmps28
  go_wp2_with (first
    | (refine wpList_load_img rfl _ rfl w.heap.size a0 a1 a2 _ rfl HI0.out ?_)
    | (go_at_call 47; refine (HV.out _ HB0.out).mono ?_; rintro e w1 ⟨rfl, hb⟩; have HI1 := Aside0.mk (HI0.out.below hb); have hc0_1 := HI1.out.c0; have hc1_1 := HI1.out.c1; have hc2_1 := HI1.out.c2; have HZ1 := Aside0.mk (HZ0.out.below hb); have HB1 := Aside0.mk (below_step HB0.out hb); clear hb)
    | (refine wpList_store_img rfl _ _ rfl _ 0 0 0 0 0 0 _ _ rfl rfl rfl HZ1.out ?_))
  refine bodyPost_ret (results_cell_row rfl _ _ (w.heap.size + 1) _ _ _ _ rfl (HZ1.out.row 0 0 0 _).out Try.underlying27 rfl img_size) rfl ⟨rfl, below_putRow HB1.out _ _ (by omega)⟩
set_option maxHeartbeats 8000000 in
set_option maxRecDepth 100000 in
theorem impl_TurnImage.yes (W H p : Nat) (A : Option Addr) (c : Nat) (l : List Int) (n : Nat) (hn : n ≤ 3) (w : World) (hr : Kd.C (Kd.int .i64) w A l.length l) (hc : l.length ≤ c) (h : ImgOk W H p l) (hl : l.length = W * H * p) (hW0 : 1 ≤ W) (hH0 : 1 ≤ H) (hp0 : 1 ≤ p) (hW1 : W ≤ 16) (hH1 : H ≤ 16) (hp1 : p ≤ 4) :
    Calls Try.prog 28 #[.agg #[.int .i64 W, .int .i64 H, .int .i64 p, .slice A l.length c], .int .i64 n] w fun e w' => ∃ v : Value, e = .returned (.agg #[.int .i64 (turnN W H p l n).1, .int .i64 (turnN W H p l n).2.1, .int .i64 p, v]) ∧ Kd.R (Kd.int .i64) 3 w' w.heap.size (fun _ => True) v (turnN W H p l n).2.2 ∧ Below w.heap.size w w' := by
  have HV : Aside0 (∀ W' : World, Below w.heap.size w W' → Calls Try.prog 47 #[.agg #[.int .i64 W, .int .i64 H, .int .i64 p, .slice A l.length c]] W' fun e w' => e = .returned (.bool true) ∧ Below W'.heap.size W' w') := ⟨fun W' hW => isImage_true h A c W' (Kd.C_below hr hW) hc⟩
  have HCP : Aside0 (∀ W' : World, Below w.heap.size w W' → Calls Try.prog 53 #[.agg #[.int .i64 W, .int .i64 H, .int .i64 p, .slice A l.length c]] W' fun e w' => ∃ v3_ : Value, e = .returned (.agg #[.int .i64 W, .int .i64 H, .int .i64 p, v3_]) ∧ Kd.R (Kd.int .i64) 3 w' W'.heap.size (fun _ => True) v3_ l ∧ Below W'.heap.size W' w') :=
    ⟨fun W' hW => impl_copyImage.calls W H p A c l W H p l W' (Kd.C_below hr hW) hc (copyImage_f W H p l (by have := h.len.2; omega))⟩
  have HM : Aside0 (∀ (W' H' : Nat) (L : List Int) (A' : Option Addr) (c' : Nat) (g6 : Nat) (V : World), TurnOk W' H' p L → IsImg V g6 W' H' p (.slice A' L.length c') → Kd.C (Kd.int .i64) V A' L.length L → L.length ≤ c' → Calls Try.prog 54 #[.int .i64 H', .int .i64 W', .int .i64 p, .func (.func 55) #[] #[.pointer (some ⟨g6, 0, none⟩)]] V fun e w' => ∃ v : Value, e = .returned (.agg #[.int .i64 H', .int .i64 W', .int .i64 p, v]) ∧ Kd.R (Kd.int .i64) 3 w' V.heap.size (fun _ => True) v (pixelsUpto (fun x y => pixN W' p L y (H' - 1 - x)) H' (H' * W')) ∧ Below V.heap.size V w') :=
    ⟨fun W' H' L A' c' g6 V ok hI hC hcap => impl_imageBy.any 55 _ #[.pointer (some ⟨g6, 0, none⟩)] (fun x y => pixN W' p L y (H' - 1 - x)) Try.func55 (by kernel_rfl) rfl H' W' p V ok.h1 ok.w1 (fun x y hx hy => by rw [pixN_length hy (show H' - 1 - x < H' by omega) ok.len]; omega) (fun x y w' hx hy hb => impl_TurnImage_1.any x y W' H' p hx hy A' c' L g6 w' (hI.below hb) (Kd.C_below hC hb) hcap ok.len ok.w0 ok.h0 hp0 ok.w1 ok.h1 hp1)⟩
  have HT : Aside0 (TurnOk W H p l) := ⟨⟨hl, hW0, hH0, hW1, hH1⟩⟩
  have d0 : decide ((n : Int) < 0) = false := decide_eq_false (by omega)
  have d1 : decide (3 < (n : Int)) = false := decide_eq_false (by omega)
  have HB0 := Aside0.mk (allocs_below [.cells #[.int .i64 W, .int .i64 H, .int .i64 p, .slice A l.length c] 27, .cells #[.int .i64 0, .int .i64 0, .int .i64 0, .slice none 0 0] 27] w)
  have HI0 : Aside0 (IsImg (allocs w [.cells #[.int .i64 W, .int .i64 H, .int .i64 p, .slice A l.length c] 27, .cells #[.int .i64 0, .int .i64 0, .int .i64 0, .slice none 0 0] 27]) w.heap.size W H p (.slice A l.length c)) := ⟨allocs_img _ w 0 _ _ _ _ rfl⟩
  have HZ0 : Aside0 (IsImg (allocs w [.cells #[.int .i64 W, .int .i64 H, .int .i64 p, .slice A l.length c] 27, .cells #[.int .i64 0, .int .i64 0, .int .i64 0, .slice none 0 0] 27]) (w.heap.size + 1) 0 0 0 (.slice none 0 0)) := ⟨allocs_img _ w 1 _ _ _ _ rfl⟩
  have hu := Try.underlying27
  clear hr hc h hl
  go_enter Try.func28, Try.ntmps28
  go_wp2_with (first
    | (refine wpList_load_img rfl _ rfl w.heap.size W H p _ rfl HI0.out ?_)
    | (go_at_call 47; refine (HV.out _ HB0.out).mono ?_; rintro e w1 ⟨rfl, hb⟩; have HI1 := Aside0.mk (HI0.out.below hb); have hc0_1 := HI1.out.c0; have hc1_1 := HI1.out.c1; have hc2_1 := HI1.out.c2; have HZ1 := Aside0.mk (HZ0.out.below hb); have HB1 := Aside0.mk (below_step HB0.out hb); clear hb)
    | (refine wpList_load_img rfl _ rfl w.heap.size W H p _ rfl HI1.out ?_)
    | (go_at_call 53; refine (HCP.out _ HB1.out).mono ?_; rintro e w2 ⟨v2, rfl, ho, hb⟩; have HO2 := Aside0.mk (Kd.R_lower ho (below_size HB1.out)); have HI2 := Aside0.mk (HI1.out.below hb); have HZ2 := Aside0.mk (HZ1.out.below hb); have HB2 := Aside0.mk (below_step HB1.out hb); have H1 := Aside0.mk (own_one HO2.out); clear hb ho)
    | (refine wpList_alloc_img rfl rfl ?_)
    | (refine wpList_put_img rfl _ _ rfl W H p v2 rfl rfl H1.out ?_; intro w3 hb hi3 hs3; have HX3 := Aside0.mk hi3; have HO3 := Aside0.mk (Kd.R_below HO2.out hb); have HI3 := Aside0.mk (HI2.out.below hb); have HZ3 := Aside0.mk (HZ2.out.below hb); have HB3 := Aside0.mk (below_step HB2.out hb); clear hb hi3 hs3))
  have HG := Aside0.mk (Nat.lt_of_lt_of_le HZ2.out.lt (Nat.le_refl w2.heap.size))
  generalize w2.heap.size = g at *
  go_loopw [22] (fun i wr => ∃ k : Nat, k ≤ n ∧ i = .int .i64 k ∧ Aside0 (TurnOk (turnN W H p l k).1 (turnN W H p l k).2.1 p (turnN W H p l k).2.2) ∧ (∃ v : Value, Aside0 (IsImg wr g (turnN W H p l k).1 (turnN W H p l k).2.1 p v) ∧ Aside0 (Kd.R (Kd.int .i64) 3 wr w.heap.size (fun _ => True) v (turnN W H p l k).2.2)) ∧ Aside0 (IsImg wr w.heap.size W H p (.slice A l.length c)) ∧ Aside0 (IsImg wr (w.heap.size + 1) 0 0 0 (.slice none 0 0)) ∧ Aside0 (Below w.heap.size w wr)) (fun i _ => n - (intOf i).toNat)
  case atStart => exact ⟨0, by omega, rfl, HT, ⟨v2, HX3, HO3⟩, HI3, HZ3, HB3⟩
  case round =>
    clear HI0 HZ0 HB0 HI1 HZ1 HB1 HI2 HZ2 HB2 HO2 H1 HX3 HO3 HI3 HZ3 HB3 hc0_1 hc1_1 hc2_1
    obtain ⟨k, hk, rfl, HT, ⟨v, HX, HO⟩, HI, HZ, HB⟩ := hrel
    by_cases hlt : k < n
    · have hdk : decide ((k : Int) < (n : Int)) = true := decide_eq_true (by omega)
      have HN : Aside0 (turnN W H p l (k + 1) = ((turnN W H p l k).2.1, (turnN W H p l k).1, pixelsUpto (fun x y => pixN (turnN W H p l k).1 p (turnN W H p l k).2.2 y ((turnN W H p l k).2.1 - 1 - x)) (turnN W H p l k).2.1 ((turnN W H p l k).2.1 * (turnN W H p l k).1))) := ⟨rfl⟩
      generalize (turnN W H p l k).1 = Wk at *
      generalize (turnN W H p l k).2.1 = Hk at *
      generalize (turnN W H p l k).2.2 = Lk at *
      obtain ⟨A', c', rfl, hcap, hC⟩ := Kd.R_reads HO.out
      have HCAP := Aside0.mk hcap
      have HCC := Aside0.mk hC
      have hc2 := HI.out.c2
      clear hcap hC
      go_wp2_with (first
        | (refine wpList_load_img rfl _ rfl g Wk Hk p _ rfl HX.out ?_)
        | (refine wpList_alloc_img rfl rfl ?_)
        | (refine wpList_put_img rfl _ _ rfl Wk Hk p _ rfl rfl rfl ?_; intro w5 hb hi5 hs5; have HY := Aside0.mk hi5; have hy0 := hi5.c0; have hy1 := hi5.c1; have HX5 := Aside0.mk (HX.out.below hb); have HI5 := Aside0.mk (HI.out.below hb); have hc2_5 := HI5.out.c2; have HZ5 := Aside0.mk (HZ.out.below hb); have HB5 := Aside0.mk (below_step HB.out hb); have HC5 := Aside0.mk (Kd.C_below HCC.out hb); clear hb hi5 hs5)
        | (go_at_call 54; refine (HM.out Wk Hk Lk A' c' _ _ HT.out HY.out HC5.out HCAP.out).mono ?_; rintro e w6 ⟨v6, rfl, ho, hb⟩; have HX6 := Aside0.mk (HX5.out.below hb); have HI6 := Aside0.mk (HI5.out.below hb); have HZ6 := Aside0.mk (HZ5.out.below hb); have HO6 := Aside0.mk (Kd.R_lower ho (below_size HB5.out)); have HB6 := Aside0.mk (below_step HB5.out hb); have H6 := Aside0.mk (own_one HO6.out); clear hb ho)
        | (refine wpList_store_img rfl _ _ rfl g Wk Hk p Hk Wk p _ v6 rfl rfl H6.out HX6.out ?_))
      go_roundw
      case rel =>
        refine ⟨k + 1, by omega, by go_num, ?_, ⟨v6, ?_, ?_⟩, ⟨HI6.out.otherRow _ _ (by have := HG.out; omega)⟩, ⟨HZ6.out.otherRow _ _ (by have := HG.out; omega)⟩, ⟨below_putRow HB6.out _ _ (by have := HG.out; omega)⟩⟩
        · rw [HN.out]; exact ⟨HT.out.step⟩
        · rw [HN.out]; exact ⟨HX6.out.row _ _ _ _⟩
        · rw [HN.out]; exact ⟨Kd.R_mono (Kd.R_step (Kd.R_types HO6.out HX6.out.out (by decide)) (fun j hj _ => setRow_other _ _ _ _ hj.2)) (fun _ _ => trivial)⟩
      case measure => simp [intOf]; omega
    · have hk' : k = n := by omega
      subst hk'
      have hdk : decide ((k : Int) < (k : Int)) = false := decide_eq_false (by omega)
      have H1 := Aside0.mk (own_one HO.out)
      go_wp2_with (first
        | (refine wpList_load_img rfl _ rfl g _ _ p v rfl HX.out ?_)
        | (refine wpList_store_img rfl _ _ rfl _ 0 0 0 _ _ p _ v rfl rfl H1.out HZ.out ?_))
      refine bodyPost_ret (results_cell_row rfl _ _ (w.heap.size + 1) _ _ _ _ rfl (HZ.out.row _ _ p v).out Try.underlying27 rfl img_size) rfl ⟨v, rfl, ?_, below_putRow HB.out _ _ (by omega)⟩
      exact Kd.R_mono (Kd.R_step (Kd.R_types HO.out HZ.out.out (by decide)) (fun j hj _ => setRow_other _ _ _ _ hj.2)) (fun _ _ => trivial)
def TurnKOk (a0 a1 a2 : Int) (l : List Int) (a3 : Int) : Prop := ImgOk a0 a1 a2 l ∧ 0 ≤ a3 ∧ a3 ≤ 3
instance (a0 a1 a2 : Int) (l : List Int) (a3 : Int) : Decidable (TurnKOk a0 a1 a2 l a3) := by unfold TurnKOk; exact inferInstance
def impl_TurnImage.f (a0_0 : Int) (a0_1 : Int) (a0_2 : Int) (l0_3 : List Int) (a1 : Int) : Option (Int × Int × Int × List Int) := some (if TurnKOk a0_0 a0_1 a0_2 l0_3 a1 then (((turnN a0_0.toNat a0_1.toNat a0_2.toNat l0_3 a1.toNat).1 : Int), ((turnN a0_0.toNat a0_1.toNat a0_2.toNat l0_3 a1.toNat).2.1 : Int), a0_2, (turnN a0_0.toNat a0_1.toNat a0_2.toNat l0_3 a1.toNat).2.2) else (0, 0, 0, []))
theorem impl_TurnImage.calls (a0_0 : Int) (a0_1 : Int) (a0_2 : Int) (A0_3 : Option Addr) (c0_3 : Nat) (l0_3 : List Int) (a1 : Int) (r1 : Int) (r2 : Int) (r3 : Int) (r4 : List Int) (w : World) (hr0_3 : Kd.C (Kd.int .i64) w A0_3 l0_3.length l0_3) (hc0_3 : l0_3.length ≤ c0_3) (h : impl_TurnImage.f a0_0 a0_1 a0_2 l0_3 a1 = some (r1, r2, r3, r4)) :
    Calls Try.prog 28 #[.agg #[.int .i64 a0_0, .int .i64 a0_1, .int .i64 a0_2, .slice A0_3 l0_3.length c0_3], .int .i64 a1] w fun e w' => ∃ v3_ : Value, e = .returned (.agg #[.int .i64 r1, .int .i64 r2, .int .i64 r3, v3_]) ∧ Kd.R (Kd.int .i64) 3 w' w.heap.size (fun _ => True) v3_ r4 ∧ Below w.heap.size w w' := by
  unfold impl_TurnImage.f at h
  by_cases hk : TurnKOk a0_0 a0_1 a0_2 l0_3 a1
  · rw [if_pos hk] at h
    simp only [Option.some.injEq, Prod.mk.injEq] at h
    obtain ⟨rfl, rfl, rfl, rfl⟩ := h
    obtain ⟨hi, h0, h1⟩ := hk
    obtain ⟨n, rfl⟩ := Int.eq_ofNat_of_zero_le h0
    obtain ⟨W, H, p, rfl, rfl, rfl, hl, b1, b2, b3, b4, b5, b6⟩ := hi.nats
    exact impl_TurnImage.yes W H p A0_3 c0_3 l0_3 n (by omega) w hr0_3 hc0_3 hi hl b1 b2 b3 b4 b5 b6
  · rw [if_neg hk] at h
    simp only [Option.some.injEq, Prod.mk.injEq] at h
    obtain ⟨rfl, rfl, rfl, rfl⟩ := h
    have hn : Calls Try.prog 28 #[.agg #[.int .i64 a0_0, .int .i64 a0_1, .int .i64 a0_2, .slice A0_3 l0_3.length c0_3], .int .i64 a1] w fun e w' => e = .returned (.agg #[.int .i64 0, .int .i64 0, .int .i64 0, .slice none 0 0]) ∧ Below w.heap.size w w' := by
      by_cases hi : ImgOk a0_0 a0_1 a0_2 l0_3
      · by_cases h0 : a1 < 0
        · exact impl_TurnImage.no2 _ _ _ A0_3 c0_3 l0_3 a1 w hr0_3 hc0_3 hi h0
        · exact impl_TurnImage.no3 _ _ _ A0_3 c0_3 l0_3 a1 w hr0_3 hc0_3 hi (Int.not_le.1 fun h3 => hk ⟨hi, by omega, h3⟩)
      · exact impl_TurnImage.no1 _ _ _ A0_3 c0_3 l0_3 a1 w hr0_3 hc0_3 hi
    refine hn.mono ?_
    rintro e w1 ⟨rfl, hb⟩
    exact ⟨_, rfl, Kd.R_nil _ _ _ _ _, hb⟩

end Go.Proofs.Ytonolnojpejgnaa.Print
