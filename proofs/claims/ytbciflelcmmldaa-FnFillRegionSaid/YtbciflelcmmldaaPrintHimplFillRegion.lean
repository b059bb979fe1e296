-- laid by hp.py (a program of this work over the kit's print), with contracts by hand for what the print does not take
import Derived.Test.YtbciflelcmmldaaPrint0
import Derived.Test.YtbciflelcmmldaaPrintHimplimageBy
import Derived.Test.YtbciflelcmmldaaPrintHx0
import Derived.Test.YtbciflelcmmldaaPrintHx2
namespace Go.Proofs.Ytbciflelcmmldaa.Print
open Go.RowKit Go.Proofs.YtbciflelcmmldaaW.PrintWords Go.Proofs.YtbciflelcmmldaaW.PrintLast Go.Proofs.YtbciflelcmmldaaW.PrintMore
attribute [local go_sem] max2_int min2_int max_two min_two max_three min_three max_four min_four   -- for this text's walks alone
set_option linter.unusedVariables false
set_option linter.unusedSimpArgs false

--SNIP impl_FillRegion
/-! ### impl_FillRegion: function 29, by hand -/
set_option maxHeartbeats 8000000 in
set_option maxRecDepth 100000 in
theorem impl_FillRegion_1.any (g : Nat → Bool) (x y W H p : Nat) (hx : x < W) (hy : y < H) (A : Option Addr) (c : Nat) (l : List Int) (B : Option Addr) (d : Nat) (px : List Int) (bg bp b : Nat) (w : World) (hg : IsGrid w bg g) (hI : IsImg w b W H p (.slice A l.length c)) (hP : w.cell? ⟨bp, 0, none⟩ = some (.slice B px.length d)) (hr : Kd.C (Kd.int .i64) w A l.length l) (hc : l.length ≤ c) (hrp : Kd.C (Kd.int .i64) w B px.length px) (hl : l.length = W * H * p) (hW : W ≤ 16) (hH : H ≤ 16) (hp : p ≤ 4) :
    Calls Try.prog 84 #[.int .i64 x, .int .i64 y, .pointer (some ⟨bg, 0, none⟩), .pointer (some ⟨bp, 0, none⟩), .pointer (some ⟨b, 0, none⟩)] w fun e w' => ∃ (A' : Option Addr) (c' : Nat), e = .returned (.slice A' (if g (16 * y + x) = true then px else pixN W p l x y).length c') ∧ Kd.C (Kd.int .i64) w' A' (if g (16 * y + x) = true then px else pixN W p l x y).length (if g (16 * y + x) = true then px else pixN W p l x y) ∧ Below w.heap.size w w' := by
  have HAT : Aside0 (∀ (w1 : World), Below w.heap.size w w1 → Calls Try.prog 65 #[.agg #[.int .i64 W, .int .i64 H, .int .i64 p, .slice A l.length c], .int .i64 x, .int .i64 y] w1 fun e w' => ∃ (A' : Option Addr) (c' : Nat), e = .returned (.slice A' (pixN W p l x y).length c') ∧ Kd.C (Kd.int .i64) w' A' (pixN W p l x y).length (pixN W p l x y) ∧ (pixN W p l x y).length ≤ c' ∧ Below w1.heap.size w1 w') := ⟨fun w1 hb => impl_Image_at.any W H p A c l x y w1 (Kd.C_below hr hb) hc hl hW hH hp hx hy⟩
  have hi1 := run_index_grid bg y (by omega)
  have hi2 := run_index_line bg (y * 16) x (by omega)
  have hcell := hg.cell (y * 16 + x) (by omega)
  have e16 : 16 * y + x = y * 16 + x := by omega
  rw [e16]
  have HI0 := Aside0.mk hI
  have HRP := Aside0.mk hrp
  have hu := Try.underlying25
  clear hr hc hl hI hg hrp e16
  cases hgv : g (y * 16 + x) with
  | true =>
    rw [hgv] at hcell
    simp only [if_true]
    clear hgv
    go_enter Try.func84, Try.ntmps84
    go_wp2
    go_ret
    exact ⟨_, _, rfl, HRP.out, Below.refl _ _⟩
  | false =>
    rw [hgv] at hcell
    simp only [Bool.false_eq_true, if_false]
    clear hgv
    go_enter Try.func84, Try.ntmps84
    go_wp2_with (first
      | (refine wpList_load_img rfl _ rfl b W H p _ rfl HI0.out ?_)
      | (go_at_call 65; refine (HAT.out _ (Below.refl _ _)).mono ?_; rintro e w2 ⟨A2, c2, rfl, hC2, hcap2, hb2⟩))
    go_ret
    exact ⟨_, _, rfl, hC2, hb2⟩
def FillOk (a0 a1 a2 : Int) (l : List Int) (lr : List S96) (px : List Int) : Prop := ImgOk a0 a1 a2 l ∧ Valid lr ∧ (px.length : Int) = a2 ∧ ∀ z ∈ px, 0 ≤ z ∧ z ≤ 255
instance (a0 a1 a2 : Int) (l : List Int) (lr : List S96) (px : List Int) : Decidable (FillOk a0 a1 a2 l lr px) := by unfold FillOk; exact inferInstance
/-- The pixels of a filled image. -/
def fillF (a0 a2 : Int) (l : List Int) (g : Nat → Bool) (px : List Int) (x y : Nat) : List Int := if g (16 * y + x) = true then px else pixN a0.toNat a2.toNat l x y
def impl_FillRegion.f (a0_0 : Int) (a0_1 : Int) (a0_2 : Int) (l0_3 : List Int) (l1 : List S96) (l2 : List Int) : Option (Int × Int × Int × List Int × Bool) := some (if FillOk a0_0 a0_1 a0_2 l0_3 l1 l2 then (a0_0, a0_1, a0_2, pixelsUpto (fillF a0_0 a0_2 l0_3 (gridF l1) l2) a0_0.toNat (a0_0.toNat * a0_1.toNat), true) else (0, 0, 0, [], false))
set_option maxHeartbeats 8000000 in
set_option maxRecDepth 100000 in
theorem impl_FillRegion.no1 (a0 a1 a2 : Int) (A : Option Addr) (c : Nat) (l : List Int) (R : Option Addr) (dr : Nat) (lr : List S96) (B : Option Addr) (d : Nat) (px : List Int) (w : World) (hr : Kd.C (Kd.int .i64) w A l.length l) (hc : l.length ≤ c) (hrr : Kd.C k96 w R lr.length lr) (hcr : lr.length ≤ dr) (hrp : Kd.C (Kd.int .i64) w B px.length px) (hcp : px.length ≤ d) (h : ¬ ImgOk a0 a1 a2 l) :
    Calls Try.prog 29 #[.agg #[.int .i64 a0, .int .i64 a1, .int .i64 a2, .slice A l.length c], .slice R lr.length dr, .slice B px.length d] w fun e w' => e = .returned (.tuple #[.agg #[.int .i64 0, .int .i64 0, .int .i64 0, .slice none 0 0], .bool false]) ∧ Below w.heap.size w w' := by
  have HV : Aside0 (∀ W' : World, Below w.heap.size w W' → Calls Try.prog 59 #[.agg #[.int .i64 a0, .int .i64 a1, .int .i64 a2, .slice A l.length c]] W' fun e w' => e = .returned (.bool false) ∧ Below W'.heap.size W' w') := ⟨fun W' hW => isImage_false h A c W' (Kd.C_below hr hW) hc⟩
  have HB0 := Aside0.mk (allocs_below [.cells #[.int .i64 a0, .int .i64 a1, .int .i64 a2, .slice A l.length c] 25, .cells #[.slice B px.length d] 23, .cells #[.int .i64 0, .int .i64 0, .int .i64 0, .slice none 0 0] 25] w)
  have HI0 := Aside0.mk (show IsImg (allocs w [.cells #[.int .i64 a0, .int .i64 a1, .int .i64 a2, .slice A l.length c] 25, .cells #[.slice B px.length d] 23, .cells #[.int .i64 0, .int .i64 0, .int .i64 0, .slice none 0 0] 25]) w.heap.size a0 a1 a2 _ from allocs_img [.cells #[.int .i64 a0, .int .i64 a1, .int .i64 a2, .slice A l.length c] 25, .cells #[.slice B px.length d] 23, .cells #[.int .i64 0, .int .i64 0, .int .i64 0, .slice none 0 0] 25] w 0 _ _ _ _ rfl)
  have c0_HI_0 := HI0.out.c0
  have c1_HI_0 := HI0.out.c1
  have c2_HI_0 := HI0.out.c2
  have HP0 := Aside0.mk (allocs_at [.cells #[.int .i64 a0, .int .i64 a1, .int .i64 a2, .slice A l.length c] 25, .cells #[.slice B px.length d] 23, .cells #[.int .i64 0, .int .i64 0, .int .i64 0, .slice none 0 0] 25] w 1 _ rfl)
  have p_HP_0 := (blk_cell HP0.out 0).trans rfl
  have HZ0 := Aside0.mk (allocs_img [.cells #[.int .i64 a0, .int .i64 a1, .int .i64 a2, .slice A l.length c] 25, .cells #[.slice B px.length d] 23, .cells #[.int .i64 0, .int .i64 0, .int .i64 0, .slice none 0 0] 25] w 2 _ _ _ _ rfl)
  have hu := Try.underlying25
  clear hr hc hrr hcr hrp hcp h
  go_enter Try.func29, Try.ntmps29
  go_wp2_with (first
    | (refine wpList_load_img rfl _ rfl w.heap.size a0 a1 a2 _ rfl HI0.out ?_)
    | (refine gate_guard (by rfl) ?_; dsimp only; refine wpList_load_img rfl _ rfl w.heap.size a0 a1 a2 _ rfl HI0.out ?_)
    | (go_at_call 59; refine (HV.out _ HB0.out).mono ?_; rintro e w1 ⟨rfl, hb⟩; have HI1 := Aside0.mk (HI0.out.below hb); have c0_HI_1 := HI1.out.c0; have c1_HI_1 := HI1.out.c1; have c2_HI_1 := HI1.out.c2; have HP1 := Aside0.mk (blk_below HP0.out hb); have p_HP_1 := (blk_cell HP1.out 0).trans rfl; have HZ1 := Aside0.mk (HZ0.out.below hb); have HB1 := Aside0.mk (below_step HB0.out hb); clear hb)
    | (refine wpList_store_img rfl _ _ rfl _ 0 0 0 0 0 0 _ _ rfl rfl rfl HZ1.out ?_))
  refine bodyPost_ret (results_ct (p := 6) (u := 7) rfl _ _ (w.heap.size + 2) _ _ _ _ rfl (HZ1.out.row 0 0 0 _).out Try.underlying25 rfl img_size) rfl ?_
  exact ⟨rfl, below_putRow HB1.out _ _ (by omega)⟩
set_option maxHeartbeats 8000000 in
set_option maxRecDepth 100000 in
theorem impl_FillRegion.no2 (a0 a1 a2 : Int) (A : Option Addr) (c : Nat) (l : List Int) (R : Option Addr) (dr : Nat) (lr : List S96) (B : Option Addr) (d : Nat) (px : List Int) (w : World) (hr : Kd.C (Kd.int .i64) w A l.length l) (hc : l.length ≤ c) (hrr : Kd.C k96 w R lr.length lr) (hcr : lr.length ≤ dr) (hrp : Kd.C (Kd.int .i64) w B px.length px) (hcp : px.length ≤ d) (h : ImgOk a0 a1 a2 l) (hv : ¬ Valid lr) :
    Calls Try.prog 29 #[.agg #[.int .i64 a0, .int .i64 a1, .int .i64 a2, .slice A l.length c], .slice R lr.length dr, .slice B px.length d] w fun e w' => e = .returned (.tuple #[.agg #[.int .i64 0, .int .i64 0, .int .i64 0, .slice none 0 0], .bool false]) ∧ Below w.heap.size w w' := by
  have HV : Aside0 (∀ W' : World, Below w.heap.size w W' → Calls Try.prog 59 #[.agg #[.int .i64 a0, .int .i64 a1, .int .i64 a2, .slice A l.length c]] W' fun e w' => e = .returned (.bool true) ∧ Below W'.heap.size W' w') := ⟨fun W' hW => isImage_true h A c W' (Kd.C_below hr hW) hc⟩
  have HR : Aside0 (∀ W' : World, Below w.heap.size w W' → Calls Try.prog 61 #[.slice R lr.length dr] W' fun e w' => e = .returned (.bool false) ∧ Below W'.heap.size W' w') := ⟨fun W' hW => by have h_ := isRegion_calls R dr lr W' (Kd.C_below hrr hW) hcr; rw [decide_eq_false hv] at h_; exact h_⟩
  have HB0 := Aside0.mk (allocs_below [.cells #[.int .i64 a0, .int .i64 a1, .int .i64 a2, .slice A l.length c] 25, .cells #[.slice B px.length d] 23, .cells #[.int .i64 0, .int .i64 0, .int .i64 0, .slice none 0 0] 25] w)
  have HI0 := Aside0.mk (show IsImg (allocs w [.cells #[.int .i64 a0, .int .i64 a1, .int .i64 a2, .slice A l.length c] 25, .cells #[.slice B px.length d] 23, .cells #[.int .i64 0, .int .i64 0, .int .i64 0, .slice none 0 0] 25]) w.heap.size a0 a1 a2 _ from allocs_img [.cells #[.int .i64 a0, .int .i64 a1, .int .i64 a2, .slice A l.length c] 25, .cells #[.slice B px.length d] 23, .cells #[.int .i64 0, .int .i64 0, .int .i64 0, .slice none 0 0] 25] w 0 _ _ _ _ rfl)
  have c0_HI_0 := HI0.out.c0
  have c1_HI_0 := HI0.out.c1
  have c2_HI_0 := HI0.out.c2
  have HP0 := Aside0.mk (allocs_at [.cells #[.int .i64 a0, .int .i64 a1, .int .i64 a2, .slice A l.length c] 25, .cells #[.slice B px.length d] 23, .cells #[.int .i64 0, .int .i64 0, .int .i64 0, .slice none 0 0] 25] w 1 _ rfl)
  have p_HP_0 := (blk_cell HP0.out 0).trans rfl
  have HZ0 := Aside0.mk (allocs_img [.cells #[.int .i64 a0, .int .i64 a1, .int .i64 a2, .slice A l.length c] 25, .cells #[.slice B px.length d] 23, .cells #[.int .i64 0, .int .i64 0, .int .i64 0, .slice none 0 0] 25] w 2 _ _ _ _ rfl)
  have hu := Try.underlying25
  clear hr hc hrr hcr hrp hcp h hv
  go_enter Try.func29, Try.ntmps29
  go_wp2_with (first
    | (refine wpList_load_img rfl _ rfl w.heap.size a0 a1 a2 _ rfl HI0.out ?_)
    | (refine gate_guard (by rfl) ?_; dsimp only; refine wpList_load_img rfl _ rfl w.heap.size a0 a1 a2 _ rfl HI0.out ?_)
    | (go_at_call 59; refine (HV.out _ HB0.out).mono ?_; rintro e w1 ⟨rfl, hb⟩; have HI1 := Aside0.mk (HI0.out.below hb); have c0_HI_1 := HI1.out.c0; have c1_HI_1 := HI1.out.c1; have c2_HI_1 := HI1.out.c2; have HP1 := Aside0.mk (blk_below HP0.out hb); have p_HP_1 := (blk_cell HP1.out 0).trans rfl; have HZ1 := Aside0.mk (HZ0.out.below hb); have HB1 := Aside0.mk (below_step HB0.out hb); clear hb)
    | (refine wpList_load_img rfl _ rfl w.heap.size a0 a1 a2 _ rfl HI1.out ?_)
    | (refine gate_guard (by rfl) ?_; dsimp only; refine wpList_load_img rfl _ rfl w.heap.size a0 a1 a2 _ rfl HI1.out ?_)
    | (go_at_call 61; refine (HR.out _ HB1.out).mono ?_; rintro e w2 ⟨rfl, hb⟩; have HI2 := Aside0.mk (HI1.out.below hb); have c0_HI_2 := HI2.out.c0; have c1_HI_2 := HI2.out.c1; have c2_HI_2 := HI2.out.c2; have HP2 := Aside0.mk (blk_below HP1.out hb); have p_HP_2 := (blk_cell HP2.out 0).trans rfl; have HZ2 := Aside0.mk (HZ1.out.below hb); have HB2 := Aside0.mk (below_step HB1.out hb); clear hb)
    | (refine wpList_store_img rfl _ _ rfl _ 0 0 0 0 0 0 _ _ rfl rfl rfl HZ2.out ?_))
  refine bodyPost_ret (results_ct (p := 6) (u := 7) rfl _ _ (w.heap.size + 2) _ _ _ _ rfl (HZ2.out.row 0 0 0 _).out Try.underlying25 rfl img_size) rfl ?_
  exact ⟨rfl, below_putRow HB2.out _ _ (by omega)⟩
set_option maxHeartbeats 8000000 in
set_option maxRecDepth 100000 in
theorem impl_FillRegion.no3 (a0 a1 a2 : Int) (A : Option Addr) (c : Nat) (l : List Int) (R : Option Addr) (dr : Nat) (lr : List S96) (B : Option Addr) (d : Nat) (px : List Int) (w : World) (hr : Kd.C (Kd.int .i64) w A l.length l) (hc : l.length ≤ c) (hrr : Kd.C k96 w R lr.length lr) (hcr : lr.length ≤ dr) (hrp : Kd.C (Kd.int .i64) w B px.length px) (hcp : px.length ≤ d) (h : ImgOk a0 a1 a2 l) (hv : Valid lr) (hn : (px.length : Int) ≠ a2) :
    Calls Try.prog 29 #[.agg #[.int .i64 a0, .int .i64 a1, .int .i64 a2, .slice A l.length c], .slice R lr.length dr, .slice B px.length d] w fun e w' => e = .returned (.tuple #[.agg #[.int .i64 0, .int .i64 0, .int .i64 0, .slice none 0 0], .bool false]) ∧ Below w.heap.size w w' := by
  have HV : Aside0 (∀ W' : World, Below w.heap.size w W' → Calls Try.prog 59 #[.agg #[.int .i64 a0, .int .i64 a1, .int .i64 a2, .slice A l.length c]] W' fun e w' => e = .returned (.bool true) ∧ Below W'.heap.size W' w') := ⟨fun W' hW => isImage_true h A c W' (Kd.C_below hr hW) hc⟩
  have HR : Aside0 (∀ W' : World, Below w.heap.size w W' → Calls Try.prog 61 #[.slice R lr.length dr] W' fun e w' => e = .returned (.bool true) ∧ Below W'.heap.size W' w') := ⟨fun W' hW => by have h_ := isRegion_calls R dr lr W' (Kd.C_below hrr hW) hcr; rw [decide_eq_true hv] at h_; exact h_⟩
  have d1 : ((px.length : Int) == a2) = false := beq_eq_false_iff_ne.mpr hn
  have d2 : ((px.length : Int) != a2) = true := bne_iff_ne.mpr hn
  have HB0 := Aside0.mk (allocs_below [.cells #[.int .i64 a0, .int .i64 a1, .int .i64 a2, .slice A l.length c] 25, .cells #[.slice B px.length d] 23, .cells #[.int .i64 0, .int .i64 0, .int .i64 0, .slice none 0 0] 25] w)
  have HI0 := Aside0.mk (show IsImg (allocs w [.cells #[.int .i64 a0, .int .i64 a1, .int .i64 a2, .slice A l.length c] 25, .cells #[.slice B px.length d] 23, .cells #[.int .i64 0, .int .i64 0, .int .i64 0, .slice none 0 0] 25]) w.heap.size a0 a1 a2 _ from allocs_img [.cells #[.int .i64 a0, .int .i64 a1, .int .i64 a2, .slice A l.length c] 25, .cells #[.slice B px.length d] 23, .cells #[.int .i64 0, .int .i64 0, .int .i64 0, .slice none 0 0] 25] w 0 _ _ _ _ rfl)
  have c0_HI_0 := HI0.out.c0
  have c1_HI_0 := HI0.out.c1
  have c2_HI_0 := HI0.out.c2
  have HP0 := Aside0.mk (allocs_at [.cells #[.int .i64 a0, .int .i64 a1, .int .i64 a2, .slice A l.length c] 25, .cells #[.slice B px.length d] 23, .cells #[.int .i64 0, .int .i64 0, .int .i64 0, .slice none 0 0] 25] w 1 _ rfl)
  have p_HP_0 := (blk_cell HP0.out 0).trans rfl
  have HZ0 := Aside0.mk (allocs_img [.cells #[.int .i64 a0, .int .i64 a1, .int .i64 a2, .slice A l.length c] 25, .cells #[.slice B px.length d] 23, .cells #[.int .i64 0, .int .i64 0, .int .i64 0, .slice none 0 0] 25] w 2 _ _ _ _ rfl)
  have hu := Try.underlying25
  clear hr hc hrr hcr hrp hcp h hv hn
  go_enter Try.func29, Try.ntmps29
  go_wp2_with (first
    | (refine wpList_load_img rfl _ rfl w.heap.size a0 a1 a2 _ rfl HI0.out ?_)
    | (refine gate_guard (by rfl) ?_; dsimp only; refine wpList_load_img rfl _ rfl w.heap.size a0 a1 a2 _ rfl HI0.out ?_)
    | (go_at_call 59; refine (HV.out _ HB0.out).mono ?_; rintro e w1 ⟨rfl, hb⟩; have HI1 := Aside0.mk (HI0.out.below hb); have c0_HI_1 := HI1.out.c0; have c1_HI_1 := HI1.out.c1; have c2_HI_1 := HI1.out.c2; have HP1 := Aside0.mk (blk_below HP0.out hb); have p_HP_1 := (blk_cell HP1.out 0).trans rfl; have HZ1 := Aside0.mk (HZ0.out.below hb); have HB1 := Aside0.mk (below_step HB0.out hb); clear hb)
    | (refine wpList_load_img rfl _ rfl w.heap.size a0 a1 a2 _ rfl HI1.out ?_)
    | (refine gate_guard (by rfl) ?_; dsimp only; refine wpList_load_img rfl _ rfl w.heap.size a0 a1 a2 _ rfl HI1.out ?_)
    | (go_at_call 61; refine (HR.out _ HB1.out).mono ?_; rintro e w2 ⟨rfl, hb⟩; have HI2 := Aside0.mk (HI1.out.below hb); have c0_HI_2 := HI2.out.c0; have c1_HI_2 := HI2.out.c1; have c2_HI_2 := HI2.out.c2; have HP2 := Aside0.mk (blk_below HP1.out hb); have p_HP_2 := (blk_cell HP2.out 0).trans rfl; have HZ2 := Aside0.mk (HZ1.out.below hb); have HB2 := Aside0.mk (below_step HB1.out hb); clear hb)
    | (refine wpList_store_img rfl _ _ rfl _ 0 0 0 0 0 0 _ _ rfl rfl rfl HZ2.out ?_))
  refine bodyPost_ret (results_ct (p := 6) (u := 7) rfl _ _ (w.heap.size + 2) _ _ _ _ rfl (HZ2.out.row 0 0 0 _).out Try.underlying25 rfl img_size) rfl ?_
  exact ⟨rfl, below_putRow HB2.out _ _ (by omega)⟩
set_option maxHeartbeats 8000000 in
set_option maxRecDepth 100000 in
theorem impl_FillRegion.no4 (a0 a1 a2 : Int) (A : Option Addr) (c : Nat) (l : List Int) (R : Option Addr) (dr : Nat) (lr : List S96) (B : Option Addr) (d : Nat) (px : List Int) (w : World) (hr : Kd.C (Kd.int .i64) w A l.length l) (hc : l.length ≤ c) (hrr : Kd.C k96 w R lr.length lr) (hcr : lr.length ≤ dr) (hrp : Kd.C (Kd.int .i64) w B px.length px) (hcp : px.length ≤ d) (h : ImgOk a0 a1 a2 l) (hv : Valid lr) (hn : (px.length : Int) = a2) (hy : ¬ ∀ z ∈ px, 0 ≤ z ∧ z ≤ 255) :
    Calls Try.prog 29 #[.agg #[.int .i64 a0, .int .i64 a1, .int .i64 a2, .slice A l.length c], .slice R lr.length dr, .slice B px.length d] w fun e w' => e = .returned (.tuple #[.agg #[.int .i64 0, .int .i64 0, .int .i64 0, .slice none 0 0], .bool false]) ∧ Below w.heap.size w w' := by
  have HV : Aside0 (∀ W' : World, Below w.heap.size w W' → Calls Try.prog 59 #[.agg #[.int .i64 a0, .int .i64 a1, .int .i64 a2, .slice A l.length c]] W' fun e w' => e = .returned (.bool true) ∧ Below W'.heap.size W' w') := ⟨fun W' hW => isImage_true h A c W' (Kd.C_below hr hW) hc⟩
  have HR : Aside0 (∀ W' : World, Below w.heap.size w W' → Calls Try.prog 61 #[.slice R lr.length dr] W' fun e w' => e = .returned (.bool true) ∧ Below W'.heap.size W' w') := ⟨fun W' hW => by have h_ := isRegion_calls R dr lr W' (Kd.C_below hrr hW) hcr; rw [decide_eq_true hv] at h_; exact h_⟩
  have HY : Aside0 (∀ W' : World, Below w.heap.size w W' → Calls Try.prog 83 #[.slice B px.length d] W' fun e w' => e = .returned (.bool false) ∧ Drawn0 W' w') := ⟨fun W' hW => impl_areBytes.calls B d px false W' (Kd.C_below hrp hW) hcp (by rw [impl_areBytes.eq, decide_eq_false hy])⟩
  have d1 : ((px.length : Int) == a2) = true := beq_iff_eq.mpr hn
  have d2 : ((px.length : Int) != a2) = false := bne_eq_false_iff_eq.mpr hn
  have HB0 := Aside0.mk (allocs_below [.cells #[.int .i64 a0, .int .i64 a1, .int .i64 a2, .slice A l.length c] 25, .cells #[.slice B px.length d] 23, .cells #[.int .i64 0, .int .i64 0, .int .i64 0, .slice none 0 0] 25] w)
  have HI0 := Aside0.mk (show IsImg (allocs w [.cells #[.int .i64 a0, .int .i64 a1, .int .i64 a2, .slice A l.length c] 25, .cells #[.slice B px.length d] 23, .cells #[.int .i64 0, .int .i64 0, .int .i64 0, .slice none 0 0] 25]) w.heap.size a0 a1 a2 _ from allocs_img [.cells #[.int .i64 a0, .int .i64 a1, .int .i64 a2, .slice A l.length c] 25, .cells #[.slice B px.length d] 23, .cells #[.int .i64 0, .int .i64 0, .int .i64 0, .slice none 0 0] 25] w 0 _ _ _ _ rfl)
  have c0_HI_0 := HI0.out.c0
  have c1_HI_0 := HI0.out.c1
  have c2_HI_0 := HI0.out.c2
  have HP0 := Aside0.mk (allocs_at [.cells #[.int .i64 a0, .int .i64 a1, .int .i64 a2, .slice A l.length c] 25, .cells #[.slice B px.length d] 23, .cells #[.int .i64 0, .int .i64 0, .int .i64 0, .slice none 0 0] 25] w 1 _ rfl)
  have p_HP_0 := (blk_cell HP0.out 0).trans rfl
  have HZ0 := Aside0.mk (allocs_img [.cells #[.int .i64 a0, .int .i64 a1, .int .i64 a2, .slice A l.length c] 25, .cells #[.slice B px.length d] 23, .cells #[.int .i64 0, .int .i64 0, .int .i64 0, .slice none 0 0] 25] w 2 _ _ _ _ rfl)
  have hu := Try.underlying25
  clear hr hc hrr hcr hrp hcp h hv hn hy
  go_enter Try.func29, Try.ntmps29
  go_wp2_with (first
    | (refine wpList_load_img rfl _ rfl w.heap.size a0 a1 a2 _ rfl HI0.out ?_)
    | (refine gate_guard (by rfl) ?_; dsimp only; refine wpList_load_img rfl _ rfl w.heap.size a0 a1 a2 _ rfl HI0.out ?_)
    | (go_at_call 59; refine (HV.out _ HB0.out).mono ?_; rintro e w1 ⟨rfl, hb⟩; have HI1 := Aside0.mk (HI0.out.below hb); have c0_HI_1 := HI1.out.c0; have c1_HI_1 := HI1.out.c1; have c2_HI_1 := HI1.out.c2; have HP1 := Aside0.mk (blk_below HP0.out hb); have p_HP_1 := (blk_cell HP1.out 0).trans rfl; have HZ1 := Aside0.mk (HZ0.out.below hb); have HB1 := Aside0.mk (below_step HB0.out hb); clear hb)
    | (refine wpList_load_img rfl _ rfl w.heap.size a0 a1 a2 _ rfl HI1.out ?_)
    | (refine gate_guard (by rfl) ?_; dsimp only; refine wpList_load_img rfl _ rfl w.heap.size a0 a1 a2 _ rfl HI1.out ?_)
    | (go_at_call 61; refine (HR.out _ HB1.out).mono ?_; rintro e w2 ⟨rfl, hb⟩; have HI2 := Aside0.mk (HI1.out.below hb); have c0_HI_2 := HI2.out.c0; have c1_HI_2 := HI2.out.c1; have c2_HI_2 := HI2.out.c2; have HP2 := Aside0.mk (blk_below HP1.out hb); have p_HP_2 := (blk_cell HP2.out 0).trans rfl; have HZ2 := Aside0.mk (HZ1.out.below hb); have HB2 := Aside0.mk (below_step HB1.out hb); clear hb)
    | (refine wpList_load_img rfl _ rfl w.heap.size a0 a1 a2 _ rfl HI2.out ?_)
    | (refine gate_guard (by rfl) ?_; dsimp only; refine wpList_load_img rfl _ rfl w.heap.size a0 a1 a2 _ rfl HI2.out ?_)
    | (go_at_call 83; refine (HY.out _ HB2.out).mono ?_; rintro e w3 ⟨rfl, hd⟩; have hb := hd.below; clear hd; have HI3 := Aside0.mk (HI2.out.below hb); have c0_HI_3 := HI3.out.c0; have c1_HI_3 := HI3.out.c1; have c2_HI_3 := HI3.out.c2; have HP3 := Aside0.mk (blk_below HP2.out hb); have p_HP_3 := (blk_cell HP3.out 0).trans rfl; have HZ3 := Aside0.mk (HZ2.out.below hb); have HB3 := Aside0.mk (below_step HB2.out hb); clear hb)
    | (refine wpList_store_img rfl _ _ rfl _ 0 0 0 0 0 0 _ _ rfl rfl rfl HZ3.out ?_))
  refine bodyPost_ret (results_ct (p := 6) (u := 7) rfl _ _ (w.heap.size + 2) _ _ _ _ rfl (HZ3.out.row 0 0 0 _).out Try.underlying25 rfl img_size) rfl ?_
  exact ⟨rfl, below_putRow HB3.out _ _ (by omega)⟩
set_option maxHeartbeats 8000000 in
set_option maxRecDepth 100000 in
theorem impl_FillRegion.yes (W H p : Nat) (A : Option Addr) (c : Nat) (l : List Int) (R : Option Addr) (dr : Nat) (lr : List S96) (B : Option Addr) (d : Nat) (px : List Int) (w : World) (hr : Kd.C (Kd.int .i64) w A l.length l) (hc : l.length ≤ c) (hrr : Kd.C k96 w R lr.length lr) (hcr : lr.length ≤ dr) (hrp : Kd.C (Kd.int .i64) w B px.length px) (hcp : px.length ≤ d) (h : ImgOk W H p l) (hl : l.length = W * H * p) (hW1 : W ≤ 16) (hH1 : H ≤ 16) (hp1 : p ≤ 4) (hv : Valid lr) (hn : (px.length : Int) = p) (hy : ∀ z ∈ px, 0 ≤ z ∧ z ≤ 255) :
    Calls Try.prog 29 #[.agg #[.int .i64 W, .int .i64 H, .int .i64 p, .slice A l.length c], .slice R lr.length dr, .slice B px.length d] w fun e w' => ∃ v : Value, e = .returned (.tuple #[.agg #[.int .i64 W, .int .i64 H, .int .i64 p, v], .bool true]) ∧ Kd.R (Kd.int .i64) 3 w' w.heap.size (fun _ => True) v (pixelsUpto (fun x y => if gridF lr (16 * y + x) = true then px else pixN W p l x y) W (W * H)) ∧ Below w.heap.size w w' := by
  have HV : Aside0 (∀ W' : World, Below w.heap.size w W' → Calls Try.prog 59 #[.agg #[.int .i64 W, .int .i64 H, .int .i64 p, .slice A l.length c]] W' fun e w' => e = .returned (.bool true) ∧ Below W'.heap.size W' w') := ⟨fun W' hW => isImage_true h A c W' (Kd.C_below hr hW) hc⟩
  have HR : Aside0 (∀ W' : World, Below w.heap.size w W' → Calls Try.prog 61 #[.slice R lr.length dr] W' fun e w' => e = .returned (.bool true) ∧ Below W'.heap.size W' w') := ⟨fun W' hW => by have h_ := isRegion_calls R dr lr W' (Kd.C_below hrr hW) hcr; rw [decide_eq_true hv] at h_; exact h_⟩
  have HGR : Aside0 (∀ W' : World, Below w.heap.size w W' → Calls Try.prog 62 #[.slice R lr.length dr] W' fun e w' => e = .returned (.agg (gcells (gridF lr))) ∧ Below W'.heap.size W' w') := ⟨fun W' hW => impl_gridOf.any R dr lr W' (Kd.C_below hrr hW) hrr.2.1 hv.runsOk⟩
  have HY : Aside0 (∀ W' : World, Below w.heap.size w W' → Calls Try.prog 83 #[.slice B px.length d] W' fun e w' => e = .returned (.bool true) ∧ Drawn0 W' w') := ⟨fun W' hW => impl_areBytes.calls B d px true W' (Kd.C_below hrp hW) hcp (by rw [impl_areBytes.eq, decide_eq_true hy])⟩
  have HM : Aside0 (∀ (bg : Nat) (W' : World), Below w.heap.size w W' → IsGrid W' bg (gridF lr) → IsImg W' w.heap.size W H p (.slice A l.length c) → W'.cell? ⟨w.heap.size + 1, 0, none⟩ = some (.slice B px.length d) → Calls Try.prog 63 #[.int .i64 W, .int .i64 H, .int .i64 p, .func (.func 84) #[] #[.pointer (some ⟨bg, 0, none⟩), .pointer (some ⟨w.heap.size + 1, 0, none⟩), .pointer (some ⟨w.heap.size, 0, none⟩)]] W' fun e w' => ∃ v : Value, e = .returned (.agg #[.int .i64 W, .int .i64 H, .int .i64 p, v]) ∧ Kd.R (Kd.int .i64) 3 w' W'.heap.size (fun _ => True) v (pixelsUpto (fun x y => if gridF lr (16 * y + x) = true then px else pixN W p l x y) W (W * H)) ∧ Below W'.heap.size W' w') :=
    ⟨fun bg W' hW hg hI hP => impl_imageBy.any 84 _ #[.pointer (some ⟨bg, 0, none⟩), .pointer (some ⟨w.heap.size + 1, 0, none⟩), .pointer (some ⟨w.heap.size, 0, none⟩)] (fun x y => if gridF lr (16 * y + x) = true then px else pixN W p l x y) Try.func84 (by kernel_rfl) rfl W H p W' hW1 hH1 (fun x y hx hy => by split; omega; rw [pixN_length hx hy hl]; omega) (fun x y w' hx hy hb => (impl_FillRegion_1.any (gridF lr) x y W H p hx hy A c l B d px bg (w.heap.size + 1) w.heap.size w' (hg.below hb hg.lt) (hI.below hb) (pw_cell_below hb hP) (Kd.C_below hr (below_step hW hb)) hc (Kd.C_below hrp (below_step hW hb)) hl hW1 hH1 hp1))⟩
  have d1 : ((px.length : Int) == (p : Int)) = true := beq_iff_eq.mpr hn
  have d2 : ((px.length : Int) != (p : Int)) = false := bne_eq_false_iff_eq.mpr hn
  have HB0 := Aside0.mk (allocs_below [.cells #[.int .i64 W, .int .i64 H, .int .i64 p, .slice A l.length c] 25, .cells #[.slice B px.length d] 23, .cells #[.int .i64 0, .int .i64 0, .int .i64 0, .slice none 0 0] 25] w)
  have HI0 := Aside0.mk (show IsImg (allocs w [.cells #[.int .i64 W, .int .i64 H, .int .i64 p, .slice A l.length c] 25, .cells #[.slice B px.length d] 23, .cells #[.int .i64 0, .int .i64 0, .int .i64 0, .slice none 0 0] 25]) w.heap.size W H p _ from allocs_img [.cells #[.int .i64 W, .int .i64 H, .int .i64 p, .slice A l.length c] 25, .cells #[.slice B px.length d] 23, .cells #[.int .i64 0, .int .i64 0, .int .i64 0, .slice none 0 0] 25] w 0 _ _ _ _ rfl)
  have c0_HI_0 := HI0.out.c0
  have c1_HI_0 := HI0.out.c1
  have c2_HI_0 := HI0.out.c2
  have HP0 := Aside0.mk (allocs_at [.cells #[.int .i64 W, .int .i64 H, .int .i64 p, .slice A l.length c] 25, .cells #[.slice B px.length d] 23, .cells #[.int .i64 0, .int .i64 0, .int .i64 0, .slice none 0 0] 25] w 1 _ rfl)
  have p_HP_0 := (blk_cell HP0.out 0).trans rfl
  have HZ0 := Aside0.mk (allocs_img [.cells #[.int .i64 W, .int .i64 H, .int .i64 p, .slice A l.length c] 25, .cells #[.slice B px.length d] 23, .cells #[.int .i64 0, .int .i64 0, .int .i64 0, .slice none 0 0] 25] w 2 _ _ _ _ rfl)
  have hu := Try.underlying25
  clear hr hc hrr hcr hrp hcp h hv hn hy hl hW1 hH1 hp1
  go_enter Try.func29, Try.ntmps29
  go_wp2_with (first
    | (refine wpList_load_img rfl _ rfl w.heap.size W H p _ rfl HI0.out ?_)
    | (refine gate_guard (by rfl) ?_; dsimp only; refine wpList_load_img rfl _ rfl w.heap.size W H p _ rfl HI0.out ?_)
    | (go_at_call 59; refine (HV.out _ HB0.out).mono ?_; rintro e w1 ⟨rfl, hb⟩; have HI1 := Aside0.mk (HI0.out.below hb); have c0_HI_1 := HI1.out.c0; have c1_HI_1 := HI1.out.c1; have c2_HI_1 := HI1.out.c2; have HP1 := Aside0.mk (blk_below HP0.out hb); have p_HP_1 := (blk_cell HP1.out 0).trans rfl; have HZ1 := Aside0.mk (HZ0.out.below hb); have HB1 := Aside0.mk (below_step HB0.out hb); clear hb)
    | (refine wpList_load_img rfl _ rfl w.heap.size W H p _ rfl HI1.out ?_)
    | (refine gate_guard (by rfl) ?_; dsimp only; refine wpList_load_img rfl _ rfl w.heap.size W H p _ rfl HI1.out ?_)
    | (go_at_call 61; refine (HR.out _ HB1.out).mono ?_; rintro e w2 ⟨rfl, hb⟩; have HI2 := Aside0.mk (HI1.out.below hb); have c0_HI_2 := HI2.out.c0; have c1_HI_2 := HI2.out.c1; have c2_HI_2 := HI2.out.c2; have HP2 := Aside0.mk (blk_below HP1.out hb); have p_HP_2 := (blk_cell HP2.out 0).trans rfl; have HZ2 := Aside0.mk (HZ1.out.below hb); have HB2 := Aside0.mk (below_step HB1.out hb); clear hb)
    | (refine wpList_load_img rfl _ rfl w.heap.size W H p _ rfl HI2.out ?_)
    | (refine gate_guard (by rfl) ?_; dsimp only; refine wpList_load_img rfl _ rfl w.heap.size W H p _ rfl HI2.out ?_)
    | (go_at_call 83; refine (HY.out _ HB2.out).mono ?_; rintro e w3 ⟨rfl, hd⟩; have hb := hd.below; clear hd; have HI3 := Aside0.mk (HI2.out.below hb); have c0_HI_3 := HI3.out.c0; have c1_HI_3 := HI3.out.c1; have c2_HI_3 := HI3.out.c2; have HP3 := Aside0.mk (blk_below HP2.out hb); have p_HP_3 := (blk_cell HP3.out 0).trans rfl; have HZ3 := Aside0.mk (HZ2.out.below hb); have HB3 := Aside0.mk (below_step HB2.out hb); clear hb)
    | (go_at_call 62; refine (HGR.out _ HB3.out).mono ?_; rintro e w4 ⟨rfl, hb⟩; have HI4 := Aside0.mk (HI3.out.below hb); have c0_HI_4 := HI4.out.c0; have c1_HI_4 := HI4.out.c1; have c2_HI_4 := HI4.out.c2; have HP4 := Aside0.mk (blk_below HP3.out hb); have p_HP_4 := (blk_cell HP4.out 0).trans rfl; have HZ4 := Aside0.mk (HZ3.out.below hb); have HB4 := Aside0.mk (below_step HB3.out hb); clear hb)
    | (refine wpList_alloc_grid_abs rfl rfl ?_; intro gb w5 hc_ hs_ hg_ hb_; have HG5 := Aside0.mk hg_; have HGE := Aside0.mk (Nat.lt_of_lt_of_le HZ4.out.lt hs_); have HI5 := Aside0.mk (HI4.out.below hb_); have c0_HI_5 := HI5.out.c0; have c1_HI_5 := HI5.out.c1; have c2_HI_5 := HI5.out.c2; have HP5 := Aside0.mk (blk_below HP4.out hb_); have p_HP_5 := (blk_cell HP5.out 0).trans rfl; have HZ5 := Aside0.mk (HZ4.out.below hb_); have HB5 := Aside0.mk (below_step HB4.out hb_); clear hc_ hs_ hg_ hb_)
    | (refine wpList_store_grid rfl _ _ rfl gb (gridF lr) (fun _ => false) rfl rfl HG5.out ?_; have HG6 := Aside0.mk (HG5.out.setRow (gridF lr)); have HI6 := Aside0.mk (HI5.out.otherRow gb (gcells (gridF lr)) (by have := HGE.out; omega)); have HP6 := Aside0.mk ((setRow_other w5 gb (w.heap.size + 1) (gcells (gridF lr)) (by have := HGE.out; omega)).trans HP5.out); have HZ6 := Aside0.mk (HZ5.out.otherRow gb (gcells (gridF lr)) (by have := HGE.out; omega)); have HB6 := Aside0.mk (below_setRow HB5.out gb (gcells (gridF lr)) (by have := HGE.out; omega)); generalize w5.setRow gb (gcells (gridF lr)) = w6 at HI6 HP6 HG6 HZ6 HB6 ⊢; have c0_HI_6 := HI6.out.c0; have c1_HI_6 := HI6.out.c1; have c2_HI_6 := HI6.out.c2; have p_HP_6 := (blk_cell HP6.out 0).trans rfl)
    | (go_at_call 63; refine (HM.out gb _ HB6.out HG6.out HI6.out p_HP_6).mono ?_; rintro e w7 ⟨v, rfl, ho, hb⟩; have HZ7 := Aside0.mk (HZ6.out.below hb); have HO := Aside0.mk (Kd.R_lower ho (below_size HB6.out)); have HB7 := Aside0.mk (below_step HB6.out hb); clear hb ho; have H1 := Aside0.mk (own_one HO.out))
    | (refine wpList_store_img rfl _ _ rfl _ 0 0 0 W H p _ _ rfl rfl H1.out HZ7.out ?_))
  refine bodyPost_ret (results_ct (p := 6) (u := 7) rfl _ _ (w.heap.size + 2) _ _ _ _ rfl (HZ7.out.row W H p _).out Try.underlying25 rfl img_size) rfl ?_
  refine ⟨v, rfl, ?_, below_putRow HB7.out _ _ (by omega)⟩
  exact Kd.R_mono (Kd.R_step (Kd.R_types HO.out HZ7.out.out (by decide)) (fun j hj _ => setRow_other _ _ _ _ hj.2)) (fun _ _ => trivial)
theorem impl_FillRegion.calls (a0_0 : Int) (a0_1 : Int) (a0_2 : Int) (A0_3 : Option Addr) (c0_3 : Nat) (l0_3 : List Int) (A1 : Option Addr) (c1 : Nat) (l1 : List S96) (A2 : Option Addr) (c2 : Nat) (l2 : List Int) (r1 : Int) (r2 : Int) (r3 : Int) (r4 : List Int) (r5 : Bool) (w : World) (hr0_3 : Kd.C (Kd.int .i64) w A0_3 l0_3.length l0_3) (hc0_3 : l0_3.length ≤ c0_3) (hr1 : Kd.C k96 w A1 l1.length l1) (hc1 : l1.length ≤ c1) (hr2 : Kd.C (Kd.int .i64) w A2 l2.length l2) (hc2 : l2.length ≤ c2) (h : impl_FillRegion.f a0_0 a0_1 a0_2 l0_3 l1 l2 = some (r1, r2, r3, r4, r5)) :
    Calls Try.prog 29 #[.agg #[.int .i64 a0_0, .int .i64 a0_1, .int .i64 a0_2, .slice A0_3 l0_3.length c0_3], .slice A1 l1.length c1, .slice A2 l2.length c2] w fun e w' => ∃ v3_ : Value, e = .returned (.tuple #[.agg #[.int .i64 r1, .int .i64 r2, .int .i64 r3, v3_], .bool r5]) ∧ Kd.R (Kd.int .i64) 3 w' w.heap.size (fun _ => True) v3_ r4 ∧ Below w.heap.size w w' := by
  unfold impl_FillRegion.f at h
  by_cases hk : FillOk a0_0 a0_1 a0_2 l0_3 l1 l2
  · rw [if_pos hk] at h
    simp only [Option.some.injEq, Prod.mk.injEq] at h
    obtain ⟨rfl, rfl, rfl, rfl, rfl⟩ := h
    obtain ⟨hi, hv, hn, hy⟩ := hk
    obtain ⟨W, H, p, rfl, rfl, rfl, hl, b1, b2, b3, b4, b5, b6⟩ := hi.nats
    exact impl_FillRegion.yes W H p A0_3 c0_3 l0_3 A1 c1 l1 A2 c2 l2 w hr0_3 hc0_3 hr1 hc1 hr2 hc2 hi hl b4 b5 b6 hv hn hy
  · rw [if_neg hk] at h
    simp only [Option.some.injEq, Prod.mk.injEq] at h
    obtain ⟨rfl, rfl, rfl, rfl, rfl⟩ := h
    have hn : Calls Try.prog 29 #[.agg #[.int .i64 a0_0, .int .i64 a0_1, .int .i64 a0_2, .slice A0_3 l0_3.length c0_3], .slice A1 l1.length c1, .slice A2 l2.length c2] w fun e w' => e = .returned (.tuple #[.agg #[.int .i64 0, .int .i64 0, .int .i64 0, .slice none 0 0], .bool false]) ∧ Below w.heap.size w w' := by
      by_cases h1 : ImgOk a0_0 a0_1 a0_2 l0_3
      · by_cases h2 : Valid l1
        · by_cases h3 : (l2.length : Int) = a0_2
          · exact impl_FillRegion.no4 _ _ _ A0_3 c0_3 l0_3 A1 c1 l1 A2 c2 l2 w hr0_3 hc0_3 hr1 hc1 hr2 hc2 h1 h2 h3 (fun h4 => hk ⟨h1, h2, h3, h4⟩)
          · exact impl_FillRegion.no3 _ _ _ A0_3 c0_3 l0_3 A1 c1 l1 A2 c2 l2 w hr0_3 hc0_3 hr1 hc1 hr2 hc2 h1 h2 h3
        · exact impl_FillRegion.no2 _ _ _ A0_3 c0_3 l0_3 A1 c1 l1 A2 c2 l2 w hr0_3 hc0_3 hr1 hc1 hr2 hc2 h1 h2
      · exact impl_FillRegion.no1 _ _ _ A0_3 c0_3 l0_3 A1 c1 l1 A2 c2 l2 w hr0_3 hc0_3 hr1 hc1 hr2 hc2 h1
    refine hn.mono ?_
    rintro e w1 ⟨rfl, hb⟩
    exact ⟨_, rfl, Kd.R_nil _ _ _ _ _, hb⟩

end Go.Proofs.Ytbciflelcmmldaa.Print
