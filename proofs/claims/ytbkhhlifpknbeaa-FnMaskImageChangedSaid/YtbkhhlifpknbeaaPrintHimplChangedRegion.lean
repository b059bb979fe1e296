-- laid by hp.py (a program of this work over the kit's print), with contracts by hand for what the print does not take
import Derived.Test.YtbkhhlifpknbeaaPrint0
import Derived.Test.YtbkhhlifpknbeaaPrintHimplMaskImage
import Derived.Test.YtbkhhlifpknbeaaPrintHx0
import Derived.Test.YtbkhhlifpknbeaaPrintHx2
import Derived.Test.YtbkhhlifpknbeaaPrintR1x2
namespace Go.Proofs.Ytbkhhlifpknbeaa.Print
open Go.RowKit Go.Proofs.YtbkhhlifpknbeaaW.PrintWords Go.Proofs.YtbkhhlifpknbeaaW.PrintLast Go.Proofs.YtbkhhlifpknbeaaW.PrintMore
attribute [local go_sem] max2_int min2_int max_two min_two max_three min_three max_four min_four   -- for this text's walks alone
set_option linter.unusedVariables false
set_option linter.unusedSimpArgs false

--SNIP impl_ChangedRegion
/-! ### impl_ChangedRegion: function 9, by hand -/
/-- Two images differ at a pixel. -/
def diffB (W H p : Nat) (l q : List Int) (x y : Int) : Bool := decide (x < (W : Int)) && decide (y < (H : Int)) && !decide (pixN W p l x.toNat y.toNat = pixN W p q x.toNat y.toNat)
set_option maxHeartbeats 8000000 in
set_option maxRecDepth 100000 in
theorem impl_changed_1.deep (x y W H p : Nat) (h1 : x < W) (h2 : y < H) (A : Option Addr) (c : Nat) (l : List Int) (B : Option Addr) (d : Nat) (q : List Int) (b b' : Nat) (w : World) (hI : IsImg w b W H p (.slice A l.length c)) (hJ : IsImg w b' W H p (.slice B q.length d)) (hr : Kd.C (Kd.int .i64) w A l.length l) (hc : l.length ≤ c) (hrq : Kd.C (Kd.int .i64) w B q.length q) (hcq : q.length ≤ d) (hl : l.length = W * H * p) (hq : q.length = W * H * p) (hW : W ≤ 16) (hH : H ≤ 16) (hp : p ≤ 4) :
    Calls Try.prog 54 #[.int .i64 x, .int .i64 y, .pointer (some ⟨b, 0, none⟩), .pointer (some ⟨b', 0, none⟩)] w fun e w' => e = .returned (.bool (diffB W H p l q x y)) ∧ Below w.heap.size w w' := by
  have HAT : Aside0 (∀ w1 : World, Below w.heap.size w w1 → Calls Try.prog 28 #[.agg #[.int .i64 W, .int .i64 H, .int .i64 p, .slice A l.length c], .int .i64 x, .int .i64 y] w1 fun e w' => ∃ (A' : Option Addr) (c' : Nat), e = .returned (.slice A' (pixN W p l x y).length c') ∧ Kd.C (Kd.int .i64) w' A' (pixN W p l x y).length (pixN W p l x y) ∧ (pixN W p l x y).length ≤ c' ∧ Below w1.heap.size w1 w') := ⟨fun w1 hb => impl_Image_at.any W H p A c l x y w1 (Kd.C_below hr hb) hc hl hW hH hp h1 h2⟩
  have HBT : Aside0 (∀ w1 : World, Below w.heap.size w w1 → Calls Try.prog 28 #[.agg #[.int .i64 W, .int .i64 H, .int .i64 p, .slice B q.length d], .int .i64 x, .int .i64 y] w1 fun e w' => ∃ (A' : Option Addr) (c' : Nat), e = .returned (.slice A' (pixN W p q x y).length c') ∧ Kd.C (Kd.int .i64) w' A' (pixN W p q x y).length (pixN W p q x y) ∧ (pixN W p q x y).length ≤ c' ∧ Below w1.heap.size w1 w') := ⟨fun w1 hb => impl_Image_at.any W H p B d q x y w1 (Kd.C_below hrq hb) hcq hq hW hH hp h1 h2⟩
  have HL1 : Aside0 ((pixN W p l x y).length ≤ 9223372036854775807) := ⟨by rw [pixN_length h1 h2 hl]; omega⟩
  have HL2 : Aside0 ((pixN W p q x y).length ≤ 9223372036854775807) := ⟨by rw [pixN_length h1 h2 hq]; omega⟩
  have d1 : decide ((x : Int) < (W : Int)) = true := decide_eq_true (by omega)
  have d1' : decide (x < W) = true := decide_eq_true h1
  have d2 : decide ((y : Int) < (H : Int)) = true := decide_eq_true (by omega)
  have d2' : decide (y < H) = true := decide_eq_true h2
  have hu := Try.underlying25
  have HD : Aside0 (diffB W H p l q (x : Int) (y : Int) = (decide ((x : Int) < (W : Int)) && decide ((y : Int) < (H : Int)) && !decide (pixN W p l x y = pixN W p q x y))) := ⟨rfl⟩
  rw [HD.out]
  clear HD hr hc hrq hcq hl hq
  go_enter Try.func54, Try.ntmps54
  go_wp2_with fail
  have HI1 := Aside0.mk hI.drew
  have HJ1 := Aside0.mk hJ.drew
  have HB1 := Aside0.mk (below_drew (Below.refl w.heap.size w))
  refine start_ (n := 23) (S := fun w' => (w'.cell? ⟨b, 0, none⟩ = some (.int .i64 (W : Int)) ∧ w'.cell? ⟨b, 1, none⟩ = some (.int .i64 (H : Int)) ∧ w'.cell? ⟨b, 2, none⟩ = some (.int .i64 (p : Int)) ∧ w'.cell? ⟨b, 3, none⟩ = some (.slice A l.length c)) ∧ w'.cell? ⟨b', 0, none⟩ = some (.int .i64 (W : Int)) ∧ w'.cell? ⟨b', 1, none⟩ = some (.int .i64 (H : Int)) ∧ w'.cell? ⟨b', 2, none⟩ = some (.int .i64 (p : Int)) ∧ w'.cell? ⟨b', 3, none⟩ = some (.slice B q.length d)) (ds := []) #[false, false, false, false, false, false, false, false, false, false, false, false, false, false, false, false, false, false, false, false, false, false, false] (by kernel_rfl) rfl rfl ⟨⟨HI1.out.c0, HI1.out.c1, HI1.out.c2, HI1.out.c3⟩, HJ1.out.c0, HJ1.out.c1, HJ1.out.c2, HJ1.out.c3⟩ (fun hHeld => ?_)
  clear hI hJ
  generalize w.drew = w1 at HI1 HJ1 HB1 hHeld ⊢
  refine pure_ (i := 0) (N := some 7) (v := ?_) (a' := ?_) #[true, false, false, false, false, false, false, false, false, false, false, false, false, false, false, false, false, false, false, false, false, false, false] rfl rfl (by kernel_rfl) (fun _ _ _ h => h) (Or.inl ⟨by rfl, ?_⟩) ?_ ?_
  rotate_left
  · intro w'
    go_simp
    with_reducible rfl
  rotate_left
  · simp only [Act.put, List.setIfInBounds_toArray, List.set_cons_zero, List.set_cons_succ]
    rfl
  refine pure_ (i := 1) (N := some 8) (v := ?_) (a' := ?_) #[true, true, false, false, false, false, false, false, false, false, false, false, false, false, false, false, false, false, false, false, false, false, false] rfl rfl (by kernel_rfl) (fun _ _ _ h => h) (Or.inl ⟨by rfl, ?_⟩) ?_ ?_
  rotate_left
  · intro w'
    go_simp
    with_reducible rfl
  rotate_left
  · simp only [Act.put, List.setIfInBounds_toArray, List.set_cons_zero, List.set_cons_succ]
    rfl
  refine take_ (i := 2) (N := some 9) (v := ?_) (a' := ?_) #[true, true, true, false, false, false, false, false, false, false, false, false, false, false, false, false, false, false, false, false, false, false, false] rfl rfl (by kernel_rfl) (fun _ _ _ h => h) (Or.inl ⟨by rfl, ?_⟩) hHeld ?_ ?_
  rotate_left
  · rintro w' ⟨⟨s0, s1, s2, s3⟩, s4, s5, s6, s7⟩
    go_simp
    with_reducible rfl
  rotate_left
  · simp only [Act.put, List.setIfInBounds_toArray, List.set_cons_zero, List.set_cons_succ]
    rfl
  refine pure_ (i := 3) (N := some 10) (v := ?_) (a' := ?_) #[true, true, true, true, false, false, false, false, false, false, false, false, false, false, false, false, false, false, false, false, false, false, false] rfl rfl (by kernel_rfl) (fun _ _ _ h => h) (Or.inl ⟨by rfl, ?_⟩) ?_ ?_
  rotate_left
  · intro w'
    go_simp
    with_reducible rfl
  rotate_left
  · simp only [Act.put, List.setIfInBounds_toArray, List.set_cons_zero, List.set_cons_succ]
    rfl
  refine pure_ (i := 4) (N := some 11) (v := ?_) (a' := ?_) #[true, true, true, true, true, false, false, false, false, false, false, false, false, false, false, false, false, false, false, false, false, false, false] rfl rfl (by kernel_rfl) (fun _ _ _ h => h) (Or.inl ⟨by rfl, ?_⟩) ?_ ?_
  rotate_left
  · intro w'
    go_simp
    with_reducible rfl
  rotate_left
  · simp only [Act.put, List.setIfInBounds_toArray, List.set_cons_zero, List.set_cons_succ]
    rfl
  refine pure_ (i := 5) (N := some 12) (v := ?_) (a' := ?_) #[true, true, true, true, true, true, false, false, false, false, false, false, false, false, false, false, false, false, false, false, false, false, false] rfl rfl (by kernel_rfl) (fun _ _ _ h => h) (Or.inl ⟨by rfl, ?_⟩) ?_ ?_
  rotate_left
  · intro w'
    go_simp
    with_reducible rfl
  rotate_left
  · simp only [Act.put, List.setIfInBounds_toArray, List.set_cons_zero, List.set_cons_succ]
    rfl
  refine pure_ (i := 6) (N := some 13) (v := ?_) (a' := ?_) #[true, true, true, true, true, true, true, false, false, false, false, false, false, false, false, false, false, false, false, false, false, false, false] rfl rfl (by kernel_rfl) (fun _ _ _ h => h) (Or.inl ⟨by rfl, ?_⟩) ?_ ?_
  rotate_left
  · intro w'
    go_simp
    with_reducible rfl
  rotate_left
  · simp only [Act.put, List.setIfInBounds_toArray, List.set_cons_zero, List.set_cons_succ]
    rfl
  refine take_ (i := 7) (N := some 14) (v := ?_) (a' := ?_) #[true, true, true, true, true, true, true, true, false, false, false, false, false, false, false, false, false, false, false, false, false, false, false] rfl rfl (by kernel_rfl) (fun _ _ _ h => h) (Or.inl ⟨by rfl, ?_⟩) hHeld ?_ ?_
  rotate_left
  · rintro w' ⟨⟨s0, s1, s2, s3⟩, s4, s5, s6, s7⟩
    go_simp
    with_reducible rfl
  rotate_left
  · simp only [Act.put, List.setIfInBounds_toArray, List.set_cons_zero, List.set_cons_succ]
    rfl
  refine pure_ (i := 8) (N := some 15) (v := ?_) (a' := ?_) #[true, true, true, true, true, true, true, true, true, false, false, false, false, false, false, false, false, false, false, false, false, false, false] rfl rfl (by kernel_rfl) (fun _ _ _ h => h) (Or.inl ⟨by rfl, ?_⟩) ?_ ?_
  rotate_left
  · intro w'
    go_simp
    with_reducible rfl
  rotate_left
  · simp only [Act.put, List.setIfInBounds_toArray, List.set_cons_zero, List.set_cons_succ]
    rfl
  refine pure_ (i := 9) (N := some 16) (v := ?_) (a' := ?_) #[true, true, true, true, true, true, true, true, true, true, false, false, false, false, false, false, false, false, false, false, false, false, false] rfl rfl (by kernel_rfl) (fun _ _ _ h => h) (Or.inl ⟨by rfl, ?_⟩) ?_ ?_
  rotate_left
  · intro w'
    go_simp
    with_reducible rfl
  rotate_left
  · simp only [Act.put, List.setIfInBounds_toArray, List.set_cons_zero, List.set_cons_succ]
    rfl
  refine pure_ (i := 10) (N := some 17) (v := ?_) (a' := ?_) #[true, true, true, true, true, true, true, true, true, true, true, false, false, false, false, false, false, false, false, false, false, false, false] rfl rfl (by kernel_rfl) (fun _ _ _ h => h) (Or.inl ⟨by rfl, ?_⟩) ?_ ?_
  rotate_left
  · intro w'
    go_simp
    with_reducible rfl
  rotate_left
  · simp only [Act.put, List.setIfInBounds_toArray, List.set_cons_zero, List.set_cons_succ]
    rfl
  refine take_ (i := 11) (N := some 18) (v := ?_) (a' := ?_) #[true, true, true, true, true, true, true, true, true, true, true, true, false, false, false, false, false, false, false, false, false, false, false] rfl rfl (by kernel_rfl) (fun _ _ _ h => h) (Or.inl ⟨by rfl, ?_⟩) hHeld ?_ ?_
  rotate_left
  · rintro w' ⟨⟨s0, s1, s2, s3⟩, s4, s5, s6, s7⟩
    go_simp
    with_reducible rfl
  rotate_left
  · simp only [Act.put, List.setIfInBounds_toArray, List.set_cons_zero, List.set_cons_succ]
    rfl
  refine pure_ (i := 12) (N := some 19) (v := ?_) (a' := ?_) #[true, true, true, true, true, true, true, true, true, true, true, true, true, false, false, false, false, false, false, false, false, false, false] rfl rfl (by kernel_rfl) (fun _ _ _ h => h) (Or.inl ⟨by rfl, ?_⟩) ?_ ?_
  rotate_left
  · intro w'
    go_simp
    with_reducible rfl
  rotate_left
  · simp only [Act.put, List.setIfInBounds_toArray, List.set_cons_zero, List.set_cons_succ]
    rfl
  refine pure_ (i := 13) (N := some 20) (v := ?_) (a' := ?_) #[true, true, true, true, true, true, true, true, true, true, true, true, true, true, false, false, false, false, false, false, false, false, false] rfl rfl (by kernel_rfl) (fun _ _ _ h => h) (Or.inl ⟨by rfl, ?_⟩) ?_ ?_
  rotate_left
  · intro w'
    go_simp
    with_reducible rfl
  rotate_left
  · simp only [Act.put, List.setIfInBounds_toArray, List.set_cons_zero, List.set_cons_succ]
    rfl
  refine take_ (i := 15) (N := some 22) (v := ?_) (a' := ?_) #[true, true, true, true, true, true, true, true, true, true, true, true, true, true, false, true, false, false, false, false, false, false, false] rfl rfl (by kernel_rfl) (fun _ _ _ h => h) (Or.inl ⟨by rfl, ?_⟩) hHeld ?_ ?_
  rotate_left
  · rintro w' ⟨⟨s0, s1, s2, s3⟩, s4, s5, s6, s7⟩
    go_simp
    with_reducible rfl
  rotate_left
  · simp only [Act.put, List.setIfInBounds_toArray, List.set_cons_zero, List.set_cons_succ]
    rfl
  refine pure_ (i := 16) (N := some 23) (v := ?_) (a' := ?_) #[true, true, true, true, true, true, true, true, true, true, true, true, true, true, false, true, true, false, false, false, false, false, false] rfl rfl (by kernel_rfl) (fun _ _ _ h => h) (Or.inl ⟨by rfl, ?_⟩) ?_ ?_
  rotate_left
  · intro w'
    go_simp
    with_reducible rfl
  rotate_left
  · simp only [Act.put, List.setIfInBounds_toArray, List.set_cons_zero, List.set_cons_succ]
    rfl
  refine pure_ (i := 17) (N := some 24) (v := ?_) (a' := ?_) #[true, true, true, true, true, true, true, true, true, true, true, true, true, true, false, true, true, true, false, false, false, false, false] rfl rfl (by kernel_rfl) (fun _ _ _ h => h) (Or.inl ⟨by rfl, ?_⟩) ?_ ?_
  rotate_left
  · intro w'
    go_simp
    with_reducible rfl
  rotate_left
  · simp only [Act.put, List.setIfInBounds_toArray, List.set_cons_zero, List.set_cons_succ]
    rfl
  refine one_ (i := 14) (N := some 21) #[true, true, true, true, true, true, true, true, true, true, true, true, true, true, true, true, true, true, false, false, false, false, false] rfl rfl (by kernel_rfl) (by decide) (fun K' hK' => ?_)
  refine goes_ Try.func28 (by kernel_rfl) rfl #[.agg #[.int .i64 W, .int .i64 H, .int .i64 p, .slice A l.length c], .int .i64 x, .int .i64 y] (by rfl) rfl rfl (by simp only [List.map_toArray, List.map_cons, List.map_nil]; rfl) ?_
  refine (HAT.out _ HB1.out).mono ?_
  rintro e w2 ⟨A2, c2, rfl, hC2, hcap2, hb⟩
  refine ⟨_, rfl, ?_⟩
  have HI2 := Aside0.mk (HI1.out.below hb)
  have HJ2 := Aside0.mk (HJ1.out.below hb)
  have HB2 := Aside0.mk (below_step HB1.out hb)
  clear hb HI1 HJ1 HB1
  refine hK'.out _ _ ⟨⟨HI2.out.c0, HI2.out.c1, HI2.out.c2, HI2.out.c3⟩, HJ2.out.c0, HJ2.out.c1, HJ2.out.c2, HJ2.out.c3⟩ (fun hHeld => ?_)
  clear hK' K'
  refine norm_ (a' := ?_) ?_ ?_
  rotate_left
  · show Act.put _ (some 21) _ = _
    simp only [Act.put, List.setIfInBounds_toArray, List.set_cons_zero, List.set_cons_succ]
    rfl
  refine one_ (i := 18) (N := some 25) #[true, true, true, true, true, true, true, true, true, true, true, true, true, true, true, true, true, true, true, false, false, false, false] rfl rfl (by kernel_rfl) (by decide) (fun K' hK' => ?_)
  refine goes_ Try.func28 (by kernel_rfl) rfl #[.agg #[.int .i64 W, .int .i64 H, .int .i64 p, .slice B q.length d], .int .i64 x, .int .i64 y] (by rfl) rfl rfl (by simp only [List.map_toArray, List.map_cons, List.map_nil]; rfl) ?_
  refine (HBT.out _ HB2.out).mono ?_
  rintro e w3 ⟨A3, c3, rfl, hC3, hcap3, hb⟩
  refine ⟨_, rfl, ?_⟩
  have HI3 := Aside0.mk (HI2.out.below hb)
  have HJ3 := Aside0.mk (HJ2.out.below hb)
  have HB3 := Aside0.mk (below_step HB2.out hb)
  replace hC2 := Kd.C_below hC2 hb
  clear hb HI2 HJ2 HB2
  refine hK'.out _ _ ⟨⟨HI3.out.c0, HI3.out.c1, HI3.out.c2, HI3.out.c3⟩, HJ3.out.c0, HJ3.out.c1, HJ3.out.c2, HJ3.out.c3⟩ (fun hHeld => ?_)
  clear hK' K'
  refine norm_ (a' := ?_) ?_ ?_
  rotate_left
  · show Act.put _ (some 25) _ = _
    simp only [Act.put, List.setIfInBounds_toArray, List.set_cons_zero, List.set_cons_succ]
    rfl
  refine one_ (i := 19) (N := some 26) #[true, true, true, true, true, true, true, true, true, true, true, true, true, true, true, true, true, true, true, true, false, false, false] rfl rfl (by kernel_rfl) (by decide) (fun K' hK' => ?_)
  refine goes_ Try.func55 (by kernel_rfl) rfl #[.slice A2 (pixN W p l x y).length c2, .slice A3 (pixN W p q x y).length c3] (by rfl) rfl rfl (by simp only [List.map_toArray, List.map_cons, List.map_nil]; rfl) ?_
  refine (slices_Equal_int_int.any A2 c2 _ A3 c3 _ _ hC2 hC3 HL1.out HL2.out).mono ?_
  rintro e w4 ⟨rfl, hd⟩
  refine ⟨_, rfl, ?_⟩
  have hb := hd.below
  have HI4 := Aside0.mk (HI3.out.below hb)
  have HJ4 := Aside0.mk (HJ3.out.below hb)
  have HB4 := Aside0.mk (below_step HB3.out hb)
  clear hb hd HI3 HJ3 HB3
  refine hK'.out _ _ ⟨⟨HI4.out.c0, HI4.out.c1, HI4.out.c2, HI4.out.c3⟩, HJ4.out.c0, HJ4.out.c1, HJ4.out.c2, HJ4.out.c3⟩ (fun hHeld => ?_)
  clear hK' K'
  refine norm_ (a' := ?_) ?_ ?_
  rotate_left
  · show Act.put _ (some 26) _ = _
    simp only [Act.put, List.setIfInBounds_toArray, List.set_cons_zero, List.set_cons_succ]
    rfl
  refine pure_ (i := 20) (N := some 27) (v := ?_) (a' := ?_) #[true, true, true, true, true, true, true, true, true, true, true, true, true, true, true, true, true, true, true, true, true, false, false] rfl rfl (by kernel_rfl) (fun _ _ _ h => h) (Or.inl ⟨by rfl, ?_⟩) ?_ ?_
  rotate_left
  · intro w'
    go_simp
    with_reducible rfl
  rotate_left
  · simp only [Act.put, List.setIfInBounds_toArray, List.set_cons_zero, List.set_cons_succ]
    rfl
  refine pure_ (i := 21) (N := some 28) (v := ?_) (a' := ?_) #[true, true, true, true, true, true, true, true, true, true, true, true, true, true, true, true, true, true, true, true, true, true, false] rfl rfl (by kernel_rfl) (fun _ _ _ h => h) (Or.inl ⟨by rfl, ?_⟩) ?_ ?_
  rotate_left
  · intro w'
    go_simp
    with_reducible rfl
  rotate_left
  · simp only [Act.put, List.setIfInBounds_toArray, List.set_cons_zero, List.set_cons_succ]
    rfl
  refine pure_ (i := 22) (N := some 6) (v := ?_) (a' := ?_) #[true, true, true, true, true, true, true, true, true, true, true, true, true, true, true, true, true, true, true, true, true, true, true] rfl rfl (by kernel_rfl) (fun _ _ _ h => h) (Or.inl ⟨by rfl, ?_⟩) ?_ ?_
  rotate_left
  · intro w'
    go_simp
    with_reducible rfl
  rotate_left
  · simp only [Act.put, List.setIfInBounds_toArray, List.set_cons_zero, List.set_cons_succ]
    rfl
  refine done_ (by kernel_rfl) ?_
  go_wp2
  go_ret
  exact ⟨by rw [d1, d2]; rfl, HB4.out⟩
set_option maxHeartbeats 8000000 in
set_option maxRecDepth 100000 in
theorem impl_changed_1.any (x y : Nat) (hx : x < 16) (hy : y < 16) (W H p : Nat) (A : Option Addr) (c : Nat) (l : List Int) (B : Option Addr) (d : Nat) (q : List Int) (b b' : Nat) (w : World) (hI : IsImg w b W H p (.slice A l.length c)) (hJ : IsImg w b' W H p (.slice B q.length d)) (hr : Kd.C (Kd.int .i64) w A l.length l) (hc : l.length ≤ c) (hrq : Kd.C (Kd.int .i64) w B q.length q) (hcq : q.length ≤ d) (hl : l.length = W * H * p) (hq : q.length = W * H * p) (hW : W ≤ 16) (hH : H ≤ 16) (hp : p ≤ 4) :
    Calls Try.prog 54 #[.int .i64 x, .int .i64 y, .pointer (some ⟨b, 0, none⟩), .pointer (some ⟨b', 0, none⟩)] w fun e w' => e = .returned (.bool (diffB W H p l q x y)) ∧ Below w.heap.size w w' := by
  have hc0 := hI.c0
  have hc1 := hI.c1
  have hu := Try.underlying25
  by_cases h1 : x < W
  · have d1 : decide ((x : Int) < (W : Int)) = true := decide_eq_true (by omega)
    have d1' : decide (x < W) = true := decide_eq_true h1
    by_cases h2 : y < H
    · have d2 : decide ((y : Int) < (H : Int)) = true := decide_eq_true (by omega)
      have d2' : decide (y < H) = true := decide_eq_true h2
      exact impl_changed_1.deep x y W H p h1 h2 A c l B d q b b' w hI hJ hr hc hrq hcq hl hq hW hH hp
    · have d2 : decide ((y : Int) < (H : Int)) = false := decide_eq_false (by omega)
      have d2' : decide (y < H) = false := decide_eq_false h2
      clear hr hrq hl hq hI hJ
      go_enter Try.func54, Try.ntmps54
      go_wp2
      go_quiet (fail)
      go_wp2
      go_ret
      exact ⟨by unfold diffB; rw [d2]; simp, by repeat (first | exact Below.refl _ _ | apply pw_below_drewN | apply below_drew)⟩
  · have d1 : decide ((x : Int) < (W : Int)) = false := decide_eq_false (by omega)
    have d1' : decide (x < W) = false := decide_eq_false h1
    clear hr hrq hl hq hI hJ
    go_enter Try.func54, Try.ntmps54
    go_wp2
    go_quiet (fail)
    go_wp2
    go_ret
    exact ⟨by unfold diffB; rw [d1]; simp, by repeat (first | exact Below.refl _ _ | apply pw_below_drewN | apply below_drew)⟩
/-- Where two images differ. -/
def diffF (W H p : Nat) (l q : List Int) (i : Nat) : Bool := diffB W H p l q ((i % 16 : Nat) : Int) ((i / 16 : Nat) : Int)
def AlikeOk (a0 a1 a2 : Int) (l : List Int) (b0 b1 b2 : Int) (q : List Int) : Prop := ImgOk a0 a1 a2 l ∧ ImgOk b0 b1 b2 q ∧ a0 = b0 ∧ a1 = b1 ∧ a2 = b2
instance (a0 a1 a2 : Int) (l : List Int) (b0 b1 b2 : Int) (q : List Int) : Decidable (AlikeOk a0 a1 a2 l b0 b1 b2 q) := by unfold AlikeOk; exact inferInstance
def impl_ChangedRegion.f (a0_0 : Int) (a0_1 : Int) (a0_2 : Int) (l0_3 : List Int) (a1_0 : Int) (a1_1 : Int) (a1_2 : Int) (l1_3 : List Int) : Option (List S59) := if AlikeOk a0_0 a0_1 a0_2 l0_3 a1_0 a1_1 a1_2 l1_3 then some (runsL (diffF a0_0.toNat a0_1.toNat a0_2.toNat l0_3 l1_3)) else none
set_option maxHeartbeats 8000000 in
set_option maxRecDepth 100000 in
theorem impl_changed.any (W H p : Nat) (A : Option Addr) (c : Nat) (l : List Int) (B : Option Addr) (d : Nat) (q : List Int) (w : World) (hr : Kd.C (Kd.int .i64) w A l.length l) (hc : l.length ≤ c) (hrq : Kd.C (Kd.int .i64) w B q.length q) (hcq : q.length ≤ d) (hl : l.length = W * H * p) (hq : q.length = W * H * p) (hW : W ≤ 16) (hH : H ≤ 16) (hp : p ≤ 4) :
    Calls Try.prog 36 #[.agg #[.int .i64 W, .int .i64 H, .int .i64 p, .slice A l.length c], .agg #[.int .i64 W, .int .i64 H, .int .i64 p, .slice B q.length d]] w fun e w' => ∃ v0_ : Value, e = .returned v0_ ∧ Kd.R k59 59 w' w.heap.size (fun _ => True) v0_ (runsL (diffF W H p l q)) ∧ Below w.heap.size w w' := by
  have HB0 := Aside0.mk (allocs_below [.cells #[.int .i64 W, .int .i64 H, .int .i64 p, .slice A l.length c] 25, .cells #[.int .i64 W, .int .i64 H, .int .i64 p, .slice B q.length d] 25] w)
  have hI : IsImg (allocs w [.cells #[.int .i64 W, .int .i64 H, .int .i64 p, .slice A l.length c] 25, .cells #[.int .i64 W, .int .i64 H, .int .i64 p, .slice B q.length d] 25]) w.heap.size W H p (.slice A l.length c) := allocs_img _ w 0 _ _ _ _ rfl
  have hJ : IsImg (allocs w [.cells #[.int .i64 W, .int .i64 H, .int .i64 p, .slice A l.length c] 25, .cells #[.int .i64 W, .int .i64 H, .int .i64 p, .slice B q.length d] 25]) (w.heap.size + 1) W H p (.slice B q.length d) := allocs_img _ w 1 _ _ _ _ rfl
  have HC := Aside0.mk (impl_gridBy.any 54 _ #[.pointer (some ⟨w.heap.size, 0, none⟩), .pointer (some ⟨w.heap.size + 1, 0, none⟩)] (diffB W H p l q) Try.func54 (by kernel_rfl) rfl (allocs w [.cells #[.int .i64 W, .int .i64 H, .int .i64 p, .slice A l.length c] 25, .cells #[.int .i64 W, .int .i64 H, .int .i64 p, .slice B q.length d] 25])
    (fun x y w' hx hy hb => impl_changed_1.any x y hx hy W H p A c l B d q _ _ w' (hI.below hb) (hJ.below hb) (Kd.C_below hr (below_step HB0.out hb)) hc (Kd.C_below hrq (below_step HB0.out hb)) hcq hl hq hW hH hp))
  have hu := Try.underlying25
  clear hr hc hrq hcq hl hq hI hJ
  go_enter Try.func36, Try.ntmps36
  go_wp2_with (first | (go_at_call 53; refine HC.out.mono ?_; rintro e w1 ⟨rfl, hb1⟩; have HB1 := Aside0.mk (below_step HB0.out hb1); clear hb1) | (go_at_call 56; refine (impl_grid_runs.any _ _).mono ?_; rintro e w2 ⟨v0, rfl, ho, hb2⟩; have HO := Aside0.mk (Kd.R_lower ho (below_size HB1.out)); have HB2 := Aside0.mk (below_step HB1.out hb2); clear hb2 ho))
  go_ret
  exact ⟨_, rfl, HO.out, HB2.out⟩
set_option maxHeartbeats 8000000 in
set_option maxRecDepth 100000 in
theorem impl_ChangedRegion.yes (W H p : Nat) (A : Option Addr) (c : Nat) (l : List Int) (B : Option Addr) (d : Nat) (q : List Int) (w : World) (hr : Kd.C (Kd.int .i64) w A l.length l) (hc : l.length ≤ c) (hrq : Kd.C (Kd.int .i64) w B q.length q) (hcq : q.length ≤ d) (hl : l.length = W * H * p) (hq : q.length = W * H * p) (hW : W ≤ 16) (hH : H ≤ 16) (hp : p ≤ 4) (h : ImgOk W H p l) (hj : ImgOk W H p q) :
    Calls Try.prog 9 #[.agg #[.int .i64 W, .int .i64 H, .int .i64 p, .slice A l.length c], .agg #[.int .i64 W, .int .i64 H, .int .i64 p, .slice B q.length d]] w fun e w' => ∃ v0_ : Value, e = .returned v0_ ∧ Kd.R k59 59 w' w.heap.size (fun _ => True) v0_ (runsL (diffF W H p l q)) ∧ Below w.heap.size w w' := by
  have HV : Aside0 (∀ W' : World, Below w.heap.size w W' → Calls Try.prog 22 #[.agg #[.int .i64 W, .int .i64 H, .int .i64 p, .slice A l.length c]] W' fun e w' => e = .returned (.bool true) ∧ Below W'.heap.size W' w') := ⟨fun W' hW => isImage_true h A c W' (Kd.C_below hr hW) hc⟩
  have HU : Aside0 (∀ W' : World, Below w.heap.size w W' → Calls Try.prog 22 #[.agg #[.int .i64 W, .int .i64 H, .int .i64 p, .slice B q.length d]] W' fun e w' => e = .returned (.bool true) ∧ Below W'.heap.size W' w') := ⟨fun W' hW => isImage_true hj B d W' (Kd.C_below hrq hW) hcq⟩
  have HL : Aside0 (∀ W' : World, Below w.heap.size w W' → Calls Try.prog 23 #[.agg #[.int .i64 W, .int .i64 H, .int .i64 p, .slice A l.length c], .agg #[.int .i64 W, .int .i64 H, .int .i64 p, .slice B q.length d]] W' fun e w' => e = .returned (.bool true) ∧ Below W'.heap.size W' w') := ⟨fun W' hW => impl_alikeImages.calls W H p A c l W H p B d q true W' (Kd.C_below hr hW) hc (Kd.C_below hrq hW) hcq (by rw [impl_alikeImages.eq, decide_eq_true ⟨rfl, rfl, rfl⟩])⟩
  have HCH : Aside0 (∀ W' : World, Below w.heap.size w W' → Calls Try.prog 36 #[.agg #[.int .i64 W, .int .i64 H, .int .i64 p, .slice A l.length c], .agg #[.int .i64 W, .int .i64 H, .int .i64 p, .slice B q.length d]] W' fun e w' => ∃ v0_ : Value, e = .returned v0_ ∧ Kd.R k59 59 w' W'.heap.size (fun _ => True) v0_ (runsL (diffF W H p l q)) ∧ Below W'.heap.size W' w') := ⟨fun W' hW_ => impl_changed.any W H p A c l B d q W' (Kd.C_below hr hW_) hc (Kd.C_below hrq hW_) hcq hl hq hW hH hp⟩
  have HB0 := Aside0.mk (allocs_below [.cells #[.int .i64 W, .int .i64 H, .int .i64 p, .slice A l.length c] 25, .cells #[.int .i64 W, .int .i64 H, .int .i64 p, .slice B q.length d] 25] w)
  have HI0 : Aside0 (IsImg (allocs w [.cells #[.int .i64 W, .int .i64 H, .int .i64 p, .slice A l.length c] 25, .cells #[.int .i64 W, .int .i64 H, .int .i64 p, .slice B q.length d] 25]) w.heap.size W H p (.slice A l.length c)) := ⟨allocs_img _ w 0 _ _ _ _ rfl⟩
  have HJ0 : Aside0 (IsImg (allocs w [.cells #[.int .i64 W, .int .i64 H, .int .i64 p, .slice A l.length c] 25, .cells #[.int .i64 W, .int .i64 H, .int .i64 p, .slice B q.length d] 25]) (w.heap.size + 1) W H p (.slice B q.length d)) := ⟨allocs_img _ w 1 _ _ _ _ rfl⟩
  have hu := Try.underlying25
  clear hr hc hrq hcq hl hq h hj hW hH hp
  go_enter Try.func9, Try.ntmps9
  go_wp2_with (first
    | (refine wpList_load_img rfl _ rfl w.heap.size W H p _ rfl HI0.out ?_)
    | (refine gate_guard (by rfl) ?_; dsimp only; refine wpList_load_img rfl _ rfl w.heap.size W H p _ rfl HI0.out ?_)
    | (refine wpList_load_img rfl _ rfl (w.heap.size + 1) W H p _ rfl HJ0.out ?_)
    | (refine gate_guard (by rfl) ?_; dsimp only; refine wpList_load_img rfl _ rfl (w.heap.size + 1) W H p _ rfl HJ0.out ?_)
    | (go_at_call_of 22 (Value.agg #[.int .i64 W, .int .i64 H, .int .i64 p, .slice A l.length c]); refine (HV.out _ HB0.out).mono ?_; rintro e w1 ⟨rfl, hb⟩; have HI1 := Aside0.mk (HI0.out.below hb); have HJ1 := Aside0.mk (HJ0.out.below hb); have HB1 := Aside0.mk (below_step HB0.out hb); clear hb)
    | (refine wpList_load_img rfl _ rfl w.heap.size W H p _ rfl HI1.out ?_)
    | (refine gate_guard (by rfl) ?_; dsimp only; refine wpList_load_img rfl _ rfl w.heap.size W H p _ rfl HI1.out ?_)
    | (refine wpList_load_img rfl _ rfl (w.heap.size + 1) W H p _ rfl HJ1.out ?_)
    | (refine gate_guard (by rfl) ?_; dsimp only; refine wpList_load_img rfl _ rfl (w.heap.size + 1) W H p _ rfl HJ1.out ?_)
    | (go_at_call_of 22 (Value.agg #[.int .i64 W, .int .i64 H, .int .i64 p, .slice B q.length d]); refine (HU.out _ HB1.out).mono ?_; rintro e w2 ⟨rfl, hb⟩; have HI2 := Aside0.mk (HI1.out.below hb); have HJ2 := Aside0.mk (HJ1.out.below hb); have HB2 := Aside0.mk (below_step HB1.out hb); clear hb)
    | (refine wpList_load_img rfl _ rfl w.heap.size W H p _ rfl HI2.out ?_)
    | (refine gate_guard (by rfl) ?_; dsimp only; refine wpList_load_img rfl _ rfl w.heap.size W H p _ rfl HI2.out ?_)
    | (refine wpList_load_img rfl _ rfl (w.heap.size + 1) W H p _ rfl HJ2.out ?_)
    | (refine gate_guard (by rfl) ?_; dsimp only; refine wpList_load_img rfl _ rfl (w.heap.size + 1) W H p _ rfl HJ2.out ?_)
    | (go_at_call 23; refine (HL.out _ HB2.out).mono ?_; rintro e w3 ⟨rfl, hb⟩; have HI3 := Aside0.mk (HI2.out.below hb); have HJ3 := Aside0.mk (HJ2.out.below hb); have HB3 := Aside0.mk (below_step HB2.out hb); clear hb)
    | (refine wpList_load_img rfl _ rfl w.heap.size W H p _ rfl HI3.out ?_)
    | (refine gate_guard (by rfl) ?_; dsimp only; refine wpList_load_img rfl _ rfl w.heap.size W H p _ rfl HI3.out ?_)
    | (refine wpList_load_img rfl _ rfl (w.heap.size + 1) W H p _ rfl HJ3.out ?_)
    | (refine gate_guard (by rfl) ?_; dsimp only; refine wpList_load_img rfl _ rfl (w.heap.size + 1) W H p _ rfl HJ3.out ?_)
    | (go_at_call 36; refine (HCH.out _ HB3.out).mono ?_; rintro e w4 ⟨v0, rfl, ho, hb⟩; have HO := Aside0.mk (Kd.R_lower ho (below_size HB3.out)); have HB4 := Aside0.mk (below_step HB3.out hb); clear hb ho))
  go_ret
  exact ⟨_, rfl, HO.out, HB4.out⟩
theorem impl_ChangedRegion.calls (a0_0 : Int) (a0_1 : Int) (a0_2 : Int) (A0_3 : Option Addr) (c0_3 : Nat) (l0_3 : List Int) (a1_0 : Int) (a1_1 : Int) (a1_2 : Int) (A1_3 : Option Addr) (c1_3 : Nat) (l1_3 : List Int) (r : List S59) (w : World) (hr0_3 : Kd.C (Kd.int .i64) w A0_3 l0_3.length l0_3) (hc0_3 : l0_3.length ≤ c0_3) (hr1_3 : Kd.C (Kd.int .i64) w A1_3 l1_3.length l1_3) (hc1_3 : l1_3.length ≤ c1_3) (h : impl_ChangedRegion.f a0_0 a0_1 a0_2 l0_3 a1_0 a1_1 a1_2 l1_3 = some r) :
    Calls Try.prog 9 #[.agg #[.int .i64 a0_0, .int .i64 a0_1, .int .i64 a0_2, .slice A0_3 l0_3.length c0_3], .agg #[.int .i64 a1_0, .int .i64 a1_1, .int .i64 a1_2, .slice A1_3 l1_3.length c1_3]] w fun e w' => ∃ v0_ : Value, e = .returned v0_ ∧ Kd.R k59 59 w' w.heap.size (fun _ => True) v0_ r ∧ Below w.heap.size w w' := by
  unfold impl_ChangedRegion.f at h
  by_cases hk : AlikeOk a0_0 a0_1 a0_2 l0_3 a1_0 a1_1 a1_2 l1_3
  · rw [if_pos hk] at h
    obtain rfl := Option.some.inj h
    obtain ⟨hi, hj, rfl, rfl, rfl⟩ := hk
    have hq2 := hj.2.2.2.1
    obtain ⟨W, H, p, rfl, rfl, rfl, hl, b1, b2, b3, b4, b5, b6⟩ := hi.nats
    have hqq : l1_3.length = W * H * p := by
      have e : ((W * H * p : Nat) : Int) = (W : Int) * (H : Int) * (p : Int) := by push_cast; rfl
      omega
    simp only [Int.toNat_natCast]
    exact impl_ChangedRegion.yes W H p A0_3 c0_3 l0_3 A1_3 c1_3 l1_3 w hr0_3 hc0_3 hr1_3 hc1_3 hl hqq b4 b5 b6 hi hj
  · rw [if_neg hk] at h
    cases h

end Go.Proofs.Ytbkhhlifpknbeaa.Print
