-- laid by hp.py (a program of this work over the kit's print), with contracts by hand for what the print does not take
import Derived.Test.YtbciflelcmmldaaPrint0
import Derived.Test.YtbciflelcmmldaaPrintHx0
import Derived.Test.YtbciflelcmmldaaPrintHx2
namespace Go.Proofs.Ytbciflelcmmldaa.Print
open Go.RowKit Go.Proofs.YtbciflelcmmldaaW.PrintWords Go.Proofs.YtbciflelcmmldaaW.PrintLast Go.Proofs.YtbciflelcmmldaaW.PrintMore
attribute [local go_sem] max2_int min2_int max_two min_two max_three min_three max_four min_four   -- for this text's walks alone
set_option linter.unusedVariables false
set_option linter.unusedSimpArgs false

--SNIP impl_PixelAt
/-! ### impl_PixelAt: function 33, by hand -/
def PixOk (a0 a1 a2 : Int) (l : List Int) (x y : Int) : Prop := ImgOk a0 a1 a2 l ∧ 0 ≤ x ∧ x < a0 ∧ 0 ≤ y ∧ y < a1
instance (a0 a1 a2 : Int) (l : List Int) (x y : Int) : Decidable (PixOk a0 a1 a2 l x y) := by unfold PixOk; exact inferInstance
def impl_PixelAt.f (a0_0 : Int) (a0_1 : Int) (a0_2 : Int) (l0_3 : List Int) (a1 : Int) (a2 : Int) : Option (List Int) := some (if PixOk a0_0 a0_1 a0_2 l0_3 a1 a2 then pixN a0_0.toNat a0_2.toNat l0_3 a1.toNat a2.toNat else [])
set_option maxHeartbeats 8000000 in
set_option maxRecDepth 100000 in
theorem impl_PixelAt.no0 (a0 a1 a2 : Int) (A : Option Addr) (c : Nat) (l : List Int) (x y : Int) (w : World) (hr : Kd.C (Kd.int .i64) w A l.length l) (hc : l.length ≤ c) (h : ¬ ImgOk a0 a1 a2 l) :
    Calls Try.prog 33 #[.agg #[.int .i64 a0, .int .i64 a1, .int .i64 a2, .slice A l.length c], .int .i64 x, .int .i64 y] w fun e w' => e = .returned (.slice none 0 0) ∧ Below w.heap.size w w' := by
  have HV : Aside0 (∀ W' : World, Below w.heap.size w W' → Calls Try.prog 59 #[.agg #[.int .i64 a0, .int .i64 a1, .int .i64 a2, .slice A l.length c]] W' fun e w' => e = .returned (.bool false) ∧ Below W'.heap.size W' w') := ⟨fun W' hW => isImage_false h A c W' (Kd.C_below hr hW) hc⟩
  have HI0 := Aside0.mk (IsImg.new w a0 a1 a2 (.slice A l.length c))
  have HB0 := Aside0.mk (below_alloc (Below.refl w.heap.size w) (.cells #[.int .i64 a0, .int .i64 a1, .int .i64 a2, .slice A l.length c] 25))
  have hu := Try.underlying25
  clear hr hc h 
  go_enter Try.func33, Try.ntmps33
  go_wp2_with (first
    | (refine wpList_load_img rfl _ rfl w.heap.size a0 a1 a2 _ rfl HI0.out ?_)
    | (go_at_call 59; refine (HV.out _ HB0.out).mono ?_; rintro e w1 ⟨rfl, hb⟩; have HI1 := Aside0.mk (HI0.out.below hb); have hc0_1 := HI1.out.c0; have hc1_1 := HI1.out.c1; have HB1 := Aside0.mk (below_step HB0.out hb); clear hb))
  go_ret
  exact ⟨rfl, HB1.out⟩
set_option maxHeartbeats 8000000 in
set_option maxRecDepth 100000 in
theorem impl_PixelAt.no1 (a0 a1 a2 : Int) (A : Option Addr) (c : Nat) (l : List Int) (x y : Int) (w : World) (hr : Kd.C (Kd.int .i64) w A l.length l) (hc : l.length ≤ c) (h : ImgOk a0 a1 a2 l)  (g0 : x < 0) :
    Calls Try.prog 33 #[.agg #[.int .i64 a0, .int .i64 a1, .int .i64 a2, .slice A l.length c], .int .i64 x, .int .i64 y] w fun e w' => e = .returned (.slice none 0 0) ∧ Below w.heap.size w w' := by
  have HV : Aside0 (∀ W' : World, Below w.heap.size w W' → Calls Try.prog 59 #[.agg #[.int .i64 a0, .int .i64 a1, .int .i64 a2, .slice A l.length c]] W' fun e w' => e = .returned (.bool true) ∧ Below W'.heap.size W' w') := ⟨fun W' hW => isImage_true h A c W' (Kd.C_below hr hW) hc⟩
  have HI0 := Aside0.mk (IsImg.new w a0 a1 a2 (.slice A l.length c))
  have HB0 := Aside0.mk (below_alloc (Below.refl w.heap.size w) (.cells #[.int .i64 a0, .int .i64 a1, .int .i64 a2, .slice A l.length c] 25))
  have hu := Try.underlying25
  have d0 := decide_eq_true g0
  clear hr hc h g0
  go_enter Try.func33, Try.ntmps33
  go_wp2_with (first
    | (refine wpList_load_img rfl _ rfl w.heap.size a0 a1 a2 _ rfl HI0.out ?_)
    | (go_at_call 59; refine (HV.out _ HB0.out).mono ?_; rintro e w1 ⟨rfl, hb⟩; have HI1 := Aside0.mk (HI0.out.below hb); have hc0_1 := HI1.out.c0; have hc1_1 := HI1.out.c1; have HB1 := Aside0.mk (below_step HB0.out hb); clear hb))
  go_ret
  exact ⟨rfl, HB1.out⟩
set_option maxHeartbeats 8000000 in
set_option maxRecDepth 100000 in
theorem impl_PixelAt.no2 (a0 a1 a2 : Int) (A : Option Addr) (c : Nat) (l : List Int) (x y : Int) (w : World) (hr : Kd.C (Kd.int .i64) w A l.length l) (hc : l.length ≤ c) (h : ImgOk a0 a1 a2 l) (g0 : ¬ x < 0) (g1 : a0 ≤ x) :
    Calls Try.prog 33 #[.agg #[.int .i64 a0, .int .i64 a1, .int .i64 a2, .slice A l.length c], .int .i64 x, .int .i64 y] w fun e w' => e = .returned (.slice none 0 0) ∧ Below w.heap.size w w' := by
  have HV : Aside0 (∀ W' : World, Below w.heap.size w W' → Calls Try.prog 59 #[.agg #[.int .i64 a0, .int .i64 a1, .int .i64 a2, .slice A l.length c]] W' fun e w' => e = .returned (.bool true) ∧ Below W'.heap.size W' w') := ⟨fun W' hW => isImage_true h A c W' (Kd.C_below hr hW) hc⟩
  have HI0 := Aside0.mk (IsImg.new w a0 a1 a2 (.slice A l.length c))
  have HB0 := Aside0.mk (below_alloc (Below.refl w.heap.size w) (.cells #[.int .i64 a0, .int .i64 a1, .int .i64 a2, .slice A l.length c] 25))
  have hu := Try.underlying25
  have d0 := decide_eq_false g0
  have d1 := decide_eq_true g1
  clear hr hc h g0 g1
  go_enter Try.func33, Try.ntmps33
  go_wp2_with (first
    | (refine wpList_load_img rfl _ rfl w.heap.size a0 a1 a2 _ rfl HI0.out ?_)
    | (go_at_call 59; refine (HV.out _ HB0.out).mono ?_; rintro e w1 ⟨rfl, hb⟩; have HI1 := Aside0.mk (HI0.out.below hb); have hc0_1 := HI1.out.c0; have hc1_1 := HI1.out.c1; have HB1 := Aside0.mk (below_step HB0.out hb); clear hb))
  go_ret
  exact ⟨rfl, HB1.out⟩
set_option maxHeartbeats 8000000 in
set_option maxRecDepth 100000 in
theorem impl_PixelAt.no3 (a0 a1 a2 : Int) (A : Option Addr) (c : Nat) (l : List Int) (x y : Int) (w : World) (hr : Kd.C (Kd.int .i64) w A l.length l) (hc : l.length ≤ c) (h : ImgOk a0 a1 a2 l) (g0 : ¬ x < 0) (g1 : ¬ a0 ≤ x) (g2 : y < 0) :
    Calls Try.prog 33 #[.agg #[.int .i64 a0, .int .i64 a1, .int .i64 a2, .slice A l.length c], .int .i64 x, .int .i64 y] w fun e w' => e = .returned (.slice none 0 0) ∧ Below w.heap.size w w' := by
  have HV : Aside0 (∀ W' : World, Below w.heap.size w W' → Calls Try.prog 59 #[.agg #[.int .i64 a0, .int .i64 a1, .int .i64 a2, .slice A l.length c]] W' fun e w' => e = .returned (.bool true) ∧ Below W'.heap.size W' w') := ⟨fun W' hW => isImage_true h A c W' (Kd.C_below hr hW) hc⟩
  have HI0 := Aside0.mk (IsImg.new w a0 a1 a2 (.slice A l.length c))
  have HB0 := Aside0.mk (below_alloc (Below.refl w.heap.size w) (.cells #[.int .i64 a0, .int .i64 a1, .int .i64 a2, .slice A l.length c] 25))
  have hu := Try.underlying25
  have d0 := decide_eq_false g0
  have d1 := decide_eq_false g1
  have d2 := decide_eq_true g2
  clear hr hc h g0 g1 g2
  go_enter Try.func33, Try.ntmps33
  go_wp2_with (first
    | (refine wpList_load_img rfl _ rfl w.heap.size a0 a1 a2 _ rfl HI0.out ?_)
    | (go_at_call 59; refine (HV.out _ HB0.out).mono ?_; rintro e w1 ⟨rfl, hb⟩; have HI1 := Aside0.mk (HI0.out.below hb); have hc0_1 := HI1.out.c0; have hc1_1 := HI1.out.c1; have HB1 := Aside0.mk (below_step HB0.out hb); clear hb))
  go_ret
  exact ⟨rfl, HB1.out⟩
set_option maxHeartbeats 8000000 in
set_option maxRecDepth 100000 in
theorem impl_PixelAt.no4 (a0 a1 a2 : Int) (A : Option Addr) (c : Nat) (l : List Int) (x y : Int) (w : World) (hr : Kd.C (Kd.int .i64) w A l.length l) (hc : l.length ≤ c) (h : ImgOk a0 a1 a2 l) (g0 : ¬ x < 0) (g1 : ¬ a0 ≤ x) (g2 : ¬ y < 0) (g3 : a1 ≤ y) :
    Calls Try.prog 33 #[.agg #[.int .i64 a0, .int .i64 a1, .int .i64 a2, .slice A l.length c], .int .i64 x, .int .i64 y] w fun e w' => e = .returned (.slice none 0 0) ∧ Below w.heap.size w w' := by
  have HV : Aside0 (∀ W' : World, Below w.heap.size w W' → Calls Try.prog 59 #[.agg #[.int .i64 a0, .int .i64 a1, .int .i64 a2, .slice A l.length c]] W' fun e w' => e = .returned (.bool true) ∧ Below W'.heap.size W' w') := ⟨fun W' hW => isImage_true h A c W' (Kd.C_below hr hW) hc⟩
  have HI0 := Aside0.mk (IsImg.new w a0 a1 a2 (.slice A l.length c))
  have HB0 := Aside0.mk (below_alloc (Below.refl w.heap.size w) (.cells #[.int .i64 a0, .int .i64 a1, .int .i64 a2, .slice A l.length c] 25))
  have hu := Try.underlying25
  have d0 := decide_eq_false g0
  have d1 := decide_eq_false g1
  have d2 := decide_eq_false g2
  have d3 := decide_eq_true g3
  clear hr hc h g0 g1 g2 g3
  go_enter Try.func33, Try.ntmps33
  go_wp2_with (first
    | (refine wpList_load_img rfl _ rfl w.heap.size a0 a1 a2 _ rfl HI0.out ?_)
    | (go_at_call 59; refine (HV.out _ HB0.out).mono ?_; rintro e w1 ⟨rfl, hb⟩; have HI1 := Aside0.mk (HI0.out.below hb); have hc0_1 := HI1.out.c0; have hc1_1 := HI1.out.c1; have HB1 := Aside0.mk (below_step HB0.out hb); clear hb))
  go_ret
  exact ⟨rfl, HB1.out⟩
set_option maxHeartbeats 8000000 in
set_option maxRecDepth 100000 in
theorem impl_PixelAt.yes (W H p : Nat) (A : Option Addr) (c : Nat) (l : List Int) (x y : Nat) (w : World) (hr : Kd.C (Kd.int .i64) w A l.length l) (hc : l.length ≤ c) (h : ImgOk W H p l) (hl : l.length = W * H * p) (hW1 : W ≤ 16) (hH1 : H ≤ 16) (hp1 : p ≤ 4) (hx : x < W) (hy : y < H) :
    Calls Try.prog 33 #[.agg #[.int .i64 W, .int .i64 H, .int .i64 p, .slice A l.length c], .int .i64 x, .int .i64 y] w fun e w' => ∃ v0_ : Value, e = .returned v0_ ∧ Kd.R (Kd.int .i64) 3 w' w.heap.size (fun _ => True) v0_ (pixN W p l x y) ∧ Below w.heap.size w w' := by
  have HV : Aside0 (∀ W' : World, Below w.heap.size w W' → Calls Try.prog 59 #[.agg #[.int .i64 W, .int .i64 H, .int .i64 p, .slice A l.length c]] W' fun e w' => e = .returned (.bool true) ∧ Below W'.heap.size W' w') := ⟨fun W' hW => isImage_true h A c W' (Kd.C_below hr hW) hc⟩
  have HI0 := Aside0.mk (IsImg.new w W H p (.slice A l.length c))
  have HB0 := Aside0.mk (below_alloc (Below.refl w.heap.size w) (.cells #[.int .i64 W, .int .i64 H, .int .i64 p, .slice A l.length c] 25))
  have hu := Try.underlying25
  have HAT : Aside0 (∀ (w1 : World), Below w.heap.size w w1 → Calls Try.prog 65 #[.agg #[.int .i64 W, .int .i64 H, .int .i64 p, .slice A l.length c], .int .i64 x, .int .i64 y] w1 fun e w' => ∃ (A' : Option Addr) (c' : Nat), e = .returned (.slice A' (pixN W p l x y).length c') ∧ Kd.C (Kd.int .i64) w' A' (pixN W p l x y).length (pixN W p l x y) ∧ (pixN W p l x y).length ≤ c' ∧ Below w1.heap.size w1 w') := ⟨fun w1 hb => impl_Image_at.any W H p A c l x y w1 (Kd.C_below hr hb) hc hl hW1 hH1 hp1 hx hy⟩
  have HL := Aside0.mk (pixN_length hx hy hl)
  have d0 : decide ((x : Int) < 0) = false := decide_eq_false (by omega)
  have d1 : decide ((W : Int) ≤ (x : Int)) = false := decide_eq_false (by omega)
  have d1' : decide (W ≤ x) = false := decide_eq_false (by omega)
  have d2 : decide ((y : Int) < 0) = false := decide_eq_false (by omega)
  have d3 : decide ((H : Int) ≤ (y : Int)) = false := decide_eq_false (by omega)
  have d3' : decide (H ≤ y) = false := decide_eq_false (by omega)
  clear hr hc h hl hx hy
  go_enter Try.func33, Try.ntmps33
  go_wp2_with (first
    | (refine wpList_load_img rfl _ rfl w.heap.size W H p _ rfl HI0.out ?_)
    | (go_at_call 59; refine (HV.out _ HB0.out).mono ?_; rintro e w1 ⟨rfl, hb⟩; have HI1 := Aside0.mk (HI0.out.below hb); have hc0_1 := HI1.out.c0; have hc1_1 := HI1.out.c1; have HB1 := Aside0.mk (below_step HB0.out hb); clear hb)
    | ((with_reducible refine gate_dst (N := 30) rfl ?_); refine Kd.R_lit (Kd.int .i64) _ 3 ?hg (N := 30) ?hd (xs := ([] : List Int)) (inner := []) (ok := fun _ => True) (okp := fun _ => True) ?hr ?hp (fun _ hk => hk) trivial (Below.refl _ _) (Nat.le_refl _) (by simp) ?_; (case hd => rfl); (case hg => rfl); (case hr => first | (go_simp; done) | (go_simp; rfl)); (case hp => exact (Reps.none _ _)); intro v2 w2 ho hb hg_ hnew_; clear hg_ hnew_; have HI2 := Aside0.mk (HI1.out.below hb); have HO2 := Aside0.mk (Kd.R_lower ho (below_size HB1.out)); have HB2 := Aside0.mk (below_step HB1.out hb); clear hb ho)
    | (refine wpList_load_img rfl _ rfl w.heap.size W H p _ rfl HI2.out ?_)
    | (go_at_call 65; refine (HAT.out _ HB2.out).mono ?_; rintro e w3 ⟨A3, c3, rfl, hC3, hcap3, hb3⟩; have HO3 := Aside0.mk (Kd.R_below HO2.out hb3); have HB3 := Aside0.mk (below_step HB2.out hb3); have HC3 := Aside0.mk hC3; clear hb3 hC3 hcap3)
    | (at_builtin; refine Kd.R_append_rows (Kd.int .i64) (w0 := w) w.heap.size rfl (.tmp 30) (.tmp 34) 23 3 (.int .i64 0) 8 rfl Try.underlying23 info3 rfl (by decide) (by omega) v2 [] (pixN W p l x y) A3 _ c3 (fun _ => True) (fun _ => False) rfl rfl HO3.out HC3.out (fun _ _ h => h) (fun _ h => h.elim) (fun _ _ => trivial) HB3.out (below_size HB3.out) ?aL ?_; (case aL => rw [HL.out]; simp only [List.length_nil]; omega); intro v4 w4 ho hb hg hat; have HO4 := Aside0.mk ho; have HB4 := Aside0.mk hb; clear ho hb hg hat))
  go_ret
  exact ⟨_, rfl, HO4.out, HB4.out⟩
theorem impl_PixelAt.calls (a0_0 : Int) (a0_1 : Int) (a0_2 : Int) (A0_3 : Option Addr) (c0_3 : Nat) (l0_3 : List Int) (a1 : Int) (a2 : Int) (r : List Int) (w : World) (hr0_3 : Kd.C (Kd.int .i64) w A0_3 l0_3.length l0_3) (hc0_3 : l0_3.length ≤ c0_3) (h : impl_PixelAt.f a0_0 a0_1 a0_2 l0_3 a1 a2 = some r) :
    Calls Try.prog 33 #[.agg #[.int .i64 a0_0, .int .i64 a0_1, .int .i64 a0_2, .slice A0_3 l0_3.length c0_3], .int .i64 a1, .int .i64 a2] w fun e w' => ∃ v0_ : Value, e = .returned v0_ ∧ Kd.R (Kd.int .i64) 3 w' w.heap.size (fun _ => True) v0_ r ∧ Below w.heap.size w w' := by
  unfold impl_PixelAt.f at h
  by_cases hk : PixOk a0_0 a0_1 a0_2 l0_3 a1 a2
  · rw [if_pos hk] at h
    obtain rfl := Option.some.inj h
    obtain ⟨hi, g0, g1, g2, g3⟩ := hk
    obtain ⟨W, H, p, rfl, rfl, rfl, hl, b1, b2, b3, b4, b5, b6⟩ := hi.nats
    obtain ⟨x, rfl⟩ := Int.eq_ofNat_of_zero_le g0
    obtain ⟨y, rfl⟩ := Int.eq_ofNat_of_zero_le g2
    exact impl_PixelAt.yes W H p A0_3 c0_3 l0_3 x y w hr0_3 hc0_3 hi hl b4 b5 b6 (by omega) (by omega)
  · rw [if_neg hk] at h
    obtain rfl := Option.some.inj h
    have hn : Calls Try.prog 33 #[.agg #[.int .i64 a0_0, .int .i64 a0_1, .int .i64 a0_2, .slice A0_3 l0_3.length c0_3], .int .i64 a1, .int .i64 a2] w fun e w' => e = .returned (.slice none 0 0) ∧ Below w.heap.size w w' := by
      by_cases h1 : ImgOk a0_0 a0_1 a0_2 l0_3
      · by_cases g0 : a1 < 0
        · exact impl_PixelAt.no1 _ _ _ A0_3 c0_3 l0_3 a1 a2 w hr0_3 hc0_3 h1 g0
        · by_cases g1 : a0_0 ≤ a1
          · exact impl_PixelAt.no2 _ _ _ A0_3 c0_3 l0_3 a1 a2 w hr0_3 hc0_3 h1 g0 g1
          · by_cases g2 : a2 < 0
            · exact impl_PixelAt.no3 _ _ _ A0_3 c0_3 l0_3 a1 a2 w hr0_3 hc0_3 h1 g0 g1 g2
            · exact impl_PixelAt.no4 _ _ _ A0_3 c0_3 l0_3 a1 a2 w hr0_3 hc0_3 h1 g0 g1 g2 (by refine Decidable.byContradiction fun g3 => hk ⟨h1, by omega, by omega, by omega, by omega⟩)
      · exact impl_PixelAt.no0 _ _ _ A0_3 c0_3 l0_3 a1 a2 w hr0_3 hc0_3 h1
    refine hn.mono ?_
    rintro e w1 ⟨rfl, hb⟩
    exact ⟨_, rfl, Kd.R_nil _ _ _ _ _, hb⟩

end Go.Proofs.Ytbciflelcmmldaa.Print
