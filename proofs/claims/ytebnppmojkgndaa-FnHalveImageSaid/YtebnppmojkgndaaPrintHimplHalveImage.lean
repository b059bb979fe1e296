-- laid by hp.py (a program of this work over the kit's print), with contracts by hand for what the print does not take
import Derived.Test.YtebnppmojkgndaaPrint0
import Derived.Test.YtebnppmojkgndaaPrintHimplimageBy
import Derived.Test.YtebnppmojkgndaaPrintHx0
import Derived.Test.YtebnppmojkgndaaPrintHx2
import Derived.Test.YtebnppmojkgndaaPrintR0x0
namespace Go.Proofs.Ytebnppmojkgndaa.Print
open Go.RowKit Go.Proofs.YtebnppmojkgndaaW.PrintWords Go.Proofs.YtebnppmojkgndaaW.PrintLast Go.Proofs.YtebnppmojkgndaaW.PrintMore
attribute [local go_sem] max2_int min2_int max_two min_two max_three min_three max_four min_four   -- for this text's walks alone
set_option linter.unusedVariables false
set_option linter.unusedSimpArgs false

--SNIP impl_HalveImage
/-! ### impl_HalveImage: function 5, by hand -/
theorem rounded_four (s : Int) (h0 : 0 ≤ s) (h1 : s ≤ 1020) : impl_rounded.f s 4 = some ((s + 2) / 4) := by
  have w1 : wrap64 (2 * s) = 2 * s := wrapIn (by omega) (by omega)
  have w2 : wrap64 (2 * s + 4) = 2 * s + 4 := wrapIn (by omega) (by omega)
  have w3 : wrap64 (2 * 4) = 8 := by unfold wrap64; omega
  have e : Int.tdiv (2 * s + 4) 8 = (s + 2) / 4 := by rw [Int.tdiv_eq_ediv_of_nonneg (by omega)]; omega
  have w4 : wrap64 ((s + 2) / 4) = (s + 2) / 4 := wrapIn (by omega) (by omega)
  have w5 : wrap64 ((s + 2) / 4 * 8) = (s + 2) / 4 * 8 := wrapIn (by omega) (by omega)
  unfold impl_rounded.f impl_floorDiv.f
  rw [w1, w2, w3, e, w4, w5, if_neg (by omega), if_neg (by omega)]
  rfl
/-- A number of a half: the mean of four. -/
def halfN (W p : Nat) (l : List Int) (x y k : Nat) : Int := (rd l (((((2 * y) * W + 2 * x) * p) + k : Nat) : Int) + rd l (((((2 * y) * W + (2 * x + 1)) * p) + k : Nat) : Int) + rd l (((((2 * y + 1) * W + 2 * x) * p) + k : Nat) : Int) + rd l (((((2 * y + 1) * W + (2 * x + 1)) * p) + k : Nat) : Int) + 2) / 4
def halfL (W p : Nat) (l : List Int) (x y n : Nat) : List Int := (List.range n).map (halfN W p l x y)
theorem halfL_length (W p : Nat) (l : List Int) (x y n : Nat) : (halfL W p l x y n).length = n := by simp [halfL]
theorem halfL_snoc (W p : Nat) (l : List Int) (x y n : Nat) : halfL W p l x y (n + 1) = halfL W p l x y n ++ [halfN W p l x y n] := by
  unfold halfL
  rw [List.range_succ, List.map_append]
  rfl
theorem half_place {W H p x y k : Nat} (hx : x < W) (hy : y < H) (hk : k < p) : (y * W + x) * p + k < W * H * p := by
  have := pix_lt (p := p) hx hy
  omega
set_option maxHeartbeats 8000000 in
set_option maxRecDepth 100000 in
theorem impl_HalveImage_1.any (x y W H p : Nat) (hx : 2 * x + 1 < W) (hy : 2 * y + 1 < H) (ad : Addr) (c : Nat) (l : List Int) (b : Nat) (w : World) (hI : IsImg w b W H p (.slice (some ad) l.length c)) (hr : Kd.C (Kd.int .i64) w (some ad) l.length l) (hc : l.length ≤ c) (hl : l.length = W * H * p) (hp0 : 1 ≤ p) (hW : W ≤ 16) (hH : H ≤ 16) (hp : p ≤ 4) (hby : ∀ q ∈ l, 0 ≤ q ∧ q ≤ 255) :
    Calls Try.prog 17 #[.int .i64 x, .int .i64 y, .pointer (some ⟨b, 0, none⟩)] w fun e w' => ∃ (A' : Option Addr) (c' : Nat), e = .returned (.slice A' (halfL W p l x y p).length c') ∧ Kd.C (Kd.int .i64) w' A' (halfL W p l x y p).length (halfL W p l x y p) ∧ Below w.heap.size w w' := by
  have HAT0 : Aside0 (∀ w1 : World, Calls Try.prog 18 #[.agg #[.int .i64 W, .int .i64 H, .int .i64 p, .slice (some ad) l.length c], .int .i64 (2 * (x : Int)), .int .i64 (2 * (y : Int))] w1 fun e w' => e = .returned (.slice (some (ad.add (((2 * y) * W + 2 * x) * p))) p (c - (((2 * y) * W + 2 * x) * p))) ∧ Below w1.heap.size w1 w') := ⟨fun w1 => impl_Image_at.eq W H p ad c l (2 * x) (2 * y) w1 hc hl hW hH hp hp0 (by omega) (by omega)⟩
  have HAT1 : Aside0 (∀ w1 : World, Calls Try.prog 18 #[.agg #[.int .i64 W, .int .i64 H, .int .i64 p, .slice (some ad) l.length c], .int .i64 (2 * (x : Int) + 1), .int .i64 (2 * (y : Int))] w1 fun e w' => e = .returned (.slice (some (ad.add (((2 * y) * W + (2 * x + 1)) * p))) p (c - (((2 * y) * W + (2 * x + 1)) * p))) ∧ Below w1.heap.size w1 w') := ⟨fun w1 => impl_Image_at.eq W H p ad c l (2 * x + 1) (2 * y) w1 hc hl hW hH hp hp0 (by omega) (by omega)⟩
  have HAT2 : Aside0 (∀ w1 : World, Calls Try.prog 18 #[.agg #[.int .i64 W, .int .i64 H, .int .i64 p, .slice (some ad) l.length c], .int .i64 (2 * (x : Int)), .int .i64 (2 * (y : Int) + 1)] w1 fun e w' => e = .returned (.slice (some (ad.add (((2 * y + 1) * W + 2 * x) * p))) p (c - (((2 * y + 1) * W + 2 * x) * p))) ∧ Below w1.heap.size w1 w') := ⟨fun w1 => impl_Image_at.eq W H p ad c l (2 * x) (2 * y + 1) w1 hc hl hW hH hp hp0 (by omega) (by omega)⟩
  have HAT3 : Aside0 (∀ w1 : World, Calls Try.prog 18 #[.agg #[.int .i64 W, .int .i64 H, .int .i64 p, .slice (some ad) l.length c], .int .i64 (2 * (x : Int) + 1), .int .i64 (2 * (y : Int) + 1)] w1 fun e w' => e = .returned (.slice (some (ad.add (((2 * y + 1) * W + (2 * x + 1)) * p))) p (c - (((2 * y + 1) * W + (2 * x + 1)) * p))) ∧ Below w1.heap.size w1 w') := ⟨fun w1 => impl_Image_at.eq W H p ad c l (2 * x + 1) (2 * y + 1) w1 hc hl hW hH hp hp0 (by omega) (by omega)⟩
  have HC : Aside0 (∀ (n : Nat) (w1 : World), n < l.length → Below w.heap.size w w1 → w1.cell? (ad.add n) = some (.int .i64 (rd l (n : Int))) ∧ 0 ≤ rd l (n : Int) ∧ rd l (n : Int) ≤ 255) := ⟨fun n w1 hn hb => by
    obtain ⟨ad', e', hx⟩ := Kd.at_int (Kd.C_below hr hb) (n : Int) (by omega) (by omega)
    obtain rfl : ad = ad' := by injection e'
    rw [Int.toNat_natCast] at hx
    refine ⟨hx, hby _ ?_⟩
    have : rd l (n : Int) = l[n] := by simp [rd, List.getD_eq_getElem?_getD, List.getElem?_eq_getElem hn]
    rw [this]
    exact List.getElem_mem hn⟩
  have p0 : Aside0 (∀ k, k < p → (((2 * y) * W + 2 * x) * p) + k < l.length) := ⟨fun k hk => by rw [hl]; exact half_place (by omega) (by omega) hk⟩
  have p1 : Aside0 (∀ k, k < p → (((2 * y) * W + (2 * x + 1)) * p) + k < l.length) := ⟨fun k hk => by rw [hl]; exact half_place (by omega) (by omega) hk⟩
  have p2 : Aside0 (∀ k, k < p → (((2 * y + 1) * W + 2 * x) * p) + k < l.length) := ⟨fun k hk => by rw [hl]; exact half_place (by omega) (by omega) hk⟩
  have p3 : Aside0 (∀ k, k < p → (((2 * y + 1) * W + (2 * x + 1)) * p) + k < l.length) := ⟨fun k hk => by rw [hl]; exact half_place (by omega) (by omega) hk⟩
  obtain ⟨i0, hi0⟩ : ∃ i, i = (((2 * y) * W + 2 * x) * p) := ⟨_, rfl⟩
  rw [← hi0] at HAT0 p0
  obtain ⟨i1, hi1⟩ : ∃ i, i = (((2 * y) * W + (2 * x + 1)) * p) := ⟨_, rfl⟩
  rw [← hi1] at HAT1 p1
  obtain ⟨i2, hi2⟩ : ∃ i, i = (((2 * y + 1) * W + 2 * x) * p) := ⟨_, rfl⟩
  rw [← hi2] at HAT2 p2
  obtain ⟨i3, hi3⟩ : ∃ i, i = (((2 * y + 1) * W + (2 * x + 1)) * p) := ⟨_, rfl⟩
  rw [← hi3] at HAT3 p3
  have HN : Aside0 (∀ k, halfN W p l x y k = (rd l ((i0 + k : Nat) : Int) + rd l ((i1 + k : Nat) : Int) + rd l ((i2 + k : Nat) : Int) + rd l ((i3 + k : Nat) : Int) + 2) / 4) := ⟨fun k => by rw [hi0, hi1, hi2, hi3]; rfl⟩
  have g1x : IntKind.i64.wrap (2 * (x : Int)) = 2 * (x : Int) := IntWalk.i64_in _ (by omega)
  have g2x : IntKind.i64.wrap (2 * (x : Int) + 1) = 2 * (x : Int) + 1 := IntWalk.i64_in _ (by omega)
  have g1y : IntKind.i64.wrap (2 * (y : Int)) = 2 * (y : Int) := IntWalk.i64_in _ (by omega)
  have g2y : IntKind.i64.wrap (2 * (y : Int) + 1) = 2 * (y : Int) + 1 := IntWalk.i64_in _ (by omega)
  have HG := Aside0.mk (And.intro g1x (And.intro g2x (And.intro g1y g2y)))
  have HI0 := Aside0.mk hI
  have hu := Try.underlying25
  clear g1x g2x g1y g2y hr hc hl hI hi0 hi1 hi2 hi3 hby
  go_enter Try.func17, Try.ntmps17
  go_wp2_with ((with_reducible refine gate_dst (N := 9) rfl ?_); refine Kd.R_lit (Kd.int .i64) _ 3 ?hg (N := 9) ?hd (xs := ([] : List Int)) (inner := []) (ok := fun _ => True) (okp := fun _ => True) ?hr ?hp (fun _ hk => hk) trivial (Below.refl _ _) (Nat.le_refl _) (by simp) ?_; (case hd => rfl); (case hg => rfl); (case hr => first | (go_simp; done) | (go_simp; rfl)); (case hp => exact (Reps.none _ _)); intro v0 w2 ho hb hg_ hnew_; clear hg_ hnew_; have HI2 := Aside0.mk (HI0.out.below hb); have HB2 := Aside0.mk hb; have HO2 := Aside0.mk ho; have hc2 := HI2.out.c2; clear hb ho)
  go_loopw [6, 12] (fun v i wr => ∃ k : Nat, k ≤ p ∧ i = .int .i64 k ∧ Aside0 (IsImg wr b W H p (.slice (some ad) l.length c)) ∧ Aside0 (Kd.R (Kd.int .i64) 3 wr w.heap.size (fun _ => True) v (halfL W p l x y k)) ∧ Aside0 (Below w.heap.size w wr)) (fun _ i _ => p - (intOf i).toNat)
  case atStart => exact ⟨0, by omega, rfl, HI2, HO2, HB2⟩
  case round =>
    clear HI0 HI2 HB2 HO2 hc2
    obtain ⟨k, hk, rfl, HI, HO, HB⟩ := hrel
    by_cases hlt : k < p
    · have hdk : decide (k < p) = true := decide_eq_true hlt
      obtain ⟨h0_0, b0, c0⟩ := HC.out (i0 + k) wr (p0.out k hlt) HB.out
      rw [← at_addr] at h0_0
      obtain ⟨h1_0, b1, c1⟩ := HC.out (i1 + k) wr (p1.out k hlt) HB.out
      rw [← at_addr] at h1_0
      obtain ⟨h2_0, b2, c2⟩ := HC.out (i2 + k) wr (p2.out k hlt) HB.out
      rw [← at_addr] at h2_0
      obtain ⟨h3_0, b3, c3⟩ := HC.out (i3 + k) wr (p3.out k hlt) HB.out
      rw [← at_addr] at h3_0
      have HQ := Aside0.mk (HN.out k).symm
      generalize rd l ((i0 + k : Nat) : Int) = q0 at h0_0 b0 c0 HQ
      generalize rd l ((i1 + k : Nat) : Int) = q1 at h1_0 b1 c1 HQ
      generalize rd l ((i2 + k : Nat) : Int) = q2 at h2_0 b2 c2 HQ
      generalize rd l ((i3 + k : Nat) : Int) = q3 at h3_0 b3 c3 HQ
      have r1 : IntKind.i64.wrap (q0 + q1) = q0 + q1 := IntWalk.i64_in _ (by omega)
      have r2 : IntKind.i64.wrap (q0 + q1 + q2) = q0 + q1 + q2 := IntWalk.i64_in _ (by omega)
      have r3 : IntKind.i64.wrap (q0 + q1 + q2 + q3) = q0 + q1 + q2 + q3 := IntWalk.i64_in _ (by omega)
      obtain ⟨g1x, g2x, g1y, g2y⟩ := HG.out
      go_wp2_with fail
      refine start_ (n := 44) (S := fun w' => (w'.cell? ⟨b, 0, none⟩ = some (.int .i64 (W : Int)) ∧ w'.cell? ⟨b, 1, none⟩ = some (.int .i64 (H : Int)) ∧ w'.cell? ⟨b, 2, none⟩ = some (.int .i64 (p : Int)) ∧ w'.cell? ⟨b, 3, none⟩ = some (.slice (some ad) l.length c)) ∧ w'.cell? ((ad.add i0).add k) = some (.int .i64 q0) ∧ w'.cell? ((ad.add i1).add k) = some (.int .i64 q1) ∧ w'.cell? ((ad.add i2).add k) = some (.int .i64 q2) ∧ w'.cell? ((ad.add i3).add k) = some (.int .i64 q3)) (ds := []) #[false, false, false, false, false, false, false, false, false, false, false, false, false, false, false, false, false, false, false, false, false, false, false, false, false, false, false, false, false, false, false, false, false, false, false, false, false, false, false, false, false, false, false, false] (by kernel_rfl) rfl rfl ⟨⟨HI.out.drew.c0, HI.out.drew.c1, HI.out.drew.c2, HI.out.drew.c3⟩, h0_0, h1_0, h2_0, h3_0⟩ (fun hHeld => ?_)
      have HI1 := Aside0.mk HI.out.drew
      have HB1 := Aside0.mk (below_drew HB.out)
      have HO1 := Aside0.mk (Kd.R_drew HO.out)
      have h0_1 : wr.drew.cell? ((ad.add i0).add k) = some (.int .i64 q0) := h0_0
      have h1_1 : wr.drew.cell? ((ad.add i1).add k) = some (.int .i64 q1) := h1_0
      have h2_1 : wr.drew.cell? ((ad.add i2).add k) = some (.int .i64 q2) := h2_0
      have h3_1 : wr.drew.cell? ((ad.add i3).add k) = some (.int .i64 q3) := h3_0
      clear HI HB HO h0_0 h1_0 h2_0 h3_0
      generalize wr.drew = w1 at HI1 HB1 HO1 h0_1 h1_1 h2_1 h3_1 hHeld ⊢
      refine take_ (i := 0) (N := some 15) (v := ?_) (a' := ?_) #[true, false, false, false, false, false, false, false, false, false, false, false, false, false, false, false, false, false, false, false, false, false, false, false, false, false, false, false, false, false, false, false, false, false, false, false, false, false, false, false, false, false, false, false] rfl rfl (by kernel_rfl) (fun _ _ _ h => h) (Or.inl ⟨by rfl, ?_⟩) hHeld ?_ ?_
      rotate_left
      · rintro w' ⟨⟨s0, s1, s2, s3⟩, s4, s5, s6, s7⟩
        go_simp
        with_reducible rfl
      rotate_left
      · simp only [Act.put, List.setIfInBounds_toArray, List.set_cons_zero, List.set_cons_succ]
        rfl
      refine pure_ (i := 1) (N := some 16) (v := ?_) (a' := ?_) #[true, true, false, false, false, false, false, false, false, false, false, false, false, false, false, false, false, false, false, false, false, false, false, false, false, false, false, false, false, false, false, false, false, false, false, false, false, false, false, false, false, false, false, false] rfl rfl (by kernel_rfl) (fun _ _ _ h => h) (Or.inl ⟨by rfl, ?_⟩) ?_ ?_
      rotate_left
      · intro w'
        go_simp
        with_reducible rfl
      rotate_left
      · simp only [Act.put, List.setIfInBounds_toArray, List.set_cons_zero, List.set_cons_succ]
        rfl
      refine pure_ (i := 2) (N := some 17) (v := ?_) (a' := ?_) #[true, true, true, false, false, false, false, false, false, false, false, false, false, false, false, false, false, false, false, false, false, false, false, false, false, false, false, false, false, false, false, false, false, false, false, false, false, false, false, false, false, false, false, false] rfl rfl (by kernel_rfl) (fun _ _ _ h => h) (Or.inl ⟨by rfl, ?_⟩) ?_ ?_
      rotate_left
      · intro w'
        go_simp
        with_reducible rfl
      rotate_left
      · simp only [Act.put, List.setIfInBounds_toArray, List.set_cons_zero, List.set_cons_succ]
        rfl
      refine pure_ (i := 3) (N := some 18) (v := ?_) (a' := ?_) #[true, true, true, true, false, false, false, false, false, false, false, false, false, false, false, false, false, false, false, false, false, false, false, false, false, false, false, false, false, false, false, false, false, false, false, false, false, false, false, false, false, false, false, false] rfl rfl (by kernel_rfl) (fun _ _ _ h => h) (Or.inl ⟨by rfl, ?_⟩) ?_ ?_
      rotate_left
      · intro w'
        go_simp
        with_reducible rfl
      rotate_left
      · simp only [Act.put, List.setIfInBounds_toArray, List.set_cons_zero, List.set_cons_succ]
        rfl
      refine pure_ (i := 4) (N := some 19) (v := ?_) (a' := ?_) #[true, true, true, true, true, false, false, false, false, false, false, false, false, false, false, false, false, false, false, false, false, false, false, false, false, false, false, false, false, false, false, false, false, false, false, false, false, false, false, false, false, false, false, false] rfl rfl (by kernel_rfl) (fun _ _ _ h => h) (Or.inl ⟨by rfl, ?_⟩) ?_ ?_
      rotate_left
      · intro w'
        go_simp
        with_reducible rfl
      rotate_left
      · simp only [Act.put, List.setIfInBounds_toArray, List.set_cons_zero, List.set_cons_succ]
        rfl
      refine pure_ (i := 6) (N := some 21) (v := ?_) (a' := ?_) #[true, true, true, true, true, false, true, false, false, false, false, false, false, false, false, false, false, false, false, false, false, false, false, false, false, false, false, false, false, false, false, false, false, false, false, false, false, false, false, false, false, false, false, false] rfl rfl (by kernel_rfl) (fun _ _ _ h => h) (Or.inl ⟨by rfl, ?_⟩) ?_ ?_
      rotate_left
      · intro w'
        go_simp
        with_reducible rfl
      rotate_left
      · simp only [Act.put, List.setIfInBounds_toArray, List.set_cons_zero, List.set_cons_succ]
        rfl
      refine take_ (i := 9) (N := some 24) (v := ?_) (a' := ?_) #[true, true, true, true, true, false, true, false, false, true, false, false, false, false, false, false, false, false, false, false, false, false, false, false, false, false, false, false, false, false, false, false, false, false, false, false, false, false, false, false, false, false, false, false] rfl rfl (by kernel_rfl) (fun _ _ _ h => h) (Or.inl ⟨by rfl, ?_⟩) hHeld ?_ ?_
      rotate_left
      · rintro w' ⟨⟨s0, s1, s2, s3⟩, s4, s5, s6, s7⟩
        go_simp
        with_reducible rfl
      rotate_left
      · simp only [Act.put, List.setIfInBounds_toArray, List.set_cons_zero, List.set_cons_succ]
        rfl
      refine pure_ (i := 10) (N := some 25) (v := ?_) (a' := ?_) #[true, true, true, true, true, false, true, false, false, true, true, false, false, false, false, false, false, false, false, false, false, false, false, false, false, false, false, false, false, false, false, false, false, false, false, false, false, false, false, false, false, false, false, false] rfl rfl (by kernel_rfl) (fun _ _ _ h => h) (Or.inl ⟨by rfl, ?_⟩) ?_ ?_
      rotate_left
      · intro w'
        go_simp
        with_reducible rfl
      rotate_left
      · simp only [Act.put, List.setIfInBounds_toArray, List.set_cons_zero, List.set_cons_succ]
        rfl
      refine pure_ (i := 11) (N := some 26) (v := ?_) (a' := ?_) #[true, true, true, true, true, false, true, false, false, true, true, true, false, false, false, false, false, false, false, false, false, false, false, false, false, false, false, false, false, false, false, false, false, false, false, false, false, false, false, false, false, false, false, false] rfl rfl (by kernel_rfl) (fun _ _ _ h => h) (Or.inl ⟨by rfl, ?_⟩) ?_ ?_
      rotate_left
      · intro w'
        go_simp
        with_reducible rfl
      rotate_left
      · simp only [Act.put, List.setIfInBounds_toArray, List.set_cons_zero, List.set_cons_succ]
        rfl
      refine pure_ (i := 12) (N := some 27) (v := ?_) (a' := ?_) #[true, true, true, true, true, false, true, false, false, true, true, true, true, false, false, false, false, false, false, false, false, false, false, false, false, false, false, false, false, false, false, false, false, false, false, false, false, false, false, false, false, false, false, false] rfl rfl (by kernel_rfl) (fun _ _ _ h => h) (Or.inl ⟨by rfl, ?_⟩) ?_ ?_
      rotate_left
      · intro w'
        go_simp
        with_reducible rfl
      rotate_left
      · simp only [Act.put, List.setIfInBounds_toArray, List.set_cons_zero, List.set_cons_succ]
        rfl
      refine pure_ (i := 13) (N := some 28) (v := ?_) (a' := ?_) #[true, true, true, true, true, false, true, false, false, true, true, true, true, true, false, false, false, false, false, false, false, false, false, false, false, false, false, false, false, false, false, false, false, false, false, false, false, false, false, false, false, false, false, false] rfl rfl (by kernel_rfl) (fun _ _ _ h => h) (Or.inl ⟨by rfl, ?_⟩) ?_ ?_
      rotate_left
      · intro w'
        go_simp
        with_reducible rfl
      rotate_left
      · simp only [Act.put, List.setIfInBounds_toArray, List.set_cons_zero, List.set_cons_succ]
        rfl
      refine pure_ (i := 14) (N := some 29) (v := ?_) (a' := ?_) #[true, true, true, true, true, false, true, false, false, true, true, true, true, true, true, false, false, false, false, false, false, false, false, false, false, false, false, false, false, false, false, false, false, false, false, false, false, false, false, false, false, false, false, false] rfl rfl (by kernel_rfl) (fun _ _ _ h => h) (Or.inl ⟨by rfl, ?_⟩) ?_ ?_
      rotate_left
      · intro w'
        go_simp
        with_reducible rfl
      rotate_left
      · simp only [Act.put, List.setIfInBounds_toArray, List.set_cons_zero, List.set_cons_succ]
        rfl
      refine pure_ (i := 16) (N := some 31) (v := ?_) (a' := ?_) #[true, true, true, true, true, false, true, false, false, true, true, true, true, true, true, false, true, false, false, false, false, false, false, false, false, false, false, false, false, false, false, false, false, false, false, false, false, false, false, false, false, false, false, false] rfl rfl (by kernel_rfl) (fun _ _ _ h => h) (Or.inl ⟨by rfl, ?_⟩) ?_ ?_
      rotate_left
      · intro w'
        go_simp
        with_reducible rfl
      rotate_left
      · simp only [Act.put, List.setIfInBounds_toArray, List.set_cons_zero, List.set_cons_succ]
        rfl
      refine take_ (i := 20) (N := some 35) (v := ?_) (a' := ?_) #[true, true, true, true, true, false, true, false, false, true, true, true, true, true, true, false, true, false, false, false, true, false, false, false, false, false, false, false, false, false, false, false, false, false, false, false, false, false, false, false, false, false, false, false] rfl rfl (by kernel_rfl) (fun _ _ _ h => h) (Or.inl ⟨by rfl, ?_⟩) hHeld ?_ ?_
      rotate_left
      · rintro w' ⟨⟨s0, s1, s2, s3⟩, s4, s5, s6, s7⟩
        go_simp
        with_reducible rfl
      rotate_left
      · simp only [Act.put, List.setIfInBounds_toArray, List.set_cons_zero, List.set_cons_succ]
        rfl
      refine pure_ (i := 21) (N := some 36) (v := ?_) (a' := ?_) #[true, true, true, true, true, false, true, false, false, true, true, true, true, true, true, false, true, false, false, false, true, true, false, false, false, false, false, false, false, false, false, false, false, false, false, false, false, false, false, false, false, false, false, false] rfl rfl (by kernel_rfl) (fun _ _ _ h => h) (Or.inl ⟨by rfl, ?_⟩) ?_ ?_
      rotate_left
      · intro w'
        go_simp
        with_reducible rfl
      rotate_left
      · simp only [Act.put, List.setIfInBounds_toArray, List.set_cons_zero, List.set_cons_succ]
        rfl
      refine pure_ (i := 22) (N := some 37) (v := ?_) (a' := ?_) #[true, true, true, true, true, false, true, false, false, true, true, true, true, true, true, false, true, false, false, false, true, true, true, false, false, false, false, false, false, false, false, false, false, false, false, false, false, false, false, false, false, false, false, false] rfl rfl (by kernel_rfl) (fun _ _ _ h => h) (Or.inl ⟨by rfl, ?_⟩) ?_ ?_
      rotate_left
      · intro w'
        go_simp
        with_reducible rfl
      rotate_left
      · simp only [Act.put, List.setIfInBounds_toArray, List.set_cons_zero, List.set_cons_succ]
        rfl
      refine pure_ (i := 23) (N := some 38) (v := ?_) (a' := ?_) #[true, true, true, true, true, false, true, false, false, true, true, true, true, true, true, false, true, false, false, false, true, true, true, true, false, false, false, false, false, false, false, false, false, false, false, false, false, false, false, false, false, false, false, false] rfl rfl (by kernel_rfl) (fun _ _ _ h => h) (Or.inl ⟨by rfl, ?_⟩) ?_ ?_
      rotate_left
      · intro w'
        go_simp
        with_reducible rfl
      rotate_left
      · simp only [Act.put, List.setIfInBounds_toArray, List.set_cons_zero, List.set_cons_succ]
        rfl
      refine pure_ (i := 24) (N := some 39) (v := ?_) (a' := ?_) #[true, true, true, true, true, false, true, false, false, true, true, true, true, true, true, false, true, false, false, false, true, true, true, true, true, false, false, false, false, false, false, false, false, false, false, false, false, false, false, false, false, false, false, false] rfl rfl (by kernel_rfl) (fun _ _ _ h => h) (Or.inl ⟨by rfl, ?_⟩) ?_ ?_
      rotate_left
      · intro w'
        go_simp
        with_reducible rfl
      rotate_left
      · simp only [Act.put, List.setIfInBounds_toArray, List.set_cons_zero, List.set_cons_succ]
        rfl
      refine pure_ (i := 25) (N := some 40) (v := ?_) (a' := ?_) #[true, true, true, true, true, false, true, false, false, true, true, true, true, true, true, false, true, false, false, false, true, true, true, true, true, true, false, false, false, false, false, false, false, false, false, false, false, false, false, false, false, false, false, false] rfl rfl (by kernel_rfl) (fun _ _ _ h => h) (Or.inl ⟨by rfl, ?_⟩) ?_ ?_
      rotate_left
      · intro w'
        go_simp
        with_reducible rfl
      rotate_left
      · simp only [Act.put, List.setIfInBounds_toArray, List.set_cons_zero, List.set_cons_succ]
        rfl
      refine pure_ (i := 27) (N := some 42) (v := ?_) (a' := ?_) #[true, true, true, true, true, false, true, false, false, true, true, true, true, true, true, false, true, false, false, false, true, true, true, true, true, true, false, true, false, false, false, false, false, false, false, false, false, false, false, false, false, false, false, false] rfl rfl (by kernel_rfl) (fun _ _ _ h => h) (Or.inl ⟨by rfl, ?_⟩) ?_ ?_
      rotate_left
      · intro w'
        go_simp
        with_reducible rfl
      rotate_left
      · simp only [Act.put, List.setIfInBounds_toArray, List.set_cons_zero, List.set_cons_succ]
        rfl
      refine take_ (i := 31) (N := some 46) (v := ?_) (a' := ?_) #[true, true, true, true, true, false, true, false, false, true, true, true, true, true, true, false, true, false, false, false, true, true, true, true, true, true, false, true, false, false, false, true, false, false, false, false, false, false, false, false, false, false, false, false] rfl rfl (by kernel_rfl) (fun _ _ _ h => h) (Or.inl ⟨by rfl, ?_⟩) hHeld ?_ ?_
      rotate_left
      · rintro w' ⟨⟨s0, s1, s2, s3⟩, s4, s5, s6, s7⟩
        go_simp
        with_reducible rfl
      rotate_left
      · simp only [Act.put, List.setIfInBounds_toArray, List.set_cons_zero, List.set_cons_succ]
        rfl
      refine pure_ (i := 32) (N := some 47) (v := ?_) (a' := ?_) #[true, true, true, true, true, false, true, false, false, true, true, true, true, true, true, false, true, false, false, false, true, true, true, true, true, true, false, true, false, false, false, true, true, false, false, false, false, false, false, false, false, false, false, false] rfl rfl (by kernel_rfl) (fun _ _ _ h => h) (Or.inl ⟨by rfl, ?_⟩) ?_ ?_
      rotate_left
      · intro w'
        go_simp
        with_reducible rfl
      rotate_left
      · simp only [Act.put, List.setIfInBounds_toArray, List.set_cons_zero, List.set_cons_succ]
        rfl
      refine pure_ (i := 33) (N := some 48) (v := ?_) (a' := ?_) #[true, true, true, true, true, false, true, false, false, true, true, true, true, true, true, false, true, false, false, false, true, true, true, true, true, true, false, true, false, false, false, true, true, true, false, false, false, false, false, false, false, false, false, false] rfl rfl (by kernel_rfl) (fun _ _ _ h => h) (Or.inl ⟨by rfl, ?_⟩) ?_ ?_
      rotate_left
      · intro w'
        go_simp
        with_reducible rfl
      rotate_left
      · simp only [Act.put, List.setIfInBounds_toArray, List.set_cons_zero, List.set_cons_succ]
        rfl
      refine pure_ (i := 34) (N := some 49) (v := ?_) (a' := ?_) #[true, true, true, true, true, false, true, false, false, true, true, true, true, true, true, false, true, false, false, false, true, true, true, true, true, true, false, true, false, false, false, true, true, true, true, false, false, false, false, false, false, false, false, false] rfl rfl (by kernel_rfl) (fun _ _ _ h => h) (Or.inl ⟨by rfl, ?_⟩) ?_ ?_
      rotate_left
      · intro w'
        go_simp
        with_reducible rfl
      rotate_left
      · simp only [Act.put, List.setIfInBounds_toArray, List.set_cons_zero, List.set_cons_succ]
        rfl
      refine pure_ (i := 35) (N := some 50) (v := ?_) (a' := ?_) #[true, true, true, true, true, false, true, false, false, true, true, true, true, true, true, false, true, false, false, false, true, true, true, true, true, true, false, true, false, false, false, true, true, true, true, true, false, false, false, false, false, false, false, false] rfl rfl (by kernel_rfl) (fun _ _ _ h => h) (Or.inl ⟨by rfl, ?_⟩) ?_ ?_
      rotate_left
      · intro w'
        go_simp
        with_reducible rfl
      rotate_left
      · simp only [Act.put, List.setIfInBounds_toArray, List.set_cons_zero, List.set_cons_succ]
        rfl
      refine pure_ (i := 36) (N := some 51) (v := ?_) (a' := ?_) #[true, true, true, true, true, false, true, false, false, true, true, true, true, true, true, false, true, false, false, false, true, true, true, true, true, true, false, true, false, false, false, true, true, true, true, true, true, false, false, false, false, false, false, false] rfl rfl (by kernel_rfl) (fun _ _ _ h => h) (Or.inl ⟨by rfl, ?_⟩) ?_ ?_
      rotate_left
      · intro w'
        go_simp
        with_reducible rfl
      rotate_left
      · simp only [Act.put, List.setIfInBounds_toArray, List.set_cons_zero, List.set_cons_succ]
        rfl
      refine pure_ (i := 37) (N := some 52) (v := ?_) (a' := ?_) #[true, true, true, true, true, false, true, false, false, true, true, true, true, true, true, false, true, false, false, false, true, true, true, true, true, true, false, true, false, false, false, true, true, true, true, true, true, true, false, false, false, false, false, false] rfl rfl (by kernel_rfl) (fun _ _ _ h => h) (Or.inl ⟨by rfl, ?_⟩) ?_ ?_
      rotate_left
      · intro w'
        go_simp
        with_reducible rfl
      rotate_left
      · simp only [Act.put, List.setIfInBounds_toArray, List.set_cons_zero, List.set_cons_succ]
        rfl
      refine pure_ (i := 39) (N := some 54) (v := ?_) (a' := ?_) #[true, true, true, true, true, false, true, false, false, true, true, true, true, true, true, false, true, false, false, false, true, true, true, true, true, true, false, true, false, false, false, true, true, true, true, true, true, true, false, true, false, false, false, false] rfl rfl (by kernel_rfl) (fun _ _ _ h => h) (Or.inl ⟨by rfl, ?_⟩) ?_ ?_
      rotate_left
      · intro w'
        go_simp
        with_reducible rfl
      rotate_left
      · simp only [Act.put, List.setIfInBounds_toArray, List.set_cons_zero, List.set_cons_succ]
        rfl
      refine one_ (i := 5) (N := some 20) #[true, true, true, true, true, true, true, false, false, true, true, true, true, true, true, false, true, false, false, false, true, true, true, true, true, true, false, true, false, false, false, true, true, true, true, true, true, true, false, true, false, false, false, false] rfl rfl (by kernel_rfl) (by decide) (fun K' hK' => ?_)
      refine goes_ Try.func18 (by kernel_rfl) rfl #[.agg #[.int .i64 W, .int .i64 H, .int .i64 p, .slice (some ad) l.length c], .int .i64 (2 * (x : Int)), .int .i64 (2 * (y : Int))] (by rfl) rfl rfl (by simp only [List.map_toArray, List.map_cons, List.map_nil]; rfl) ?_
      refine (HAT0.out _).mono ?_
      rintro e w2 ⟨rfl, hb⟩
      refine ⟨_, rfl, ?_⟩
      have HI2 := Aside0.mk (HI1.out.below hb)
      have HB2 := Aside0.mk (below_step HB1.out hb)
      have HO2 := Aside0.mk (Kd.R_below HO1.out hb)
      have h0_2 := pw_cell_below hb h0_1
      have h1_2 := pw_cell_below hb h1_1
      have h2_2 := pw_cell_below hb h2_1
      have h3_2 := pw_cell_below hb h3_1
      clear hb HI1 HB1 HO1 h0_1 h1_1 h2_1 h3_1
      refine hK'.out _ _ ⟨⟨HI2.out.c0, HI2.out.c1, HI2.out.c2, HI2.out.c3⟩, h0_2, h1_2, h2_2, h3_2⟩ (fun hHeld => ?_)
      clear hK' K'
      refine norm_ (a' := ?_) ?_ ?_
      rotate_left
      · show Act.put _ (some 20) _ = _
        simp only [Act.put, List.setIfInBounds_toArray, List.set_cons_zero, List.set_cons_succ]
        rfl
      refine pure_ (i := 7) (N := some 22) (v := ?_) (a' := ?_) #[true, true, true, true, true, true, true, true, false, true, true, true, true, true, true, false, true, false, false, false, true, true, true, true, true, true, false, true, false, false, false, true, true, true, true, true, true, true, false, true, false, false, false, false] rfl rfl (by kernel_rfl) (fun _ _ _ h => h) (Or.inl ⟨by rfl, ?_⟩) ?_ ?_
      rotate_left
      · intro w'
        go_simp
        with_reducible rfl
      rotate_left
      · simp only [Act.put, List.setIfInBounds_toArray, List.set_cons_zero, List.set_cons_succ]
        rfl
      refine take_ (i := 8) (N := some 23) (v := ?_) (a' := ?_) #[true, true, true, true, true, true, true, true, true, true, true, true, true, true, true, false, true, false, false, false, true, true, true, true, true, true, false, true, false, false, false, true, true, true, true, true, true, true, false, true, false, false, false, false] rfl rfl (by kernel_rfl) (fun _ _ _ h => h) (Or.inl ⟨by rfl, ?_⟩) hHeld ?_ ?_
      rotate_left
      · rintro w' ⟨⟨s0, s1, s2, s3⟩, s4, s5, s6, s7⟩
        go_simp
        with_reducible rfl
      rotate_left
      · simp only [Act.put, List.setIfInBounds_toArray, List.set_cons_zero, List.set_cons_succ]
        rfl
      refine one_ (i := 15) (N := some 30) #[true, true, true, true, true, true, true, true, true, true, true, true, true, true, true, true, true, false, false, false, true, true, true, true, true, true, false, true, false, false, false, true, true, true, true, true, true, true, false, true, false, false, false, false] rfl rfl (by kernel_rfl) (by decide) (fun K' hK' => ?_)
      refine goes_ Try.func18 (by kernel_rfl) rfl #[.agg #[.int .i64 W, .int .i64 H, .int .i64 p, .slice (some ad) l.length c], .int .i64 (2 * (x : Int) + 1), .int .i64 (2 * (y : Int))] (by rfl) rfl rfl (by simp only [List.map_toArray, List.map_cons, List.map_nil]; rfl) ?_
      refine (HAT1.out _).mono ?_
      rintro e w3 ⟨rfl, hb⟩
      refine ⟨_, rfl, ?_⟩
      have HI3 := Aside0.mk (HI2.out.below hb)
      have HB3 := Aside0.mk (below_step HB2.out hb)
      have HO3 := Aside0.mk (Kd.R_below HO2.out hb)
      have h0_3 := pw_cell_below hb h0_2
      have h1_3 := pw_cell_below hb h1_2
      have h2_3 := pw_cell_below hb h2_2
      have h3_3 := pw_cell_below hb h3_2
      clear hb HI2 HB2 HO2 h0_2 h1_2 h2_2 h3_2
      refine hK'.out _ _ ⟨⟨HI3.out.c0, HI3.out.c1, HI3.out.c2, HI3.out.c3⟩, h0_3, h1_3, h2_3, h3_3⟩ (fun hHeld => ?_)
      clear hK' K'
      refine norm_ (a' := ?_) ?_ ?_
      rotate_left
      · show Act.put _ (some 30) _ = _
        simp only [Act.put, List.setIfInBounds_toArray, List.set_cons_zero, List.set_cons_succ]
        rfl
      refine pure_ (i := 17) (N := some 32) (v := ?_) (a' := ?_) #[true, true, true, true, true, true, true, true, true, true, true, true, true, true, true, true, true, true, false, false, true, true, true, true, true, true, false, true, false, false, false, true, true, true, true, true, true, true, false, true, false, false, false, false] rfl rfl (by kernel_rfl) (fun _ _ _ h => h) (Or.inl ⟨by rfl, ?_⟩) ?_ ?_
      rotate_left
      · intro w'
        go_simp
        with_reducible rfl
      rotate_left
      · simp only [Act.put, List.setIfInBounds_toArray, List.set_cons_zero, List.set_cons_succ]
        rfl
      refine take_ (i := 18) (N := some 33) (v := ?_) (a' := ?_) #[true, true, true, true, true, true, true, true, true, true, true, true, true, true, true, true, true, true, true, false, true, true, true, true, true, true, false, true, false, false, false, true, true, true, true, true, true, true, false, true, false, false, false, false] rfl rfl (by kernel_rfl) (fun _ _ _ h => h) (Or.inl ⟨by rfl, ?_⟩) hHeld ?_ ?_
      rotate_left
      · rintro w' ⟨⟨s0, s1, s2, s3⟩, s4, s5, s6, s7⟩
        go_simp
        with_reducible rfl
      rotate_left
      · simp only [Act.put, List.setIfInBounds_toArray, List.set_cons_zero, List.set_cons_succ]
        rfl
      refine pure_ (i := 19) (N := some 34) (v := ?_) (a' := ?_) #[true, true, true, true, true, true, true, true, true, true, true, true, true, true, true, true, true, true, true, true, true, true, true, true, true, true, false, true, false, false, false, true, true, true, true, true, true, true, false, true, false, false, false, false] rfl rfl (by kernel_rfl) (fun _ _ _ h => h) (Or.inl ⟨by rfl, ?_⟩) ?_ ?_
      rotate_left
      · intro w'
        go_simp
        with_reducible rfl
      rotate_left
      · simp only [Act.put, List.setIfInBounds_toArray, List.set_cons_zero, List.set_cons_succ]
        rfl
      refine one_ (i := 26) (N := some 41) #[true, true, true, true, true, true, true, true, true, true, true, true, true, true, true, true, true, true, true, true, true, true, true, true, true, true, true, true, false, false, false, true, true, true, true, true, true, true, false, true, false, false, false, false] rfl rfl (by kernel_rfl) (by decide) (fun K' hK' => ?_)
      refine goes_ Try.func18 (by kernel_rfl) rfl #[.agg #[.int .i64 W, .int .i64 H, .int .i64 p, .slice (some ad) l.length c], .int .i64 (2 * (x : Int)), .int .i64 (2 * (y : Int) + 1)] (by rfl) rfl rfl (by simp only [List.map_toArray, List.map_cons, List.map_nil]; rfl) ?_
      refine (HAT2.out _).mono ?_
      rintro e w4 ⟨rfl, hb⟩
      refine ⟨_, rfl, ?_⟩
      have HI4 := Aside0.mk (HI3.out.below hb)
      have HB4 := Aside0.mk (below_step HB3.out hb)
      have HO4 := Aside0.mk (Kd.R_below HO3.out hb)
      have h0_4 := pw_cell_below hb h0_3
      have h1_4 := pw_cell_below hb h1_3
      have h2_4 := pw_cell_below hb h2_3
      have h3_4 := pw_cell_below hb h3_3
      clear hb HI3 HB3 HO3 h0_3 h1_3 h2_3 h3_3
      refine hK'.out _ _ ⟨⟨HI4.out.c0, HI4.out.c1, HI4.out.c2, HI4.out.c3⟩, h0_4, h1_4, h2_4, h3_4⟩ (fun hHeld => ?_)
      clear hK' K'
      refine norm_ (a' := ?_) ?_ ?_
      rotate_left
      · show Act.put _ (some 41) _ = _
        simp only [Act.put, List.setIfInBounds_toArray, List.set_cons_zero, List.set_cons_succ]
        rfl
      refine pure_ (i := 28) (N := some 43) (v := ?_) (a' := ?_) #[true, true, true, true, true, true, true, true, true, true, true, true, true, true, true, true, true, true, true, true, true, true, true, true, true, true, true, true, true, false, false, true, true, true, true, true, true, true, false, true, false, false, false, false] rfl rfl (by kernel_rfl) (fun _ _ _ h => h) (Or.inl ⟨by rfl, ?_⟩) ?_ ?_
      rotate_left
      · intro w'
        go_simp
        with_reducible rfl
      rotate_left
      · simp only [Act.put, List.setIfInBounds_toArray, List.set_cons_zero, List.set_cons_succ]
        rfl
      refine take_ (i := 29) (N := some 44) (v := ?_) (a' := ?_) #[true, true, true, true, true, true, true, true, true, true, true, true, true, true, true, true, true, true, true, true, true, true, true, true, true, true, true, true, true, true, false, true, true, true, true, true, true, true, false, true, false, false, false, false] rfl rfl (by kernel_rfl) (fun _ _ _ h => h) (Or.inl ⟨by rfl, ?_⟩) hHeld ?_ ?_
      rotate_left
      · rintro w' ⟨⟨s0, s1, s2, s3⟩, s4, s5, s6, s7⟩
        go_simp
        with_reducible rfl
      rotate_left
      · simp only [Act.put, List.setIfInBounds_toArray, List.set_cons_zero, List.set_cons_succ]
        rfl
      refine pure_ (i := 30) (N := some 45) (v := ?_) (a' := ?_) #[true, true, true, true, true, true, true, true, true, true, true, true, true, true, true, true, true, true, true, true, true, true, true, true, true, true, true, true, true, true, true, true, true, true, true, true, true, true, false, true, false, false, false, false] rfl rfl (by kernel_rfl) (fun _ _ _ h => h) (Or.inl ⟨by rfl, ?_⟩) ?_ ?_
      rotate_left
      · intro w'
        go_simp
        with_reducible rfl
      rotate_left
      · simp only [Act.put, List.setIfInBounds_toArray, List.set_cons_zero, List.set_cons_succ]
        rfl
      refine one_ (i := 38) (N := some 53) #[true, true, true, true, true, true, true, true, true, true, true, true, true, true, true, true, true, true, true, true, true, true, true, true, true, true, true, true, true, true, true, true, true, true, true, true, true, true, true, true, false, false, false, false] rfl rfl (by kernel_rfl) (by decide) (fun K' hK' => ?_)
      refine goes_ Try.func18 (by kernel_rfl) rfl #[.agg #[.int .i64 W, .int .i64 H, .int .i64 p, .slice (some ad) l.length c], .int .i64 (2 * (x : Int) + 1), .int .i64 (2 * (y : Int) + 1)] (by rfl) rfl rfl (by simp only [List.map_toArray, List.map_cons, List.map_nil]; rfl) ?_
      refine (HAT3.out _).mono ?_
      rintro e w5 ⟨rfl, hb⟩
      refine ⟨_, rfl, ?_⟩
      have HI5 := Aside0.mk (HI4.out.below hb)
      have HB5 := Aside0.mk (below_step HB4.out hb)
      have HO5 := Aside0.mk (Kd.R_below HO4.out hb)
      have h0_5 := pw_cell_below hb h0_4
      have h1_5 := pw_cell_below hb h1_4
      have h2_5 := pw_cell_below hb h2_4
      have h3_5 := pw_cell_below hb h3_4
      clear hb HI4 HB4 HO4 h0_4 h1_4 h2_4 h3_4
      refine hK'.out _ _ ⟨⟨HI5.out.c0, HI5.out.c1, HI5.out.c2, HI5.out.c3⟩, h0_5, h1_5, h2_5, h3_5⟩ (fun hHeld => ?_)
      clear hK' K'
      refine norm_ (a' := ?_) ?_ ?_
      rotate_left
      · show Act.put _ (some 53) _ = _
        simp only [Act.put, List.setIfInBounds_toArray, List.set_cons_zero, List.set_cons_succ]
        rfl
      refine pure_ (i := 40) (N := some 55) (v := ?_) (a' := ?_) #[true, true, true, true, true, true, true, true, true, true, true, true, true, true, true, true, true, true, true, true, true, true, true, true, true, true, true, true, true, true, true, true, true, true, true, true, true, true, true, true, true, false, false, false] rfl rfl (by kernel_rfl) (fun _ _ _ h => h) (Or.inl ⟨by rfl, ?_⟩) ?_ ?_
      rotate_left
      · intro w'
        go_simp
        with_reducible rfl
      rotate_left
      · simp only [Act.put, List.setIfInBounds_toArray, List.set_cons_zero, List.set_cons_succ]
        rfl
      refine take_ (i := 41) (N := some 56) (v := ?_) (a' := ?_) #[true, true, true, true, true, true, true, true, true, true, true, true, true, true, true, true, true, true, true, true, true, true, true, true, true, true, true, true, true, true, true, true, true, true, true, true, true, true, true, true, true, true, false, false] rfl rfl (by kernel_rfl) (fun _ _ _ h => h) (Or.inl ⟨by rfl, ?_⟩) hHeld ?_ ?_
      rotate_left
      · rintro w' ⟨⟨s0, s1, s2, s3⟩, s4, s5, s6, s7⟩
        go_simp
        with_reducible rfl
      rotate_left
      · simp only [Act.put, List.setIfInBounds_toArray, List.set_cons_zero, List.set_cons_succ]
        rfl
      refine pure_ (i := 42) (N := some 57) (v := ?_) (a' := ?_) #[true, true, true, true, true, true, true, true, true, true, true, true, true, true, true, true, true, true, true, true, true, true, true, true, true, true, true, true, true, true, true, true, true, true, true, true, true, true, true, true, true, true, true, false] rfl rfl (by kernel_rfl) (fun _ _ _ h => h) (Or.inl ⟨by rfl, ?_⟩) ?_ ?_
      rotate_left
      · intro w'
        go_simp
        with_reducible rfl
      rotate_left
      · simp only [Act.put, List.setIfInBounds_toArray, List.set_cons_zero, List.set_cons_succ]
        rfl
      refine pure_ (i := 43) (N := some 8) (v := ?_) (a' := ?_) #[true, true, true, true, true, true, true, true, true, true, true, true, true, true, true, true, true, true, true, true, true, true, true, true, true, true, true, true, true, true, true, true, true, true, true, true, true, true, true, true, true, true, true, true] rfl rfl (by kernel_rfl) (fun _ _ _ h => h) (Or.inl ⟨by rfl, ?_⟩) ?_ ?_
      rotate_left
      · intro w'
        go_simp
        with_reducible rfl
      rotate_left
      · simp only [Act.put, List.setIfInBounds_toArray, List.set_cons_zero, List.set_cons_succ]
        rfl
      refine done_ (by kernel_rfl) ?_
      clear hHeld h0_5 h1_5 h2_5 h3_5
      go_wp2_with (first
        | (go_at_call 19; refine (impl_rounded.calls _ _ _ _ (rounded_four _ (by omega) (by omega))).mono ?_; rintro e w6 ⟨rfl, hd⟩; have hb := hd.below; have HI6 := Aside0.mk (HI5.out.below hb); have HB6 := Aside0.mk (below_step HB5.out hb); have HO6 := Aside0.mk (Kd.R_below HO5.out hb); clear hb hd)
        | (at_builtin; refine Kd.R_append (Kd.int .i64) (w0 := w) w.heap.size rfl (.tmp 58) (.tmp 61) 23 3 (.int .i64 0) 8 rfl Try.underlying23 info3 rfl (by decide) (by omega) u6 (halfL W p l x y k) ((q0 + q1 + q2 + q3 + 2) / 4) [.int .i64 ((q0 + q1 + q2 + q3 + 2) / 4)] (fun _ => True) (fun _ => False) rfl rfl ?aP (fun _ hk => hk.elim) (fun _ _ => trivial) HO6.out HB6.out (below_size HB6.out) ?aL ?_; (case aP => exact rfl); (case aL => rw [halfL_length]; omega); intro v1 w7 ho hb hg hat; have HI7 := Aside0.mk (HI6.out.grown hg (Kd.R_ne HO6.out HI6.out.out (by decide))); rw [HQ.out, ← halfL_snoc] at ho; have HO7 := Aside0.mk ho; have HB7 := Aside0.mk hb; clear ho hb hg hat))
      go_roundw
      case rel => exact ⟨k + 1, by omega, by go_num, HI7, HO7, HB7⟩
      case measure => simp [intOf]; omega
    · have hk' : k = p := by omega
      subst hk'
      have hdk : decide (k < k) = false := decide_eq_false (by omega)
      obtain ⟨A', c', rfl, hcap, hC⟩ := Kd.R_reads HO.out
      go_wp2
      go_ret
      exact ⟨_, _, rfl, hC, HB.out⟩
/-- What can be halved. -/
def HalfOk (a0 a1 a2 : Int) (l : List Int) : Prop := ImgOk a0 a1 a2 l ∧ a0 % 2 = 0 ∧ a1 % 2 = 0
instance (a0 a1 a2 : Int) (l : List Int) : Decidable (HalfOk a0 a1 a2 l) := by unfold HalfOk; exact inferInstance
def impl_HalveImage.f (a0_0 : Int) (a0_1 : Int) (a0_2 : Int) (l0_3 : List Int) : Option (Int × Int × Int × List Int) := some (if HalfOk a0_0 a0_1 a0_2 l0_3 then (a0_0 / 2, a0_1 / 2, a0_2, pixelsUpto (fun x y => halfL a0_0.toNat a0_2.toNat l0_3 x y a0_2.toNat) (a0_0.toNat / 2) (a0_0.toNat / 2 * (a0_1.toNat / 2))) else (0, 0, 0, []))
set_option maxHeartbeats 8000000 in
set_option maxRecDepth 100000 in
theorem impl_HalveImage.no1 (a0 a1 a2 : Int) (A : Option Addr) (c : Nat) (l : List Int) (w : World) (hr : Kd.C (Kd.int .i64) w A l.length l) (hc : l.length ≤ c) (h : ¬ ImgOk a0 a1 a2 l) :
    Calls Try.prog 5 #[.agg #[.int .i64 a0, .int .i64 a1, .int .i64 a2, .slice A l.length c]] w fun e w' => e = .returned (.agg #[.int .i64 0, .int .i64 0, .int .i64 0, .slice none 0 0]) ∧ Below w.heap.size w w' := by
  have HV : Aside0 (∀ W' : World, Below w.heap.size w W' → Calls Try.prog 15 #[.agg #[.int .i64 a0, .int .i64 a1, .int .i64 a2, .slice A l.length c]] W' fun e w' => e = .returned (.bool false) ∧ Below W'.heap.size W' w') := ⟨fun W' hW => isImage_false h A c W' (Kd.C_below hr hW) hc⟩
  have HB0 := Aside0.mk (allocs_below [.cells #[.int .i64 a0, .int .i64 a1, .int .i64 a2, .slice A l.length c] 25, .cells #[.int .i64 0, .int .i64 0, .int .i64 0, .slice none 0 0] 25] w)
  have HI0 : Aside0 (IsImg (allocs w [.cells #[.int .i64 a0, .int .i64 a1, .int .i64 a2, .slice A l.length c] 25, .cells #[.int .i64 0, .int .i64 0, .int .i64 0, .slice none 0 0] 25]) w.heap.size a0 a1 a2 (.slice A l.length c)) := ⟨allocs_img _ w 0 _ _ _ _ rfl⟩
  have HZ0 : Aside0 (IsImg (allocs w [.cells #[.int .i64 a0, .int .i64 a1, .int .i64 a2, .slice A l.length c] 25, .cells #[.int .i64 0, .int .i64 0, .int .i64 0, .slice none 0 0] 25]) (w.heap.size + 1) 0 0 0 (.slice none 0 0)) := ⟨allocs_img _ w 1 _ _ _ _ rfl⟩
  have hu := Try.underlying25
  clear hr hc h
  go_enter Try.func5, Try.ntmps5
  go_wp2_with (first
    | (refine wpList_load_img rfl _ rfl w.heap.size a0 a1 a2 _ rfl HI0.out ?_)
    | (go_at_call 15; refine (HV.out _ HB0.out).mono ?_; rintro e w1 ⟨rfl, hb⟩; have HI1 := Aside0.mk (HI0.out.below hb); have hc0_1 := HI1.out.c0; have hc1_1 := HI1.out.c1; have hc2_1 := HI1.out.c2; have HZ1 := Aside0.mk (HZ0.out.below hb); have HB1 := Aside0.mk (below_step HB0.out hb); clear hb)
    | (refine wpList_store_img rfl _ _ rfl _ 0 0 0 0 0 0 _ _ rfl rfl rfl HZ1.out ?_))
  refine bodyPost_ret (results_cell_row rfl _ _ (w.heap.size + 1) _ _ _ _ rfl (HZ1.out.row 0 0 0 _).out Try.underlying25 rfl img_size) rfl ⟨rfl, below_putRow HB1.out _ _ (by omega)⟩
set_option maxHeartbeats 8000000 in
set_option maxRecDepth 100000 in
theorem impl_HalveImage.no2 (W H p : Nat) (A : Option Addr) (c : Nat) (l : List Int) (w : World) (hr : Kd.C (Kd.int .i64) w A l.length l) (hc : l.length ≤ c) (h : ImgOk W H p l) (hl : l.length = W * H * p) (hW0 : 1 ≤ W) (hH0 : 1 ≤ H) (hp0 : 1 ≤ p) (hW1 : W ≤ 16) (hH1 : H ≤ 16) (hp1 : p ≤ 4) (hw : W % 2 = 1) :
    Calls Try.prog 5 #[.agg #[.int .i64 W, .int .i64 H, .int .i64 p, .slice A l.length c]] w fun e w' => e = .returned (.agg #[.int .i64 0, .int .i64 0, .int .i64 0, .slice none 0 0]) ∧ Below w.heap.size w w' := by
  have HV : Aside0 (∀ W' : World, Below w.heap.size w W' → Calls Try.prog 15 #[.agg #[.int .i64 W, .int .i64 H, .int .i64 p, .slice A l.length c]] W' fun e w' => e = .returned (.bool true) ∧ Below W'.heap.size W' w') := ⟨fun W' hW => isImage_true h A c W' (Kd.C_below hr hW) hc⟩
  have tW1 : Int.tmod (W : Int) 2 = 1 := by rw [Int.tmod_eq_emod_of_nonneg (by omega)]; omega
  have tW2 : (W : Int) % 2 = 1 := by omega
  have HB0 := Aside0.mk (allocs_below [.cells #[.int .i64 W, .int .i64 H, .int .i64 p, .slice A l.length c] 25, .cells #[.int .i64 0, .int .i64 0, .int .i64 0, .slice none 0 0] 25] w)
  have HI0 : Aside0 (IsImg (allocs w [.cells #[.int .i64 W, .int .i64 H, .int .i64 p, .slice A l.length c] 25, .cells #[.int .i64 0, .int .i64 0, .int .i64 0, .slice none 0 0] 25]) w.heap.size W H p (.slice A l.length c)) := ⟨allocs_img _ w 0 _ _ _ _ rfl⟩
  have HZ0 : Aside0 (IsImg (allocs w [.cells #[.int .i64 W, .int .i64 H, .int .i64 p, .slice A l.length c] 25, .cells #[.int .i64 0, .int .i64 0, .int .i64 0, .slice none 0 0] 25]) (w.heap.size + 1) 0 0 0 (.slice none 0 0)) := ⟨allocs_img _ w 1 _ _ _ _ rfl⟩
  have hu := Try.underlying25
  clear hr hc h hl hw
  go_enter Try.func5, Try.ntmps5
  go_wp2_with (first
    | (refine wpList_load_img rfl _ rfl w.heap.size W H p _ rfl HI0.out ?_)
    | (go_at_call 15; refine (HV.out _ HB0.out).mono ?_; rintro e w1 ⟨rfl, hb⟩; have HI1 := Aside0.mk (HI0.out.below hb); have hc0_1 := HI1.out.c0; have hc1_1 := HI1.out.c1; have hc2_1 := HI1.out.c2; have HZ1 := Aside0.mk (HZ0.out.below hb); have HB1 := Aside0.mk (below_step HB0.out hb); clear hb)
    | (refine wpList_store_img rfl _ _ rfl _ 0 0 0 0 0 0 _ _ rfl rfl rfl HZ1.out ?_))
  refine bodyPost_ret (results_cell_row rfl _ _ (w.heap.size + 1) _ _ _ _ rfl (HZ1.out.row 0 0 0 _).out Try.underlying25 rfl img_size) rfl ⟨rfl, below_putRow HB1.out _ _ (by omega)⟩
set_option maxHeartbeats 8000000 in
set_option maxRecDepth 100000 in
theorem impl_HalveImage.no3 (W H p : Nat) (A : Option Addr) (c : Nat) (l : List Int) (w : World) (hr : Kd.C (Kd.int .i64) w A l.length l) (hc : l.length ≤ c) (h : ImgOk W H p l) (hl : l.length = W * H * p) (hW0 : 1 ≤ W) (hH0 : 1 ≤ H) (hp0 : 1 ≤ p) (hW1 : W ≤ 16) (hH1 : H ≤ 16) (hp1 : p ≤ 4) (hw : W % 2 = 0) (hh : H % 2 = 1) :
    Calls Try.prog 5 #[.agg #[.int .i64 W, .int .i64 H, .int .i64 p, .slice A l.length c]] w fun e w' => e = .returned (.agg #[.int .i64 0, .int .i64 0, .int .i64 0, .slice none 0 0]) ∧ Below w.heap.size w w' := by
  have HV : Aside0 (∀ W' : World, Below w.heap.size w W' → Calls Try.prog 15 #[.agg #[.int .i64 W, .int .i64 H, .int .i64 p, .slice A l.length c]] W' fun e w' => e = .returned (.bool true) ∧ Below W'.heap.size W' w') := ⟨fun W' hW => isImage_true h A c W' (Kd.C_below hr hW) hc⟩
  have tW1 : Int.tmod (W : Int) 2 = 0 := by rw [Int.tmod_eq_emod_of_nonneg (by omega)]; omega
  have tW2 : (W : Int) % 2 = 0 := by omega
  have tH1 : Int.tmod (H : Int) 2 = 1 := by rw [Int.tmod_eq_emod_of_nonneg (by omega)]; omega
  have tH2 : (H : Int) % 2 = 1 := by omega
  have HB0 := Aside0.mk (allocs_below [.cells #[.int .i64 W, .int .i64 H, .int .i64 p, .slice A l.length c] 25, .cells #[.int .i64 0, .int .i64 0, .int .i64 0, .slice none 0 0] 25] w)
  have HI0 : Aside0 (IsImg (allocs w [.cells #[.int .i64 W, .int .i64 H, .int .i64 p, .slice A l.length c] 25, .cells #[.int .i64 0, .int .i64 0, .int .i64 0, .slice none 0 0] 25]) w.heap.size W H p (.slice A l.length c)) := ⟨allocs_img _ w 0 _ _ _ _ rfl⟩
  have HZ0 : Aside0 (IsImg (allocs w [.cells #[.int .i64 W, .int .i64 H, .int .i64 p, .slice A l.length c] 25, .cells #[.int .i64 0, .int .i64 0, .int .i64 0, .slice none 0 0] 25]) (w.heap.size + 1) 0 0 0 (.slice none 0 0)) := ⟨allocs_img _ w 1 _ _ _ _ rfl⟩
  have hu := Try.underlying25
  clear hr hc h hl hw hh
  go_enter Try.func5, Try.ntmps5
  go_wp2_with (first
    | (refine wpList_load_img rfl _ rfl w.heap.size W H p _ rfl HI0.out ?_)
    | (go_at_call 15; refine (HV.out _ HB0.out).mono ?_; rintro e w1 ⟨rfl, hb⟩; have HI1 := Aside0.mk (HI0.out.below hb); have hc0_1 := HI1.out.c0; have hc1_1 := HI1.out.c1; have hc2_1 := HI1.out.c2; have HZ1 := Aside0.mk (HZ0.out.below hb); have HB1 := Aside0.mk (below_step HB0.out hb); clear hb)
    | (refine wpList_store_img rfl _ _ rfl _ 0 0 0 0 0 0 _ _ rfl rfl rfl HZ1.out ?_))
  refine bodyPost_ret (results_cell_row rfl _ _ (w.heap.size + 1) _ _ _ _ rfl (HZ1.out.row 0 0 0 _).out Try.underlying25 rfl img_size) rfl ⟨rfl, below_putRow HB1.out _ _ (by omega)⟩
set_option maxHeartbeats 8000000 in
set_option maxRecDepth 100000 in
theorem impl_HalveImage.yes (W H p : Nat) (ad : Addr) (c : Nat) (l : List Int) (w : World) (hr : Kd.C (Kd.int .i64) w (some ad) l.length l) (hc : l.length ≤ c) (h : ImgOk W H p l) (hl : l.length = W * H * p) (hW0 : 1 ≤ W) (hH0 : 1 ≤ H) (hp0 : 1 ≤ p) (hW1 : W ≤ 16) (hH1 : H ≤ 16) (hp1 : p ≤ 4) (hw : W % 2 = 0) (hh : H % 2 = 0) :
    Calls Try.prog 5 #[.agg #[.int .i64 W, .int .i64 H, .int .i64 p, .slice (some ad) l.length c]] w fun e w' => ∃ v : Value, e = .returned (.agg #[.int .i64 (W / 2 : Nat), .int .i64 (H / 2 : Nat), .int .i64 p, v]) ∧ Kd.R (Kd.int .i64) 3 w' w.heap.size (fun _ => True) v (pixelsUpto (fun x y => halfL W p l x y p) (W / 2) (W / 2 * (H / 2))) ∧ Below w.heap.size w w' := by
  have HV : Aside0 (∀ W' : World, Below w.heap.size w W' → Calls Try.prog 15 #[.agg #[.int .i64 W, .int .i64 H, .int .i64 p, .slice (some ad) l.length c]] W' fun e w' => e = .returned (.bool true) ∧ Below W'.heap.size W' w') := ⟨fun W' hW => isImage_true h (some ad) c W' (Kd.C_below hr hW) hc⟩
  have HM : Aside0 (∀ W' : World, Below w.heap.size w W' → IsImg W' w.heap.size W H p (.slice (some ad) l.length c) → Calls Try.prog 16 #[.int .i64 (W / 2 : Nat), .int .i64 (H / 2 : Nat), .int .i64 p, .func (.func 17) #[] #[.pointer (some ⟨w.heap.size, 0, none⟩)]] W' fun e w' => ∃ v : Value, e = .returned (.agg #[.int .i64 (W / 2 : Nat), .int .i64 (H / 2 : Nat), .int .i64 p, v]) ∧ Kd.R (Kd.int .i64) 3 w' W'.heap.size (fun _ => True) v (pixelsUpto (fun x y => halfL W p l x y p) (W / 2) ((W / 2) * (H / 2))) ∧ Below W'.heap.size W' w') :=
    ⟨fun W' hW hI => impl_imageBy.any 17 _ #[.pointer (some ⟨w.heap.size, 0, none⟩)] (fun x y => halfL W p l x y p) Try.func17 (by kernel_rfl) rfl (W / 2) (H / 2) p W' (by omega) (by omega) (fun x y hx hy => by rw [halfL_length]; omega) (fun x y w' hx hy hb => (impl_HalveImage_1.any x y W H p (by omega) (by omega) ad c l w.heap.size w' (hI.below hb) (Kd.C_below hr (below_step hW hb)) hc hl hp0 hW1 hH1 hp1 h.2.2.2.2))⟩
  have tW1 : Int.tmod (W : Int) 2 = 0 := by rw [Int.tmod_eq_emod_of_nonneg (by omega)]; omega
  have tW2 : (W : Int) % 2 = 0 := by omega
  have tH1 : Int.tmod (H : Int) 2 = 0 := by rw [Int.tmod_eq_emod_of_nonneg (by omega)]; omega
  have tH2 : (H : Int) % 2 = 0 := by omega
  have d1 : Int.tdiv (W : Int) 2 = (W : Int) / 2 := Int.tdiv_eq_ediv_of_nonneg (by omega)
  have d2 : Int.tdiv (H : Int) 2 = (H : Int) / 2 := Int.tdiv_eq_ediv_of_nonneg (by omega)
  have HB0 := Aside0.mk (allocs_below [.cells #[.int .i64 W, .int .i64 H, .int .i64 p, .slice (some ad) l.length c] 25, .cells #[.int .i64 0, .int .i64 0, .int .i64 0, .slice none 0 0] 25] w)
  have HI0 : Aside0 (IsImg (allocs w [.cells #[.int .i64 W, .int .i64 H, .int .i64 p, .slice (some ad) l.length c] 25, .cells #[.int .i64 0, .int .i64 0, .int .i64 0, .slice none 0 0] 25]) w.heap.size W H p (.slice (some ad) l.length c)) := ⟨allocs_img _ w 0 _ _ _ _ rfl⟩
  have HZ0 : Aside0 (IsImg (allocs w [.cells #[.int .i64 W, .int .i64 H, .int .i64 p, .slice (some ad) l.length c] 25, .cells #[.int .i64 0, .int .i64 0, .int .i64 0, .slice none 0 0] 25]) (w.heap.size + 1) 0 0 0 (.slice none 0 0)) := ⟨allocs_img _ w 1 _ _ _ _ rfl⟩
  have hu := Try.underlying25
  clear hr hc h hl hw hh
  go_enter Try.func5, Try.ntmps5
  go_wp2_with (first
    | (refine wpList_load_img rfl _ rfl w.heap.size W H p _ rfl HI0.out ?_)
    | (go_at_call 15; refine (HV.out _ HB0.out).mono ?_; rintro e w1 ⟨rfl, hb⟩; have HI1 := Aside0.mk (HI0.out.below hb); have hc0_1 := HI1.out.c0; have hc1_1 := HI1.out.c1; have hc2_1 := HI1.out.c2; have HZ1 := Aside0.mk (HZ0.out.below hb); have HB1 := Aside0.mk (below_step HB0.out hb); clear hb)
    | (refine wpList_load_img rfl _ rfl w.heap.size W H p _ rfl HI1.out ?_)
    | (go_at_call 16; refine (HM.out _ HB1.out HI1.out).mono ?_; rintro e w2 ⟨v, rfl, ho, hb⟩; have HZ2 := Aside0.mk (HZ1.out.below hb); have HO := Aside0.mk (Kd.R_lower ho (below_size HB1.out)); have HB2 := Aside0.mk (below_step HB1.out hb); clear hb ho; have H1 := Aside0.mk (own_one HO.out))
    | (refine wpList_store_img rfl _ _ rfl _ 0 0 0 ((W / 2 : Nat) : Int) ((H / 2 : Nat) : Int) p _ _ rfl rfl H1.out HZ2.out ?_))
  refine bodyPost_ret (results_cell_row rfl _ _ (w.heap.size + 1) _ _ _ _ rfl (HZ2.out.row ((W / 2 : Nat) : Int) ((H / 2 : Nat) : Int) p _).out Try.underlying25 rfl img_size) rfl ⟨v, rfl, ?_, below_putRow HB2.out _ _ (by omega)⟩
  exact Kd.R_mono (Kd.R_step (Kd.R_types HO.out HZ2.out.out (by decide)) (fun j hj _ => setRow_other _ _ _ _ hj.2)) (fun _ _ => trivial)
theorem impl_HalveImage.calls (a0_0 : Int) (a0_1 : Int) (a0_2 : Int) (A0_3 : Option Addr) (c0_3 : Nat) (l0_3 : List Int)  (r1 : Int) (r2 : Int) (r3 : Int) (r4 : List Int) (w : World) (hr0_3 : Kd.C (Kd.int .i64) w A0_3 l0_3.length l0_3) (hc0_3 : l0_3.length ≤ c0_3) (h : impl_HalveImage.f a0_0 a0_1 a0_2 l0_3  = some (r1, r2, r3, r4)) :
    Calls Try.prog 5 #[.agg #[.int .i64 a0_0, .int .i64 a0_1, .int .i64 a0_2, .slice A0_3 l0_3.length c0_3]] w fun e w' => ∃ v3_ : Value, e = .returned (.agg #[.int .i64 r1, .int .i64 r2, .int .i64 r3, v3_]) ∧ Kd.R (Kd.int .i64) 3 w' w.heap.size (fun _ => True) v3_ r4 ∧ Below w.heap.size w w' := by
  unfold impl_HalveImage.f at h
  by_cases hk : HalfOk a0_0 a0_1 a0_2 l0_3
  · rw [if_pos hk] at h
    simp only [Option.some.injEq, Prod.mk.injEq] at h
    obtain ⟨rfl, rfl, rfl, rfl⟩ := h
    obtain ⟨hi, h1, h2⟩ := hk
    obtain ⟨W, H, p, rfl, rfl, rfl, hl, b1, b2, b3, b4, b5, b6⟩ := hi.nats
    obtain ⟨ad, rfl, _⟩ := hr0_3.2.2 (by have := hi.len.1; omega)
    exact impl_HalveImage.yes W H p ad c0_3 l0_3 w hr0_3 hc0_3 hi hl b1 b2 b3 b4 b5 b6 (by omega) (by omega)
  · rw [if_neg hk] at h
    simp only [Option.some.injEq, Prod.mk.injEq] at h
    obtain ⟨rfl, rfl, rfl, rfl⟩ := h
    have hn : Calls Try.prog 5 #[.agg #[.int .i64 a0_0, .int .i64 a0_1, .int .i64 a0_2, .slice A0_3 l0_3.length c0_3]] w fun e w' => e = .returned (.agg #[.int .i64 0, .int .i64 0, .int .i64 0, .slice none 0 0]) ∧ Below w.heap.size w w' := by
      by_cases hi : ImgOk a0_0 a0_1 a0_2 l0_3
      · obtain ⟨W, H, p, rfl, rfl, rfl, hl, b1, b2, b3, b4, b5, b6⟩ := hi.nats
        by_cases h2 : W % 2 = 0
        · exact impl_HalveImage.no3 W H p A0_3 c0_3 l0_3 w hr0_3 hc0_3 hi hl b1 b2 b3 b4 b5 b6 h2 (by by_cases h3 : H % 2 = 0; exact absurd ⟨hi, by omega, by omega⟩ hk; omega)
        · exact impl_HalveImage.no2 W H p A0_3 c0_3 l0_3 w hr0_3 hc0_3 hi hl b1 b2 b3 b4 b5 b6 (by omega)
      · exact impl_HalveImage.no1 _ _ _ A0_3 c0_3 l0_3 w hr0_3 hc0_3 hi
    refine hn.mono ?_
    rintro e w1 ⟨rfl, hb⟩
    exact ⟨_, rfl, Kd.R_nil _ _ _ _ _, hb⟩

end Go.Proofs.Ytebnppmojkgndaa.Print
