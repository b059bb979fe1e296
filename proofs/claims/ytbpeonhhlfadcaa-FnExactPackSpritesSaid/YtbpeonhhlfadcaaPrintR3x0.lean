-- laid by hp.py (a program of this work over the kit's print), with contracts by hand for what the print does not take
import Derived.Test.YtbpeonhhlfadcaaPrint0
import Derived.Test.YtbpeonhhlfadcaaPrintHspectallFirst
import Derived.Test.YtbpeonhhlfadcaaPrintHx0
import Derived.Test.YtbpeonhhlfadcaaPrintR0x0
namespace Go.Proofs.Ytbpeonhhlfadcaa.Print
open Go.RowKit Go.Proofs.YtbpeonhhlfadcaaW.PrintWords Go.Proofs.YtbpeonhhlfadcaaW.PrintLast Go.Proofs.YtbpeonhhlfadcaaW.PrintMore
attribute [local go_sem] max2_int min2_int max_two min_two max_three min_three max_four min_four   -- for this text's walks alone
set_option linter.unusedVariables false
set_option linter.unusedSimpArgs false

/-! ### spec_PackSprites: function 7 -/
mutual
def spec_PackSprites.l0 : Nat → List (S33) → Int → List (S31) → List Int → List Int → Int → List Int → Int → Option ((List (S31)) × Int)
 | 0, _, _, _, _, _, _, _, _ => none
 | k + 1, x0, x1, x6, x7, x8, x9, x10, x11 => if x11 < (x10.length : Int) then (if 0 ≤ x11 then (if 0 ≤ (rd x10 x11) then (if (rd x10 x11) < (x0.length : Int) then (spec_PackSprites.l1 k x0 x1 x6 x7 x8 x9 x10 x11 0 ((rd_T33 x0 (rd x10 x11)).f0) ((rd_T33 x0 (rd x10 x11)).f1)) else (none)) else (none)) else (none)) else (some (x6, x9))
def spec_PackSprites.l1 : Nat → List (S33) → Int → List (S31) → List Int → List Int → Int → List Int → Int → Int → Int → Int → Option ((List (S31)) × Int)
 | 0, _, _, _, _, _, _, _, _, _, _, _ => none
 | k + 1, x0, x1, x6, x7, x8, x9, x10, x11, x13, x117000, x117001 => if x13 < (x8.length : Int) then (if 0 ≤ x13 then (if (wrap64 ((rd x8 x13) + x117000)) > x1 then (spec_PackSprites.l1 k x0 x1 x6 x7 x8 x9 x10 x11 (wrap64 (x13 + 1)) x117000 x117001) else (if x13 = (x8.length : Int) then (if x7.length < 17592186044416 then ((some (x7 ++ [x9] : List Int)).bind fun y118 => (if x8.length < 17592186044416 then ((some (x8 ++ [0] : List Int)).bind fun y121 => (if 0 ≤ x11 then (if x11 < (x10.length : Int) then (if x13 < (y121.length : Int) then (if x13 < (y118.length : Int) then (if 0 ≤ (rd x10 x11) then (if (rd x10 x11) < (x6.length : Int) then (spec_PackSprites.l0 k x0 x1 (x6.set ((rd x10 x11) : Int).toNat (⟨rd y121 x13, rd y118 x13, x117000, x117001⟩ : S31)) y118 (y121.set (x13 : Int).toNat (wrap64 ((rd y121 x13) + x117000))) (wrap64 (x9 + x117001)) x10 (wrap64 (x11 + 1))) else (none)) else (none)) else (none)) else (none)) else (none)) else (none))) else (none))) else (none)) else (if 0 ≤ x11 then (if x11 < (x10.length : Int) then (if x13 < (x7.length : Int) then (if 0 ≤ (rd x10 x11) then (if (rd x10 x11) < (x6.length : Int) then (spec_PackSprites.l0 k x0 x1 (x6.set ((rd x10 x11) : Int).toNat (⟨rd x8 x13, rd x7 x13, x117000, x117001⟩ : S31)) x7 (x8.set (x13 : Int).toNat (wrap64 ((rd x8 x13) + x117000))) x9 x10 (wrap64 (x11 + 1))) else (none)) else (none)) else (none)) else (none)) else (none)))) else (none)) else (if x13 = (x8.length : Int) then (if x7.length < 17592186044416 then ((some (x7 ++ [x9] : List Int)).bind fun y136 => (if x8.length < 17592186044416 then ((some (x8 ++ [0] : List Int)).bind fun y139 => (if 0 ≤ x11 then (if x11 < (x10.length : Int) then (if 0 ≤ x13 then (if x13 < (y139.length : Int) then (if x13 < (y136.length : Int) then (if 0 ≤ (rd x10 x11) then (if (rd x10 x11) < (x6.length : Int) then (spec_PackSprites.l0 k x0 x1 (x6.set ((rd x10 x11) : Int).toNat (⟨rd y139 x13, rd y136 x13, x117000, x117001⟩ : S31)) y136 (y139.set (x13 : Int).toNat (wrap64 ((rd y139 x13) + x117000))) (wrap64 (x9 + x117001)) x10 (wrap64 (x11 + 1))) else (none)) else (none)) else (none)) else (none)) else (none)) else (none)) else (none))) else (none))) else (none)) else (if 0 ≤ x11 then (if x11 < (x10.length : Int) then (if 0 ≤ x13 then (none) else (none)) else (none)) else (none)))
end
def spec_PackSprites.f (k : Nat) (l0 : List (S33)) (a1 : Int) : Option ((List (S31)) × Int) := (spec_validSprites.f k l0 a1).bind fun t101 => (if t101 = true then (if 0 ≤ (l0.length : Int) then (if ((l0.length : Int) : Int).toNat ≤ 8796093022208 then ((spec_tallFirst.f l0).bind fun t111 => (spec_PackSprites.l0 k l0 a1 (List.replicate ((l0.length : Int) : Int).toNat z31) (([] : List Int)) (([] : List Int)) 0 t111 0)) else (none)) else (none)) else (some (([] : List (S31)), (-1))))
theorem spec_PackSprites.mono_l : ∀ k, (∀ y0 y1 y2 y3 y4 y5 y6 y7, LeO (spec_PackSprites.l0 k y0 y1 y2 y3 y4 y5 y6 y7) (spec_PackSprites.l0 (k + 1) y0 y1 y2 y3 y4 y5 y6 y7)) ∧ (∀ y0 y1 y2 y3 y4 y5 y6 y7 y8 y9 y10, LeO (spec_PackSprites.l1 k y0 y1 y2 y3 y4 y5 y6 y7 y8 y9 y10) (spec_PackSprites.l1 (k + 1) y0 y1 y2 y3 y4 y5 y6 y7 y8 y9 y10))
 | 0 => ⟨fun _ _ _ _ _ _ _ _ r h => by simp [spec_PackSprites.l0] at h, fun _ _ _ _ _ _ _ _ _ _ _ r h => by simp [spec_PackSprites.l1] at h⟩
 | k + 1 => by
  obtain ⟨ih0, ih1⟩ := spec_PackSprites.mono_l k
  refine ⟨?_, ?_⟩
  ·
   intro y0 y1 y2 y3 y4 y5 y6 y7
   unfold spec_PackSprites.l0
   repeat' first
   | (with_reducible exact ih0 _ _ _ _ _ _ _ _)
   | (with_reducible exact ih1 _ _ _ _ _ _ _ _ _ _ _)
   | (with_reducible exact spec_validSprites.mono _ _ _)
   | (with_reducible exact LeO.refl _)
   | (with_reducible exact LeO.none _)
   | (with_reducible refine LeO.ite ?_ ?_)
   | (with_reducible refine LeO.bind ?_ (fun _ => ?_))
   | exact ih0 _ _ _ _ _ _ _ _
   | exact ih1 _ _ _ _ _ _ _ _ _ _ _
   | exact spec_validSprites.mono _ _ _
   | exact LeO.none _
   | refine LeO.ite ?_ ?_
   | refine LeO.bind ?_ (fun _ => ?_)
  intro y0 y1 y2 y3 y4 y5 y6 y7 y8 y9 y10
  unfold spec_PackSprites.l1
  repeat' first
  | (with_reducible exact ih0 _ _ _ _ _ _ _ _)
  | (with_reducible exact ih1 _ _ _ _ _ _ _ _ _ _ _)
  | (with_reducible exact spec_validSprites.mono _ _ _)
  | (with_reducible exact LeO.refl _)
  | (with_reducible exact LeO.none _)
  | (with_reducible refine LeO.ite ?_ ?_)
  | (with_reducible refine LeO.bind ?_ (fun _ => ?_))
  | exact ih0 _ _ _ _ _ _ _ _
  | exact ih1 _ _ _ _ _ _ _ _ _ _ _
  | exact spec_validSprites.mono _ _ _
  | exact LeO.none _
  | refine LeO.ite ?_ ?_
  | refine LeO.bind ?_ (fun _ => ?_)
theorem spec_PackSprites.mono : ∀ a0 a1 k, LeO (spec_PackSprites.f k a0 a1) (spec_PackSprites.f (k + 1) a0 a1) := by
 intro a0 a1 k
 obtain ⟨ih0, ih1⟩ := spec_PackSprites.mono_l k
 unfold spec_PackSprites.f
 repeat' first
   | (with_reducible exact ih0 _ _ _ _ _ _ _ _)
   | (with_reducible exact ih1 _ _ _ _ _ _ _ _ _ _ _)
   | (with_reducible exact spec_validSprites.mono _ _ _)
   | (with_reducible exact LeO.refl _)
   | (with_reducible exact LeO.none _)
   | (with_reducible refine LeO.ite ?_ ?_)
   | (with_reducible refine LeO.bind ?_ (fun _ => ?_))
   | exact ih0 _ _ _ _ _ _ _ _
   | exact ih1 _ _ _ _ _ _ _ _ _ _ _
   | exact spec_validSprites.mono _ _ _
   | exact LeO.none _
   | refine LeO.ite ?_ ?_
   | refine LeO.bind ?_ (fun _ => ?_)
def spec_PackSprites.T13 : Bool × List (List Nat × List Nat) := (true, [([], []), ([], []), ([1], [1]), ([0, 2], [0, 2]), ([3], [3]), ([4], [4]), ([4], [4]), ([5, 6, 4], [4, 5, 6]), ([7, 4], [4, 7]), ([4], [4]), ([9, 4], [4, 9]), ([8, 10, 4], [4, 8, 10]), ([4], [4]), ([11, 12, 4], [4, 11, 12]), ([4, 13], [4, 13])])
def spec_PackSprites.B13 : List Nat := [0, 0, 2, 7, 15, 31, 31, 127, 255, 31, 543, 2047, 31, 8191, 16383]
theorem spec_PackSprites.tab13 : rtab .any (opsOf Try.f7 13) = spec_PackSprites.T13 := by kernel_rfl
theorem spec_PackSprites.bits13 : waitsOk spec_PackSprites.T13.2 spec_PackSprites.B13 = true := by kernel_rfl
def spec_PackSprites.T19 : Bool × List (List Nat × List Nat) := (true, [([], []), ([], []), ([], []), ([1, 2], [1, 2]), ([3], [3]), ([], []), ([], []), ([5, 6], [5, 6]), ([7], [7]), ([], []), ([], []), ([9, 10], [9, 10]), ([11], [11]), ([], []), ([13], [13]), ([], []), ([15], [15]), ([8, 12, 14, 16], [8, 12, 14, 16]), ([0, 4, 0, 1, 2, 3, 4, 5, 6, 7, 8, 9, 10, 11, 12, 13, 14, 15, 16, 17], [0, 4]), ([18, 17, 0, 1, 2, 3, 4, 5, 6, 7, 8, 9, 10, 11, 12, 13, 14, 15, 16, 17], [17, 18])])
def spec_PackSprites.B19 : List Nat := [0, 0, 0, 6, 14, 0, 0, 96, 224, 0, 0, 1536, 3584, 0, 8192, 0, 32768, 131040, 262143, 524287]
theorem spec_PackSprites.tab19 : rtab .any (opsOf Try.f7 19) = spec_PackSprites.T19 := by kernel_rfl
theorem spec_PackSprites.bits19 : waitsOk spec_PackSprites.T19.2 spec_PackSprites.B19 = true := by kernel_rfl
def spec_PackSprites.T20 : Bool × List (List Nat × List Nat) := (true, [([], []), ([], []), ([], []), ([], []), ([2, 3], [2, 3]), ([4], [4]), ([], []), ([6], [6]), ([5, 7], [5, 7]), ([0, 1, 0, 1, 2, 3, 4, 5, 6, 7, 8], [0, 1]), ([9, 8, 0, 1, 2, 3, 4, 5, 6, 7, 8], [8, 9])])
def spec_PackSprites.B20 : List Nat := [0, 0, 0, 0, 12, 28, 0, 64, 252, 511, 1023]
theorem spec_PackSprites.tab20 : rtab .any (opsOf Try.f7 20) = spec_PackSprites.T20 := by kernel_rfl
theorem spec_PackSprites.bits20 : waitsOk spec_PackSprites.T20.2 spec_PackSprites.B20 = true := by kernel_rfl
set_option maxHeartbeats 8000000 in
set_option maxRecDepth 100000 in
theorem spec_PackSprites.calls (k : Nat) (A0 : Option Addr) (c0 : Nat) (l0 : List (S33)) (a1 : Int) (r1 : List (S31)) (r2 : Int) (w : World) (hr0 : Kd.C k33 w A0 l0.length l0) (hc0 : l0.length ≤ c0) (h : spec_PackSprites.f k l0 a1 = some (r1, r2)) :
  Calls Try.prog 7 #[.slice A0 l0.length c0, .int .i64 a1] w fun e w' => ∃ v0_ : Value, e = .returned (.tuple #[v0_, .int .i64 r2]) ∧ Kd.R k31 31 w' w.heap.size (fun _ => True) v0_ r1 ∧ Below w.heap.size w w' := by
 have hu33 := Try.underlying33
 have hu31 := Try.underlying31
 have HR0 := Aside0.mk hr0
 have HC0 := Aside0.mk hc0
 clear hr0 hc0
 have HB := Aside0.mk (Below.refl w.heap.size w)
 have H : ((spec_validSprites.f k l0 a1).bind fun t101 => (if t101 = true then (if 0 ≤ (l0.length : Int) then (if ((l0.length : Int) : Int).toNat ≤ 8796093022208 then ((spec_tallFirst.f l0).bind fun t111 => (spec_PackSprites.l0 k l0 a1 (List.replicate ((l0.length : Int) : Int).toNat z31) (([] : List Int)) (([] : List Int)) 0 t111 0)) else (none)) else (none)) else (some (([] : List (S31)), (-1))))) = some (r1, r2) := h
 clear h
 replace H := Option.bind_eq_some_iff.mp H
 obtain ⟨t101, A30, H⟩ := H
 replace H : (if t101 = true then (if 0 ≤ (l0.length : Int) then (if ((l0.length : Int) : Int).toNat ≤ 8796093022208 then ((spec_tallFirst.f l0).bind fun t111 => (spec_PackSprites.l0 k l0 a1 (List.replicate ((l0.length : Int) : Int).toNat z31) (([] : List Int)) (([] : List Int)) 0 t111 0)) else (none)) else (none)) else (some (([] : List (S31)), (-1)))) = some (r1, r2) := H
 have A3 := Aside0.mk A30
 clear A30
 by_cases c4 : t101 = true
 rotate_left
 ·
  replace c4 := Bool.eq_false_iff.mpr c4
  subst c4
  have H1 : (some (([] : List (S31)), (-1))) = some (r1, r2) := by rw [if_neg (show ¬ (false = true) by decide)] at H; exact H
  clear H
  have H := H1
  clear H1
  simp only [Option.some.injEq, Prod.mk.injEq] at H
  obtain ⟨rfl, rfl⟩ := H
  go_enter Try.func7, Try.ntmps7
  go_wp2_with (first | ((with_reducible refine gate_callee (f := 25) rfl ?_); refine goesL_ (some 16) rfl rfl Try.func25 (by kernel_rfl) rfl #[.slice A0 l0.length c0, .int .i64 a1] rfl (by simp only [List.map_toArray, List.map_cons, List.map_nil]; rfl) ?_; (with_reducible refine (spec_validSprites.calls k _ _ l0 a1 false _ ?side1 ?side2 A3.out).mono ?_); (case side1 => repeat (first | exact HR0.out | (with_reducible refine Kd.C_alloc ?_ _) | (with_reducible refine Kd.C_drewN ?_ _) | (with_reducible refine Kd.C_drew ?_))); (case side2 => exact HC0.out); rintro e w' ⟨rfl, ⟨nd, rfl⟩⟩; refine ⟨_, rfl, ?_⟩))
  go_ret2
  exact ⟨_, by first | rfl | (simp [errW_none, errW_some] <;> rfl) | (simp [*, errW_none, errW_some] <;> rfl), by first | exact Kd.R_nil _ _ _ _ _ | exact Kd.N_nil _ _ _ _ _ | exact Kd.V_nil _ _ _ _ _ | exact Kd.Q_nil _ _ _ _ _ | exact Kd.S_nil _ _ _ _ _, by repeat (first | (with_reducible first | exact HB.out | apply below_alloc | apply pw_below_drewN | apply below_drew1) | exact HB.out)⟩
 subst c4
 have H1 : (if 0 ≤ (l0.length : Int) then (if ((l0.length : Int) : Int).toNat ≤ 8796093022208 then ((spec_tallFirst.f l0).bind fun t111 => (spec_PackSprites.l0 k l0 a1 (List.replicate ((l0.length : Int) : Int).toNat z31) (([] : List Int)) (([] : List Int)) 0 t111 0)) else (none)) else (none)) = some (r1, r2) := by rw [if_pos rfl] at H; exact H
 clear H
 have H := H1
 clear H1
 by_cases c5 : 0 ≤ (l0.length : Int)
 rotate_left
 ·
  rw [if_neg c5] at H
  exact absurd H (by simp)
 rw [if_pos c5] at H
 have c5b0 := eq_true c5
 have c5b1 : decide (0 ≤ (l0.length : Int)) = true := decide_eq_true c5
 clear c5
 by_cases c6 : ((l0.length : Int) : Int).toNat ≤ 8796093022208
 rotate_left
 ·
  rw [if_neg c6] at H
  exact absurd H (by simp)
 rw [if_pos c6] at H
 have c6b0 := eq_true c6
 have c6b1 : decide (((l0.length : Int) : Int).toNat ≤ 8796093022208) = true := decide_eq_true c6
 clear c6
 obtain ⟨y102, hy102⟩ : ∃ y_ : List (S31), y_ = (List.replicate ((l0.length : Int) : Int).toNat z31) := ⟨_, rfl⟩
 replace H : ((spec_tallFirst.f l0).bind fun t111 => (spec_PackSprites.l0 k l0 a1 y102 (([] : List Int)) (([] : List Int)) 0 t111 0)) = some (r1, r2) := by first | (rw [hy102]; with_reducible exact H) | (have H2_ := (Option.bind_some _ _).symm.trans H; rw [hy102]; with_reducible exact H2_) | (have H2_ := (Option.bind_some _ _).symm.trans H; with_reducible exact H2_) | with_reducible exact H | (rw [hy102]; exact H) | exact H
 have Ny102 := Aside0.mk hy102
 clear hy102
 obtain ⟨y105, hy105⟩ : ∃ y_ : List Int, y_ = (([] : List Int)) := ⟨_, rfl⟩
 replace H : ((spec_tallFirst.f l0).bind fun t111 => (spec_PackSprites.l0 k l0 a1 y102 y105 (([] : List Int)) 0 t111 0)) = some (r1, r2) := by first | (rw [hy105]; with_reducible exact H) | (have H2_ := (Option.bind_some _ _).symm.trans H; rw [hy105]; with_reducible exact H2_) | (have H2_ := (Option.bind_some _ _).symm.trans H; with_reducible exact H2_) | with_reducible exact H | (rw [hy105]; exact H) | exact H
 have Ny105 := Aside0.mk hy105
 clear hy105
 obtain ⟨y108, hy108⟩ : ∃ y_ : List Int, y_ = (([] : List Int)) := ⟨_, rfl⟩
 replace H : ((spec_tallFirst.f l0).bind fun t111 => (spec_PackSprites.l0 k l0 a1 y102 y105 y108 0 t111 0)) = some (r1, r2) := by first | (rw [hy108]; with_reducible exact H) | (have H2_ := (Option.bind_some _ _).symm.trans H; rw [hy108]; with_reducible exact H2_) | (have H2_ := (Option.bind_some _ _).symm.trans H; with_reducible exact H2_) | with_reducible exact H | (rw [hy108]; exact H) | exact H
 have Ny108 := Aside0.mk hy108
 clear hy108
 replace H := Option.bind_eq_some_iff.mp H
 obtain ⟨t111, A70, H⟩ := H
 replace H : (spec_PackSprites.l0 k l0 a1 y102 y105 y108 0 t111 0) = some (r1, r2) := H
 have A7 := Aside0.mk A70
 clear A70
 have H' := Aside0.mk H
 clear H
 go_enter Try.func7, Try.ntmps7
 go_wp2_with (first | ((with_reducible refine gate_callee (f := 25) rfl ?_); refine goesL_ (some 16) rfl rfl Try.func25 (by kernel_rfl) rfl #[.slice A0 l0.length c0, .int .i64 a1] rfl (by simp only [List.map_toArray, List.map_cons, List.map_nil]; rfl) ?_; (with_reducible refine (spec_validSprites.calls k _ _ l0 a1 true _ ?side1 ?side2 A3.out).mono ?_); (case side1 => repeat (first | exact HR0.out | (with_reducible refine Kd.C_alloc ?_ _) | (with_reducible refine Kd.C_drewN ?_ _) | (with_reducible refine Kd.C_drew ?_))); (case side2 => exact HC0.out); rintro e w' ⟨rfl, ⟨nd, rfl⟩⟩; refine ⟨_, rfl, ?_⟩) | ((with_reducible refine gate_dst (N := 20) rfl ?_); refine Kd.R_make k31 _ 31 rfl (N := 20) rfl 26 _ _ rfl (l0.length : Int) rfl rfl Try.underlying26 (.agg #[(.int .i64 0), (.int .i64 0), (.int .i64 0), (.int .i64 0)]) 32 info31 rfl (by decide) (by omega) z31 (ok := fun _ => True) (okp := fun _ => True) (k31_mkM _ _ _ z31 ) (fun _ hk => hk) trivial (of_decide_eq_true (by first | with_reducible assumption | assumption)) (Nat.le_trans (Nat.mul_le_mul_right _ (of_decide_eq_true (by first | with_reducible assumption | assumption) : (l0.length : Int).toNat ≤ 8796093022208)) (by omega)) (Below.refl _ _) (Nat.le_refl _) ?_; intro v103 w8 ho9 hb hg_ hnew_; clear hg_ hnew_; (first | rw [← Ny102.out] at ho9 | (simp only [Int.reduceToNat] at ho9; rw [← Ny102.out] at ho9)); have HO104 := am_ (Kd.R_lower ho9 (below_size (by repeat (first | (with_reducible first | exact HB.out | apply below_alloc | apply pw_below_drewN | apply below_drew1) | exact HB.out)))); replace HB := am_ (below_step (by repeat (first | (with_reducible first | exact HB.out | apply below_alloc | apply pw_below_drewN | apply below_drew1) | exact HB.out)) hb); clear hb ho9) | ((with_reducible refine gate_dst (N := 21) rfl ?_); refine Kd.R_lit (Kd.int .i64) _ 3 ?hg (N := 21) ?hd (xs := ([] : List Int)) (inner := []) (ok := fun _ => True) (okp := fun _ => True) ?hr ?hp (fun _ hk => hk) trivial (Below.refl _ _) (Nat.le_refl _) (by simp) ?_; (case hd => rfl); (case hg => rfl); (case hr => first | (go_simp; done) | (go_simp; rfl)); (case hp => exact (Reps.none _ _)); intro v106 w10 ho11 hb hg_ hnew_; clear hg_ hnew_; (first | rw [← Ny105.out] at ho11 | (simp only [Int.reduceToNat] at ho11; rw [← Ny105.out] at ho11)); replace HO104 := am_ (Kd.R_below (by exact HO104.out) hb); have HO107 := am_ (Kd.R_lower ho11 (below_size (by repeat (first | (with_reducible first | exact HB.out | apply below_alloc | apply pw_below_drewN | apply below_drew1) | exact HB.out)))); replace HB := am_ (below_step (by repeat (first | (with_reducible first | exact HB.out | apply below_alloc | apply pw_below_drewN | apply below_drew1) | exact HB.out)) hb); clear hb ho11) | ((with_reducible refine gate_dst (N := 22) rfl ?_); refine Kd.R_lit (Kd.int .i64) _ 3 ?hg (N := 22) ?hd (xs := ([] : List Int)) (inner := []) (ok := fun _ => True) (okp := fun _ => True) ?hr ?hp (fun _ hk => hk) trivial (Below.refl _ _) (Nat.le_refl _) (by simp) ?_; (case hd => rfl); (case hg => rfl); (case hr => first | (go_simp; done) | (go_simp; rfl)); (case hp => exact (Reps.none _ _)); intro v109 w12 ho13 hb hg_ hnew_; clear hg_ hnew_; (first | rw [← Ny108.out] at ho13 | (simp only [Int.reduceToNat] at ho13; rw [← Ny108.out] at ho13)); replace HO104 := am_ (Kd.R_below (by exact HO104.out) hb); have HO110 := am_ (Kd.R_lower (Kd.R_new' ho13 (Kd.R_lt (by exact HO107.out))) (below_size (by repeat (first | (with_reducible first | exact HB.out | apply below_alloc | apply pw_below_drewN | apply below_drew1) | exact HB.out)))); replace HO107 := am_ (Kd.R_elder' (by exact HO107.out) (Kd.R_base ho13) hb); replace HB := am_ (below_step (by repeat (first | (with_reducible first | exact HB.out | apply below_alloc | apply pw_below_drewN | apply below_drew1) | exact HB.out)) hb); clear hb ho13) | ((with_reducible refine gate_callee (f := 26) rfl ?_); refine goesL_ (some 24) rfl rfl Try.func26 (by kernel_rfl) rfl #[.slice A0 l0.length c0] rfl (by simp only [List.map_toArray, List.map_cons, List.map_nil]; rfl) ?_; (with_reducible refine (spec_tallFirst.calls _ _ l0 t111 _ ?side1 ?side2 A7.out).mono ?_); (case side1 => repeat (first | exact (Kd.C_below HR0.out HB.out) | (with_reducible refine Kd.C_alloc ?_ _) | (with_reducible refine Kd.C_drewN ?_ _) | (with_reducible refine Kd.C_drew ?_))); (case side2 => exact HC0.out); rintro e w14 ⟨v112, rfl, ho0, hb⟩; refine ⟨_, rfl, ?_⟩; replace HO104 := am_ (Kd.R_below (by exact HO104.out) hb); have HO113 := am_ (Kd.R_lower (Kd.R_new' (Kd.R_new' ho0 (Kd.R_lt (by exact HO107.out))) (Kd.R_lt (by exact HO110.out))) (below_size (by repeat (first | (with_reducible first | exact HB.out | apply below_alloc | apply pw_below_drewN | apply below_drew1) | exact HB.out)))); replace HO107 := am_ (Kd.R_elder' (by exact HO107.out) (Kd.R_base ho0) hb); replace HO110 := am_ (Kd.R_elder' (by exact HO110.out) (Kd.R_base ho0) hb); replace HB := am_ (below_step (by repeat (first | (with_reducible first | exact HB.out | apply below_alloc | apply pw_below_drewN | apply below_drew1) | exact HB.out)) hb); (try clear hb); (try clear hb2); (try clear hk); (try clear hi); (try clear ho0)))
 go_loopg [7, 8, 9, 11] k (fun kq v7 v8 v9 v11 w' => ∃ (x6_1 : List (S31)) (x7_1 : List Int) (x8_1 : List Int) (x9_1 : Int) (x10_1 : List Int) (x11_1 : Int), v9 = .int .i64 x9_1 ∧ v11 = .int .i64 x11_1 ∧ Aside0 (spec_PackSprites.l0 kq l0 a1 x6_1 x7_1 x8_1 x9_1 x10_1 x11_1 = some (r1, r2)) ∧ Aside0 (kq ≤ k) ∧ Aside0 (Kd.R k31 31 w' w.heap.size (fun _ => True) v103 x6_1) ∧ Aside0 (Kd.R (Kd.int .i64) 3 w' w.heap.size (fun k_ => some k_ ≠ (v8 : Value).ownBlock ∧ some k_ ≠ (v112 : Value).ownBlock) v7 x7_1) ∧ Aside0 (Kd.R (Kd.int .i64) 3 w' w.heap.size (fun k_ => some k_ ≠ (v7 : Value).ownBlock ∧ some k_ ≠ (v112 : Value).ownBlock) v8 x8_1) ∧ Aside0 (Kd.R (Kd.int .i64) 3 w' w.heap.size (fun k_ => some k_ ≠ (v7 : Value).ownBlock ∧ some k_ ≠ (v8 : Value).ownBlock) v112 x10_1) ∧ Aside0 (Below w.heap.size w w'))
 case atStart => exact ⟨(y102), (y105), (y108), (0), (t111), (0), (by first | rfl | (simp; done) | (simp [*]; done)), (by first | rfl | (simp; done) | (simp [*]; done)), H', ⟨Nat.le_refl _⟩, ⟨by exact HO104.out⟩, ⟨by exact Kd.R_mono HO107.out (fun _ hk => ⟨hk.1.2, hk.2⟩)⟩, ⟨by exact Kd.R_mono HO110.out (fun _ hk => ⟨hk.1.2, hk.2⟩)⟩, ⟨by exact Kd.R_mono HO113.out (fun _ hk => ⟨hk.1.2, hk.2⟩)⟩, ⟨by repeat (first | (with_reducible first | exact HB.out | apply below_alloc | apply pw_below_drewN | apply below_drew1) | exact HB.out)⟩⟩
 case round =>
  clear H'
  try clear c2
  try clear p2
  try clear c4
  try clear c5
  try clear c5b0
  try clear c5b1
  try clear c6
  try clear c6b0
  try clear c6b1
  try clear c7
  obtain ⟨x6_1, x7_1, x8_1, x9_1, x10_1, x11_1, rfl, rfl, HA, HK1, HO_6, HO_7, HO_8, HO_10, HB⟩ := hrel
  cases gk with
  | zero => exact absurd HA.out (by simp [spec_PackSprites.l0])
  | succ k1 =>
   have H := HA.out
   clear HA
   simp only [spec_PackSprites.l0] at H
   by_cases c15 : x11_1 < (x10_1.length : Int)
   rotate_left
   ·
    rw [if_neg c15] at H
    have c15b0 : decide (x11_1 < (x10_1.length : Int)) = false := decide_eq_false c15
    clear c15
    simp only [Option.some.injEq, Prod.mk.injEq] at H
    obtain ⟨rfl, rfl⟩ := H
    obtain ⟨Ao92, co92, eo92⟩ := Kd.R_slice HO_10.out
    subst eo92
    go_wp2
    go_ret2
    exact ⟨_, by first | rfl | (simp [errW_none, errW_some] <;> rfl) | (simp [*, errW_none, errW_some] <;> rfl), by exact HO_6.out, by repeat (first | (with_reducible first | exact HB.out | apply below_alloc | apply pw_below_drewN | apply below_drew1) | exact HB.out)⟩
   rw [if_pos c15] at H
   have c15b0 : decide (x11_1 < (x10_1.length : Int)) = true := decide_eq_true c15
   clear c15
   by_cases c16 : 0 ≤ x11_1
   rotate_left
   ·
    rw [if_neg c16] at H
    exact absurd H (by simp)
   rw [if_pos c16] at H
   have c16b0 : decide (0 ≤ x11_1) = true := decide_eq_true c16
   clear c16
   by_cases c17 : 0 ≤ (rd x10_1 x11_1)
   rotate_left
   ·
    rw [if_neg c17] at H
    exact absurd H (by simp)
   rw [if_pos c17] at H
   have c17b0 : decide (0 ≤ (rd x10_1 x11_1)) = true := decide_eq_true c17
   clear c17
   by_cases c18 : (rd x10_1 x11_1) < (l0.length : Int)
   rotate_left
   ·
    rw [if_neg c18] at H
    exact absurd H (by simp)
   rw [if_pos c18] at H
   have c18b0 : decide ((rd x10_1 x11_1) < (l0.length : Int)) = true := decide_eq_true c18
   clear c18
   have H' := Aside0.mk H
   clear H
   obtain ⟨Ao19, co19, eo19⟩ := Kd.R_slice HO_10.out
   subst eo19
   have p114 : 0 ≤ (x11_1 : Int) := of_decide_eq_true (by first | with_reducible assumption | assumption)
   have q114 : x11_1 < (x10_1.length : Int) := of_decide_eq_true (by first | with_reducible assumption | assumption)
   obtain ⟨ad114, e114, hx114_0⟩ := Kd.at_int (Kd.R_reads' HO_10.out).2.2 x11_1 p114 q114
   cases e114
   replace p114 := eq_true p114
   replace q114 := eq_true q114
   have p115 : 0 ≤ ((rd x10_1 x11_1) : Int) := of_decide_eq_true (by first | with_reducible assumption | assumption)
   have q115 : (rd x10_1 x11_1) < (l0.length : Int) := of_decide_eq_true (by first | with_reducible assumption | assumption)
   obtain ⟨ad115, e115, hx115_0, hx115_1⟩ := at_T33 HR0.out (rd x10_1 x11_1) p115 q115
   cases e115
   replace hx115_0 := (HB.out.cell (World.block_lt_of_cell? w _ hx115_0)).trans hx115_0
   replace hx115_1 := (HB.out.cell (World.block_lt_of_cell? w _ hx115_1)).trans hx115_1
   replace p115 := eq_true p115
   replace q115 := eq_true q115
   go_wp2_with (first | ((with_reducible refine gate_dst (N := 12) rfl ?_); refine box_event ?hg (N := 12) ?hd (cs := #[.int .i64 0, .int .i64 0]) (t := 33) ?hr ?_; (case hd => rfl); (case hg => rfl); (case hr => first | (go_simp; done) | (go_simp; rfl)); intro gb116 hg w20 hbox hb; replace HO_6 := am_ (Kd.R_below (by exact HO_6.out) hb); replace HO_7 := am_ (Kd.R_below (by exact HO_7.out) hb); replace HO_8 := am_ (Kd.R_below (by exact HO_8.out) hb); replace HO_10 := am_ (Kd.R_below (by exact HO_10.out) hb); have BK116 := am_ (hbox); have GW116 := am_ ((by rw [hg]; exact (below_size (by repeat (first | (with_reducible first | exact HB.out | apply below_alloc | apply pw_below_drewN | apply below_drew1) | exact HB.out))) : w.heap.size ≤ gb116)); have GE116 := GW116; replace HB := am_ (below_step (by repeat (first | (with_reducible first | exact HB.out | apply below_alloc | apply pw_below_drewN | apply below_drew1) | exact HB.out)) hb); clear hb hbox hg; have hcz21_0 : w20.cell? ⟨gb116, 0, none⟩ = some (.int .i64 0) := (blk_cell BK116.out 0).trans rfl; have hcz21_1 : w20.cell? ⟨gb116, 1, none⟩ = some (.int .i64 0) := (blk_cell BK116.out 1).trans rfl; have hfz21_0 := blk_frozen BK116.out 0; have hfz21_1 := blk_frozen BK116.out 1))
   go_loopg [13] k1 (fun kq v13 w' => ∃ (x13_2 : Int), v13 = .int .i64 x13_2 ∧ Aside0 (spec_PackSprites.l1 kq l0 a1 x6_1 x7_1 x8_1 x9_1 x10_1 x11_1 x13_2 ((rd_T33 l0 (rd x10_1 x11_1)).f0) ((rd_T33 l0 (rd x10_1 x11_1)).f1) = some (r1, r2)) ∧ Aside0 (kq ≤ k1) ∧ Aside0 (Kd.R k31 31 w' w.heap.size (fun _ => True) v103 x6_1) ∧ Aside0 (Kd.R (Kd.int .i64) 3 w' w.heap.size (fun k_ => some k_ ≠ (u8 : Value).ownBlock ∧ some k_ ≠ ((.slice (some ad114) x10_1.length co19) : Value).ownBlock) u7 x7_1) ∧ Aside0 (Kd.R (Kd.int .i64) 3 w' w.heap.size (fun k_ => some k_ ≠ (u7 : Value).ownBlock ∧ some k_ ≠ ((.slice (some ad114) x10_1.length co19) : Value).ownBlock) u8 x8_1) ∧ Aside0 (Kd.R (Kd.int .i64) 3 w' w.heap.size (fun k_ => some k_ ≠ (u7 : Value).ownBlock ∧ some k_ ≠ (u8 : Value).ownBlock) (.slice (some ad114) x10_1.length co19) x10_1) ∧ Aside0 (w'.heap[gb116]? = some (.cells #[.int .i64 ((rd_T33 l0 (rd x10_1 x11_1)).f0), .int .i64 ((rd_T33 l0 (rd x10_1 x11_1)).f1)] 33 (0, 0))) ∧ Aside0 (Below w.heap.size w w'))
   case atStart => exact ⟨(0), (by first | rfl | (simp; done) | (simp [*]; done)), H', ⟨Nat.le_refl _⟩, ⟨by exact Kd.R_mono (Kd.R_far (p := ⟨gb116, 1, none⟩) (Kd.R_far (p := ⟨gb116, 0, none⟩) (Kd.R_types HO_6.out BK116.out (by decide)) (fun _ hk => hk.2) (.int .i64 ((rd_T33 l0 (rd x10_1 x11_1)).f0))) (fun _ hk => hk.2) (.int .i64 ((rd_T33 l0 (rd x10_1 x11_1)).f1))) (fun _ hk => trivial)⟩, ⟨by exact Kd.R_mono (Kd.R_far (p := ⟨gb116, 1, none⟩) (Kd.R_far (p := ⟨gb116, 0, none⟩) (Kd.R_types HO_7.out BK116.out (by decide)) (fun _ hk => hk.2) (.int .i64 ((rd_T33 l0 (rd x10_1 x11_1)).f0))) (fun _ hk => hk.2) (.int .i64 ((rd_T33 l0 (rd x10_1 x11_1)).f1))) (fun _ hk => ⟨hk.1.1, hk.1.2⟩)⟩, ⟨by exact Kd.R_mono (Kd.R_far (p := ⟨gb116, 1, none⟩) (Kd.R_far (p := ⟨gb116, 0, none⟩) (Kd.R_types HO_8.out BK116.out (by decide)) (fun _ hk => hk.2) (.int .i64 ((rd_T33 l0 (rd x10_1 x11_1)).f0))) (fun _ hk => hk.2) (.int .i64 ((rd_T33 l0 (rd x10_1 x11_1)).f1))) (fun _ hk => ⟨hk.1.1, hk.1.2⟩)⟩, ⟨by exact Kd.R_mono (Kd.R_far (p := ⟨gb116, 1, none⟩) (Kd.R_far (p := ⟨gb116, 0, none⟩) (Kd.R_types HO_10.out BK116.out (by decide)) (fun _ hk => hk.2) (.int .i64 ((rd_T33 l0 (rd x10_1 x11_1)).f0))) (fun _ hk => hk.2) (.int .i64 ((rd_T33 l0 (rd x10_1 x11_1)).f1))) (fun _ hk => ⟨hk.1.1, hk.1.2⟩)⟩, ⟨by exact put2_2 BK116.out _ _⟩, ⟨by repeat (first | (with_reducible first | exact HB.out | apply below_alloc | apply pw_below_drewN | apply below_drew1 | refine below_set ?_ GE116.out) | exact HB.out)⟩⟩
   case round =>
    clear H'
    try clear c1
    try clear p1
    try clear q1
    try clear hx1
    try clear c2
    try clear p2
    try clear c4
    try clear c5
    try clear c5b0
    try clear c5b1
    try clear c6
    try clear c6b0
    try clear c6b1
    try clear c7
    try clear p11
    try clear q11
    try clear hx11
    try clear c15
    try clear c15b0
    try clear c16
    try clear c16b0
    try clear c17
    try clear c17b0
    try clear c18
    try clear c18b0
    try clear hcz21_0
    try clear hcz21_1
    try clear hfz21_0
    try clear hfz21_1
    try clear hx114_0
    try clear hx115_0
    try clear hx115_1
    try clear p114
    try clear p115
    try clear p2
    try clear q114
    try clear q115
    obtain ⟨x13_2, rfl, HA, HK2, HO_6, HO_7, HO_8, HO_10, BK116, HB⟩ := hrel
    cases gk with
    | zero => exact absurd HA.out (by simp [spec_PackSprites.l1])
    | succ k2 =>
     have H := HA.out
     clear HA
     simp only [spec_PackSprites.l1] at H
     by_cases c22 : x13_2 < (x8_1.length : Int)
     rotate_left
     ·
      rw [if_neg c22] at H
      have c22b0 : decide (x13_2 < (x8_1.length : Int)) = false := decide_eq_false c22
      clear c22
      by_cases c65 : x13_2 = (x8_1.length : Int)
      rotate_left
      ·
       rw [if_neg c65] at H
       have c65b0 : (x13_2 == (x8_1.length : Int)) = false := beq_eq_false_iff_ne.mpr c65
       have c65b1 : (x13_2 != (x8_1.length : Int)) = true := bne_iff_ne.mpr c65
       by_cases c89 : 0 ≤ x11_1
       rotate_left
       ·
        rw [if_neg c89] at H
        exact absurd H (by simp)
       rw [if_pos c89] at H
       have c89b0 : decide (0 ≤ x11_1) = true := decide_eq_true c89
       clear c89
       by_cases c90 : x11_1 < (x10_1.length : Int)
       rotate_left
       ·
        rw [if_neg c90] at H
        exact absurd H (by simp)
       rw [if_pos c90] at H
       have c90b0 : decide (x11_1 < (x10_1.length : Int)) = true := decide_eq_true c90
       clear c90
       by_cases c91 : 0 ≤ x13_2
       ·
        rw [if_pos c91] at H
        exact absurd H (by simp)
       rw [if_neg c91] at H
       exact absurd H (by simp)
      rw [if_pos c65] at H
      have c65b0 : (x13_2 == (x8_1.length : Int)) = true := beq_iff_eq.mpr c65
      have c65b1 : (x13_2 != (x8_1.length : Int)) = false := bne_eq_false_iff_eq.mpr c65
      clear c65
      by_cases c66 : x7_1.length < 17592186044416
      rotate_left
      ·
       rw [if_neg c66] at H
       exact absurd H (by simp)
      rw [if_pos c66] at H
      have LMc66 := Aside0.mk c66
      clear c66
      obtain ⟨y136, hy136⟩ : ∃ y_ : List Int, y_ = (x7_1 ++ [x9_1]) := ⟨_, rfl⟩
      replace H : (if x8_1.length < 17592186044416 then ((some (x8_1 ++ [0] : List Int)).bind fun y139 => (if 0 ≤ x11_1 then (if x11_1 < (x10_1.length : Int) then (if 0 ≤ x13_2 then (if x13_2 < (y139.length : Int) then (if x13_2 < (y136.length : Int) then (if 0 ≤ (rd x10_1 x11_1) then (if (rd x10_1 x11_1) < (x6_1.length : Int) then (spec_PackSprites.l0 k2 l0 a1 (x6_1.set ((rd x10_1 x11_1) : Int).toNat (⟨rd y139 x13_2, rd y136 x13_2, ((rd_T33 l0 (rd x10_1 x11_1)).f0), ((rd_T33 l0 (rd x10_1 x11_1)).f1)⟩ : S31)) y136 (y139.set (x13_2 : Int).toNat (wrap64 ((rd y139 x13_2) + ((rd_T33 l0 (rd x10_1 x11_1)).f0)))) (wrap64 (x9_1 + ((rd_T33 l0 (rd x10_1 x11_1)).f1))) x10_1 (wrap64 (x11_1 + 1))) else (none)) else (none)) else (none)) else (none)) else (none)) else (none)) else (none))) else (none)) = some (r1, r2) := by first | (rw [hy136]; with_reducible exact H) | (have H2_ := (Option.bind_some _ _).symm.trans H; rw [hy136]; with_reducible exact H2_) | (have H2_ := (Option.bind_some _ _).symm.trans H; with_reducible exact H2_) | with_reducible exact H | (rw [hy136]; exact H) | exact H
      have Ny136 := Aside0.mk hy136
      clear hy136
      by_cases c67 : x8_1.length < 17592186044416
      rotate_left
      ·
       rw [if_neg c67] at H
       exact absurd H (by simp)
      rw [if_pos c67] at H
      have LMc67 := Aside0.mk c67
      clear c67
      obtain ⟨y139, hy139⟩ : ∃ y_ : List Int, y_ = (x8_1 ++ [0]) := ⟨_, rfl⟩
      replace H : (if 0 ≤ x11_1 then (if x11_1 < (x10_1.length : Int) then (if 0 ≤ x13_2 then (if x13_2 < (y139.length : Int) then (if x13_2 < (y136.length : Int) then (if 0 ≤ (rd x10_1 x11_1) then (if (rd x10_1 x11_1) < (x6_1.length : Int) then (spec_PackSprites.l0 k2 l0 a1 (x6_1.set ((rd x10_1 x11_1) : Int).toNat (⟨rd y139 x13_2, rd y136 x13_2, ((rd_T33 l0 (rd x10_1 x11_1)).f0), ((rd_T33 l0 (rd x10_1 x11_1)).f1)⟩ : S31)) y136 (y139.set (x13_2 : Int).toNat (wrap64 ((rd y139 x13_2) + ((rd_T33 l0 (rd x10_1 x11_1)).f0)))) (wrap64 (x9_1 + ((rd_T33 l0 (rd x10_1 x11_1)).f1))) x10_1 (wrap64 (x11_1 + 1))) else (none)) else (none)) else (none)) else (none)) else (none)) else (none)) else (none)) = some (r1, r2) := by first | (rw [hy139]; with_reducible exact H) | (have H2_ := (Option.bind_some _ _).symm.trans H; rw [hy139]; with_reducible exact H2_) | (have H2_ := (Option.bind_some _ _).symm.trans H; with_reducible exact H2_) | with_reducible exact H | (rw [hy139]; exact H) | exact H
      have Ny139 := Aside0.mk hy139
      clear hy139
      by_cases c68 : 0 ≤ x11_1
      rotate_left
      ·
       rw [if_neg c68] at H
       exact absurd H (by simp)
      rw [if_pos c68] at H
      have c68b0 : decide (0 ≤ x11_1) = true := decide_eq_true c68
      clear c68
      by_cases c69 : x11_1 < (x10_1.length : Int)
      rotate_left
      ·
       rw [if_neg c69] at H
       exact absurd H (by simp)
      rw [if_pos c69] at H
      have c69b0 : decide (x11_1 < (x10_1.length : Int)) = true := decide_eq_true c69
      clear c69
      by_cases c70 : 0 ≤ x13_2
      rotate_left
      ·
       rw [if_neg c70] at H
       exact absurd H (by simp)
      rw [if_pos c70] at H
      have c70b0 : decide (0 ≤ x13_2) = true := decide_eq_true c70
      clear c70
      by_cases c71 : x13_2 < (y139.length : Int)
      rotate_left
      ·
       rw [if_neg c71] at H
       exact absurd H (by simp)
      rw [if_pos c71] at H
      have c71b0 : decide (x13_2 < (y139.length : Int)) = true := decide_eq_true c71
      clear c71
      by_cases c72 : x13_2 < (y136.length : Int)
      rotate_left
      ·
       rw [if_neg c72] at H
       exact absurd H (by simp)
      rw [if_pos c72] at H
      have c72b0 : decide (x13_2 < (y136.length : Int)) = true := decide_eq_true c72
      clear c72
      by_cases c73 : 0 ≤ (rd x10_1 x11_1)
      rotate_left
      ·
       rw [if_neg c73] at H
       exact absurd H (by simp)
      rw [if_pos c73] at H
      have c73b0 : decide (0 ≤ (rd x10_1 x11_1)) = true := decide_eq_true c73
      clear c73
      by_cases c74 : (rd x10_1 x11_1) < (x6_1.length : Int)
      rotate_left
      ·
       rw [if_neg c74] at H
       exact absurd H (by simp)
      rw [if_pos c74] at H
      have c74b0 : decide ((rd x10_1 x11_1) < (x6_1.length : Int)) = true := decide_eq_true c74
      clear c74
      obtain ⟨y145, hy145⟩ : ∃ y_ : List (S31), y_ = (x6_1.set ((rd x10_1 x11_1) : Int).toNat (⟨rd y139 x13_2, rd y136 x13_2, ((rd_T33 l0 (rd x10_1 x11_1)).f0), ((rd_T33 l0 (rd x10_1 x11_1)).f1)⟩ : S31)) := ⟨_, rfl⟩
      replace H : (spec_PackSprites.l0 k2 l0 a1 y145 y136 (y139.set (x13_2 : Int).toNat (wrap64 ((rd y139 x13_2) + ((rd_T33 l0 (rd x10_1 x11_1)).f0)))) (wrap64 (x9_1 + ((rd_T33 l0 (rd x10_1 x11_1)).f1))) x10_1 (wrap64 (x11_1 + 1))) = some (r1, r2) := by first | (rw [hy145]; with_reducible exact H) | (have H2_ := (Option.bind_some _ _).symm.trans H; rw [hy145]; with_reducible exact H2_) | (have H2_ := (Option.bind_some _ _).symm.trans H; with_reducible exact H2_) | with_reducible exact H | (rw [hy145]; exact H) | exact H
      have Ny145 := Aside0.mk hy145
      clear hy145
      obtain ⟨y147, hy147⟩ : ∃ y_ : List Int, y_ = (y139.set (x13_2 : Int).toNat (wrap64 ((rd y139 x13_2) + ((rd_T33 l0 (rd x10_1 x11_1)).f0)))) := ⟨_, rfl⟩
      replace H : (spec_PackSprites.l0 k2 l0 a1 y145 y136 y147 (wrap64 (x9_1 + ((rd_T33 l0 (rd x10_1 x11_1)).f1))) x10_1 (wrap64 (x11_1 + 1))) = some (r1, r2) := by first | (rw [hy147]; with_reducible exact H) | (have H2_ := (Option.bind_some _ _).symm.trans H; rw [hy147]; with_reducible exact H2_) | (have H2_ := (Option.bind_some _ _).symm.trans H; with_reducible exact H2_) | with_reducible exact H | (rw [hy147]; exact H) | exact H
      have Ny147 := Aside0.mk hy147
      clear hy147
      have H' := Aside0.mk H
      clear H
      try go_wp2
      replace HO_6 := am_ (Kd.R_drew HO_6.out)
      replace HO_7 := am_ (Kd.R_drew HO_7.out)
      replace HO_8 := am_ (Kd.R_drew HO_8.out)
      replace HO_10 := am_ (Kd.R_drew HO_10.out)
      replace BK116 := am_ (blk_drew BK116.out)
      replace HB := am_ (below_drew1 HB.out)
      obtain ⟨Ao78, co78, eo78⟩ := Kd.R_slice HO_8.out
      (first | subst eo78 | (injection eo78 with f1_ f2_ f3_; have f4_ := f1_.symm; have f5_ := f3_.symm; clear f1_ f2_ f3_; subst f4_; subst f5_))
      refine start_ (n := 15) (S := fun w' => True) (ds := []) #[false, false, false, false, false, false, false, false, false, false, false, false, false, false, false] (by kernel_rfl) rfl rfl trivial (fun hHeld => ?_); refine with_tabW spec_PackSprites.tab13 spec_PackSprites.bits13 (fun HT_ HW_ => ?_)
      generalize wr.drew = w77 at HO_6 HO_7 HO_8 HO_10 BK116 HB hHeld ⊢
      refine pure_ (i := 0) (N := some 38) (v := ?_) (a' := ?_) #[true, false, false, false, false, false, false, false, false, false, false, false, false, false, false] rfl rfl (any_of HT_.out (by kernel_rfl)) (fun _ _ _ h => h) (Or.inl ⟨by rfl, ?_⟩) ?_ ?_
      rotate_left
      ·
       intro w'
       go_simp
       with_reducible rfl
      rotate_left
      ·
       simp only [Act.put, List.setIfInBounds_toArray, List.set_cons_zero, List.set_cons_succ, i64_w, i32_w]
       rfl
      refine pure_ (i := 1) (N := some 39) (v := ?_) (a' := ?_) #[true, true, false, false, false, false, false, false, false, false, false, false, false, false, false] rfl rfl (any_of HT_.out (by kernel_rfl)) (fun _ _ _ h => h) (Or.inl ⟨by rfl, ?_⟩) ?_ ?_
      rotate_left
      ·
       intro w'
       go_simp
       with_reducible rfl
      rotate_left
      ·
       simp only [Act.put, List.setIfInBounds_toArray, List.set_cons_zero, List.set_cons_succ, i64_w, i32_w]
       rfl
      refine pure_ (i := 2) (N := some 40) (v := ?_) (a' := ?_) #[true, true, true, false, false, false, false, false, false, false, false, false, false, false, false] rfl rfl (any_of HT_.out (by kernel_rfl)) (fun _ _ _ h => h) (Or.inl ⟨by rfl, ?_⟩) ?_ ?_
      rotate_left
      ·
       intro w'
       go_simp
       with_reducible rfl
      rotate_left
      ·
       simp only [Act.put, List.setIfInBounds_toArray, List.set_cons_zero, List.set_cons_succ, i64_w, i32_w]
       rfl
      refine pure_ (i := 3) (N := some 41) (v := ?_) (a' := ?_) #[true, true, true, true, false, false, false, false, false, false, false, false, false, false, false] rfl rfl (any_of HT_.out (by kernel_rfl)) (fun _ _ _ h => h) (Or.inl ⟨by rfl, ?_⟩) ?_ ?_
      rotate_left
      ·
       intro w'
       go_simp
       with_reducible rfl
      rotate_left
      ·
       simp only [Act.put, List.setIfInBounds_toArray, List.set_cons_zero, List.set_cons_succ, i64_w, i32_w]
       rfl
      refine pure_ (i := 4) (N := some 42) (v := ?_) (a' := ?_) #[true, true, true, true, true, false, false, false, false, false, false, false, false, false, false] rfl rfl (any_of HT_.out (by kernel_rfl)) (fun _ _ _ h => h) (Or.inl ⟨by rfl, ?_⟩) ?_ ?_
      rotate_left
      ·
       intro w'
       go_simp
       with_reducible rfl
      rotate_left
      ·
       simp only [Act.put, List.setIfInBounds_toArray, List.set_cons_zero, List.set_cons_succ, i64_w, i32_w]
       rfl
      refine pure_ (i := 5) (N := some 43) (v := undef) (a' := ?_) #[true, true, true, true, true, true, false, false, false, false, false, false, false, false, false] rfl rfl (any_of HT_.out (by kernel_rfl)) (fun _ _ _ h => h) (Or.inr ⟨by rfl, rfl⟩) ?_ ?_
      rotate_left
      ·
       simp only [Act.put, List.setIfInBounds_toArray, List.set_cons_zero, List.set_cons_succ, i64_w, i32_w]
       rfl
      refine pure_ (i := 6) (N := some 44) (v := undef) (a' := ?_) #[true, true, true, true, true, true, true, false, false, false, false, false, false, false, false] rfl rfl (any_of HT_.out (by kernel_rfl)) (fun _ _ _ h => h) (Or.inr ⟨by rfl, rfl⟩) ?_ ?_
      rotate_left
      ·
       simp only [Act.put, List.setIfInBounds_toArray, List.set_cons_zero, List.set_cons_succ, i64_w, i32_w]
       rfl
      refine pure_ (i := 7) (N := some 45) (v := undef) (a' := ?_) #[true, true, true, true, true, true, true, true, false, false, false, false, false, false, false] rfl rfl (any_of HT_.out (by kernel_rfl)) (fun _ _ _ h => h) (Or.inr ⟨by rfl, rfl⟩) ?_ ?_
      rotate_left
      ·
       simp only [Act.put, List.setIfInBounds_toArray, List.set_cons_zero, List.set_cons_succ, i64_w, i32_w]
       rfl
      refine pure_ (i := 8) (N := some 46) (v := undef) (a' := ?_) #[true, true, true, true, true, true, true, true, true, false, false, false, false, false, false] rfl rfl (any_of HT_.out (by kernel_rfl)) (fun _ _ _ h => h) (Or.inr ⟨by rfl, rfl⟩) ?_ ?_
      rotate_left
      ·
       simp only [Act.put, List.setIfInBounds_toArray, List.set_cons_zero, List.set_cons_succ, i64_w, i32_w]
       rfl
      refine pure_ (i := 9) (N := some 47) (v := undef) (a' := ?_) #[true, true, true, true, true, true, true, true, true, true, false, false, false, false, false] rfl rfl (any_of HT_.out (by kernel_rfl)) (fun _ _ _ h => h) (Or.inr ⟨by rfl, rfl⟩) ?_ ?_
      rotate_left
      ·
       simp only [Act.put, List.setIfInBounds_toArray, List.set_cons_zero, List.set_cons_succ, i64_w, i32_w]
       rfl
      refine pure_ (i := 10) (N := some 48) (v := undef) (a' := ?_) #[true, true, true, true, true, true, true, true, true, true, true, false, false, false, false] rfl rfl (any_of HT_.out (by kernel_rfl)) (fun _ _ _ h => h) (Or.inr ⟨by rfl, rfl⟩) ?_ ?_
      rotate_left
      ·
       simp only [Act.put, List.setIfInBounds_toArray, List.set_cons_zero, List.set_cons_succ, i64_w, i32_w]
       rfl
      refine pure_ (i := 11) (N := some 49) (v := undef) (a' := ?_) #[true, true, true, true, true, true, true, true, true, true, true, true, false, false, false] rfl rfl (any_of HT_.out (by kernel_rfl)) (fun _ _ _ h => h) (Or.inr ⟨by rfl, rfl⟩) ?_ ?_
      rotate_left
      ·
       simp only [Act.put, List.setIfInBounds_toArray, List.set_cons_zero, List.set_cons_succ, i64_w, i32_w]
       rfl
      refine pure_ (i := 12) (N := some 50) (v := undef) (a' := ?_) #[true, true, true, true, true, true, true, true, true, true, true, true, true, false, false] rfl rfl (any_of HT_.out (by kernel_rfl)) (fun _ _ _ h => h) (Or.inr ⟨by rfl, rfl⟩) ?_ ?_
      rotate_left
      ·
       simp only [Act.put, List.setIfInBounds_toArray, List.set_cons_zero, List.set_cons_succ, i64_w, i32_w]
       rfl
      refine pure_ (i := 13) (N := some 51) (v := undef) (a' := ?_) #[true, true, true, true, true, true, true, true, true, true, true, true, true, true, false] rfl rfl (any_of HT_.out (by kernel_rfl)) (fun _ _ _ h => h) (Or.inr ⟨by rfl, rfl⟩) ?_ ?_
      rotate_left
      ·
       simp only [Act.put, List.setIfInBounds_toArray, List.set_cons_zero, List.set_cons_succ, i64_w, i32_w]
       rfl
      refine pure_ (i := 14) (N := some 52) (v := ?_) (a' := ?_) #[true, true, true, true, true, true, true, true, true, true, true, true, true, true, true] rfl rfl (any_of HT_.out (by kernel_rfl)) (fun _ _ _ h => h) (Or.inl ⟨by rfl, ?_⟩) ?_ ?_
      rotate_left
      ·
       intro w'
       go_simp
       with_reducible rfl
      rotate_left
      ·
       simp only [Act.put, List.setIfInBounds_toArray, List.set_cons_zero, List.set_cons_succ, i64_w, i32_w]
       rfl
      refine done_ (done_of HT_.out (by kernel_rfl)) ?_
      try go_wp2_with (first | ((with_reducible refine gate_builtin (b := .append) (xs := #[.tmp 59, .tmp 61]) rfl ?_); at_builtin; refine Kd.R_append (Kd.int .i64) (w0 := w) w.heap.size rfl (.tmp 59) (.tmp 61) 47 3 (.int .i64 0) 8 rfl Try.underlying47 info3 rfl (by decide) (by omega) u7 x7_1 x9_1 [.int .i64 x9_1] (fun k_ => some k_ ≠ (.slice Ao78 x8_1.length co78 : Value).ownBlock ∧ some k_ ≠ (.slice (some ad114) x10_1.length co19 : Value).ownBlock) (fun _ => False) rfl rfl ?aP (fun _ hk => hk.elim) ?aF ?aO ?aB ?aS ?aL ?_; (case aP => exact rfl); (case aB => exact (by repeat (first | (with_reducible first | exact HB.out | apply below_alloc | apply pw_below_drewN | apply below_drew1 | refine below_set ?_ GE116.out) | exact HB.out))); (case aF => exact (fun k_ hk => ⟨Kd.fresh' (Kd.R_lt (by exact HO_8.out)) k_ hk, Kd.fresh' (Kd.R_lt (by exact HO_10.out)) k_ hk⟩)); (case aO => exact (by exact HO_7.out)); (case aS => exact (below_size (by repeat (first | (with_reducible first | exact HB.out | apply below_alloc | apply pw_below_drewN | apply below_drew1 | refine below_set ?_ GE116.out) | exact HB.out)))); (case aL => have := LMc66.out; omega); intro v137 w79 ho hb hg hat; rw [← Ny136.out] at ho; replace HO_6 := am_ (Kd.R_over' (by exact HO_6.out) (Kd.R_typed (by exact HO_7.out)) (by decide) hg); replace HO_8 := am_ (Kd.R_after (ok := (fun k_ => some k_ ≠ (.slice (some ad114) x10_1.length co19 : Value).ownBlock)) (by exact Kd.R_mono HO_8.out (fun _ hk => ⟨hk.2, hk.1⟩)) hg hat); replace HO_10 := am_ (Kd.R_after (ok := (fun k_ => some k_ ≠ (.slice Ao78 x8_1.length co78 : Value).ownBlock)) (by exact Kd.R_mono HO_10.out (fun _ hk => ⟨hk.2, hk.1⟩)) hg hat); replace BK116 := am_ (blk_grown (by exact BK116.out) hg (Kd.R_ne HO_7.out BK116.out (by decide))); replace HB := am_ (hb); have HO138 := am_ (ho); clear HO_7; clear ho hb hg hat) | ((with_reducible refine gate_builtin (b := .append) (xs := #[.tmp 63, .tmp 64]) rfl ?_); at_builtin; refine Kd.R_append (Kd.int .i64) (w0 := w) w.heap.size rfl (.tmp 63) (.tmp 64) 47 3 (.int .i64 0) 8 rfl Try.underlying47 info3 rfl (by decide) (by omega) (.slice Ao78 x8_1.length co78) x8_1 0 [.int .i64 0] (fun k_ => some k_ ≠ (.slice (some ad114) x10_1.length co19 : Value).ownBlock ∧ some k_ ≠ (v137 : Value).ownBlock) (fun _ => False) rfl rfl ?aP (fun _ hk => hk.elim) ?aF ?aO ?aB ?aS ?aL ?_; (case aP => exact rfl); (case aB => exact (by repeat (first | (with_reducible first | exact HB.out | apply below_alloc | apply pw_below_drewN | apply below_drew1 | refine below_set ?_ GE116.out) | exact HB.out))); (case aF => exact (fun k_ hk => ⟨Kd.fresh' (Kd.R_lt (by exact HO_10.out)) k_ hk, Kd.fresh' (Kd.R_lt (by exact HO138.out)) k_ hk⟩)); (case aO => exact (by exact HO_8.out)); (case aS => exact (below_size (by repeat (first | (with_reducible first | exact HB.out | apply below_alloc | apply pw_below_drewN | apply below_drew1 | refine below_set ?_ GE116.out) | exact HB.out)))); (case aL => have := LMc67.out; omega); intro v140 w80 ho hb hg hat; rw [← Ny139.out] at ho; replace HO_6 := am_ (Kd.R_over' (by exact HO_6.out) (Kd.R_typed (by exact HO_8.out)) (by decide) hg); replace HO_10 := am_ (Kd.R_after (ok := (fun k_ => some k_ ≠ (v137 : Value).ownBlock)) (by exact Kd.R_mono HO_10.out (fun _ hk => ⟨hk.2, hk.1⟩)) hg hat); replace BK116 := am_ (blk_grown (by exact BK116.out) hg (Kd.R_ne HO_8.out BK116.out (by decide))); replace HO138 := am_ (Kd.R_after (ok := (fun k_ => some k_ ≠ (.slice (some ad114) x10_1.length co19 : Value).ownBlock)) (by exact Kd.R_mono HO138.out (fun _ hk => ⟨hk.2, hk.1⟩)) hg hat); replace HB := am_ (hb); have HO141 := am_ (ho); clear HO_8; clear ho hb hg hat; have hcz81_0 : w80.cell? ⟨gb116, 0, none⟩ = some (.int .i64 ((rd_T33 l0 (rd x10_1 x11_1)).f0)) := (blk_cell BK116.out 0).trans rfl; have hcz81_1 : w80.cell? ⟨gb116, 1, none⟩ = some (.int .i64 ((rd_T33 l0 (rd x10_1 x11_1)).f1)) := (blk_cell BK116.out 1).trans rfl; have hfz81_0 := blk_frozen BK116.out 0; have hfz81_1 := blk_frozen BK116.out 1))
      replace HO_6 := am_ (Kd.R_drew HO_6.out)
      replace HO_10 := am_ (Kd.R_drew HO_10.out)
      replace HO138 := am_ (Kd.R_drew HO138.out)
      replace HO141 := am_ (Kd.R_drew HO141.out)
      replace BK116 := am_ (blk_drew BK116.out)
      replace HB := am_ (below_drew1 HB.out)
      have p142 : 0 ≤ (x11_1 : Int) := of_decide_eq_true (by first | with_reducible assumption | assumption)
      have q142 : x11_1 < (x10_1.length : Int) := of_decide_eq_true (by first | with_reducible assumption | assumption)
      obtain ⟨ad142, e142, hx142_0⟩ := Kd.at_int (Kd.R_reads' HO_10.out).2.2 x11_1 p142 q142
      obtain rfl : ad114 = ad142 := (by injection e142)
      replace p142 := eq_true p142
      replace q142 := eq_true q142
      obtain ⟨Ao83, co83, eo83⟩ := Kd.R_slice HO141.out
      (first | subst eo83 | (injection eo83 with f1_ f2_ f3_; have f4_ := f1_.symm; have f5_ := f3_.symm; clear f1_ f2_ f3_; subst f4_; subst f5_))
      have p143 : 0 ≤ (x13_2 : Int) := of_decide_eq_true (by first | with_reducible assumption | assumption)
      have q143 : x13_2 < (y139.length : Int) := of_decide_eq_true (by first | with_reducible assumption | assumption)
      obtain ⟨ad143, e143, hx143_0⟩ := Kd.at_int (Kd.R_reads' HO141.out).2.2 x13_2 p143 q143
      cases e143
      replace p143 := eq_true p143
      replace q143 := eq_true q143
      obtain ⟨Ao84, co84, eo84⟩ := Kd.R_slice HO138.out
      (first | subst eo84 | (injection eo84 with f1_ f2_ f3_; have f4_ := f1_.symm; have f5_ := f3_.symm; clear f1_ f2_ f3_; subst f4_; subst f5_))
      have p144 : 0 ≤ (x13_2 : Int) := of_decide_eq_true (by first | with_reducible assumption | assumption)
      have q144 : x13_2 < (y136.length : Int) := of_decide_eq_true (by first | with_reducible assumption | assumption)
      obtain ⟨ad144, e144, hx144_0⟩ := Kd.at_int (Kd.R_reads' HO138.out).2.2 x13_2 p144 q144
      cases e144
      replace p144 := eq_true p144
      replace q144 := eq_true q144
      have p75 : 0 ≤ ((rd x10_1 x11_1) : Int) := of_decide_eq_true (by first | with_reducible assumption | assumption)
      have q75 : ((rd x10_1 x11_1) : Int) < ((x6_1.length : Int) : Int) := of_decide_eq_true (by first | with_reducible assumption | assumption)
      obtain ⟨go75, co75, eo75, gb75, gl75, cl75, HG75⟩ := Kd.R_form HO_6.out (by omega)
      (first | cases eo75 | (injection eo75 with ea_ en_ ec_; (first | subst ea_ | (injection ea_ with ea_; subst ea_)); subst ec_; clear en_))
      have GB75 := Aside0.mk gb75
      have GG75 := Aside0.mk HG75
      clear gb75 gl75 HG75
      obtain ⟨ce75, hcl75, hM75, hcc75, hfr75⟩ := Kd.R_elem HO_6.out z31 ((rd x10_1 x11_1) : Int) p75 q75
      obtain rfl := k31_openM hM75
      have hx75_0 : World.cell? _ ⟨go75, ((rd x10_1 x11_1) : Int).toNat * 4, none⟩ = some (.int .i64 ((rd_T31 x6_1 (rd x10_1 x11_1)).f0)) := hcc75 0 _ rfl
      have hx75_1 : World.cell? _ ⟨go75, ((rd x10_1 x11_1) : Int).toNat * 4 + 1, none⟩ = some (.int .i64 ((rd_T31 x6_1 (rd x10_1 x11_1)).f1)) := hcc75 1 _ rfl
      have hx75_2 : World.cell? _ ⟨go75, ((rd x10_1 x11_1) : Int).toNat * 4 + 2, none⟩ = some (.int .i64 ((rd_T31 x6_1 (rd x10_1 x11_1)).f2)) := hcc75 2 _ rfl
      have hx75_3 : World.cell? _ ⟨go75, ((rd x10_1 x11_1) : Int).toNat * 4 + 3, none⟩ = some (.int .i64 ((rd_T31 x6_1 (rd x10_1 x11_1)).f3)) := hcc75 3 _ rfl
      have hf75_0 : World.frozen? _ ⟨go75, ((rd x10_1 x11_1) : Int).toNat * 4, none⟩ = false := hfr75 0
      have hf75_1 : World.frozen? _ ⟨go75, ((rd x10_1 x11_1) : Int).toNat * 4 + 1, none⟩ = false := hfr75 1
      have hf75_2 : World.frozen? _ ⟨go75, ((rd x10_1 x11_1) : Int).toNat * 4 + 2, none⟩ = false := hfr75 2
      have hf75_3 : World.frozen? _ ⟨go75, ((rd x10_1 x11_1) : Int).toNat * 4 + 3, none⟩ = false := hfr75 3
      clear hcl75 hcc75 hfr75 hM75
      replace p75 := eq_true p75
      replace q75 := eq_true q75
      obtain ⟨ce85, hcl85, hM85, hcc85, hfr85⟩ := Kd.R_elem HO_6.out z31 ((rd x10_1 x11_1) : Int) (of_decide_eq_true (by first | with_reducible assumption | assumption)) (by have h_ : ((rd x10_1 x11_1) : Int) < ((x6_1.length : Int) : Int) := of_decide_eq_true (by first | with_reducible assumption | assumption); first | exact h_ | (have e_ := (Kd.R_reads' HO_6.out).1; omega) | simpa using h_)
      obtain rfl := k31_openM hM85
      have HP85 := (Kd.R_seg HO_6.out ((rd x10_1 x11_1) : Int) (of_decide_eq_true (by first | with_reducible assumption | assumption)) (by have h_ : ((rd x10_1 x11_1) : Int) < ((x6_1.length : Int) : Int) := of_decide_eq_true (by first | with_reducible assumption | assumption); first | exact h_ | (have e_ := (Kd.R_reads' HO_6.out).1; omega) | simpa using h_) (seg := [.int .i64 (rd y139 x13_2), .int .i64 (rd y136 x13_2), .int .i64 ((rd_T33 l0 (rd x10_1 x11_1)).f0), .int .i64 ((rd_T33 l0 (rd x10_1 x11_1)).f1)]) (j := 0) hcl85 hcc85 (show 4 ≤ 4 from by decide) (x' := (⟨rd y139 x13_2, rd y136 x13_2, ((rd_T33 l0 (rd x10_1 x11_1)).f0), ((rd_T33 l0 (rd x10_1 x11_1)).f1)⟩ : S31)) (k31_mkM _ _ _ (⟨rd y139 x13_2, rd y136 x13_2, ((rd_T33 l0 (rd x10_1 x11_1)).f0), ((rd_T33 l0 (rd x10_1 x11_1)).f1)⟩ : S31) ) (fun _ hk => hk)).1
      rw [← Ny145.out] at HP85
      have HQ85 := Aside0.mk HP85
      clear hcl85 hcc85 hfr85 hM85 HP85
      refine start_ (n := 20) (S := fun w' => w'.cell? ⟨gb116, 0, none⟩ = some (.int .i64 ((rd_T33 l0 (rd x10_1 x11_1)).f0)) ∧ w'.cell? ⟨gb116, 1, none⟩ = some (.int .i64 ((rd_T33 l0 (rd x10_1 x11_1)).f1)) ∧ w'.cell? (ad114.add (x11_1).toNat) = some (.int .i64 (rd x10_1 x11_1)) ∧ w'.cell? (ad143.add (x13_2).toNat) = some (.int .i64 (rd y139 x13_2)) ∧ w'.cell? (ad144.add (x13_2).toNat) = some (.int .i64 (rd y136 x13_2))) (ds := [19]) #[false, false, false, false, false, false, false, false, false, false, false, false, false, false, false, false, false, false, false, false] (by kernel_rfl) rfl rfl ⟨(blk_cell BK116.out 0).trans rfl, (blk_cell BK116.out 1).trans rfl, hx142_0, hx143_0, hx144_0⟩ (fun hHeld => ?_); refine with_tabW spec_PackSprites.tab19 spec_PackSprites.bits19 (fun HT_ HW_ => ?_)
      generalize w80.drew = w82 at HO_6 HO_10 HO138 HO141 BK116 HB GG75 HQ85 hf75_0 hf75_1 hf75_2 hf75_3 hx142_0 hx143_0 hx144_0 hx75_0 hx75_1 hx75_2 hx75_3 hHeld ⊢
      refine pure_ (i := 0) (N := some 70) (v := ?_) (a' := ?_) #[true, false, false, false, false, false, false, false, false, false, false, false, false, false, false, false, false, false, false, false] rfl rfl (any_of HT_.out (by kernel_rfl)) (fun _ _ _ h => h) (Or.inl ⟨by rfl, ?_⟩) ?_ ?_
      rotate_left
      ·
       intro w'
       go_simp
       with_reducible rfl
      rotate_left
      ·
       simp only [Act.put, List.setIfInBounds_toArray, List.set_cons_zero, List.set_cons_succ, i64_w, i32_w]
       rfl
      refine pure_ (i := 1) (N := some 71) (v := ?_) (a' := ?_) #[true, true, false, false, false, false, false, false, false, false, false, false, false, false, false, false, false, false, false, false] rfl rfl (any_of HT_.out (by kernel_rfl)) (fun _ _ _ h => h) (Or.inl ⟨by rfl, ?_⟩) ?_ ?_
      rotate_left
      ·
       intro w'
       go_simp
       with_reducible rfl
      rotate_left
      ·
       simp only [Act.put, List.setIfInBounds_toArray, List.set_cons_zero, List.set_cons_succ, i64_w, i32_w]
       rfl
      refine pure_ (i := 2) (N := some 72) (v := ?_) (a' := ?_) #[true, true, true, false, false, false, false, false, false, false, false, false, false, false, false, false, false, false, false, false] rfl rfl (any_of HT_.out (by kernel_rfl)) (fun _ _ _ h => h) (Or.inl ⟨by rfl, ?_⟩) ?_ ?_
      rotate_left
      ·
       intro w'
       go_simp
       with_reducible rfl
      rotate_left
      ·
       simp only [Act.put, List.setIfInBounds_toArray, List.set_cons_zero, List.set_cons_succ, i64_w, i32_w]
       rfl
      refine pure_ (i := 3) (N := some 73) (v := ?_) (a' := ?_) #[true, true, true, true, false, false, false, false, false, false, false, false, false, false, false, false, false, false, false, false] rfl rfl (any_of HT_.out (by kernel_rfl)) (fun _ _ _ h => h) (Or.inl ⟨by rfl, ?_⟩) ?_ ?_
      rotate_left
      ·
       intro w'
       go_simp
       with_reducible rfl
      rotate_left
      ·
       simp only [Act.put, List.setIfInBounds_toArray, List.set_cons_zero, List.set_cons_succ, i64_w, i32_w]
       rfl
      refine pure_ (i := 5) (N := some 75) (v := ?_) (a' := ?_) #[true, true, true, true, false, true, false, false, false, false, false, false, false, false, false, false, false, false, false, false] rfl rfl (any_of HT_.out (by kernel_rfl)) (fun _ _ _ h => h) (Or.inl ⟨by rfl, ?_⟩) ?_ ?_
      rotate_left
      ·
       intro w'
       go_simp
       with_reducible rfl
      rotate_left
      ·
       simp only [Act.put, List.setIfInBounds_toArray, List.set_cons_zero, List.set_cons_succ, i64_w, i32_w]
       rfl
      refine pure_ (i := 6) (N := some 76) (v := ?_) (a' := ?_) #[true, true, true, true, false, true, true, false, false, false, false, false, false, false, false, false, false, false, false, false] rfl rfl (any_of HT_.out (by kernel_rfl)) (fun _ _ _ h => h) (Or.inl ⟨by rfl, ?_⟩) ?_ ?_
      rotate_left
      ·
       intro w'
       go_simp
       with_reducible rfl
      rotate_left
      ·
       simp only [Act.put, List.setIfInBounds_toArray, List.set_cons_zero, List.set_cons_succ, i64_w, i32_w]
       rfl
      refine pure_ (i := 7) (N := some 77) (v := ?_) (a' := ?_) #[true, true, true, true, false, true, true, true, false, false, false, false, false, false, false, false, false, false, false, false] rfl rfl (any_of HT_.out (by kernel_rfl)) (fun _ _ _ h => h) (Or.inl ⟨by rfl, ?_⟩) ?_ ?_
      rotate_left
      ·
       intro w'
       go_simp
       with_reducible rfl
      rotate_left
      ·
       simp only [Act.put, List.setIfInBounds_toArray, List.set_cons_zero, List.set_cons_succ, i64_w, i32_w]
       rfl
      refine pure_ (i := 9) (N := some 79) (v := ?_) (a' := ?_) #[true, true, true, true, false, true, true, true, false, true, false, false, false, false, false, false, false, false, false, false] rfl rfl (any_of HT_.out (by kernel_rfl)) (fun _ _ _ h => h) (Or.inl ⟨by rfl, ?_⟩) ?_ ?_
      rotate_left
      ·
       intro w'
       go_simp
       with_reducible rfl
      rotate_left
      ·
       simp only [Act.put, List.setIfInBounds_toArray, List.set_cons_zero, List.set_cons_succ, i64_w, i32_w]
       rfl
      refine pure_ (i := 10) (N := some 80) (v := ?_) (a' := ?_) #[true, true, true, true, false, true, true, true, false, true, true, false, false, false, false, false, false, false, false, false] rfl rfl (any_of HT_.out (by kernel_rfl)) (fun _ _ _ h => h) (Or.inl ⟨by rfl, ?_⟩) ?_ ?_
      rotate_left
      ·
       intro w'
       go_simp
       with_reducible rfl
      rotate_left
      ·
       simp only [Act.put, List.setIfInBounds_toArray, List.set_cons_zero, List.set_cons_succ, i64_w, i32_w]
       rfl
      refine pure_ (i := 11) (N := some 81) (v := ?_) (a' := ?_) #[true, true, true, true, false, true, true, true, false, true, true, true, false, false, false, false, false, false, false, false] rfl rfl (any_of HT_.out (by kernel_rfl)) (fun _ _ _ h => h) (Or.inl ⟨by rfl, ?_⟩) ?_ ?_
      rotate_left
      ·
       intro w'
       go_simp
       with_reducible rfl
      rotate_left
      ·
       simp only [Act.put, List.setIfInBounds_toArray, List.set_cons_zero, List.set_cons_succ, i64_w, i32_w]
       rfl
      refine pure_ (i := 13) (N := some 83) (v := ?_) (a' := ?_) #[true, true, true, true, false, true, true, true, false, true, true, true, false, true, false, false, false, false, false, false] rfl rfl (any_of HT_.out (by kernel_rfl)) (fun _ _ _ h => h) (Or.inl ⟨by rfl, ?_⟩) ?_ ?_
      rotate_left
      ·
       intro w'
       go_simp
       with_reducible rfl
      rotate_left
      ·
       simp only [Act.put, List.setIfInBounds_toArray, List.set_cons_zero, List.set_cons_succ, i64_w, i32_w]
       rfl
      refine pure_ (i := 15) (N := some 85) (v := ?_) (a' := ?_) #[true, true, true, true, false, true, true, true, false, true, true, true, false, true, false, true, false, false, false, false] rfl rfl (any_of HT_.out (by kernel_rfl)) (fun _ _ _ h => h) (Or.inl ⟨by rfl, ?_⟩) ?_ ?_
      rotate_left
      ·
       intro w'
       go_simp
       with_reducible rfl
      rotate_left
      ·
       simp only [Act.put, List.setIfInBounds_toArray, List.set_cons_zero, List.set_cons_succ, i64_w, i32_w]
       rfl
      refine take_ (i := 4) (N := some 74) (v := ?_) (a' := ?_) #[true, true, true, true, true, true, true, true, false, true, true, true, false, true, false, true, false, false, false, false] rfl rfl (take_ofW HT_.out HW_.out (by kernel_rfl)) (fun _ _ _ h => h) (Or.inl ⟨by rfl, ?_⟩) hHeld ?_ ?_
      rotate_left
      ·
       rintro w' ⟨s0, s1, s2, s3, s4⟩
       go_simp
       with_reducible rfl
      rotate_left
      ·
       simp only [Act.put, List.setIfInBounds_toArray, List.set_cons_zero, List.set_cons_succ, i64_w, i32_w]
       rfl
      refine take_ (i := 8) (N := some 78) (v := ?_) (a' := ?_) #[true, true, true, true, true, true, true, true, true, true, true, true, false, true, false, true, false, false, false, false] rfl rfl (take_ofW HT_.out HW_.out (by kernel_rfl)) (fun _ _ _ h => h) (Or.inl ⟨by rfl, ?_⟩) hHeld ?_ ?_
      rotate_left
      ·
       rintro w' ⟨s0, s1, s2, s3, s4⟩
       go_simp
       with_reducible rfl
      rotate_left
      ·
       simp only [Act.put, List.setIfInBounds_toArray, List.set_cons_zero, List.set_cons_succ, i64_w, i32_w]
       rfl
      refine take_ (i := 12) (N := some 82) (v := ?_) (a' := ?_) #[true, true, true, true, true, true, true, true, true, true, true, true, true, true, false, true, false, false, false, false] rfl rfl (take_ofW HT_.out HW_.out (by kernel_rfl)) (fun _ _ _ h => h) (Or.inl ⟨by rfl, ?_⟩) hHeld ?_ ?_
      rotate_left
      ·
       rintro w' ⟨s0, s1, s2, s3, s4⟩
       go_simp
       with_reducible rfl
      rotate_left
      ·
       simp only [Act.put, List.setIfInBounds_toArray, List.set_cons_zero, List.set_cons_succ, i64_w, i32_w]
       rfl
      refine take_ (i := 14) (N := some 84) (v := ?_) (a' := ?_) #[true, true, true, true, true, true, true, true, true, true, true, true, true, true, true, true, false, false, false, false] rfl rfl (take_ofW HT_.out HW_.out (by kernel_rfl)) (fun _ _ _ h => h) (Or.inl ⟨by rfl, ?_⟩) hHeld ?_ ?_
      rotate_left
      ·
       rintro w' ⟨s0, s1, s2, s3, s4⟩
       go_simp
       with_reducible rfl
      rotate_left
      ·
       simp only [Act.put, List.setIfInBounds_toArray, List.set_cons_zero, List.set_cons_succ, i64_w, i32_w]
       rfl
      refine take_ (i := 16) (N := some 86) (v := ?_) (a' := ?_) #[true, true, true, true, true, true, true, true, true, true, true, true, true, true, true, true, true, false, false, false] rfl rfl (take_ofW HT_.out HW_.out (by kernel_rfl)) (fun _ _ _ h => h) (Or.inl ⟨by rfl, ?_⟩) hHeld ?_ ?_
      rotate_left
      ·
       rintro w' ⟨s0, s1, s2, s3, s4⟩
       go_simp
       with_reducible rfl
      rotate_left
      ·
       simp only [Act.put, List.setIfInBounds_toArray, List.set_cons_zero, List.set_cons_succ, i64_w, i32_w]
       rfl
      refine pure_ (i := 17) (N := some 87) (v := ?_) (a' := ?_) #[true, true, true, true, true, true, true, true, true, true, true, true, true, true, true, true, true, true, false, false] rfl rfl (any_of HT_.out (by kernel_rfl)) (fun _ _ _ h => h) (Or.inl ⟨by rfl, ?_⟩) ?_ ?_
      rotate_left
      ·
       intro w'
       go_simp
       with_reducible rfl
      rotate_left
      ·
       simp only [Act.put, List.setIfInBounds_toArray, List.set_cons_zero, List.set_cons_succ, i64_w, i32_w]
       rfl
      refine pure_ (i := 18) (N := some 88) (v := ?_) (a' := ?_) #[true, true, true, true, true, true, true, true, true, true, true, true, true, true, true, true, true, true, true, false] rfl rfl (any_of HT_.out (by kernel_rfl)) (fun _ _ _ h => h) (Or.inl ⟨by rfl, ?_⟩) ?_ ?_
      rotate_left
      ·
       intro w'
       go_simp
       with_reducible rfl
      rotate_left
      ·
       simp only [Act.put, List.setIfInBounds_toArray, List.set_cons_zero, List.set_cons_succ, i64_w, i32_w]
       rfl
      refine last_ (i := 19) (N := none) #[true, true, true, true, true, true, true, true, true, true, true, true, true, true, true, true, true, true, true, true] rfl rfl (one_of HT_.out (by kernel_rfl)) (by decide) (fun K hK => ?_)
      refine skip_ (w1 := ?_) (by rfl) rfl ?_ ?_
      rotate_left
      ·
       go_simp
       rfl
      refine hK.out _ _ ?_
      clear hK K
      refine done_ (done_of HT_.out (by kernel_rfl)) ?_
      try go_wp2
      have n0_ : Aside0 (Kd.R k31 31 ((((w82.setCell ⟨go75, ((rd x10_1 x11_1) : Int).toNat * 4, none⟩ (.int .i64 (rd y139 x13_2))).setCell ⟨go75, ((rd x10_1 x11_1) : Int).toNat * 4 + 1, none⟩ (.int .i64 (rd y136 x13_2))).setCell ⟨go75, ((rd x10_1 x11_1) : Int).toNat * 4 + 2, none⟩ (.int .i64 ((rd_T33 l0 (rd x10_1 x11_1)).f0))).setCell ⟨go75, ((rd x10_1 x11_1) : Int).toNat * 4 + 3, none⟩ (.int .i64 ((rd_T33 l0 (rd x10_1 x11_1)).f1))) w.heap.size (fun _ => True) (.slice (some ⟨go75, 0, none⟩) x6_1.length co75) y145) := ⟨by exact HQ85.out⟩
      have n1_ : Aside0 (Kd.R (Kd.int .i64) 3 ((((w82.setCell ⟨go75, ((rd x10_1 x11_1) : Int).toNat * 4, none⟩ (.int .i64 (rd y139 x13_2))).setCell ⟨go75, ((rd x10_1 x11_1) : Int).toNat * 4 + 1, none⟩ (.int .i64 (rd y136 x13_2))).setCell ⟨go75, ((rd x10_1 x11_1) : Int).toNat * 4 + 2, none⟩ (.int .i64 ((rd_T33 l0 (rd x10_1 x11_1)).f0))).setCell ⟨go75, ((rd x10_1 x11_1) : Int).toNat * 4 + 3, none⟩ (.int .i64 ((rd_T33 l0 (rd x10_1 x11_1)).f1))) w.heap.size (fun k_ => some k_ ≠ (.slice (some ad144) y136.length co84 : Value).ownBlock ∧ some k_ ≠ (.slice (some ad143) y139.length co83 : Value).ownBlock) (.slice (some ad114) x10_1.length co19) x10_1) := ⟨by exact Kd.R_mono (Kd.R_far (p := ⟨go75, ((rd x10_1 x11_1) : Int).toNat * 4 + 3, none⟩) (Kd.R_far (p := ⟨go75, ((rd x10_1 x11_1) : Int).toNat * 4 + 2, none⟩) (Kd.R_far (p := ⟨go75, ((rd x10_1 x11_1) : Int).toNat * 4 + 1, none⟩) (Kd.R_far (p := ⟨go75, ((rd x10_1 x11_1) : Int).toNat * 4, none⟩) (Kd.R_types HO_10.out GG75.out (by decide)) (fun _ hk => hk.2) (.int .i64 (rd y139 x13_2))) (fun _ hk => hk.2) (.int .i64 (rd y136 x13_2))) (fun _ hk => hk.2) (.int .i64 ((rd_T33 l0 (rd x10_1 x11_1)).f0))) (fun _ hk => hk.2) (.int .i64 ((rd_T33 l0 (rd x10_1 x11_1)).f1))) (fun _ hk => ⟨hk.1.1, hk.1.2⟩)⟩
      have n2_ : Aside0 (Kd.R (Kd.int .i64) 3 ((((w82.setCell ⟨go75, ((rd x10_1 x11_1) : Int).toNat * 4, none⟩ (.int .i64 (rd y139 x13_2))).setCell ⟨go75, ((rd x10_1 x11_1) : Int).toNat * 4 + 1, none⟩ (.int .i64 (rd y136 x13_2))).setCell ⟨go75, ((rd x10_1 x11_1) : Int).toNat * 4 + 2, none⟩ (.int .i64 ((rd_T33 l0 (rd x10_1 x11_1)).f0))).setCell ⟨go75, ((rd x10_1 x11_1) : Int).toNat * 4 + 3, none⟩ (.int .i64 ((rd_T33 l0 (rd x10_1 x11_1)).f1))) w.heap.size (fun k_ => some k_ ≠ (.slice (some ad114) x10_1.length co19 : Value).ownBlock ∧ some k_ ≠ (.slice (some ad143) y139.length co83 : Value).ownBlock) (.slice (some ad144) y136.length co84) y136) := ⟨by exact Kd.R_mono (Kd.R_far (p := ⟨go75, ((rd x10_1 x11_1) : Int).toNat * 4 + 3, none⟩) (Kd.R_far (p := ⟨go75, ((rd x10_1 x11_1) : Int).toNat * 4 + 2, none⟩) (Kd.R_far (p := ⟨go75, ((rd x10_1 x11_1) : Int).toNat * 4 + 1, none⟩) (Kd.R_far (p := ⟨go75, ((rd x10_1 x11_1) : Int).toNat * 4, none⟩) (Kd.R_types HO138.out GG75.out (by decide)) (fun _ hk => hk.2) (.int .i64 (rd y139 x13_2))) (fun _ hk => hk.2) (.int .i64 (rd y136 x13_2))) (fun _ hk => hk.2) (.int .i64 ((rd_T33 l0 (rd x10_1 x11_1)).f0))) (fun _ hk => hk.2) (.int .i64 ((rd_T33 l0 (rd x10_1 x11_1)).f1))) (fun _ hk => ⟨hk.1.1, hk.1.2⟩)⟩
      have n3_ : Aside0 (Kd.R (Kd.int .i64) 3 ((((w82.setCell ⟨go75, ((rd x10_1 x11_1) : Int).toNat * 4, none⟩ (.int .i64 (rd y139 x13_2))).setCell ⟨go75, ((rd x10_1 x11_1) : Int).toNat * 4 + 1, none⟩ (.int .i64 (rd y136 x13_2))).setCell ⟨go75, ((rd x10_1 x11_1) : Int).toNat * 4 + 2, none⟩ (.int .i64 ((rd_T33 l0 (rd x10_1 x11_1)).f0))).setCell ⟨go75, ((rd x10_1 x11_1) : Int).toNat * 4 + 3, none⟩ (.int .i64 ((rd_T33 l0 (rd x10_1 x11_1)).f1))) w.heap.size (fun k_ => some k_ ≠ (.slice (some ad114) x10_1.length co19 : Value).ownBlock ∧ some k_ ≠ (.slice (some ad144) y136.length co84 : Value).ownBlock) (.slice (some ad143) y139.length co83) y139) := ⟨by exact Kd.R_mono (Kd.R_far (p := ⟨go75, ((rd x10_1 x11_1) : Int).toNat * 4 + 3, none⟩) (Kd.R_far (p := ⟨go75, ((rd x10_1 x11_1) : Int).toNat * 4 + 2, none⟩) (Kd.R_far (p := ⟨go75, ((rd x10_1 x11_1) : Int).toNat * 4 + 1, none⟩) (Kd.R_far (p := ⟨go75, ((rd x10_1 x11_1) : Int).toNat * 4, none⟩) (Kd.R_types HO141.out GG75.out (by decide)) (fun _ hk => hk.2) (.int .i64 (rd y139 x13_2))) (fun _ hk => hk.2) (.int .i64 (rd y136 x13_2))) (fun _ hk => hk.2) (.int .i64 ((rd_T33 l0 (rd x10_1 x11_1)).f0))) (fun _ hk => hk.2) (.int .i64 ((rd_T33 l0 (rd x10_1 x11_1)).f1))) (fun _ hk => ⟨hk.1.1, hk.1.2⟩)⟩
      have n4_ : Aside0 (((((w82.setCell ⟨go75, ((rd x10_1 x11_1) : Int).toNat * 4, none⟩ (.int .i64 (rd y139 x13_2))).setCell ⟨go75, ((rd x10_1 x11_1) : Int).toNat * 4 + 1, none⟩ (.int .i64 (rd y136 x13_2))).setCell ⟨go75, ((rd x10_1 x11_1) : Int).toNat * 4 + 2, none⟩ (.int .i64 ((rd_T33 l0 (rd x10_1 x11_1)).f0))).setCell ⟨go75, ((rd x10_1 x11_1) : Int).toNat * 4 + 3, none⟩ (.int .i64 ((rd_T33 l0 (rd x10_1 x11_1)).f1))).heap[gb116]? = some (.cells #[.int .i64 ((rd_T33 l0 (rd x10_1 x11_1)).f0), .int .i64 ((rd_T33 l0 (rd x10_1 x11_1)).f1)] 33 (0, 0))) := ⟨by (with_reducible repeat (first | refine blk_drewN ?_ _ | refine blk_drew ?_ | refine blk_alloc ?_ _)); refine blk_far ?_ (by have h_ := Kd.R_ne HO_6.out BK116.out (by decide); intro e_; exact h_ (by rw [e_]; rfl)) _; (with_reducible repeat (first | refine blk_drewN ?_ _ | refine blk_drew ?_ | refine blk_alloc ?_ _)); refine blk_far ?_ (by have h_ := Kd.R_ne HO_6.out BK116.out (by decide); intro e_; exact h_ (by rw [e_]; rfl)) _; (with_reducible repeat (first | refine blk_drewN ?_ _ | refine blk_drew ?_ | refine blk_alloc ?_ _)); refine blk_far ?_ (by have h_ := Kd.R_ne HO_6.out BK116.out (by decide); intro e_; exact h_ (by rw [e_]; rfl)) _; (with_reducible repeat (first | refine blk_drewN ?_ _ | refine blk_drew ?_ | refine blk_alloc ?_ _)); refine blk_far ?_ (by have h_ := Kd.R_ne HO_6.out BK116.out (by decide); intro e_; exact h_ (by rw [e_]; rfl)) _; (with_reducible repeat (first | refine blk_drewN ?_ _ | refine blk_drew ?_ | refine blk_alloc ?_ _)); exact BK116.out⟩
      have n5_ : Aside0 (Below w.heap.size w ((((w82.setCell ⟨go75, ((rd x10_1 x11_1) : Int).toNat * 4, none⟩ (.int .i64 (rd y139 x13_2))).setCell ⟨go75, ((rd x10_1 x11_1) : Int).toNat * 4 + 1, none⟩ (.int .i64 (rd y136 x13_2))).setCell ⟨go75, ((rd x10_1 x11_1) : Int).toNat * 4 + 2, none⟩ (.int .i64 ((rd_T33 l0 (rd x10_1 x11_1)).f0))).setCell ⟨go75, ((rd x10_1 x11_1) : Int).toNat * 4 + 3, none⟩ (.int .i64 ((rd_T33 l0 (rd x10_1 x11_1)).f1)))) := ⟨by repeat (first | (with_reducible first | exact HB.out | apply below_alloc | apply pw_below_drewN | apply below_drew1 | refine below_set ?_ GB75.out | refine below_set ?_ GB75.out | refine below_set ?_ GB75.out | refine below_set ?_ GB75.out | refine below_set ?_ GE116.out) | exact HB.out)⟩
      (try clear HO_6)
      (try clear HO_10)
      (try clear HO138)
      (try clear HO141)
      (try clear BK116)
      (try clear HB)
      generalize ((((w82.setCell ⟨go75, ((rd x10_1 x11_1) : Int).toNat * 4, none⟩ (.int .i64 (rd y139 x13_2))).setCell ⟨go75, ((rd x10_1 x11_1) : Int).toNat * 4 + 1, none⟩ (.int .i64 (rd y136 x13_2))).setCell ⟨go75, ((rd x10_1 x11_1) : Int).toNat * 4 + 2, none⟩ (.int .i64 ((rd_T33 l0 (rd x10_1 x11_1)).f0))).setCell ⟨go75, ((rd x10_1 x11_1) : Int).toNat * 4 + 3, none⟩ (.int .i64 ((rd_T33 l0 (rd x10_1 x11_1)).f1))) = w86 at n0_ n1_ n2_ n3_ n4_ n5_ ⊢
      have HO_6 := n0_
      have HO_10 := n1_
      have HO138 := n2_
      have HO141 := n3_
      have BK116 := n4_
      have HB := n5_
      clear n0_ n1_ n2_ n3_ n4_ n5_
      replace HO_6 := am_ (Kd.R_drew HO_6.out)
      replace HO_10 := am_ (Kd.R_drew HO_10.out)
      replace HO138 := am_ (Kd.R_drew HO138.out)
      replace HO141 := am_ (Kd.R_drew HO141.out)
      replace BK116 := am_ (blk_drew BK116.out)
      replace HB := am_ (below_drew1 HB.out)
      have p146 : 0 ≤ (x13_2 : Int) := of_decide_eq_true (by first | with_reducible assumption | assumption)
      have q146 : x13_2 < (y139.length : Int) := of_decide_eq_true (by first | with_reducible assumption | assumption)
      obtain ⟨ad146, e146, hx146_0⟩ := Kd.at_int (Kd.R_reads' HO141.out).2.2 x13_2 p146 q146
      obtain rfl : ad143 = ad146 := (by injection e146)
      replace p146 := eq_true p146
      replace q146 := eq_true q146
      have p76 : 0 ≤ (x13_2 : Int) := of_decide_eq_true (by first | with_reducible assumption | assumption)
      have q76 : (x13_2 : Int) < ((y139.length : Int) : Int) := of_decide_eq_true (by first | with_reducible assumption | assumption)
      obtain ⟨go76, co76, eo76, gb76, gl76, cl76, HG76⟩ := Kd.R_form HO141.out (by omega)
      (first | cases eo76 | (injection eo76 with ea_ en_ ec_; (first | subst ea_ | (injection ea_ with ea_; subst ea_)); subst ec_; clear en_))
      have GB76 := Aside0.mk gb76
      have GG76 := Aside0.mk HG76
      clear gb76 gl76 HG76
      (first | simp only [add_plain] at hx143_0 | skip)
      (first | simp only [add_plain] at hx146_0 | skip)
      obtain ⟨hx76_0, hf76_0⟩ := Kd.R_celln 0 HO141.out (x13_2 : Int) p76 q76
      replace p76 := eq_true p76
      replace q76 := eq_true q76
      have HP88 := Kd.R_putn HO141.out (x13_2 : Int) (wrap64 ((rd y139 x13_2) + ((rd_T33 l0 (rd x10_1 x11_1)).f0)))
      rw [← Ny147.out] at HP88
      have HQ88 := Aside0.mk HP88
      clear HP88
      refine start_ (n := 11) (S := fun w' => w'.cell? ⟨gb116, 0, none⟩ = some (.int .i64 ((rd_T33 l0 (rd x10_1 x11_1)).f0)) ∧ w'.cell? ⟨gb116, 1, none⟩ = some (.int .i64 ((rd_T33 l0 (rd x10_1 x11_1)).f1)) ∧ w'.cell? ⟨go76, (x13_2).toNat, none⟩ = some (.int .i64 (rd y139 x13_2))) (ds := [10]) #[false, false, false, false, false, false, false, false, false, false, false] (by kernel_rfl) rfl rfl ⟨(blk_cell BK116.out 0).trans rfl, (blk_cell BK116.out 1).trans rfl, hx146_0⟩ (fun hHeld => ?_); refine with_tabW spec_PackSprites.tab20 spec_PackSprites.bits20 (fun HT_ HW_ => ?_)
      generalize w86.drew = w87 at HO_6 HO_10 HO138 HO141 BK116 HB GG76 HQ85 HQ88 hf76_0 hx143_0 hx146_0 hx76_0 hHeld ⊢
      refine pure_ (i := 0) (N := some 89) (v := ?_) (a' := ?_) #[true, false, false, false, false, false, false, false, false, false, false] rfl rfl (any_of HT_.out (by kernel_rfl)) (fun _ _ _ h => h) (Or.inl ⟨by rfl, ?_⟩) ?_ ?_
      rotate_left
      ·
       intro w'
       go_simp
       with_reducible rfl
      rotate_left
      ·
       simp only [Act.put, List.setIfInBounds_toArray, List.set_cons_zero, List.set_cons_succ, i64_w, i32_w]
       rfl
      refine pure_ (i := 1) (N := some 90) (v := ?_) (a' := ?_) #[true, true, false, false, false, false, false, false, false, false, false] rfl rfl (any_of HT_.out (by kernel_rfl)) (fun _ _ _ h => h) (Or.inl ⟨by rfl, ?_⟩) ?_ ?_
      rotate_left
      ·
       intro w'
       go_simp
       with_reducible rfl
      rotate_left
      ·
       simp only [Act.put, List.setIfInBounds_toArray, List.set_cons_zero, List.set_cons_succ, i64_w, i32_w]
       rfl
      refine pure_ (i := 2) (N := some 91) (v := ?_) (a' := ?_) #[true, true, true, false, false, false, false, false, false, false, false] rfl rfl (any_of HT_.out (by kernel_rfl)) (fun _ _ _ h => h) (Or.inl ⟨by rfl, ?_⟩) ?_ ?_
      rotate_left
      ·
       intro w'
       go_simp
       with_reducible rfl
      rotate_left
      ·
       simp only [Act.put, List.setIfInBounds_toArray, List.set_cons_zero, List.set_cons_succ, i64_w, i32_w]
       rfl
      refine pure_ (i := 3) (N := some 92) (v := ?_) (a' := ?_) #[true, true, true, true, false, false, false, false, false, false, false] rfl rfl (any_of HT_.out (by kernel_rfl)) (fun _ _ _ h => h) (Or.inl ⟨by rfl, ?_⟩) ?_ ?_
      rotate_left
      ·
       intro w'
       go_simp
       with_reducible rfl
      rotate_left
      ·
       simp only [Act.put, List.setIfInBounds_toArray, List.set_cons_zero, List.set_cons_succ, i64_w, i32_w]
       rfl
      refine pure_ (i := 4) (N := some 93) (v := ?_) (a' := ?_) #[true, true, true, true, true, false, false, false, false, false, false] rfl rfl (any_of HT_.out (by kernel_rfl)) (fun _ _ _ h => h) (Or.inl ⟨by rfl, ?_⟩) ?_ ?_
      rotate_left
      ·
       intro w'
       go_simp
       with_reducible rfl
      rotate_left
      ·
       simp only [Act.put, List.setIfInBounds_toArray, List.set_cons_zero, List.set_cons_succ, i64_w, i32_w]
       rfl
      refine pure_ (i := 6) (N := some 95) (v := ?_) (a' := ?_) #[true, true, true, true, true, false, true, false, false, false, false] rfl rfl (any_of HT_.out (by kernel_rfl)) (fun _ _ _ h => h) (Or.inl ⟨by rfl, ?_⟩) ?_ ?_
      rotate_left
      ·
       intro w'
       go_simp
       with_reducible rfl
      rotate_left
      ·
       simp only [Act.put, List.setIfInBounds_toArray, List.set_cons_zero, List.set_cons_succ, i64_w, i32_w]
       rfl
      refine take_ (i := 5) (N := some 94) (v := ?_) (a' := ?_) #[true, true, true, true, true, true, true, false, false, false, false] rfl rfl (take_ofW HT_.out HW_.out (by kernel_rfl)) (fun _ _ _ h => h) (Or.inl ⟨by rfl, ?_⟩) hHeld ?_ ?_
      rotate_left
      ·
       rintro w' ⟨s0, s1, s2⟩
       go_simp
       with_reducible rfl
      rotate_left
      ·
       simp only [Act.put, List.setIfInBounds_toArray, List.set_cons_zero, List.set_cons_succ, i64_w, i32_w]
       rfl
      refine take_ (i := 7) (N := some 96) (v := ?_) (a' := ?_) #[true, true, true, true, true, true, true, true, false, false, false] rfl rfl (take_ofW HT_.out HW_.out (by kernel_rfl)) (fun _ _ _ h => h) (Or.inl ⟨by rfl, ?_⟩) hHeld ?_ ?_
      rotate_left
      ·
       rintro w' ⟨s0, s1, s2⟩
       go_simp
       with_reducible rfl
      rotate_left
      ·
       simp only [Act.put, List.setIfInBounds_toArray, List.set_cons_zero, List.set_cons_succ, i64_w, i32_w]
       rfl
      refine pure_ (i := 8) (N := some 97) (v := ?_) (a' := ?_) #[true, true, true, true, true, true, true, true, true, false, false] rfl rfl (any_of HT_.out (by kernel_rfl)) (fun _ _ _ h => h) (Or.inl ⟨by rfl, ?_⟩) ?_ ?_
      rotate_left
      ·
       intro w'
       go_simp
       with_reducible rfl
      rotate_left
      ·
       simp only [Act.put, List.setIfInBounds_toArray, List.set_cons_zero, List.set_cons_succ, i64_w, i32_w]
       rfl
      refine pure_ (i := 9) (N := some 98) (v := ?_) (a' := ?_) #[true, true, true, true, true, true, true, true, true, true, false] rfl rfl (any_of HT_.out (by kernel_rfl)) (fun _ _ _ h => h) (Or.inl ⟨by rfl, ?_⟩) ?_ ?_
      rotate_left
      ·
       intro w'
       go_simp
       with_reducible rfl
      rotate_left
      ·
       simp only [Act.put, List.setIfInBounds_toArray, List.set_cons_zero, List.set_cons_succ, i64_w, i32_w]
       rfl
      refine last_ (i := 10) (N := none) #[true, true, true, true, true, true, true, true, true, true, true] rfl rfl (one_of HT_.out (by kernel_rfl)) (by decide) (fun K hK => ?_)
      refine skip_ (w1 := ?_) (by rfl) rfl ?_ ?_
      rotate_left
      ·
       go_simp
       rfl
      refine hK.out _ _ ?_
      clear hK K
      refine done_ (done_of HT_.out (by kernel_rfl)) ?_
      try go_wp2
      go_roundg k2
      case measure => have := HK1.out; have := HK2.out; omega
      case rel => exact ⟨(y145), (y136), (y147), (wrap64 (x9_1 + ((rd_T33 l0 (rd x10_1 x11_1)).f1))), (x10_1), (wrap64 (x11_1 + 1)), (by first | rfl | (simp; done) | (simp [*]; done)), (by first | rfl | (simp; done) | (simp [*]; done)), H', ⟨by have := HK1.out; have := HK2.out; omega⟩, ⟨by exact Kd.R_mono (Kd.R_far (p := ⟨go76, (x13_2 : Int).toNat, none⟩) (Kd.R_types HO_6.out GG76.out (by decide)) (fun _ hk => hk.2) (.int .i64 (wrap64 ((rd y139 x13_2) + ((rd_T33 l0 (rd x10_1 x11_1)).f0))))) (fun _ hk => trivial)⟩, ⟨by exact Kd.R_mono (Kd.R_far (p := ⟨go76, (x13_2 : Int).toNat, none⟩) (Kd.R_mono HO138.out (fun k_ hk => (⟨hk, fun e_ => hk.2 (by rw [e_]; rfl)⟩ : _ ∧ k_ ≠ go76))) (fun _ hk => hk.2) (.int .i64 (wrap64 ((rd y139 x13_2) + ((rd_T33 l0 (rd x10_1 x11_1)).f0))))) (fun _ hk => ⟨hk.1.2, hk.1.1⟩)⟩, ⟨by exact Kd.R_mono HQ88.out (fun _ hk => ⟨hk.2, hk.1⟩)⟩, ⟨by exact Kd.R_mono (Kd.R_far (p := ⟨go76, (x13_2 : Int).toNat, none⟩) (Kd.R_mono HO_10.out (fun k_ hk => (⟨hk, fun e_ => hk.2 (by rw [e_]; rfl)⟩ : _ ∧ k_ ≠ go76))) (fun _ hk => hk.2) (.int .i64 (wrap64 ((rd y139 x13_2) + ((rd_T33 l0 (rd x10_1 x11_1)).f0))))) (fun _ hk => ⟨hk.1.1, hk.1.2⟩)⟩, ⟨by repeat (first | (with_reducible first | exact HB.out | apply below_alloc | apply pw_below_drewN | apply below_drew1 | refine below_set ?_ GB76.out | refine below_set ?_ GE116.out) | exact HB.out)⟩⟩
     rw [if_pos c22] at H
     have c22b0 : decide (x13_2 < (x8_1.length : Int)) = true := decide_eq_true c22
     clear c22
     by_cases c23 : 0 ≤ x13_2
     rotate_left
     ·
      rw [if_neg c23] at H
      exact absurd H (by simp)
     rw [if_pos c23] at H
     have c23b0 : decide (0 ≤ x13_2) = true := decide_eq_true c23
     clear c23
     by_cases c24 : (wrap64 ((rd x8_1 x13_2) + ((rd_T33 l0 (rd x10_1 x11_1)).f0))) > a1
     ·
      rw [if_pos c24] at H
      have c24b0 : decide (a1 < (wrap64 ((rd x8_1 x13_2) + ((rd_T33 l0 (rd x10_1 x11_1)).f0)))) = true := decide_eq_true c24
      clear c24
      have H' := Aside0.mk H
      clear H
      try go_wp2
      replace HO_6 := am_ (Kd.R_drew HO_6.out)
      replace HO_7 := am_ (Kd.R_drew HO_7.out)
      replace HO_8 := am_ (Kd.R_drew HO_8.out)
      replace HO_10 := am_ (Kd.R_drew HO_10.out)
      replace BK116 := am_ (blk_drew BK116.out)
      replace HB := am_ (below_drew1 HB.out)
      obtain ⟨Ao26, co26, eo26⟩ := Kd.R_slice HO_8.out
      (first | subst eo26 | (injection eo26 with f1_ f2_ f3_; have f4_ := f1_.symm; have f5_ := f3_.symm; clear f1_ f2_ f3_; subst f4_; subst f5_))
      have p117 : 0 ≤ (x13_2 : Int) := of_decide_eq_true (by first | with_reducible assumption | assumption)
      have q117 : x13_2 < (x8_1.length : Int) := of_decide_eq_true (by first | with_reducible assumption | assumption)
      obtain ⟨ad117, e117, hx117_0⟩ := Kd.at_int (Kd.R_reads' HO_8.out).2.2 x13_2 p117 q117
      cases e117
      replace p117 := eq_true p117
      replace q117 := eq_true q117
      refine start_ (n := 15) (S := fun w' => w'.cell? ⟨gb116, 0, none⟩ = some (.int .i64 ((rd_T33 l0 (rd x10_1 x11_1)).f0)) ∧ w'.cell? ⟨gb116, 1, none⟩ = some (.int .i64 ((rd_T33 l0 (rd x10_1 x11_1)).f1)) ∧ w'.cell? (ad117.add (x13_2).toNat) = some (.int .i64 (rd x8_1 x13_2))) (ds := []) #[false, false, false, false, false, false, false, false, false, false, false, false, false, false, false] (by kernel_rfl) rfl rfl ⟨(blk_cell BK116.out 0).trans rfl, (blk_cell BK116.out 1).trans rfl, hx117_0⟩ (fun hHeld => ?_); refine with_tabW spec_PackSprites.tab13 spec_PackSprites.bits13 (fun HT_ HW_ => ?_)
      generalize wr.drew = w25 at HO_6 HO_7 HO_8 HO_10 BK116 HB hx117_0 hHeld ⊢
      refine pure_ (i := 0) (N := some 38) (v := ?_) (a' := ?_) #[true, false, false, false, false, false, false, false, false, false, false, false, false, false, false] rfl rfl (any_of HT_.out (by kernel_rfl)) (fun _ _ _ h => h) (Or.inl ⟨by rfl, ?_⟩) ?_ ?_
      rotate_left
      ·
       intro w'
       go_simp
       with_reducible rfl
      rotate_left
      ·
       simp only [Act.put, List.setIfInBounds_toArray, List.set_cons_zero, List.set_cons_succ, i64_w, i32_w]
       rfl
      refine pure_ (i := 1) (N := some 39) (v := ?_) (a' := ?_) #[true, true, false, false, false, false, false, false, false, false, false, false, false, false, false] rfl rfl (any_of HT_.out (by kernel_rfl)) (fun _ _ _ h => h) (Or.inl ⟨by rfl, ?_⟩) ?_ ?_
      rotate_left
      ·
       intro w'
       go_simp
       with_reducible rfl
      rotate_left
      ·
       simp only [Act.put, List.setIfInBounds_toArray, List.set_cons_zero, List.set_cons_succ, i64_w, i32_w]
       rfl
      refine pure_ (i := 2) (N := some 40) (v := ?_) (a' := ?_) #[true, true, true, false, false, false, false, false, false, false, false, false, false, false, false] rfl rfl (any_of HT_.out (by kernel_rfl)) (fun _ _ _ h => h) (Or.inl ⟨by rfl, ?_⟩) ?_ ?_
      rotate_left
      ·
       intro w'
       go_simp
       with_reducible rfl
      rotate_left
      ·
       simp only [Act.put, List.setIfInBounds_toArray, List.set_cons_zero, List.set_cons_succ, i64_w, i32_w]
       rfl
      refine pure_ (i := 3) (N := some 41) (v := ?_) (a' := ?_) #[true, true, true, true, false, false, false, false, false, false, false, false, false, false, false] rfl rfl (any_of HT_.out (by kernel_rfl)) (fun _ _ _ h => h) (Or.inl ⟨by rfl, ?_⟩) ?_ ?_
      rotate_left
      ·
       intro w'
       go_simp
       with_reducible rfl
      rotate_left
      ·
       simp only [Act.put, List.setIfInBounds_toArray, List.set_cons_zero, List.set_cons_succ, i64_w, i32_w]
       rfl
      refine pure_ (i := 4) (N := some 42) (v := ?_) (a' := ?_) #[true, true, true, true, true, false, false, false, false, false, false, false, false, false, false] rfl rfl (any_of HT_.out (by kernel_rfl)) (fun _ _ _ h => h) (Or.inl ⟨by rfl, ?_⟩) ?_ ?_
      rotate_left
      ·
       intro w'
       go_simp
       with_reducible rfl
      rotate_left
      ·
       simp only [Act.put, List.setIfInBounds_toArray, List.set_cons_zero, List.set_cons_succ, i64_w, i32_w]
       rfl
      refine pure_ (i := 5) (N := some 43) (v := ?_) (a' := ?_) #[true, true, true, true, true, true, false, false, false, false, false, false, false, false, false] rfl rfl (any_of HT_.out (by kernel_rfl)) (fun _ _ _ h => h) (Or.inl ⟨by rfl, ?_⟩) ?_ ?_
      rotate_left
      ·
       intro w'
       go_simp
       with_reducible rfl
      rotate_left
      ·
       simp only [Act.put, List.setIfInBounds_toArray, List.set_cons_zero, List.set_cons_succ, i64_w, i32_w]
       rfl
      refine pure_ (i := 6) (N := some 44) (v := ?_) (a' := ?_) #[true, true, true, true, true, true, true, false, false, false, false, false, false, false, false] rfl rfl (any_of HT_.out (by kernel_rfl)) (fun _ _ _ h => h) (Or.inl ⟨by rfl, ?_⟩) ?_ ?_
      rotate_left
      ·
       intro w'
       go_simp
       with_reducible rfl
      rotate_left
      ·
       simp only [Act.put, List.setIfInBounds_toArray, List.set_cons_zero, List.set_cons_succ, i64_w, i32_w]
       rfl
      refine pure_ (i := 7) (N := some 45) (v := ?_) (a' := ?_) #[true, true, true, true, true, true, true, true, false, false, false, false, false, false, false] rfl rfl (any_of HT_.out (by kernel_rfl)) (fun _ _ _ h => h) (Or.inl ⟨by rfl, ?_⟩) ?_ ?_
      rotate_left
      ·
       intro w'
       go_simp
       with_reducible rfl
      rotate_left
      ·
       simp only [Act.put, List.setIfInBounds_toArray, List.set_cons_zero, List.set_cons_succ, i64_w, i32_w]
       rfl
      refine pure_ (i := 9) (N := some 47) (v := ?_) (a' := ?_) #[true, true, true, true, true, true, true, true, false, true, false, false, false, false, false] rfl rfl (any_of HT_.out (by kernel_rfl)) (fun _ _ _ h => h) (Or.inl ⟨by rfl, ?_⟩) ?_ ?_
      rotate_left
      ·
       intro w'
       go_simp
       with_reducible rfl
      rotate_left
      ·
       simp only [Act.put, List.setIfInBounds_toArray, List.set_cons_zero, List.set_cons_succ, i64_w, i32_w]
       rfl
      refine pure_ (i := 12) (N := some 50) (v := ?_) (a' := ?_) #[true, true, true, true, true, true, true, true, false, true, false, false, true, false, false] rfl rfl (any_of HT_.out (by kernel_rfl)) (fun _ _ _ h => h) (Or.inl ⟨by rfl, ?_⟩) ?_ ?_
      rotate_left
      ·
       intro w'
       go_simp
       with_reducible rfl
      rotate_left
      ·
       simp only [Act.put, List.setIfInBounds_toArray, List.set_cons_zero, List.set_cons_succ, i64_w, i32_w]
       rfl
      refine take_ (i := 8) (N := some 46) (v := ?_) (a' := ?_) #[true, true, true, true, true, true, true, true, true, true, false, false, true, false, false] rfl rfl (take_ofW HT_.out HW_.out (by kernel_rfl)) (fun _ _ _ h => h) (Or.inl ⟨by rfl, ?_⟩) hHeld ?_ ?_
      rotate_left
      ·
       rintro w' ⟨s0, s1, s2⟩
       go_simp
       with_reducible rfl
      rotate_left
      ·
       simp only [Act.put, List.setIfInBounds_toArray, List.set_cons_zero, List.set_cons_succ, i64_w, i32_w]
       rfl
      refine take_ (i := 10) (N := some 48) (v := ?_) (a' := ?_) #[true, true, true, true, true, true, true, true, true, true, true, false, true, false, false] rfl rfl (take_ofW HT_.out HW_.out (by kernel_rfl)) (fun _ _ _ h => h) (Or.inl ⟨by rfl, ?_⟩) hHeld ?_ ?_
      rotate_left
      ·
       rintro w' ⟨s0, s1, s2⟩
       go_simp
       with_reducible rfl
      rotate_left
      ·
       simp only [Act.put, List.setIfInBounds_toArray, List.set_cons_zero, List.set_cons_succ, i64_w, i32_w]
       rfl
      refine pure_ (i := 11) (N := some 49) (v := ?_) (a' := ?_) #[true, true, true, true, true, true, true, true, true, true, true, true, true, false, false] rfl rfl (any_of HT_.out (by kernel_rfl)) (fun _ _ _ h => h) (Or.inl ⟨by rfl, ?_⟩) ?_ ?_
      rotate_left
      ·
       intro w'
       go_simp
       with_reducible rfl
      rotate_left
      ·
       simp only [Act.put, List.setIfInBounds_toArray, List.set_cons_zero, List.set_cons_succ, i64_w, i32_w]
       rfl
      refine pure_ (i := 13) (N := some 51) (v := ?_) (a' := ?_) #[true, true, true, true, true, true, true, true, true, true, true, true, true, true, false] rfl rfl (any_of HT_.out (by kernel_rfl)) (fun _ _ _ h => h) (Or.inl ⟨by rfl, ?_⟩) ?_ ?_
      rotate_left
      ·
       intro w'
       go_simp
       with_reducible rfl
      rotate_left
      ·
       simp only [Act.put, List.setIfInBounds_toArray, List.set_cons_zero, List.set_cons_succ, i64_w, i32_w]
       rfl
      refine pure_ (i := 14) (N := some 52) (v := ?_) (a' := ?_) #[true, true, true, true, true, true, true, true, true, true, true, true, true, true, true] rfl rfl (any_of HT_.out (by kernel_rfl)) (fun _ _ _ h => h) (Or.inl ⟨by rfl, ?_⟩) ?_ ?_
      rotate_left
      ·
       intro w'
       go_simp
       with_reducible rfl
      rotate_left
      ·
       simp only [Act.put, List.setIfInBounds_toArray, List.set_cons_zero, List.set_cons_succ, i64_w, i32_w]
       rfl
      refine done_ (done_of HT_.out (by kernel_rfl)) ?_
      try go_wp2
      go_roundg k2
      case measure => have := HK1.out; have := HK2.out; omega
      case rel => exact ⟨(wrap64 (x13_2 + 1)), (by first | rfl | (simp; done) | (simp [*]; done)), H', ⟨by have := HK1.out; have := HK2.out; omega⟩, ⟨by exact HO_6.out⟩, ⟨by exact HO_7.out⟩, ⟨by exact HO_8.out⟩, ⟨by exact HO_10.out⟩, ⟨by exact BK116.out⟩, ⟨by repeat (first | (with_reducible first | exact HB.out | apply below_alloc | apply pw_below_drewN | apply below_drew1 | refine below_set ?_ GE116.out) | exact HB.out)⟩⟩
     rw [if_neg c24] at H
     have c24b0 : decide (a1 < (wrap64 ((rd x8_1 x13_2) + ((rd_T33 l0 (rd x10_1 x11_1)).f0)))) = false := decide_eq_false c24
     clear c24
     by_cases c27 : x13_2 = (x8_1.length : Int)
     ·
      rw [if_pos c27] at H
      have c27b0 : (x13_2 == (x8_1.length : Int)) = true := beq_iff_eq.mpr c27
      have c27b1 : (x13_2 != (x8_1.length : Int)) = false := bne_eq_false_iff_eq.mpr c27
      clear c27
      by_cases c28 : x7_1.length < 17592186044416
      rotate_left
      ·
       rw [if_neg c28] at H
       exact absurd H (by simp)
      rw [if_pos c28] at H
      have LMc28 := Aside0.mk c28
      clear c28
      obtain ⟨y118, hy118⟩ : ∃ y_ : List Int, y_ = (x7_1 ++ [x9_1]) := ⟨_, rfl⟩
      replace H : (if x8_1.length < 17592186044416 then ((some (x8_1 ++ [0] : List Int)).bind fun y121 => (if 0 ≤ x11_1 then (if x11_1 < (x10_1.length : Int) then (if x13_2 < (y121.length : Int) then (if x13_2 < (y118.length : Int) then (if 0 ≤ (rd x10_1 x11_1) then (if (rd x10_1 x11_1) < (x6_1.length : Int) then (spec_PackSprites.l0 k2 l0 a1 (x6_1.set ((rd x10_1 x11_1) : Int).toNat (⟨rd y121 x13_2, rd y118 x13_2, ((rd_T33 l0 (rd x10_1 x11_1)).f0), ((rd_T33 l0 (rd x10_1 x11_1)).f1)⟩ : S31)) y118 (y121.set (x13_2 : Int).toNat (wrap64 ((rd y121 x13_2) + ((rd_T33 l0 (rd x10_1 x11_1)).f0)))) (wrap64 (x9_1 + ((rd_T33 l0 (rd x10_1 x11_1)).f1))) x10_1 (wrap64 (x11_1 + 1))) else (none)) else (none)) else (none)) else (none)) else (none)) else (none))) else (none)) = some (r1, r2) := by first | (rw [hy118]; with_reducible exact H) | (have H2_ := (Option.bind_some _ _).symm.trans H; rw [hy118]; with_reducible exact H2_) | (have H2_ := (Option.bind_some _ _).symm.trans H; with_reducible exact H2_) | with_reducible exact H | (rw [hy118]; exact H) | exact H
      have Ny118 := Aside0.mk hy118
      clear hy118
      by_cases c29 : x8_1.length < 17592186044416
      rotate_left
      ·
       rw [if_neg c29] at H
       exact absurd H (by simp)
      rw [if_pos c29] at H
      have LMc29 := Aside0.mk c29
      clear c29
      obtain ⟨y121, hy121⟩ : ∃ y_ : List Int, y_ = (x8_1 ++ [0]) := ⟨_, rfl⟩
      replace H : (if 0 ≤ x11_1 then (if x11_1 < (x10_1.length : Int) then (if x13_2 < (y121.length : Int) then (if x13_2 < (y118.length : Int) then (if 0 ≤ (rd x10_1 x11_1) then (if (rd x10_1 x11_1) < (x6_1.length : Int) then (spec_PackSprites.l0 k2 l0 a1 (x6_1.set ((rd x10_1 x11_1) : Int).toNat (⟨rd y121 x13_2, rd y118 x13_2, ((rd_T33 l0 (rd x10_1 x11_1)).f0), ((rd_T33 l0 (rd x10_1 x11_1)).f1)⟩ : S31)) y118 (y121.set (x13_2 : Int).toNat (wrap64 ((rd y121 x13_2) + ((rd_T33 l0 (rd x10_1 x11_1)).f0)))) (wrap64 (x9_1 + ((rd_T33 l0 (rd x10_1 x11_1)).f1))) x10_1 (wrap64 (x11_1 + 1))) else (none)) else (none)) else (none)) else (none)) else (none)) else (none)) = some (r1, r2) := by first | (rw [hy121]; with_reducible exact H) | (have H2_ := (Option.bind_some _ _).symm.trans H; rw [hy121]; with_reducible exact H2_) | (have H2_ := (Option.bind_some _ _).symm.trans H; with_reducible exact H2_) | with_reducible exact H | (rw [hy121]; exact H) | exact H
      have Ny121 := Aside0.mk hy121
      clear hy121
      by_cases c30 : 0 ≤ x11_1
      rotate_left
      ·
       rw [if_neg c30] at H
       exact absurd H (by simp)
      rw [if_pos c30] at H
      have c30b0 : decide (0 ≤ x11_1) = true := decide_eq_true c30
      clear c30
      by_cases c31 : x11_1 < (x10_1.length : Int)
      rotate_left
      ·
       rw [if_neg c31] at H
       exact absurd H (by simp)
      rw [if_pos c31] at H
      have c31b0 : decide (x11_1 < (x10_1.length : Int)) = true := decide_eq_true c31
      clear c31
      by_cases c32 : x13_2 < (y121.length : Int)
      rotate_left
      ·
       rw [if_neg c32] at H
       exact absurd H (by simp)
      rw [if_pos c32] at H
      have c32b0 : decide (x13_2 < (y121.length : Int)) = true := decide_eq_true c32
      clear c32
      by_cases c33 : x13_2 < (y118.length : Int)
      rotate_left
      ·
       rw [if_neg c33] at H
       exact absurd H (by simp)
      rw [if_pos c33] at H
      have c33b0 : decide (x13_2 < (y118.length : Int)) = true := decide_eq_true c33
      clear c33
      by_cases c34 : 0 ≤ (rd x10_1 x11_1)
      rotate_left
      ·
       rw [if_neg c34] at H
       exact absurd H (by simp)
      rw [if_pos c34] at H
      have c34b0 : decide (0 ≤ (rd x10_1 x11_1)) = true := decide_eq_true c34
      clear c34
      by_cases c35 : (rd x10_1 x11_1) < (x6_1.length : Int)
      rotate_left
      ·
       rw [if_neg c35] at H
       exact absurd H (by simp)
      rw [if_pos c35] at H
      have c35b0 : decide ((rd x10_1 x11_1) < (x6_1.length : Int)) = true := decide_eq_true c35
      clear c35
      obtain ⟨y127, hy127⟩ : ∃ y_ : List (S31), y_ = (x6_1.set ((rd x10_1 x11_1) : Int).toNat (⟨rd y121 x13_2, rd y118 x13_2, ((rd_T33 l0 (rd x10_1 x11_1)).f0), ((rd_T33 l0 (rd x10_1 x11_1)).f1)⟩ : S31)) := ⟨_, rfl⟩
      replace H : (spec_PackSprites.l0 k2 l0 a1 y127 y118 (y121.set (x13_2 : Int).toNat (wrap64 ((rd y121 x13_2) + ((rd_T33 l0 (rd x10_1 x11_1)).f0)))) (wrap64 (x9_1 + ((rd_T33 l0 (rd x10_1 x11_1)).f1))) x10_1 (wrap64 (x11_1 + 1))) = some (r1, r2) := by first | (rw [hy127]; with_reducible exact H) | (have H2_ := (Option.bind_some _ _).symm.trans H; rw [hy127]; with_reducible exact H2_) | (have H2_ := (Option.bind_some _ _).symm.trans H; with_reducible exact H2_) | with_reducible exact H | (rw [hy127]; exact H) | exact H
      have Ny127 := Aside0.mk hy127
      clear hy127
      obtain ⟨y129, hy129⟩ : ∃ y_ : List Int, y_ = (y121.set (x13_2 : Int).toNat (wrap64 ((rd y121 x13_2) + ((rd_T33 l0 (rd x10_1 x11_1)).f0)))) := ⟨_, rfl⟩
      replace H : (spec_PackSprites.l0 k2 l0 a1 y127 y118 y129 (wrap64 (x9_1 + ((rd_T33 l0 (rd x10_1 x11_1)).f1))) x10_1 (wrap64 (x11_1 + 1))) = some (r1, r2) := by first | (rw [hy129]; with_reducible exact H) | (have H2_ := (Option.bind_some _ _).symm.trans H; rw [hy129]; with_reducible exact H2_) | (have H2_ := (Option.bind_some _ _).symm.trans H; with_reducible exact H2_) | with_reducible exact H | (rw [hy129]; exact H) | exact H
      have Ny129 := Aside0.mk hy129
      clear hy129
      have H' := Aside0.mk H
      clear H
      try go_wp2
      replace HO_6 := am_ (Kd.R_drew HO_6.out)
      replace HO_7 := am_ (Kd.R_drew HO_7.out)
      replace HO_8 := am_ (Kd.R_drew HO_8.out)
      replace HO_10 := am_ (Kd.R_drew HO_10.out)
      replace BK116 := am_ (blk_drew BK116.out)
      replace HB := am_ (below_drew1 HB.out)
      obtain ⟨Ao39, co39, eo39⟩ := Kd.R_slice HO_8.out
      (first | subst eo39 | (injection eo39 with f1_ f2_ f3_; have f4_ := f1_.symm; have f5_ := f3_.symm; clear f1_ f2_ f3_; subst f4_; subst f5_))
      have p117 : 0 ≤ (x13_2 : Int) := of_decide_eq_true (by first | with_reducible assumption | assumption)
      have q117 : x13_2 < (x8_1.length : Int) := of_decide_eq_true (by first | with_reducible assumption | assumption)
      obtain ⟨ad117, e117, hx117_0⟩ := Kd.at_int (Kd.R_reads' HO_8.out).2.2 x13_2 p117 q117
      cases e117
      replace p117 := eq_true p117
      replace q117 := eq_true q117
      refine start_ (n := 15) (S := fun w' => w'.cell? ⟨gb116, 0, none⟩ = some (.int .i64 ((rd_T33 l0 (rd x10_1 x11_1)).f0)) ∧ w'.cell? ⟨gb116, 1, none⟩ = some (.int .i64 ((rd_T33 l0 (rd x10_1 x11_1)).f1)) ∧ w'.cell? (ad117.add (x13_2).toNat) = some (.int .i64 (rd x8_1 x13_2))) (ds := []) #[false, false, false, false, false, false, false, false, false, false, false, false, false, false, false] (by kernel_rfl) rfl rfl ⟨(blk_cell BK116.out 0).trans rfl, (blk_cell BK116.out 1).trans rfl, hx117_0⟩ (fun hHeld => ?_); refine with_tabW spec_PackSprites.tab13 spec_PackSprites.bits13 (fun HT_ HW_ => ?_)
      generalize wr.drew = w38 at HO_6 HO_7 HO_8 HO_10 BK116 HB hx117_0 hHeld ⊢
      refine pure_ (i := 0) (N := some 38) (v := ?_) (a' := ?_) #[true, false, false, false, false, false, false, false, false, false, false, false, false, false, false] rfl rfl (any_of HT_.out (by kernel_rfl)) (fun _ _ _ h => h) (Or.inl ⟨by rfl, ?_⟩) ?_ ?_
      rotate_left
      ·
       intro w'
       go_simp
       with_reducible rfl
      rotate_left
      ·
       simp only [Act.put, List.setIfInBounds_toArray, List.set_cons_zero, List.set_cons_succ, i64_w, i32_w]
       rfl
      refine pure_ (i := 1) (N := some 39) (v := ?_) (a' := ?_) #[true, true, false, false, false, false, false, false, false, false, false, false, false, false, false] rfl rfl (any_of HT_.out (by kernel_rfl)) (fun _ _ _ h => h) (Or.inl ⟨by rfl, ?_⟩) ?_ ?_
      rotate_left
      ·
       intro w'
       go_simp
       with_reducible rfl
      rotate_left
      ·
       simp only [Act.put, List.setIfInBounds_toArray, List.set_cons_zero, List.set_cons_succ, i64_w, i32_w]
       rfl
      refine pure_ (i := 2) (N := some 40) (v := ?_) (a' := ?_) #[true, true, true, false, false, false, false, false, false, false, false, false, false, false, false] rfl rfl (any_of HT_.out (by kernel_rfl)) (fun _ _ _ h => h) (Or.inl ⟨by rfl, ?_⟩) ?_ ?_
      rotate_left
      ·
       intro w'
       go_simp
       with_reducible rfl
      rotate_left
      ·
       simp only [Act.put, List.setIfInBounds_toArray, List.set_cons_zero, List.set_cons_succ, i64_w, i32_w]
       rfl
      refine pure_ (i := 3) (N := some 41) (v := ?_) (a' := ?_) #[true, true, true, true, false, false, false, false, false, false, false, false, false, false, false] rfl rfl (any_of HT_.out (by kernel_rfl)) (fun _ _ _ h => h) (Or.inl ⟨by rfl, ?_⟩) ?_ ?_
      rotate_left
      ·
       intro w'
       go_simp
       with_reducible rfl
      rotate_left
      ·
       simp only [Act.put, List.setIfInBounds_toArray, List.set_cons_zero, List.set_cons_succ, i64_w, i32_w]
       rfl
      refine pure_ (i := 4) (N := some 42) (v := ?_) (a' := ?_) #[true, true, true, true, true, false, false, false, false, false, false, false, false, false, false] rfl rfl (any_of HT_.out (by kernel_rfl)) (fun _ _ _ h => h) (Or.inl ⟨by rfl, ?_⟩) ?_ ?_
      rotate_left
      ·
       intro w'
       go_simp
       with_reducible rfl
      rotate_left
      ·
       simp only [Act.put, List.setIfInBounds_toArray, List.set_cons_zero, List.set_cons_succ, i64_w, i32_w]
       rfl
      refine pure_ (i := 5) (N := some 43) (v := ?_) (a' := ?_) #[true, true, true, true, true, true, false, false, false, false, false, false, false, false, false] rfl rfl (any_of HT_.out (by kernel_rfl)) (fun _ _ _ h => h) (Or.inl ⟨by rfl, ?_⟩) ?_ ?_
      rotate_left
      ·
       intro w'
       go_simp
       with_reducible rfl
      rotate_left
      ·
       simp only [Act.put, List.setIfInBounds_toArray, List.set_cons_zero, List.set_cons_succ, i64_w, i32_w]
       rfl
      refine pure_ (i := 6) (N := some 44) (v := ?_) (a' := ?_) #[true, true, true, true, true, true, true, false, false, false, false, false, false, false, false] rfl rfl (any_of HT_.out (by kernel_rfl)) (fun _ _ _ h => h) (Or.inl ⟨by rfl, ?_⟩) ?_ ?_
      rotate_left
      ·
       intro w'
       go_simp
       with_reducible rfl
      rotate_left
      ·
       simp only [Act.put, List.setIfInBounds_toArray, List.set_cons_zero, List.set_cons_succ, i64_w, i32_w]
       rfl
      refine pure_ (i := 7) (N := some 45) (v := ?_) (a' := ?_) #[true, true, true, true, true, true, true, true, false, false, false, false, false, false, false] rfl rfl (any_of HT_.out (by kernel_rfl)) (fun _ _ _ h => h) (Or.inl ⟨by rfl, ?_⟩) ?_ ?_
      rotate_left
      ·
       intro w'
       go_simp
       with_reducible rfl
      rotate_left
      ·
       simp only [Act.put, List.setIfInBounds_toArray, List.set_cons_zero, List.set_cons_succ, i64_w, i32_w]
       rfl
      refine pure_ (i := 9) (N := some 47) (v := ?_) (a' := ?_) #[true, true, true, true, true, true, true, true, false, true, false, false, false, false, false] rfl rfl (any_of HT_.out (by kernel_rfl)) (fun _ _ _ h => h) (Or.inl ⟨by rfl, ?_⟩) ?_ ?_
      rotate_left
      ·
       intro w'
       go_simp
       with_reducible rfl
      rotate_left
      ·
       simp only [Act.put, List.setIfInBounds_toArray, List.set_cons_zero, List.set_cons_succ, i64_w, i32_w]
       rfl
      refine pure_ (i := 12) (N := some 50) (v := ?_) (a' := ?_) #[true, true, true, true, true, true, true, true, false, true, false, false, true, false, false] rfl rfl (any_of HT_.out (by kernel_rfl)) (fun _ _ _ h => h) (Or.inl ⟨by rfl, ?_⟩) ?_ ?_
      rotate_left
      ·
       intro w'
       go_simp
       with_reducible rfl
      rotate_left
      ·
       simp only [Act.put, List.setIfInBounds_toArray, List.set_cons_zero, List.set_cons_succ, i64_w, i32_w]
       rfl
      refine take_ (i := 8) (N := some 46) (v := ?_) (a' := ?_) #[true, true, true, true, true, true, true, true, true, true, false, false, true, false, false] rfl rfl (take_ofW HT_.out HW_.out (by kernel_rfl)) (fun _ _ _ h => h) (Or.inl ⟨by rfl, ?_⟩) hHeld ?_ ?_
      rotate_left
      ·
       rintro w' ⟨s0, s1, s2⟩
       go_simp
       with_reducible rfl
      rotate_left
      ·
       simp only [Act.put, List.setIfInBounds_toArray, List.set_cons_zero, List.set_cons_succ, i64_w, i32_w]
       rfl
      refine take_ (i := 10) (N := some 48) (v := ?_) (a' := ?_) #[true, true, true, true, true, true, true, true, true, true, true, false, true, false, false] rfl rfl (take_ofW HT_.out HW_.out (by kernel_rfl)) (fun _ _ _ h => h) (Or.inl ⟨by rfl, ?_⟩) hHeld ?_ ?_
      rotate_left
      ·
       rintro w' ⟨s0, s1, s2⟩
       go_simp
       with_reducible rfl
      rotate_left
      ·
       simp only [Act.put, List.setIfInBounds_toArray, List.set_cons_zero, List.set_cons_succ, i64_w, i32_w]
       rfl
      refine pure_ (i := 11) (N := some 49) (v := ?_) (a' := ?_) #[true, true, true, true, true, true, true, true, true, true, true, true, true, false, false] rfl rfl (any_of HT_.out (by kernel_rfl)) (fun _ _ _ h => h) (Or.inl ⟨by rfl, ?_⟩) ?_ ?_
      rotate_left
      ·
       intro w'
       go_simp
       with_reducible rfl
      rotate_left
      ·
       simp only [Act.put, List.setIfInBounds_toArray, List.set_cons_zero, List.set_cons_succ, i64_w, i32_w]
       rfl
      refine pure_ (i := 13) (N := some 51) (v := ?_) (a' := ?_) #[true, true, true, true, true, true, true, true, true, true, true, true, true, true, false] rfl rfl (any_of HT_.out (by kernel_rfl)) (fun _ _ _ h => h) (Or.inl ⟨by rfl, ?_⟩) ?_ ?_
      rotate_left
      ·
       intro w'
       go_simp
       with_reducible rfl
      rotate_left
      ·
       simp only [Act.put, List.setIfInBounds_toArray, List.set_cons_zero, List.set_cons_succ, i64_w, i32_w]
       rfl
      refine pure_ (i := 14) (N := some 52) (v := ?_) (a' := ?_) #[true, true, true, true, true, true, true, true, true, true, true, true, true, true, true] rfl rfl (any_of HT_.out (by kernel_rfl)) (fun _ _ _ h => h) (Or.inl ⟨by rfl, ?_⟩) ?_ ?_
      rotate_left
      ·
       intro w'
       go_simp
       with_reducible rfl
      rotate_left
      ·
       simp only [Act.put, List.setIfInBounds_toArray, List.set_cons_zero, List.set_cons_succ, i64_w, i32_w]
       rfl
      refine done_ (done_of HT_.out (by kernel_rfl)) ?_
      try go_wp2_with (first | ((with_reducible refine gate_builtin (b := .append) (xs := #[.tmp 59, .tmp 61]) rfl ?_); at_builtin; refine Kd.R_append (Kd.int .i64) (w0 := w) w.heap.size rfl (.tmp 59) (.tmp 61) 47 3 (.int .i64 0) 8 rfl Try.underlying47 info3 rfl (by decide) (by omega) u7 x7_1 x9_1 [.int .i64 x9_1] (fun k_ => some k_ ≠ (.slice (some ad117) x8_1.length co39 : Value).ownBlock ∧ some k_ ≠ (.slice (some ad114) x10_1.length co19 : Value).ownBlock) (fun _ => False) rfl rfl ?aP (fun _ hk => hk.elim) ?aF ?aO ?aB ?aS ?aL ?_; (case aP => exact rfl); (case aB => exact (by repeat (first | (with_reducible first | exact HB.out | apply below_alloc | apply pw_below_drewN | apply below_drew1 | refine below_set ?_ GE116.out) | exact HB.out))); (case aF => exact (fun k_ hk => ⟨Kd.fresh' (Kd.R_lt (by exact HO_8.out)) k_ hk, Kd.fresh' (Kd.R_lt (by exact HO_10.out)) k_ hk⟩)); (case aO => exact (by exact HO_7.out)); (case aS => exact (below_size (by repeat (first | (with_reducible first | exact HB.out | apply below_alloc | apply pw_below_drewN | apply below_drew1 | refine below_set ?_ GE116.out) | exact HB.out)))); (case aL => have := LMc28.out; omega); intro v119 w40 ho hb hg hat; rw [← Ny118.out] at ho; replace HO_6 := am_ (Kd.R_over' (by exact HO_6.out) (Kd.R_typed (by exact HO_7.out)) (by decide) hg); replace HO_8 := am_ (Kd.R_after (ok := (fun k_ => some k_ ≠ (.slice (some ad114) x10_1.length co19 : Value).ownBlock)) (by exact Kd.R_mono HO_8.out (fun _ hk => ⟨hk.2, hk.1⟩)) hg hat); replace HO_10 := am_ (Kd.R_after (ok := (fun k_ => some k_ ≠ (.slice (some ad117) x8_1.length co39 : Value).ownBlock)) (by exact Kd.R_mono HO_10.out (fun _ hk => ⟨hk.2, hk.1⟩)) hg hat); replace BK116 := am_ (blk_grown (by exact BK116.out) hg (Kd.R_ne HO_7.out BK116.out (by decide))); replace HB := am_ (hb); have HO120 := am_ (ho); clear HO_7; clear ho hb hg hat) | ((with_reducible refine gate_builtin (b := .append) (xs := #[.tmp 63, .tmp 64]) rfl ?_); at_builtin; refine Kd.R_append (Kd.int .i64) (w0 := w) w.heap.size rfl (.tmp 63) (.tmp 64) 47 3 (.int .i64 0) 8 rfl Try.underlying47 info3 rfl (by decide) (by omega) (.slice (some ad117) x8_1.length co39) x8_1 0 [.int .i64 0] (fun k_ => some k_ ≠ (.slice (some ad114) x10_1.length co19 : Value).ownBlock ∧ some k_ ≠ (v119 : Value).ownBlock) (fun _ => False) rfl rfl ?aP (fun _ hk => hk.elim) ?aF ?aO ?aB ?aS ?aL ?_; (case aP => exact rfl); (case aB => exact (by repeat (first | (with_reducible first | exact HB.out | apply below_alloc | apply pw_below_drewN | apply below_drew1 | refine below_set ?_ GE116.out) | exact HB.out))); (case aF => exact (fun k_ hk => ⟨Kd.fresh' (Kd.R_lt (by exact HO_10.out)) k_ hk, Kd.fresh' (Kd.R_lt (by exact HO120.out)) k_ hk⟩)); (case aO => exact (by exact HO_8.out)); (case aS => exact (below_size (by repeat (first | (with_reducible first | exact HB.out | apply below_alloc | apply pw_below_drewN | apply below_drew1 | refine below_set ?_ GE116.out) | exact HB.out)))); (case aL => have := LMc29.out; omega); intro v122 w41 ho hb hg hat; rw [← Ny121.out] at ho; replace HO_6 := am_ (Kd.R_over' (by exact HO_6.out) (Kd.R_typed (by exact HO_8.out)) (by decide) hg); replace HO_10 := am_ (Kd.R_after (ok := (fun k_ => some k_ ≠ (v119 : Value).ownBlock)) (by exact Kd.R_mono HO_10.out (fun _ hk => ⟨hk.2, hk.1⟩)) hg hat); replace BK116 := am_ (blk_grown (by exact BK116.out) hg (Kd.R_ne HO_8.out BK116.out (by decide))); replace HO120 := am_ (Kd.R_after (ok := (fun k_ => some k_ ≠ (.slice (some ad114) x10_1.length co19 : Value).ownBlock)) (by exact Kd.R_mono HO120.out (fun _ hk => ⟨hk.2, hk.1⟩)) hg hat); replace HB := am_ (hb); have HO123 := am_ (ho); clear HO_8; clear ho hb hg hat; have hcz42_0 : w41.cell? ⟨gb116, 0, none⟩ = some (.int .i64 ((rd_T33 l0 (rd x10_1 x11_1)).f0)) := (blk_cell BK116.out 0).trans rfl; have hcz42_1 : w41.cell? ⟨gb116, 1, none⟩ = some (.int .i64 ((rd_T33 l0 (rd x10_1 x11_1)).f1)) := (blk_cell BK116.out 1).trans rfl; have hfz42_0 := blk_frozen BK116.out 0; have hfz42_1 := blk_frozen BK116.out 1))
      replace HO_6 := am_ (Kd.R_drew HO_6.out)
      replace HO_10 := am_ (Kd.R_drew HO_10.out)
      replace HO120 := am_ (Kd.R_drew HO120.out)
      replace HO123 := am_ (Kd.R_drew HO123.out)
      replace BK116 := am_ (blk_drew BK116.out)
      replace HB := am_ (below_drew1 HB.out)
      have p124 : 0 ≤ (x11_1 : Int) := of_decide_eq_true (by first | with_reducible assumption | assumption)
      have q124 : x11_1 < (x10_1.length : Int) := of_decide_eq_true (by first | with_reducible assumption | assumption)
      obtain ⟨ad124, e124, hx124_0⟩ := Kd.at_int (Kd.R_reads' HO_10.out).2.2 x11_1 p124 q124
      obtain rfl : ad114 = ad124 := (by injection e124)
      replace p124 := eq_true p124
      replace q124 := eq_true q124
      obtain ⟨Ao44, co44, eo44⟩ := Kd.R_slice HO123.out
      (first | subst eo44 | (injection eo44 with f1_ f2_ f3_; have f4_ := f1_.symm; have f5_ := f3_.symm; clear f1_ f2_ f3_; subst f4_; subst f5_))
      have p125 : 0 ≤ (x13_2 : Int) := of_decide_eq_true (by first | with_reducible assumption | assumption)
      have q125 : x13_2 < (y121.length : Int) := of_decide_eq_true (by first | with_reducible assumption | assumption)
      obtain ⟨ad125, e125, hx125_0⟩ := Kd.at_int (Kd.R_reads' HO123.out).2.2 x13_2 p125 q125
      cases e125
      replace p125 := eq_true p125
      replace q125 := eq_true q125
      obtain ⟨Ao45, co45, eo45⟩ := Kd.R_slice HO120.out
      (first | subst eo45 | (injection eo45 with f1_ f2_ f3_; have f4_ := f1_.symm; have f5_ := f3_.symm; clear f1_ f2_ f3_; subst f4_; subst f5_))
      have p126 : 0 ≤ (x13_2 : Int) := of_decide_eq_true (by first | with_reducible assumption | assumption)
      have q126 : x13_2 < (y118.length : Int) := of_decide_eq_true (by first | with_reducible assumption | assumption)
      obtain ⟨ad126, e126, hx126_0⟩ := Kd.at_int (Kd.R_reads' HO120.out).2.2 x13_2 p126 q126
      cases e126
      replace p126 := eq_true p126
      replace q126 := eq_true q126
      have p36 : 0 ≤ ((rd x10_1 x11_1) : Int) := of_decide_eq_true (by first | with_reducible assumption | assumption)
      have q36 : ((rd x10_1 x11_1) : Int) < ((x6_1.length : Int) : Int) := of_decide_eq_true (by first | with_reducible assumption | assumption)
      obtain ⟨go36, co36, eo36, gb36, gl36, cl36, HG36⟩ := Kd.R_form HO_6.out (by omega)
      (first | cases eo36 | (injection eo36 with ea_ en_ ec_; (first | subst ea_ | (injection ea_ with ea_; subst ea_)); subst ec_; clear en_))
      have GB36 := Aside0.mk gb36
      have GG36 := Aside0.mk HG36
      clear gb36 gl36 HG36
      obtain ⟨ce36, hcl36, hM36, hcc36, hfr36⟩ := Kd.R_elem HO_6.out z31 ((rd x10_1 x11_1) : Int) p36 q36
      obtain rfl := k31_openM hM36
      have hx36_0 : World.cell? _ ⟨go36, ((rd x10_1 x11_1) : Int).toNat * 4, none⟩ = some (.int .i64 ((rd_T31 x6_1 (rd x10_1 x11_1)).f0)) := hcc36 0 _ rfl
      have hx36_1 : World.cell? _ ⟨go36, ((rd x10_1 x11_1) : Int).toNat * 4 + 1, none⟩ = some (.int .i64 ((rd_T31 x6_1 (rd x10_1 x11_1)).f1)) := hcc36 1 _ rfl
      have hx36_2 : World.cell? _ ⟨go36, ((rd x10_1 x11_1) : Int).toNat * 4 + 2, none⟩ = some (.int .i64 ((rd_T31 x6_1 (rd x10_1 x11_1)).f2)) := hcc36 2 _ rfl
      have hx36_3 : World.cell? _ ⟨go36, ((rd x10_1 x11_1) : Int).toNat * 4 + 3, none⟩ = some (.int .i64 ((rd_T31 x6_1 (rd x10_1 x11_1)).f3)) := hcc36 3 _ rfl
      have hf36_0 : World.frozen? _ ⟨go36, ((rd x10_1 x11_1) : Int).toNat * 4, none⟩ = false := hfr36 0
      have hf36_1 : World.frozen? _ ⟨go36, ((rd x10_1 x11_1) : Int).toNat * 4 + 1, none⟩ = false := hfr36 1
      have hf36_2 : World.frozen? _ ⟨go36, ((rd x10_1 x11_1) : Int).toNat * 4 + 2, none⟩ = false := hfr36 2
      have hf36_3 : World.frozen? _ ⟨go36, ((rd x10_1 x11_1) : Int).toNat * 4 + 3, none⟩ = false := hfr36 3
      clear hcl36 hcc36 hfr36 hM36
      replace p36 := eq_true p36
      replace q36 := eq_true q36
      obtain ⟨ce46, hcl46, hM46, hcc46, hfr46⟩ := Kd.R_elem HO_6.out z31 ((rd x10_1 x11_1) : Int) (of_decide_eq_true (by first | with_reducible assumption | assumption)) (by have h_ : ((rd x10_1 x11_1) : Int) < ((x6_1.length : Int) : Int) := of_decide_eq_true (by first | with_reducible assumption | assumption); first | exact h_ | (have e_ := (Kd.R_reads' HO_6.out).1; omega) | simpa using h_)
      obtain rfl := k31_openM hM46
      have HP46 := (Kd.R_seg HO_6.out ((rd x10_1 x11_1) : Int) (of_decide_eq_true (by first | with_reducible assumption | assumption)) (by have h_ : ((rd x10_1 x11_1) : Int) < ((x6_1.length : Int) : Int) := of_decide_eq_true (by first | with_reducible assumption | assumption); first | exact h_ | (have e_ := (Kd.R_reads' HO_6.out).1; omega) | simpa using h_) (seg := [.int .i64 (rd y121 x13_2), .int .i64 (rd y118 x13_2), .int .i64 ((rd_T33 l0 (rd x10_1 x11_1)).f0), .int .i64 ((rd_T33 l0 (rd x10_1 x11_1)).f1)]) (j := 0) hcl46 hcc46 (show 4 ≤ 4 from by decide) (x' := (⟨rd y121 x13_2, rd y118 x13_2, ((rd_T33 l0 (rd x10_1 x11_1)).f0), ((rd_T33 l0 (rd x10_1 x11_1)).f1)⟩ : S31)) (k31_mkM _ _ _ (⟨rd y121 x13_2, rd y118 x13_2, ((rd_T33 l0 (rd x10_1 x11_1)).f0), ((rd_T33 l0 (rd x10_1 x11_1)).f1)⟩ : S31) ) (fun _ hk => hk)).1
      rw [← Ny127.out] at HP46
      have HQ46 := Aside0.mk HP46
      clear hcl46 hcc46 hfr46 hM46 HP46
      refine start_ (n := 20) (S := fun w' => w'.cell? ⟨gb116, 0, none⟩ = some (.int .i64 ((rd_T33 l0 (rd x10_1 x11_1)).f0)) ∧ w'.cell? ⟨gb116, 1, none⟩ = some (.int .i64 ((rd_T33 l0 (rd x10_1 x11_1)).f1)) ∧ w'.cell? (ad114.add (x11_1).toNat) = some (.int .i64 (rd x10_1 x11_1)) ∧ w'.cell? (ad125.add (x13_2).toNat) = some (.int .i64 (rd y121 x13_2)) ∧ w'.cell? (ad126.add (x13_2).toNat) = some (.int .i64 (rd y118 x13_2))) (ds := [19]) #[false, false, false, false, false, false, false, false, false, false, false, false, false, false, false, false, false, false, false, false] (by kernel_rfl) rfl rfl ⟨(blk_cell BK116.out 0).trans rfl, (blk_cell BK116.out 1).trans rfl, hx124_0, hx125_0, hx126_0⟩ (fun hHeld => ?_); refine with_tabW spec_PackSprites.tab19 spec_PackSprites.bits19 (fun HT_ HW_ => ?_)
      generalize w41.drew = w43 at HO_6 HO_10 HO120 HO123 BK116 HB GG36 HQ46 hf36_0 hf36_1 hf36_2 hf36_3 hx124_0 hx125_0 hx126_0 hx36_0 hx36_1 hx36_2 hx36_3 hHeld ⊢
      refine pure_ (i := 0) (N := some 70) (v := ?_) (a' := ?_) #[true, false, false, false, false, false, false, false, false, false, false, false, false, false, false, false, false, false, false, false] rfl rfl (any_of HT_.out (by kernel_rfl)) (fun _ _ _ h => h) (Or.inl ⟨by rfl, ?_⟩) ?_ ?_
      rotate_left
      ·
       intro w'
       go_simp
       with_reducible rfl
      rotate_left
      ·
       simp only [Act.put, List.setIfInBounds_toArray, List.set_cons_zero, List.set_cons_succ, i64_w, i32_w]
       rfl
      refine pure_ (i := 1) (N := some 71) (v := ?_) (a' := ?_) #[true, true, false, false, false, false, false, false, false, false, false, false, false, false, false, false, false, false, false, false] rfl rfl (any_of HT_.out (by kernel_rfl)) (fun _ _ _ h => h) (Or.inl ⟨by rfl, ?_⟩) ?_ ?_
      rotate_left
      ·
       intro w'
       go_simp
       with_reducible rfl
      rotate_left
      ·
       simp only [Act.put, List.setIfInBounds_toArray, List.set_cons_zero, List.set_cons_succ, i64_w, i32_w]
       rfl
      refine pure_ (i := 2) (N := some 72) (v := ?_) (a' := ?_) #[true, true, true, false, false, false, false, false, false, false, false, false, false, false, false, false, false, false, false, false] rfl rfl (any_of HT_.out (by kernel_rfl)) (fun _ _ _ h => h) (Or.inl ⟨by rfl, ?_⟩) ?_ ?_
      rotate_left
      ·
       intro w'
       go_simp
       with_reducible rfl
      rotate_left
      ·
       simp only [Act.put, List.setIfInBounds_toArray, List.set_cons_zero, List.set_cons_succ, i64_w, i32_w]
       rfl
      refine pure_ (i := 3) (N := some 73) (v := ?_) (a' := ?_) #[true, true, true, true, false, false, false, false, false, false, false, false, false, false, false, false, false, false, false, false] rfl rfl (any_of HT_.out (by kernel_rfl)) (fun _ _ _ h => h) (Or.inl ⟨by rfl, ?_⟩) ?_ ?_
      rotate_left
      ·
       intro w'
       go_simp
       with_reducible rfl
      rotate_left
      ·
       simp only [Act.put, List.setIfInBounds_toArray, List.set_cons_zero, List.set_cons_succ, i64_w, i32_w]
       rfl
      refine pure_ (i := 5) (N := some 75) (v := ?_) (a' := ?_) #[true, true, true, true, false, true, false, false, false, false, false, false, false, false, false, false, false, false, false, false] rfl rfl (any_of HT_.out (by kernel_rfl)) (fun _ _ _ h => h) (Or.inl ⟨by rfl, ?_⟩) ?_ ?_
      rotate_left
      ·
       intro w'
       go_simp
       with_reducible rfl
      rotate_left
      ·
       simp only [Act.put, List.setIfInBounds_toArray, List.set_cons_zero, List.set_cons_succ, i64_w, i32_w]
       rfl
      refine pure_ (i := 6) (N := some 76) (v := ?_) (a' := ?_) #[true, true, true, true, false, true, true, false, false, false, false, false, false, false, false, false, false, false, false, false] rfl rfl (any_of HT_.out (by kernel_rfl)) (fun _ _ _ h => h) (Or.inl ⟨by rfl, ?_⟩) ?_ ?_
      rotate_left
      ·
       intro w'
       go_simp
       with_reducible rfl
      rotate_left
      ·
       simp only [Act.put, List.setIfInBounds_toArray, List.set_cons_zero, List.set_cons_succ, i64_w, i32_w]
       rfl
      refine pure_ (i := 7) (N := some 77) (v := ?_) (a' := ?_) #[true, true, true, true, false, true, true, true, false, false, false, false, false, false, false, false, false, false, false, false] rfl rfl (any_of HT_.out (by kernel_rfl)) (fun _ _ _ h => h) (Or.inl ⟨by rfl, ?_⟩) ?_ ?_
      rotate_left
      ·
       intro w'
       go_simp
       with_reducible rfl
      rotate_left
      ·
       simp only [Act.put, List.setIfInBounds_toArray, List.set_cons_zero, List.set_cons_succ, i64_w, i32_w]
       rfl
      refine pure_ (i := 9) (N := some 79) (v := ?_) (a' := ?_) #[true, true, true, true, false, true, true, true, false, true, false, false, false, false, false, false, false, false, false, false] rfl rfl (any_of HT_.out (by kernel_rfl)) (fun _ _ _ h => h) (Or.inl ⟨by rfl, ?_⟩) ?_ ?_
      rotate_left
      ·
       intro w'
       go_simp
       with_reducible rfl
      rotate_left
      ·
       simp only [Act.put, List.setIfInBounds_toArray, List.set_cons_zero, List.set_cons_succ, i64_w, i32_w]
       rfl
      refine pure_ (i := 10) (N := some 80) (v := ?_) (a' := ?_) #[true, true, true, true, false, true, true, true, false, true, true, false, false, false, false, false, false, false, false, false] rfl rfl (any_of HT_.out (by kernel_rfl)) (fun _ _ _ h => h) (Or.inl ⟨by rfl, ?_⟩) ?_ ?_
      rotate_left
      ·
       intro w'
       go_simp
       with_reducible rfl
      rotate_left
      ·
       simp only [Act.put, List.setIfInBounds_toArray, List.set_cons_zero, List.set_cons_succ, i64_w, i32_w]
       rfl
      refine pure_ (i := 11) (N := some 81) (v := ?_) (a' := ?_) #[true, true, true, true, false, true, true, true, false, true, true, true, false, false, false, false, false, false, false, false] rfl rfl (any_of HT_.out (by kernel_rfl)) (fun _ _ _ h => h) (Or.inl ⟨by rfl, ?_⟩) ?_ ?_
      rotate_left
      ·
       intro w'
       go_simp
       with_reducible rfl
      rotate_left
      ·
       simp only [Act.put, List.setIfInBounds_toArray, List.set_cons_zero, List.set_cons_succ, i64_w, i32_w]
       rfl
      refine pure_ (i := 13) (N := some 83) (v := ?_) (a' := ?_) #[true, true, true, true, false, true, true, true, false, true, true, true, false, true, false, false, false, false, false, false] rfl rfl (any_of HT_.out (by kernel_rfl)) (fun _ _ _ h => h) (Or.inl ⟨by rfl, ?_⟩) ?_ ?_
      rotate_left
      ·
       intro w'
       go_simp
       with_reducible rfl
      rotate_left
      ·
       simp only [Act.put, List.setIfInBounds_toArray, List.set_cons_zero, List.set_cons_succ, i64_w, i32_w]
       rfl
      refine pure_ (i := 15) (N := some 85) (v := ?_) (a' := ?_) #[true, true, true, true, false, true, true, true, false, true, true, true, false, true, false, true, false, false, false, false] rfl rfl (any_of HT_.out (by kernel_rfl)) (fun _ _ _ h => h) (Or.inl ⟨by rfl, ?_⟩) ?_ ?_
      rotate_left
      ·
       intro w'
       go_simp
       with_reducible rfl
      rotate_left
      ·
       simp only [Act.put, List.setIfInBounds_toArray, List.set_cons_zero, List.set_cons_succ, i64_w, i32_w]
       rfl
      refine take_ (i := 4) (N := some 74) (v := ?_) (a' := ?_) #[true, true, true, true, true, true, true, true, false, true, true, true, false, true, false, true, false, false, false, false] rfl rfl (take_ofW HT_.out HW_.out (by kernel_rfl)) (fun _ _ _ h => h) (Or.inl ⟨by rfl, ?_⟩) hHeld ?_ ?_
      rotate_left
      ·
       rintro w' ⟨s0, s1, s2, s3, s4⟩
       go_simp
       with_reducible rfl
      rotate_left
      ·
       simp only [Act.put, List.setIfInBounds_toArray, List.set_cons_zero, List.set_cons_succ, i64_w, i32_w]
       rfl
      refine take_ (i := 8) (N := some 78) (v := ?_) (a' := ?_) #[true, true, true, true, true, true, true, true, true, true, true, true, false, true, false, true, false, false, false, false] rfl rfl (take_ofW HT_.out HW_.out (by kernel_rfl)) (fun _ _ _ h => h) (Or.inl ⟨by rfl, ?_⟩) hHeld ?_ ?_
      rotate_left
      ·
       rintro w' ⟨s0, s1, s2, s3, s4⟩
       go_simp
       with_reducible rfl
      rotate_left
      ·
       simp only [Act.put, List.setIfInBounds_toArray, List.set_cons_zero, List.set_cons_succ, i64_w, i32_w]
       rfl
      refine take_ (i := 12) (N := some 82) (v := ?_) (a' := ?_) #[true, true, true, true, true, true, true, true, true, true, true, true, true, true, false, true, false, false, false, false] rfl rfl (take_ofW HT_.out HW_.out (by kernel_rfl)) (fun _ _ _ h => h) (Or.inl ⟨by rfl, ?_⟩) hHeld ?_ ?_
      rotate_left
      ·
       rintro w' ⟨s0, s1, s2, s3, s4⟩
       go_simp
       with_reducible rfl
      rotate_left
      ·
       simp only [Act.put, List.setIfInBounds_toArray, List.set_cons_zero, List.set_cons_succ, i64_w, i32_w]
       rfl
      refine take_ (i := 14) (N := some 84) (v := ?_) (a' := ?_) #[true, true, true, true, true, true, true, true, true, true, true, true, true, true, true, true, false, false, false, false] rfl rfl (take_ofW HT_.out HW_.out (by kernel_rfl)) (fun _ _ _ h => h) (Or.inl ⟨by rfl, ?_⟩) hHeld ?_ ?_
      rotate_left
      ·
       rintro w' ⟨s0, s1, s2, s3, s4⟩
       go_simp
       with_reducible rfl
      rotate_left
      ·
       simp only [Act.put, List.setIfInBounds_toArray, List.set_cons_zero, List.set_cons_succ, i64_w, i32_w]
       rfl
      refine take_ (i := 16) (N := some 86) (v := ?_) (a' := ?_) #[true, true, true, true, true, true, true, true, true, true, true, true, true, true, true, true, true, false, false, false] rfl rfl (take_ofW HT_.out HW_.out (by kernel_rfl)) (fun _ _ _ h => h) (Or.inl ⟨by rfl, ?_⟩) hHeld ?_ ?_
      rotate_left
      ·
       rintro w' ⟨s0, s1, s2, s3, s4⟩
       go_simp
       with_reducible rfl
      rotate_left
      ·
       simp only [Act.put, List.setIfInBounds_toArray, List.set_cons_zero, List.set_cons_succ, i64_w, i32_w]
       rfl
      refine pure_ (i := 17) (N := some 87) (v := ?_) (a' := ?_) #[true, true, true, true, true, true, true, true, true, true, true, true, true, true, true, true, true, true, false, false] rfl rfl (any_of HT_.out (by kernel_rfl)) (fun _ _ _ h => h) (Or.inl ⟨by rfl, ?_⟩) ?_ ?_
      rotate_left
      ·
       intro w'
       go_simp
       with_reducible rfl
      rotate_left
      ·
       simp only [Act.put, List.setIfInBounds_toArray, List.set_cons_zero, List.set_cons_succ, i64_w, i32_w]
       rfl
      refine pure_ (i := 18) (N := some 88) (v := ?_) (a' := ?_) #[true, true, true, true, true, true, true, true, true, true, true, true, true, true, true, true, true, true, true, false] rfl rfl (any_of HT_.out (by kernel_rfl)) (fun _ _ _ h => h) (Or.inl ⟨by rfl, ?_⟩) ?_ ?_
      rotate_left
      ·
       intro w'
       go_simp
       with_reducible rfl
      rotate_left
      ·
       simp only [Act.put, List.setIfInBounds_toArray, List.set_cons_zero, List.set_cons_succ, i64_w, i32_w]
       rfl
      refine last_ (i := 19) (N := none) #[true, true, true, true, true, true, true, true, true, true, true, true, true, true, true, true, true, true, true, true] rfl rfl (one_of HT_.out (by kernel_rfl)) (by decide) (fun K hK => ?_)
      refine skip_ (w1 := ?_) (by rfl) rfl ?_ ?_
      rotate_left
      ·
       go_simp
       rfl
      refine hK.out _ _ ?_
      clear hK K
      refine done_ (done_of HT_.out (by kernel_rfl)) ?_
      try go_wp2
      have n0_ : Aside0 (Kd.R k31 31 ((((w43.setCell ⟨go36, ((rd x10_1 x11_1) : Int).toNat * 4, none⟩ (.int .i64 (rd y121 x13_2))).setCell ⟨go36, ((rd x10_1 x11_1) : Int).toNat * 4 + 1, none⟩ (.int .i64 (rd y118 x13_2))).setCell ⟨go36, ((rd x10_1 x11_1) : Int).toNat * 4 + 2, none⟩ (.int .i64 ((rd_T33 l0 (rd x10_1 x11_1)).f0))).setCell ⟨go36, ((rd x10_1 x11_1) : Int).toNat * 4 + 3, none⟩ (.int .i64 ((rd_T33 l0 (rd x10_1 x11_1)).f1))) w.heap.size (fun _ => True) (.slice (some ⟨go36, 0, none⟩) x6_1.length co36) y127) := ⟨by exact HQ46.out⟩
      have n1_ : Aside0 (Kd.R (Kd.int .i64) 3 ((((w43.setCell ⟨go36, ((rd x10_1 x11_1) : Int).toNat * 4, none⟩ (.int .i64 (rd y121 x13_2))).setCell ⟨go36, ((rd x10_1 x11_1) : Int).toNat * 4 + 1, none⟩ (.int .i64 (rd y118 x13_2))).setCell ⟨go36, ((rd x10_1 x11_1) : Int).toNat * 4 + 2, none⟩ (.int .i64 ((rd_T33 l0 (rd x10_1 x11_1)).f0))).setCell ⟨go36, ((rd x10_1 x11_1) : Int).toNat * 4 + 3, none⟩ (.int .i64 ((rd_T33 l0 (rd x10_1 x11_1)).f1))) w.heap.size (fun k_ => some k_ ≠ (.slice (some ad126) y118.length co45 : Value).ownBlock ∧ some k_ ≠ (.slice (some ad125) y121.length co44 : Value).ownBlock) (.slice (some ad114) x10_1.length co19) x10_1) := ⟨by exact Kd.R_mono (Kd.R_far (p := ⟨go36, ((rd x10_1 x11_1) : Int).toNat * 4 + 3, none⟩) (Kd.R_far (p := ⟨go36, ((rd x10_1 x11_1) : Int).toNat * 4 + 2, none⟩) (Kd.R_far (p := ⟨go36, ((rd x10_1 x11_1) : Int).toNat * 4 + 1, none⟩) (Kd.R_far (p := ⟨go36, ((rd x10_1 x11_1) : Int).toNat * 4, none⟩) (Kd.R_types HO_10.out GG36.out (by decide)) (fun _ hk => hk.2) (.int .i64 (rd y121 x13_2))) (fun _ hk => hk.2) (.int .i64 (rd y118 x13_2))) (fun _ hk => hk.2) (.int .i64 ((rd_T33 l0 (rd x10_1 x11_1)).f0))) (fun _ hk => hk.2) (.int .i64 ((rd_T33 l0 (rd x10_1 x11_1)).f1))) (fun _ hk => ⟨hk.1.1, hk.1.2⟩)⟩
      have n2_ : Aside0 (Kd.R (Kd.int .i64) 3 ((((w43.setCell ⟨go36, ((rd x10_1 x11_1) : Int).toNat * 4, none⟩ (.int .i64 (rd y121 x13_2))).setCell ⟨go36, ((rd x10_1 x11_1) : Int).toNat * 4 + 1, none⟩ (.int .i64 (rd y118 x13_2))).setCell ⟨go36, ((rd x10_1 x11_1) : Int).toNat * 4 + 2, none⟩ (.int .i64 ((rd_T33 l0 (rd x10_1 x11_1)).f0))).setCell ⟨go36, ((rd x10_1 x11_1) : Int).toNat * 4 + 3, none⟩ (.int .i64 ((rd_T33 l0 (rd x10_1 x11_1)).f1))) w.heap.size (fun k_ => some k_ ≠ (.slice (some ad114) x10_1.length co19 : Value).ownBlock ∧ some k_ ≠ (.slice (some ad125) y121.length co44 : Value).ownBlock) (.slice (some ad126) y118.length co45) y118) := ⟨by exact Kd.R_mono (Kd.R_far (p := ⟨go36, ((rd x10_1 x11_1) : Int).toNat * 4 + 3, none⟩) (Kd.R_far (p := ⟨go36, ((rd x10_1 x11_1) : Int).toNat * 4 + 2, none⟩) (Kd.R_far (p := ⟨go36, ((rd x10_1 x11_1) : Int).toNat * 4 + 1, none⟩) (Kd.R_far (p := ⟨go36, ((rd x10_1 x11_1) : Int).toNat * 4, none⟩) (Kd.R_types HO120.out GG36.out (by decide)) (fun _ hk => hk.2) (.int .i64 (rd y121 x13_2))) (fun _ hk => hk.2) (.int .i64 (rd y118 x13_2))) (fun _ hk => hk.2) (.int .i64 ((rd_T33 l0 (rd x10_1 x11_1)).f0))) (fun _ hk => hk.2) (.int .i64 ((rd_T33 l0 (rd x10_1 x11_1)).f1))) (fun _ hk => ⟨hk.1.1, hk.1.2⟩)⟩
      have n3_ : Aside0 (Kd.R (Kd.int .i64) 3 ((((w43.setCell ⟨go36, ((rd x10_1 x11_1) : Int).toNat * 4, none⟩ (.int .i64 (rd y121 x13_2))).setCell ⟨go36, ((rd x10_1 x11_1) : Int).toNat * 4 + 1, none⟩ (.int .i64 (rd y118 x13_2))).setCell ⟨go36, ((rd x10_1 x11_1) : Int).toNat * 4 + 2, none⟩ (.int .i64 ((rd_T33 l0 (rd x10_1 x11_1)).f0))).setCell ⟨go36, ((rd x10_1 x11_1) : Int).toNat * 4 + 3, none⟩ (.int .i64 ((rd_T33 l0 (rd x10_1 x11_1)).f1))) w.heap.size (fun k_ => some k_ ≠ (.slice (some ad114) x10_1.length co19 : Value).ownBlock ∧ some k_ ≠ (.slice (some ad126) y118.length co45 : Value).ownBlock) (.slice (some ad125) y121.length co44) y121) := ⟨by exact Kd.R_mono (Kd.R_far (p := ⟨go36, ((rd x10_1 x11_1) : Int).toNat * 4 + 3, none⟩) (Kd.R_far (p := ⟨go36, ((rd x10_1 x11_1) : Int).toNat * 4 + 2, none⟩) (Kd.R_far (p := ⟨go36, ((rd x10_1 x11_1) : Int).toNat * 4 + 1, none⟩) (Kd.R_far (p := ⟨go36, ((rd x10_1 x11_1) : Int).toNat * 4, none⟩) (Kd.R_types HO123.out GG36.out (by decide)) (fun _ hk => hk.2) (.int .i64 (rd y121 x13_2))) (fun _ hk => hk.2) (.int .i64 (rd y118 x13_2))) (fun _ hk => hk.2) (.int .i64 ((rd_T33 l0 (rd x10_1 x11_1)).f0))) (fun _ hk => hk.2) (.int .i64 ((rd_T33 l0 (rd x10_1 x11_1)).f1))) (fun _ hk => ⟨hk.1.1, hk.1.2⟩)⟩
      have n4_ : Aside0 (((((w43.setCell ⟨go36, ((rd x10_1 x11_1) : Int).toNat * 4, none⟩ (.int .i64 (rd y121 x13_2))).setCell ⟨go36, ((rd x10_1 x11_1) : Int).toNat * 4 + 1, none⟩ (.int .i64 (rd y118 x13_2))).setCell ⟨go36, ((rd x10_1 x11_1) : Int).toNat * 4 + 2, none⟩ (.int .i64 ((rd_T33 l0 (rd x10_1 x11_1)).f0))).setCell ⟨go36, ((rd x10_1 x11_1) : Int).toNat * 4 + 3, none⟩ (.int .i64 ((rd_T33 l0 (rd x10_1 x11_1)).f1))).heap[gb116]? = some (.cells #[.int .i64 ((rd_T33 l0 (rd x10_1 x11_1)).f0), .int .i64 ((rd_T33 l0 (rd x10_1 x11_1)).f1)] 33 (0, 0))) := ⟨by (with_reducible repeat (first | refine blk_drewN ?_ _ | refine blk_drew ?_ | refine blk_alloc ?_ _)); refine blk_far ?_ (by have h_ := Kd.R_ne HO_6.out BK116.out (by decide); intro e_; exact h_ (by rw [e_]; rfl)) _; (with_reducible repeat (first | refine blk_drewN ?_ _ | refine blk_drew ?_ | refine blk_alloc ?_ _)); refine blk_far ?_ (by have h_ := Kd.R_ne HO_6.out BK116.out (by decide); intro e_; exact h_ (by rw [e_]; rfl)) _; (with_reducible repeat (first | refine blk_drewN ?_ _ | refine blk_drew ?_ | refine blk_alloc ?_ _)); refine blk_far ?_ (by have h_ := Kd.R_ne HO_6.out BK116.out (by decide); intro e_; exact h_ (by rw [e_]; rfl)) _; (with_reducible repeat (first | refine blk_drewN ?_ _ | refine blk_drew ?_ | refine blk_alloc ?_ _)); refine blk_far ?_ (by have h_ := Kd.R_ne HO_6.out BK116.out (by decide); intro e_; exact h_ (by rw [e_]; rfl)) _; (with_reducible repeat (first | refine blk_drewN ?_ _ | refine blk_drew ?_ | refine blk_alloc ?_ _)); exact BK116.out⟩
      have n5_ : Aside0 (Below w.heap.size w ((((w43.setCell ⟨go36, ((rd x10_1 x11_1) : Int).toNat * 4, none⟩ (.int .i64 (rd y121 x13_2))).setCell ⟨go36, ((rd x10_1 x11_1) : Int).toNat * 4 + 1, none⟩ (.int .i64 (rd y118 x13_2))).setCell ⟨go36, ((rd x10_1 x11_1) : Int).toNat * 4 + 2, none⟩ (.int .i64 ((rd_T33 l0 (rd x10_1 x11_1)).f0))).setCell ⟨go36, ((rd x10_1 x11_1) : Int).toNat * 4 + 3, none⟩ (.int .i64 ((rd_T33 l0 (rd x10_1 x11_1)).f1)))) := ⟨by repeat (first | (with_reducible first | exact HB.out | apply below_alloc | apply pw_below_drewN | apply below_drew1 | refine below_set ?_ GB36.out | refine below_set ?_ GB36.out | refine below_set ?_ GB36.out | refine below_set ?_ GB36.out | refine below_set ?_ GE116.out) | exact HB.out)⟩
      (try clear HO_6)
      (try clear HO_10)
      (try clear HO120)
      (try clear HO123)
      (try clear BK116)
      (try clear HB)
      generalize ((((w43.setCell ⟨go36, ((rd x10_1 x11_1) : Int).toNat * 4, none⟩ (.int .i64 (rd y121 x13_2))).setCell ⟨go36, ((rd x10_1 x11_1) : Int).toNat * 4 + 1, none⟩ (.int .i64 (rd y118 x13_2))).setCell ⟨go36, ((rd x10_1 x11_1) : Int).toNat * 4 + 2, none⟩ (.int .i64 ((rd_T33 l0 (rd x10_1 x11_1)).f0))).setCell ⟨go36, ((rd x10_1 x11_1) : Int).toNat * 4 + 3, none⟩ (.int .i64 ((rd_T33 l0 (rd x10_1 x11_1)).f1))) = w47 at n0_ n1_ n2_ n3_ n4_ n5_ ⊢
      have HO_6 := n0_
      have HO_10 := n1_
      have HO120 := n2_
      have HO123 := n3_
      have BK116 := n4_
      have HB := n5_
      clear n0_ n1_ n2_ n3_ n4_ n5_
      replace HO_6 := am_ (Kd.R_drew HO_6.out)
      replace HO_10 := am_ (Kd.R_drew HO_10.out)
      replace HO120 := am_ (Kd.R_drew HO120.out)
      replace HO123 := am_ (Kd.R_drew HO123.out)
      replace BK116 := am_ (blk_drew BK116.out)
      replace HB := am_ (below_drew1 HB.out)
      have p128 : 0 ≤ (x13_2 : Int) := of_decide_eq_true (by first | with_reducible assumption | assumption)
      have q128 : x13_2 < (y121.length : Int) := of_decide_eq_true (by first | with_reducible assumption | assumption)
      obtain ⟨ad128, e128, hx128_0⟩ := Kd.at_int (Kd.R_reads' HO123.out).2.2 x13_2 p128 q128
      obtain rfl : ad125 = ad128 := (by injection e128)
      replace p128 := eq_true p128
      replace q128 := eq_true q128
      have p37 : 0 ≤ (x13_2 : Int) := of_decide_eq_true (by first | with_reducible assumption | assumption)
      have q37 : (x13_2 : Int) < ((y121.length : Int) : Int) := of_decide_eq_true (by first | with_reducible assumption | assumption)
      obtain ⟨go37, co37, eo37, gb37, gl37, cl37, HG37⟩ := Kd.R_form HO123.out (by omega)
      (first | cases eo37 | (injection eo37 with ea_ en_ ec_; (first | subst ea_ | (injection ea_ with ea_; subst ea_)); subst ec_; clear en_))
      have GB37 := Aside0.mk gb37
      have GG37 := Aside0.mk HG37
      clear gb37 gl37 HG37
      (first | simp only [add_plain] at hx125_0 | skip)
      (first | simp only [add_plain] at hx128_0 | skip)
      obtain ⟨hx37_0, hf37_0⟩ := Kd.R_celln 0 HO123.out (x13_2 : Int) p37 q37
      replace p37 := eq_true p37
      replace q37 := eq_true q37
      have HP49 := Kd.R_putn HO123.out (x13_2 : Int) (wrap64 ((rd y121 x13_2) + ((rd_T33 l0 (rd x10_1 x11_1)).f0)))
      rw [← Ny129.out] at HP49
      have HQ49 := Aside0.mk HP49
      clear HP49
      refine start_ (n := 11) (S := fun w' => w'.cell? ⟨gb116, 0, none⟩ = some (.int .i64 ((rd_T33 l0 (rd x10_1 x11_1)).f0)) ∧ w'.cell? ⟨gb116, 1, none⟩ = some (.int .i64 ((rd_T33 l0 (rd x10_1 x11_1)).f1)) ∧ w'.cell? ⟨go37, (x13_2).toNat, none⟩ = some (.int .i64 (rd y121 x13_2))) (ds := [10]) #[false, false, false, false, false, false, false, false, false, false, false] (by kernel_rfl) rfl rfl ⟨(blk_cell BK116.out 0).trans rfl, (blk_cell BK116.out 1).trans rfl, hx128_0⟩ (fun hHeld => ?_); refine with_tabW spec_PackSprites.tab20 spec_PackSprites.bits20 (fun HT_ HW_ => ?_)
      generalize w47.drew = w48 at HO_6 HO_10 HO120 HO123 BK116 HB GG37 HQ46 HQ49 hf37_0 hx125_0 hx128_0 hx37_0 hHeld ⊢
      refine pure_ (i := 0) (N := some 89) (v := ?_) (a' := ?_) #[true, false, false, false, false, false, false, false, false, false, false] rfl rfl (any_of HT_.out (by kernel_rfl)) (fun _ _ _ h => h) (Or.inl ⟨by rfl, ?_⟩) ?_ ?_
      rotate_left
      ·
       intro w'
       go_simp
       with_reducible rfl
      rotate_left
      ·
       simp only [Act.put, List.setIfInBounds_toArray, List.set_cons_zero, List.set_cons_succ, i64_w, i32_w]
       rfl
      refine pure_ (i := 1) (N := some 90) (v := ?_) (a' := ?_) #[true, true, false, false, false, false, false, false, false, false, false] rfl rfl (any_of HT_.out (by kernel_rfl)) (fun _ _ _ h => h) (Or.inl ⟨by rfl, ?_⟩) ?_ ?_
      rotate_left
      ·
       intro w'
       go_simp
       with_reducible rfl
      rotate_left
      ·
       simp only [Act.put, List.setIfInBounds_toArray, List.set_cons_zero, List.set_cons_succ, i64_w, i32_w]
       rfl
      refine pure_ (i := 2) (N := some 91) (v := ?_) (a' := ?_) #[true, true, true, false, false, false, false, false, false, false, false] rfl rfl (any_of HT_.out (by kernel_rfl)) (fun _ _ _ h => h) (Or.inl ⟨by rfl, ?_⟩) ?_ ?_
      rotate_left
      ·
       intro w'
       go_simp
       with_reducible rfl
      rotate_left
      ·
       simp only [Act.put, List.setIfInBounds_toArray, List.set_cons_zero, List.set_cons_succ, i64_w, i32_w]
       rfl
      refine pure_ (i := 3) (N := some 92) (v := ?_) (a' := ?_) #[true, true, true, true, false, false, false, false, false, false, false] rfl rfl (any_of HT_.out (by kernel_rfl)) (fun _ _ _ h => h) (Or.inl ⟨by rfl, ?_⟩) ?_ ?_
      rotate_left
      ·
       intro w'
       go_simp
       with_reducible rfl
      rotate_left
      ·
       simp only [Act.put, List.setIfInBounds_toArray, List.set_cons_zero, List.set_cons_succ, i64_w, i32_w]
       rfl
      refine pure_ (i := 4) (N := some 93) (v := ?_) (a' := ?_) #[true, true, true, true, true, false, false, false, false, false, false] rfl rfl (any_of HT_.out (by kernel_rfl)) (fun _ _ _ h => h) (Or.inl ⟨by rfl, ?_⟩) ?_ ?_
      rotate_left
      ·
       intro w'
       go_simp
       with_reducible rfl
      rotate_left
      ·
       simp only [Act.put, List.setIfInBounds_toArray, List.set_cons_zero, List.set_cons_succ, i64_w, i32_w]
       rfl
      refine pure_ (i := 6) (N := some 95) (v := ?_) (a' := ?_) #[true, true, true, true, true, false, true, false, false, false, false] rfl rfl (any_of HT_.out (by kernel_rfl)) (fun _ _ _ h => h) (Or.inl ⟨by rfl, ?_⟩) ?_ ?_
      rotate_left
      ·
       intro w'
       go_simp
       with_reducible rfl
      rotate_left
      ·
       simp only [Act.put, List.setIfInBounds_toArray, List.set_cons_zero, List.set_cons_succ, i64_w, i32_w]
       rfl
      refine take_ (i := 5) (N := some 94) (v := ?_) (a' := ?_) #[true, true, true, true, true, true, true, false, false, false, false] rfl rfl (take_ofW HT_.out HW_.out (by kernel_rfl)) (fun _ _ _ h => h) (Or.inl ⟨by rfl, ?_⟩) hHeld ?_ ?_
      rotate_left
      ·
       rintro w' ⟨s0, s1, s2⟩
       go_simp
       with_reducible rfl
      rotate_left
      ·
       simp only [Act.put, List.setIfInBounds_toArray, List.set_cons_zero, List.set_cons_succ, i64_w, i32_w]
       rfl
      refine take_ (i := 7) (N := some 96) (v := ?_) (a' := ?_) #[true, true, true, true, true, true, true, true, false, false, false] rfl rfl (take_ofW HT_.out HW_.out (by kernel_rfl)) (fun _ _ _ h => h) (Or.inl ⟨by rfl, ?_⟩) hHeld ?_ ?_
      rotate_left
      ·
       rintro w' ⟨s0, s1, s2⟩
       go_simp
       with_reducible rfl
      rotate_left
      ·
       simp only [Act.put, List.setIfInBounds_toArray, List.set_cons_zero, List.set_cons_succ, i64_w, i32_w]
       rfl
      refine pure_ (i := 8) (N := some 97) (v := ?_) (a' := ?_) #[true, true, true, true, true, true, true, true, true, false, false] rfl rfl (any_of HT_.out (by kernel_rfl)) (fun _ _ _ h => h) (Or.inl ⟨by rfl, ?_⟩) ?_ ?_
      rotate_left
      ·
       intro w'
       go_simp
       with_reducible rfl
      rotate_left
      ·
       simp only [Act.put, List.setIfInBounds_toArray, List.set_cons_zero, List.set_cons_succ, i64_w, i32_w]
       rfl
      refine pure_ (i := 9) (N := some 98) (v := ?_) (a' := ?_) #[true, true, true, true, true, true, true, true, true, true, false] rfl rfl (any_of HT_.out (by kernel_rfl)) (fun _ _ _ h => h) (Or.inl ⟨by rfl, ?_⟩) ?_ ?_
      rotate_left
      ·
       intro w'
       go_simp
       with_reducible rfl
      rotate_left
      ·
       simp only [Act.put, List.setIfInBounds_toArray, List.set_cons_zero, List.set_cons_succ, i64_w, i32_w]
       rfl
      refine last_ (i := 10) (N := none) #[true, true, true, true, true, true, true, true, true, true, true] rfl rfl (one_of HT_.out (by kernel_rfl)) (by decide) (fun K hK => ?_)
      refine skip_ (w1 := ?_) (by rfl) rfl ?_ ?_
      rotate_left
      ·
       go_simp
       rfl
      refine hK.out _ _ ?_
      clear hK K
      refine done_ (done_of HT_.out (by kernel_rfl)) ?_
      try go_wp2
      go_roundg k2
      case measure => have := HK1.out; have := HK2.out; omega
      case rel => exact ⟨(y127), (y118), (y129), (wrap64 (x9_1 + ((rd_T33 l0 (rd x10_1 x11_1)).f1))), (x10_1), (wrap64 (x11_1 + 1)), (by first | rfl | (simp; done) | (simp [*]; done)), (by first | rfl | (simp; done) | (simp [*]; done)), H', ⟨by have := HK1.out; have := HK2.out; omega⟩, ⟨by exact Kd.R_mono (Kd.R_far (p := ⟨go37, (x13_2 : Int).toNat, none⟩) (Kd.R_types HO_6.out GG37.out (by decide)) (fun _ hk => hk.2) (.int .i64 (wrap64 ((rd y121 x13_2) + ((rd_T33 l0 (rd x10_1 x11_1)).f0))))) (fun _ hk => trivial)⟩, ⟨by exact Kd.R_mono (Kd.R_far (p := ⟨go37, (x13_2 : Int).toNat, none⟩) (Kd.R_mono HO120.out (fun k_ hk => (⟨hk, fun e_ => hk.2 (by rw [e_]; rfl)⟩ : _ ∧ k_ ≠ go37))) (fun _ hk => hk.2) (.int .i64 (wrap64 ((rd y121 x13_2) + ((rd_T33 l0 (rd x10_1 x11_1)).f0))))) (fun _ hk => ⟨hk.1.2, hk.1.1⟩)⟩, ⟨by exact Kd.R_mono HQ49.out (fun _ hk => ⟨hk.2, hk.1⟩)⟩, ⟨by exact Kd.R_mono (Kd.R_far (p := ⟨go37, (x13_2 : Int).toNat, none⟩) (Kd.R_mono HO_10.out (fun k_ hk => (⟨hk, fun e_ => hk.2 (by rw [e_]; rfl)⟩ : _ ∧ k_ ≠ go37))) (fun _ hk => hk.2) (.int .i64 (wrap64 ((rd y121 x13_2) + ((rd_T33 l0 (rd x10_1 x11_1)).f0))))) (fun _ hk => ⟨hk.1.1, hk.1.2⟩)⟩, ⟨by repeat (first | (with_reducible first | exact HB.out | apply below_alloc | apply pw_below_drewN | apply below_drew1 | refine below_set ?_ GB37.out | refine below_set ?_ GE116.out) | exact HB.out)⟩⟩
     rw [if_neg c27] at H
     have c27b0 : (x13_2 == (x8_1.length : Int)) = false := beq_eq_false_iff_ne.mpr c27
     have c27b1 : (x13_2 != (x8_1.length : Int)) = true := bne_iff_ne.mpr c27
     by_cases c50 : 0 ≤ x11_1
     rotate_left
     ·
      rw [if_neg c50] at H
      exact absurd H (by simp)
     rw [if_pos c50] at H
     have c50b0 : decide (0 ≤ x11_1) = true := decide_eq_true c50
     clear c50
     by_cases c51 : x11_1 < (x10_1.length : Int)
     rotate_left
     ·
      rw [if_neg c51] at H
      exact absurd H (by simp)
     rw [if_pos c51] at H
     have c51b0 : decide (x11_1 < (x10_1.length : Int)) = true := decide_eq_true c51
     clear c51
     by_cases c52 : x13_2 < (x7_1.length : Int)
     rotate_left
     ·
      rw [if_neg c52] at H
      exact absurd H (by simp)
     rw [if_pos c52] at H
     have c52b0 : decide (x13_2 < (x7_1.length : Int)) = true := decide_eq_true c52
     clear c52
     by_cases c53 : 0 ≤ (rd x10_1 x11_1)
     rotate_left
     ·
      rw [if_neg c53] at H
      exact absurd H (by simp)
     rw [if_pos c53] at H
     have c53b0 : decide (0 ≤ (rd x10_1 x11_1)) = true := decide_eq_true c53
     clear c53
     by_cases c54 : (rd x10_1 x11_1) < (x6_1.length : Int)
     rotate_left
     ·
      rw [if_neg c54] at H
      exact absurd H (by simp)
     rw [if_pos c54] at H
     have c54b0 : decide ((rd x10_1 x11_1) < (x6_1.length : Int)) = true := decide_eq_true c54
     clear c54
     obtain ⟨y133, hy133⟩ : ∃ y_ : List (S31), y_ = (x6_1.set ((rd x10_1 x11_1) : Int).toNat (⟨rd x8_1 x13_2, rd x7_1 x13_2, ((rd_T33 l0 (rd x10_1 x11_1)).f0), ((rd_T33 l0 (rd x10_1 x11_1)).f1)⟩ : S31)) := ⟨_, rfl⟩
     replace H : (spec_PackSprites.l0 k2 l0 a1 y133 x7_1 (x8_1.set (x13_2 : Int).toNat (wrap64 ((rd x8_1 x13_2) + ((rd_T33 l0 (rd x10_1 x11_1)).f0)))) x9_1 x10_1 (wrap64 (x11_1 + 1))) = some (r1, r2) := by first | (rw [hy133]; with_reducible exact H) | (have H2_ := (Option.bind_some _ _).symm.trans H; rw [hy133]; with_reducible exact H2_) | (have H2_ := (Option.bind_some _ _).symm.trans H; with_reducible exact H2_) | with_reducible exact H | (rw [hy133]; exact H) | exact H
     have Ny133 := Aside0.mk hy133
     clear hy133
     obtain ⟨y135, hy135⟩ : ∃ y_ : List Int, y_ = (x8_1.set (x13_2 : Int).toNat (wrap64 ((rd x8_1 x13_2) + ((rd_T33 l0 (rd x10_1 x11_1)).f0)))) := ⟨_, rfl⟩
     replace H : (spec_PackSprites.l0 k2 l0 a1 y133 x7_1 y135 x9_1 x10_1 (wrap64 (x11_1 + 1))) = some (r1, r2) := by first | (rw [hy135]; with_reducible exact H) | (have H2_ := (Option.bind_some _ _).symm.trans H; rw [hy135]; with_reducible exact H2_) | (have H2_ := (Option.bind_some _ _).symm.trans H; with_reducible exact H2_) | with_reducible exact H | (rw [hy135]; exact H) | exact H
     have Ny135 := Aside0.mk hy135
     clear hy135
     have H' := Aside0.mk H
     clear H
     try go_wp2
     replace HO_6 := am_ (Kd.R_drew HO_6.out)
     replace HO_7 := am_ (Kd.R_drew HO_7.out)
     replace HO_8 := am_ (Kd.R_drew HO_8.out)
     replace HO_10 := am_ (Kd.R_drew HO_10.out)
     replace BK116 := am_ (blk_drew BK116.out)
     replace HB := am_ (below_drew1 HB.out)
     obtain ⟨Ao58, co58, eo58⟩ := Kd.R_slice HO_8.out
     (first | subst eo58 | (injection eo58 with f1_ f2_ f3_; have f4_ := f1_.symm; have f5_ := f3_.symm; clear f1_ f2_ f3_; subst f4_; subst f5_))
     have p117 : 0 ≤ (x13_2 : Int) := of_decide_eq_true (by first | with_reducible assumption | assumption)
     have q117 : x13_2 < (x8_1.length : Int) := of_decide_eq_true (by first | with_reducible assumption | assumption)
     obtain ⟨ad117, e117, hx117_0⟩ := Kd.at_int (Kd.R_reads' HO_8.out).2.2 x13_2 p117 q117
     cases e117
     replace p117 := eq_true p117
     replace q117 := eq_true q117
     refine start_ (n := 15) (S := fun w' => w'.cell? ⟨gb116, 0, none⟩ = some (.int .i64 ((rd_T33 l0 (rd x10_1 x11_1)).f0)) ∧ w'.cell? ⟨gb116, 1, none⟩ = some (.int .i64 ((rd_T33 l0 (rd x10_1 x11_1)).f1)) ∧ w'.cell? (ad117.add (x13_2).toNat) = some (.int .i64 (rd x8_1 x13_2))) (ds := []) #[false, false, false, false, false, false, false, false, false, false, false, false, false, false, false] (by kernel_rfl) rfl rfl ⟨(blk_cell BK116.out 0).trans rfl, (blk_cell BK116.out 1).trans rfl, hx117_0⟩ (fun hHeld => ?_); refine with_tabW spec_PackSprites.tab13 spec_PackSprites.bits13 (fun HT_ HW_ => ?_)
     generalize wr.drew = w57 at HO_6 HO_7 HO_8 HO_10 BK116 HB hx117_0 hHeld ⊢
     refine pure_ (i := 0) (N := some 38) (v := ?_) (a' := ?_) #[true, false, false, false, false, false, false, false, false, false, false, false, false, false, false] rfl rfl (any_of HT_.out (by kernel_rfl)) (fun _ _ _ h => h) (Or.inl ⟨by rfl, ?_⟩) ?_ ?_
     rotate_left
     ·
      intro w'
      go_simp
      with_reducible rfl
     rotate_left
     ·
      simp only [Act.put, List.setIfInBounds_toArray, List.set_cons_zero, List.set_cons_succ, i64_w, i32_w]
      rfl
     refine pure_ (i := 1) (N := some 39) (v := ?_) (a' := ?_) #[true, true, false, false, false, false, false, false, false, false, false, false, false, false, false] rfl rfl (any_of HT_.out (by kernel_rfl)) (fun _ _ _ h => h) (Or.inl ⟨by rfl, ?_⟩) ?_ ?_
     rotate_left
     ·
      intro w'
      go_simp
      with_reducible rfl
     rotate_left
     ·
      simp only [Act.put, List.setIfInBounds_toArray, List.set_cons_zero, List.set_cons_succ, i64_w, i32_w]
      rfl
     refine pure_ (i := 2) (N := some 40) (v := ?_) (a' := ?_) #[true, true, true, false, false, false, false, false, false, false, false, false, false, false, false] rfl rfl (any_of HT_.out (by kernel_rfl)) (fun _ _ _ h => h) (Or.inl ⟨by rfl, ?_⟩) ?_ ?_
     rotate_left
     ·
      intro w'
      go_simp
      with_reducible rfl
     rotate_left
     ·
      simp only [Act.put, List.setIfInBounds_toArray, List.set_cons_zero, List.set_cons_succ, i64_w, i32_w]
      rfl
     refine pure_ (i := 3) (N := some 41) (v := ?_) (a' := ?_) #[true, true, true, true, false, false, false, false, false, false, false, false, false, false, false] rfl rfl (any_of HT_.out (by kernel_rfl)) (fun _ _ _ h => h) (Or.inl ⟨by rfl, ?_⟩) ?_ ?_
     rotate_left
     ·
      intro w'
      go_simp
      with_reducible rfl
     rotate_left
     ·
      simp only [Act.put, List.setIfInBounds_toArray, List.set_cons_zero, List.set_cons_succ, i64_w, i32_w]
      rfl
     refine pure_ (i := 4) (N := some 42) (v := ?_) (a' := ?_) #[true, true, true, true, true, false, false, false, false, false, false, false, false, false, false] rfl rfl (any_of HT_.out (by kernel_rfl)) (fun _ _ _ h => h) (Or.inl ⟨by rfl, ?_⟩) ?_ ?_
     rotate_left
     ·
      intro w'
      go_simp
      with_reducible rfl
     rotate_left
     ·
      simp only [Act.put, List.setIfInBounds_toArray, List.set_cons_zero, List.set_cons_succ, i64_w, i32_w]
      rfl
     refine pure_ (i := 5) (N := some 43) (v := ?_) (a' := ?_) #[true, true, true, true, true, true, false, false, false, false, false, false, false, false, false] rfl rfl (any_of HT_.out (by kernel_rfl)) (fun _ _ _ h => h) (Or.inl ⟨by rfl, ?_⟩) ?_ ?_
     rotate_left
     ·
      intro w'
      go_simp
      with_reducible rfl
     rotate_left
     ·
      simp only [Act.put, List.setIfInBounds_toArray, List.set_cons_zero, List.set_cons_succ, i64_w, i32_w]
      rfl
     refine pure_ (i := 6) (N := some 44) (v := ?_) (a' := ?_) #[true, true, true, true, true, true, true, false, false, false, false, false, false, false, false] rfl rfl (any_of HT_.out (by kernel_rfl)) (fun _ _ _ h => h) (Or.inl ⟨by rfl, ?_⟩) ?_ ?_
     rotate_left
     ·
      intro w'
      go_simp
      with_reducible rfl
     rotate_left
     ·
      simp only [Act.put, List.setIfInBounds_toArray, List.set_cons_zero, List.set_cons_succ, i64_w, i32_w]
      rfl
     refine pure_ (i := 7) (N := some 45) (v := ?_) (a' := ?_) #[true, true, true, true, true, true, true, true, false, false, false, false, false, false, false] rfl rfl (any_of HT_.out (by kernel_rfl)) (fun _ _ _ h => h) (Or.inl ⟨by rfl, ?_⟩) ?_ ?_
     rotate_left
     ·
      intro w'
      go_simp
      with_reducible rfl
     rotate_left
     ·
      simp only [Act.put, List.setIfInBounds_toArray, List.set_cons_zero, List.set_cons_succ, i64_w, i32_w]
      rfl
     refine pure_ (i := 9) (N := some 47) (v := ?_) (a' := ?_) #[true, true, true, true, true, true, true, true, false, true, false, false, false, false, false] rfl rfl (any_of HT_.out (by kernel_rfl)) (fun _ _ _ h => h) (Or.inl ⟨by rfl, ?_⟩) ?_ ?_
     rotate_left
     ·
      intro w'
      go_simp
      with_reducible rfl
     rotate_left
     ·
      simp only [Act.put, List.setIfInBounds_toArray, List.set_cons_zero, List.set_cons_succ, i64_w, i32_w]
      rfl
     refine pure_ (i := 12) (N := some 50) (v := ?_) (a' := ?_) #[true, true, true, true, true, true, true, true, false, true, false, false, true, false, false] rfl rfl (any_of HT_.out (by kernel_rfl)) (fun _ _ _ h => h) (Or.inl ⟨by rfl, ?_⟩) ?_ ?_
     rotate_left
     ·
      intro w'
      go_simp
      with_reducible rfl
     rotate_left
     ·
      simp only [Act.put, List.setIfInBounds_toArray, List.set_cons_zero, List.set_cons_succ, i64_w, i32_w]
      rfl
     refine take_ (i := 8) (N := some 46) (v := ?_) (a' := ?_) #[true, true, true, true, true, true, true, true, true, true, false, false, true, false, false] rfl rfl (take_ofW HT_.out HW_.out (by kernel_rfl)) (fun _ _ _ h => h) (Or.inl ⟨by rfl, ?_⟩) hHeld ?_ ?_
     rotate_left
     ·
      rintro w' ⟨s0, s1, s2⟩
      go_simp
      with_reducible rfl
     rotate_left
     ·
      simp only [Act.put, List.setIfInBounds_toArray, List.set_cons_zero, List.set_cons_succ, i64_w, i32_w]
      rfl
     refine take_ (i := 10) (N := some 48) (v := ?_) (a' := ?_) #[true, true, true, true, true, true, true, true, true, true, true, false, true, false, false] rfl rfl (take_ofW HT_.out HW_.out (by kernel_rfl)) (fun _ _ _ h => h) (Or.inl ⟨by rfl, ?_⟩) hHeld ?_ ?_
     rotate_left
     ·
      rintro w' ⟨s0, s1, s2⟩
      go_simp
      with_reducible rfl
     rotate_left
     ·
      simp only [Act.put, List.setIfInBounds_toArray, List.set_cons_zero, List.set_cons_succ, i64_w, i32_w]
      rfl
     refine pure_ (i := 11) (N := some 49) (v := ?_) (a' := ?_) #[true, true, true, true, true, true, true, true, true, true, true, true, true, false, false] rfl rfl (any_of HT_.out (by kernel_rfl)) (fun _ _ _ h => h) (Or.inl ⟨by rfl, ?_⟩) ?_ ?_
     rotate_left
     ·
      intro w'
      go_simp
      with_reducible rfl
     rotate_left
     ·
      simp only [Act.put, List.setIfInBounds_toArray, List.set_cons_zero, List.set_cons_succ, i64_w, i32_w]
      rfl
     refine pure_ (i := 13) (N := some 51) (v := ?_) (a' := ?_) #[true, true, true, true, true, true, true, true, true, true, true, true, true, true, false] rfl rfl (any_of HT_.out (by kernel_rfl)) (fun _ _ _ h => h) (Or.inl ⟨by rfl, ?_⟩) ?_ ?_
     rotate_left
     ·
      intro w'
      go_simp
      with_reducible rfl
     rotate_left
     ·
      simp only [Act.put, List.setIfInBounds_toArray, List.set_cons_zero, List.set_cons_succ, i64_w, i32_w]
      rfl
     refine pure_ (i := 14) (N := some 52) (v := ?_) (a' := ?_) #[true, true, true, true, true, true, true, true, true, true, true, true, true, true, true] rfl rfl (any_of HT_.out (by kernel_rfl)) (fun _ _ _ h => h) (Or.inl ⟨by rfl, ?_⟩) ?_ ?_
     rotate_left
     ·
      intro w'
      go_simp
      with_reducible rfl
     rotate_left
     ·
      simp only [Act.put, List.setIfInBounds_toArray, List.set_cons_zero, List.set_cons_succ, i64_w, i32_w]
      rfl
     refine done_ (done_of HT_.out (by kernel_rfl)) ?_
     try go_wp2
     replace HO_6 := am_ (Kd.R_drew HO_6.out)
     replace HO_7 := am_ (Kd.R_drew HO_7.out)
     replace HO_8 := am_ (Kd.R_drew HO_8.out)
     replace HO_10 := am_ (Kd.R_drew HO_10.out)
     replace BK116 := am_ (blk_drew BK116.out)
     replace HB := am_ (below_drew1 HB.out)
     have p130 : 0 ≤ (x11_1 : Int) := of_decide_eq_true (by first | with_reducible assumption | assumption)
     have q130 : x11_1 < (x10_1.length : Int) := of_decide_eq_true (by first | with_reducible assumption | assumption)
     obtain ⟨ad130, e130, hx130_0⟩ := Kd.at_int (Kd.R_reads' HO_10.out).2.2 x11_1 p130 q130
     obtain rfl : ad114 = ad130 := (by injection e130)
     replace p130 := eq_true p130
     replace q130 := eq_true q130
     have p131 : 0 ≤ (x13_2 : Int) := of_decide_eq_true (by first | with_reducible assumption | assumption)
     have q131 : x13_2 < (x8_1.length : Int) := of_decide_eq_true (by first | with_reducible assumption | assumption)
     obtain ⟨ad131, e131, hx131_0⟩ := Kd.at_int (Kd.R_reads' HO_8.out).2.2 x13_2 p131 q131
     obtain rfl : ad117 = ad131 := (by injection e131)
     replace p131 := eq_true p131
     replace q131 := eq_true q131
     obtain ⟨Ao60, co60, eo60⟩ := Kd.R_slice HO_7.out
     (first | subst eo60 | (injection eo60 with f1_ f2_ f3_; have f4_ := f1_.symm; have f5_ := f3_.symm; clear f1_ f2_ f3_; subst f4_; subst f5_))
     have p132 : 0 ≤ (x13_2 : Int) := of_decide_eq_true (by first | with_reducible assumption | assumption)
     have q132 : x13_2 < (x7_1.length : Int) := of_decide_eq_true (by first | with_reducible assumption | assumption)
     obtain ⟨ad132, e132, hx132_0⟩ := Kd.at_int (Kd.R_reads' HO_7.out).2.2 x13_2 p132 q132
     cases e132
     replace p132 := eq_true p132
     replace q132 := eq_true q132
     have p55 : 0 ≤ ((rd x10_1 x11_1) : Int) := of_decide_eq_true (by first | with_reducible assumption | assumption)
     have q55 : ((rd x10_1 x11_1) : Int) < ((x6_1.length : Int) : Int) := of_decide_eq_true (by first | with_reducible assumption | assumption)
     obtain ⟨go55, co55, eo55, gb55, gl55, cl55, HG55⟩ := Kd.R_form HO_6.out (by omega)
     (first | cases eo55 | (injection eo55 with ea_ en_ ec_; (first | subst ea_ | (injection ea_ with ea_; subst ea_)); subst ec_; clear en_))
     have GB55 := Aside0.mk gb55
     have GG55 := Aside0.mk HG55
     clear gb55 gl55 HG55
     obtain ⟨ce55, hcl55, hM55, hcc55, hfr55⟩ := Kd.R_elem HO_6.out z31 ((rd x10_1 x11_1) : Int) p55 q55
     obtain rfl := k31_openM hM55
     have hx55_0 : World.cell? _ ⟨go55, ((rd x10_1 x11_1) : Int).toNat * 4, none⟩ = some (.int .i64 ((rd_T31 x6_1 (rd x10_1 x11_1)).f0)) := hcc55 0 _ rfl
     have hx55_1 : World.cell? _ ⟨go55, ((rd x10_1 x11_1) : Int).toNat * 4 + 1, none⟩ = some (.int .i64 ((rd_T31 x6_1 (rd x10_1 x11_1)).f1)) := hcc55 1 _ rfl
     have hx55_2 : World.cell? _ ⟨go55, ((rd x10_1 x11_1) : Int).toNat * 4 + 2, none⟩ = some (.int .i64 ((rd_T31 x6_1 (rd x10_1 x11_1)).f2)) := hcc55 2 _ rfl
     have hx55_3 : World.cell? _ ⟨go55, ((rd x10_1 x11_1) : Int).toNat * 4 + 3, none⟩ = some (.int .i64 ((rd_T31 x6_1 (rd x10_1 x11_1)).f3)) := hcc55 3 _ rfl
     have hf55_0 : World.frozen? _ ⟨go55, ((rd x10_1 x11_1) : Int).toNat * 4, none⟩ = false := hfr55 0
     have hf55_1 : World.frozen? _ ⟨go55, ((rd x10_1 x11_1) : Int).toNat * 4 + 1, none⟩ = false := hfr55 1
     have hf55_2 : World.frozen? _ ⟨go55, ((rd x10_1 x11_1) : Int).toNat * 4 + 2, none⟩ = false := hfr55 2
     have hf55_3 : World.frozen? _ ⟨go55, ((rd x10_1 x11_1) : Int).toNat * 4 + 3, none⟩ = false := hfr55 3
     clear hcl55 hcc55 hfr55 hM55
     replace p55 := eq_true p55
     replace q55 := eq_true q55
     obtain ⟨ce61, hcl61, hM61, hcc61, hfr61⟩ := Kd.R_elem HO_6.out z31 ((rd x10_1 x11_1) : Int) (of_decide_eq_true (by first | with_reducible assumption | assumption)) (by have h_ : ((rd x10_1 x11_1) : Int) < ((x6_1.length : Int) : Int) := of_decide_eq_true (by first | with_reducible assumption | assumption); first | exact h_ | (have e_ := (Kd.R_reads' HO_6.out).1; omega) | simpa using h_)
     obtain rfl := k31_openM hM61
     have HP61 := (Kd.R_seg HO_6.out ((rd x10_1 x11_1) : Int) (of_decide_eq_true (by first | with_reducible assumption | assumption)) (by have h_ : ((rd x10_1 x11_1) : Int) < ((x6_1.length : Int) : Int) := of_decide_eq_true (by first | with_reducible assumption | assumption); first | exact h_ | (have e_ := (Kd.R_reads' HO_6.out).1; omega) | simpa using h_) (seg := [.int .i64 (rd x8_1 x13_2), .int .i64 (rd x7_1 x13_2), .int .i64 ((rd_T33 l0 (rd x10_1 x11_1)).f0), .int .i64 ((rd_T33 l0 (rd x10_1 x11_1)).f1)]) (j := 0) hcl61 hcc61 (show 4 ≤ 4 from by decide) (x' := (⟨rd x8_1 x13_2, rd x7_1 x13_2, ((rd_T33 l0 (rd x10_1 x11_1)).f0), ((rd_T33 l0 (rd x10_1 x11_1)).f1)⟩ : S31)) (k31_mkM _ _ _ (⟨rd x8_1 x13_2, rd x7_1 x13_2, ((rd_T33 l0 (rd x10_1 x11_1)).f0), ((rd_T33 l0 (rd x10_1 x11_1)).f1)⟩ : S31) ) (fun _ hk => hk)).1
     rw [← Ny133.out] at HP61
     have HQ61 := Aside0.mk HP61
     clear hcl61 hcc61 hfr61 hM61 HP61
     refine start_ (n := 20) (S := fun w' => w'.cell? ⟨gb116, 0, none⟩ = some (.int .i64 ((rd_T33 l0 (rd x10_1 x11_1)).f0)) ∧ w'.cell? ⟨gb116, 1, none⟩ = some (.int .i64 ((rd_T33 l0 (rd x10_1 x11_1)).f1)) ∧ w'.cell? (ad114.add (x11_1).toNat) = some (.int .i64 (rd x10_1 x11_1)) ∧ w'.cell? (ad117.add (x13_2).toNat) = some (.int .i64 (rd x8_1 x13_2)) ∧ w'.cell? (ad132.add (x13_2).toNat) = some (.int .i64 (rd x7_1 x13_2))) (ds := [19]) #[false, false, false, false, false, false, false, false, false, false, false, false, false, false, false, false, false, false, false, false] (by kernel_rfl) rfl rfl ⟨(blk_cell BK116.out 0).trans rfl, (blk_cell BK116.out 1).trans rfl, hx130_0, hx131_0, hx132_0⟩ (fun hHeld => ?_); refine with_tabW spec_PackSprites.tab19 spec_PackSprites.bits19 (fun HT_ HW_ => ?_)
     generalize w57.drew = w59 at HO_6 HO_7 HO_8 HO_10 BK116 HB GG55 HQ61 hf55_0 hf55_1 hf55_2 hf55_3 hx130_0 hx131_0 hx132_0 hx55_0 hx55_1 hx55_2 hx55_3 hHeld ⊢
     refine pure_ (i := 0) (N := some 70) (v := ?_) (a' := ?_) #[true, false, false, false, false, false, false, false, false, false, false, false, false, false, false, false, false, false, false, false] rfl rfl (any_of HT_.out (by kernel_rfl)) (fun _ _ _ h => h) (Or.inl ⟨by rfl, ?_⟩) ?_ ?_
     rotate_left
     ·
      intro w'
      go_simp
      with_reducible rfl
     rotate_left
     ·
      simp only [Act.put, List.setIfInBounds_toArray, List.set_cons_zero, List.set_cons_succ, i64_w, i32_w]
      rfl
     refine pure_ (i := 1) (N := some 71) (v := ?_) (a' := ?_) #[true, true, false, false, false, false, false, false, false, false, false, false, false, false, false, false, false, false, false, false] rfl rfl (any_of HT_.out (by kernel_rfl)) (fun _ _ _ h => h) (Or.inl ⟨by rfl, ?_⟩) ?_ ?_
     rotate_left
     ·
      intro w'
      go_simp
      with_reducible rfl
     rotate_left
     ·
      simp only [Act.put, List.setIfInBounds_toArray, List.set_cons_zero, List.set_cons_succ, i64_w, i32_w]
      rfl
     refine pure_ (i := 2) (N := some 72) (v := ?_) (a' := ?_) #[true, true, true, false, false, false, false, false, false, false, false, false, false, false, false, false, false, false, false, false] rfl rfl (any_of HT_.out (by kernel_rfl)) (fun _ _ _ h => h) (Or.inl ⟨by rfl, ?_⟩) ?_ ?_
     rotate_left
     ·
      intro w'
      go_simp
      with_reducible rfl
     rotate_left
     ·
      simp only [Act.put, List.setIfInBounds_toArray, List.set_cons_zero, List.set_cons_succ, i64_w, i32_w]
      rfl
     refine pure_ (i := 3) (N := some 73) (v := ?_) (a' := ?_) #[true, true, true, true, false, false, false, false, false, false, false, false, false, false, false, false, false, false, false, false] rfl rfl (any_of HT_.out (by kernel_rfl)) (fun _ _ _ h => h) (Or.inl ⟨by rfl, ?_⟩) ?_ ?_
     rotate_left
     ·
      intro w'
      go_simp
      with_reducible rfl
     rotate_left
     ·
      simp only [Act.put, List.setIfInBounds_toArray, List.set_cons_zero, List.set_cons_succ, i64_w, i32_w]
      rfl
     refine pure_ (i := 5) (N := some 75) (v := ?_) (a' := ?_) #[true, true, true, true, false, true, false, false, false, false, false, false, false, false, false, false, false, false, false, false] rfl rfl (any_of HT_.out (by kernel_rfl)) (fun _ _ _ h => h) (Or.inl ⟨by rfl, ?_⟩) ?_ ?_
     rotate_left
     ·
      intro w'
      go_simp
      with_reducible rfl
     rotate_left
     ·
      simp only [Act.put, List.setIfInBounds_toArray, List.set_cons_zero, List.set_cons_succ, i64_w, i32_w]
      rfl
     refine pure_ (i := 6) (N := some 76) (v := ?_) (a' := ?_) #[true, true, true, true, false, true, true, false, false, false, false, false, false, false, false, false, false, false, false, false] rfl rfl (any_of HT_.out (by kernel_rfl)) (fun _ _ _ h => h) (Or.inl ⟨by rfl, ?_⟩) ?_ ?_
     rotate_left
     ·
      intro w'
      go_simp
      with_reducible rfl
     rotate_left
     ·
      simp only [Act.put, List.setIfInBounds_toArray, List.set_cons_zero, List.set_cons_succ, i64_w, i32_w]
      rfl
     refine pure_ (i := 7) (N := some 77) (v := ?_) (a' := ?_) #[true, true, true, true, false, true, true, true, false, false, false, false, false, false, false, false, false, false, false, false] rfl rfl (any_of HT_.out (by kernel_rfl)) (fun _ _ _ h => h) (Or.inl ⟨by rfl, ?_⟩) ?_ ?_
     rotate_left
     ·
      intro w'
      go_simp
      with_reducible rfl
     rotate_left
     ·
      simp only [Act.put, List.setIfInBounds_toArray, List.set_cons_zero, List.set_cons_succ, i64_w, i32_w]
      rfl
     refine pure_ (i := 9) (N := some 79) (v := ?_) (a' := ?_) #[true, true, true, true, false, true, true, true, false, true, false, false, false, false, false, false, false, false, false, false] rfl rfl (any_of HT_.out (by kernel_rfl)) (fun _ _ _ h => h) (Or.inl ⟨by rfl, ?_⟩) ?_ ?_
     rotate_left
     ·
      intro w'
      go_simp
      with_reducible rfl
     rotate_left
     ·
      simp only [Act.put, List.setIfInBounds_toArray, List.set_cons_zero, List.set_cons_succ, i64_w, i32_w]
      rfl
     refine pure_ (i := 10) (N := some 80) (v := ?_) (a' := ?_) #[true, true, true, true, false, true, true, true, false, true, true, false, false, false, false, false, false, false, false, false] rfl rfl (any_of HT_.out (by kernel_rfl)) (fun _ _ _ h => h) (Or.inl ⟨by rfl, ?_⟩) ?_ ?_
     rotate_left
     ·
      intro w'
      go_simp
      with_reducible rfl
     rotate_left
     ·
      simp only [Act.put, List.setIfInBounds_toArray, List.set_cons_zero, List.set_cons_succ, i64_w, i32_w]
      rfl
     refine pure_ (i := 11) (N := some 81) (v := ?_) (a' := ?_) #[true, true, true, true, false, true, true, true, false, true, true, true, false, false, false, false, false, false, false, false] rfl rfl (any_of HT_.out (by kernel_rfl)) (fun _ _ _ h => h) (Or.inl ⟨by rfl, ?_⟩) ?_ ?_
     rotate_left
     ·
      intro w'
      go_simp
      with_reducible rfl
     rotate_left
     ·
      simp only [Act.put, List.setIfInBounds_toArray, List.set_cons_zero, List.set_cons_succ, i64_w, i32_w]
      rfl
     refine pure_ (i := 13) (N := some 83) (v := ?_) (a' := ?_) #[true, true, true, true, false, true, true, true, false, true, true, true, false, true, false, false, false, false, false, false] rfl rfl (any_of HT_.out (by kernel_rfl)) (fun _ _ _ h => h) (Or.inl ⟨by rfl, ?_⟩) ?_ ?_
     rotate_left
     ·
      intro w'
      go_simp
      with_reducible rfl
     rotate_left
     ·
      simp only [Act.put, List.setIfInBounds_toArray, List.set_cons_zero, List.set_cons_succ, i64_w, i32_w]
      rfl
     refine pure_ (i := 15) (N := some 85) (v := ?_) (a' := ?_) #[true, true, true, true, false, true, true, true, false, true, true, true, false, true, false, true, false, false, false, false] rfl rfl (any_of HT_.out (by kernel_rfl)) (fun _ _ _ h => h) (Or.inl ⟨by rfl, ?_⟩) ?_ ?_
     rotate_left
     ·
      intro w'
      go_simp
      with_reducible rfl
     rotate_left
     ·
      simp only [Act.put, List.setIfInBounds_toArray, List.set_cons_zero, List.set_cons_succ, i64_w, i32_w]
      rfl
     refine take_ (i := 4) (N := some 74) (v := ?_) (a' := ?_) #[true, true, true, true, true, true, true, true, false, true, true, true, false, true, false, true, false, false, false, false] rfl rfl (take_ofW HT_.out HW_.out (by kernel_rfl)) (fun _ _ _ h => h) (Or.inl ⟨by rfl, ?_⟩) hHeld ?_ ?_
     rotate_left
     ·
      rintro w' ⟨s0, s1, s2, s3, s4⟩
      go_simp
      with_reducible rfl
     rotate_left
     ·
      simp only [Act.put, List.setIfInBounds_toArray, List.set_cons_zero, List.set_cons_succ, i64_w, i32_w]
      rfl
     refine take_ (i := 8) (N := some 78) (v := ?_) (a' := ?_) #[true, true, true, true, true, true, true, true, true, true, true, true, false, true, false, true, false, false, false, false] rfl rfl (take_ofW HT_.out HW_.out (by kernel_rfl)) (fun _ _ _ h => h) (Or.inl ⟨by rfl, ?_⟩) hHeld ?_ ?_
     rotate_left
     ·
      rintro w' ⟨s0, s1, s2, s3, s4⟩
      go_simp
      with_reducible rfl
     rotate_left
     ·
      simp only [Act.put, List.setIfInBounds_toArray, List.set_cons_zero, List.set_cons_succ, i64_w, i32_w]
      rfl
     refine take_ (i := 12) (N := some 82) (v := ?_) (a' := ?_) #[true, true, true, true, true, true, true, true, true, true, true, true, true, true, false, true, false, false, false, false] rfl rfl (take_ofW HT_.out HW_.out (by kernel_rfl)) (fun _ _ _ h => h) (Or.inl ⟨by rfl, ?_⟩) hHeld ?_ ?_
     rotate_left
     ·
      rintro w' ⟨s0, s1, s2, s3, s4⟩
      go_simp
      with_reducible rfl
     rotate_left
     ·
      simp only [Act.put, List.setIfInBounds_toArray, List.set_cons_zero, List.set_cons_succ, i64_w, i32_w]
      rfl
     refine take_ (i := 14) (N := some 84) (v := ?_) (a' := ?_) #[true, true, true, true, true, true, true, true, true, true, true, true, true, true, true, true, false, false, false, false] rfl rfl (take_ofW HT_.out HW_.out (by kernel_rfl)) (fun _ _ _ h => h) (Or.inl ⟨by rfl, ?_⟩) hHeld ?_ ?_
     rotate_left
     ·
      rintro w' ⟨s0, s1, s2, s3, s4⟩
      go_simp
      with_reducible rfl
     rotate_left
     ·
      simp only [Act.put, List.setIfInBounds_toArray, List.set_cons_zero, List.set_cons_succ, i64_w, i32_w]
      rfl
     refine take_ (i := 16) (N := some 86) (v := ?_) (a' := ?_) #[true, true, true, true, true, true, true, true, true, true, true, true, true, true, true, true, true, false, false, false] rfl rfl (take_ofW HT_.out HW_.out (by kernel_rfl)) (fun _ _ _ h => h) (Or.inl ⟨by rfl, ?_⟩) hHeld ?_ ?_
     rotate_left
     ·
      rintro w' ⟨s0, s1, s2, s3, s4⟩
      go_simp
      with_reducible rfl
     rotate_left
     ·
      simp only [Act.put, List.setIfInBounds_toArray, List.set_cons_zero, List.set_cons_succ, i64_w, i32_w]
      rfl
     refine pure_ (i := 17) (N := some 87) (v := ?_) (a' := ?_) #[true, true, true, true, true, true, true, true, true, true, true, true, true, true, true, true, true, true, false, false] rfl rfl (any_of HT_.out (by kernel_rfl)) (fun _ _ _ h => h) (Or.inl ⟨by rfl, ?_⟩) ?_ ?_
     rotate_left
     ·
      intro w'
      go_simp
      with_reducible rfl
     rotate_left
     ·
      simp only [Act.put, List.setIfInBounds_toArray, List.set_cons_zero, List.set_cons_succ, i64_w, i32_w]
      rfl
     refine pure_ (i := 18) (N := some 88) (v := ?_) (a' := ?_) #[true, true, true, true, true, true, true, true, true, true, true, true, true, true, true, true, true, true, true, false] rfl rfl (any_of HT_.out (by kernel_rfl)) (fun _ _ _ h => h) (Or.inl ⟨by rfl, ?_⟩) ?_ ?_
     rotate_left
     ·
      intro w'
      go_simp
      with_reducible rfl
     rotate_left
     ·
      simp only [Act.put, List.setIfInBounds_toArray, List.set_cons_zero, List.set_cons_succ, i64_w, i32_w]
      rfl
     refine last_ (i := 19) (N := none) #[true, true, true, true, true, true, true, true, true, true, true, true, true, true, true, true, true, true, true, true] rfl rfl (one_of HT_.out (by kernel_rfl)) (by decide) (fun K hK => ?_)
     refine skip_ (w1 := ?_) (by rfl) rfl ?_ ?_
     rotate_left
     ·
      go_simp
      rfl
     refine hK.out _ _ ?_
     clear hK K
     refine done_ (done_of HT_.out (by kernel_rfl)) ?_
     try go_wp2
     have n0_ : Aside0 (Kd.R k31 31 ((((w59.setCell ⟨go55, ((rd x10_1 x11_1) : Int).toNat * 4, none⟩ (.int .i64 (rd x8_1 x13_2))).setCell ⟨go55, ((rd x10_1 x11_1) : Int).toNat * 4 + 1, none⟩ (.int .i64 (rd x7_1 x13_2))).setCell ⟨go55, ((rd x10_1 x11_1) : Int).toNat * 4 + 2, none⟩ (.int .i64 ((rd_T33 l0 (rd x10_1 x11_1)).f0))).setCell ⟨go55, ((rd x10_1 x11_1) : Int).toNat * 4 + 3, none⟩ (.int .i64 ((rd_T33 l0 (rd x10_1 x11_1)).f1))) w.heap.size (fun _ => True) (.slice (some ⟨go55, 0, none⟩) x6_1.length co55) y133) := ⟨by exact HQ61.out⟩
     have n1_ : Aside0 (Kd.R (Kd.int .i64) 3 ((((w59.setCell ⟨go55, ((rd x10_1 x11_1) : Int).toNat * 4, none⟩ (.int .i64 (rd x8_1 x13_2))).setCell ⟨go55, ((rd x10_1 x11_1) : Int).toNat * 4 + 1, none⟩ (.int .i64 (rd x7_1 x13_2))).setCell ⟨go55, ((rd x10_1 x11_1) : Int).toNat * 4 + 2, none⟩ (.int .i64 ((rd_T33 l0 (rd x10_1 x11_1)).f0))).setCell ⟨go55, ((rd x10_1 x11_1) : Int).toNat * 4 + 3, none⟩ (.int .i64 ((rd_T33 l0 (rd x10_1 x11_1)).f1))) w.heap.size (fun k_ => some k_ ≠ (.slice (some ad117) x8_1.length co58 : Value).ownBlock ∧ some k_ ≠ (.slice (some ad114) x10_1.length co19 : Value).ownBlock) (.slice (some ad132) x7_1.length co60) x7_1) := ⟨by exact Kd.R_mono (Kd.R_far (p := ⟨go55, ((rd x10_1 x11_1) : Int).toNat * 4 + 3, none⟩) (Kd.R_far (p := ⟨go55, ((rd x10_1 x11_1) : Int).toNat * 4 + 2, none⟩) (Kd.R_far (p := ⟨go55, ((rd x10_1 x11_1) : Int).toNat * 4 + 1, none⟩) (Kd.R_far (p := ⟨go55, ((rd x10_1 x11_1) : Int).toNat * 4, none⟩) (Kd.R_types HO_7.out GG55.out (by decide)) (fun _ hk => hk.2) (.int .i64 (rd x8_1 x13_2))) (fun _ hk => hk.2) (.int .i64 (rd x7_1 x13_2))) (fun _ hk => hk.2) (.int .i64 ((rd_T33 l0 (rd x10_1 x11_1)).f0))) (fun _ hk => hk.2) (.int .i64 ((rd_T33 l0 (rd x10_1 x11_1)).f1))) (fun _ hk => ⟨hk.1.1, hk.1.2⟩)⟩
     have n2_ : Aside0 (Kd.R (Kd.int .i64) 3 ((((w59.setCell ⟨go55, ((rd x10_1 x11_1) : Int).toNat * 4, none⟩ (.int .i64 (rd x8_1 x13_2))).setCell ⟨go55, ((rd x10_1 x11_1) : Int).toNat * 4 + 1, none⟩ (.int .i64 (rd x7_1 x13_2))).setCell ⟨go55, ((rd x10_1 x11_1) : Int).toNat * 4 + 2, none⟩ (.int .i64 ((rd_T33 l0 (rd x10_1 x11_1)).f0))).setCell ⟨go55, ((rd x10_1 x11_1) : Int).toNat * 4 + 3, none⟩ (.int .i64 ((rd_T33 l0 (rd x10_1 x11_1)).f1))) w.heap.size (fun k_ => some k_ ≠ (.slice (some ad132) x7_1.length co60 : Value).ownBlock ∧ some k_ ≠ (.slice (some ad114) x10_1.length co19 : Value).ownBlock) (.slice (some ad117) x8_1.length co58) x8_1) := ⟨by exact Kd.R_mono (Kd.R_far (p := ⟨go55, ((rd x10_1 x11_1) : Int).toNat * 4 + 3, none⟩) (Kd.R_far (p := ⟨go55, ((rd x10_1 x11_1) : Int).toNat * 4 + 2, none⟩) (Kd.R_far (p := ⟨go55, ((rd x10_1 x11_1) : Int).toNat * 4 + 1, none⟩) (Kd.R_far (p := ⟨go55, ((rd x10_1 x11_1) : Int).toNat * 4, none⟩) (Kd.R_types HO_8.out GG55.out (by decide)) (fun _ hk => hk.2) (.int .i64 (rd x8_1 x13_2))) (fun _ hk => hk.2) (.int .i64 (rd x7_1 x13_2))) (fun _ hk => hk.2) (.int .i64 ((rd_T33 l0 (rd x10_1 x11_1)).f0))) (fun _ hk => hk.2) (.int .i64 ((rd_T33 l0 (rd x10_1 x11_1)).f1))) (fun _ hk => ⟨hk.1.1, hk.1.2⟩)⟩
     have n3_ : Aside0 (Kd.R (Kd.int .i64) 3 ((((w59.setCell ⟨go55, ((rd x10_1 x11_1) : Int).toNat * 4, none⟩ (.int .i64 (rd x8_1 x13_2))).setCell ⟨go55, ((rd x10_1 x11_1) : Int).toNat * 4 + 1, none⟩ (.int .i64 (rd x7_1 x13_2))).setCell ⟨go55, ((rd x10_1 x11_1) : Int).toNat * 4 + 2, none⟩ (.int .i64 ((rd_T33 l0 (rd x10_1 x11_1)).f0))).setCell ⟨go55, ((rd x10_1 x11_1) : Int).toNat * 4 + 3, none⟩ (.int .i64 ((rd_T33 l0 (rd x10_1 x11_1)).f1))) w.heap.size (fun k_ => some k_ ≠ (.slice (some ad132) x7_1.length co60 : Value).ownBlock ∧ some k_ ≠ (.slice (some ad117) x8_1.length co58 : Value).ownBlock) (.slice (some ad114) x10_1.length co19) x10_1) := ⟨by exact Kd.R_mono (Kd.R_far (p := ⟨go55, ((rd x10_1 x11_1) : Int).toNat * 4 + 3, none⟩) (Kd.R_far (p := ⟨go55, ((rd x10_1 x11_1) : Int).toNat * 4 + 2, none⟩) (Kd.R_far (p := ⟨go55, ((rd x10_1 x11_1) : Int).toNat * 4 + 1, none⟩) (Kd.R_far (p := ⟨go55, ((rd x10_1 x11_1) : Int).toNat * 4, none⟩) (Kd.R_types HO_10.out GG55.out (by decide)) (fun _ hk => hk.2) (.int .i64 (rd x8_1 x13_2))) (fun _ hk => hk.2) (.int .i64 (rd x7_1 x13_2))) (fun _ hk => hk.2) (.int .i64 ((rd_T33 l0 (rd x10_1 x11_1)).f0))) (fun _ hk => hk.2) (.int .i64 ((rd_T33 l0 (rd x10_1 x11_1)).f1))) (fun _ hk => ⟨hk.1.1, hk.1.2⟩)⟩
     have n4_ : Aside0 (((((w59.setCell ⟨go55, ((rd x10_1 x11_1) : Int).toNat * 4, none⟩ (.int .i64 (rd x8_1 x13_2))).setCell ⟨go55, ((rd x10_1 x11_1) : Int).toNat * 4 + 1, none⟩ (.int .i64 (rd x7_1 x13_2))).setCell ⟨go55, ((rd x10_1 x11_1) : Int).toNat * 4 + 2, none⟩ (.int .i64 ((rd_T33 l0 (rd x10_1 x11_1)).f0))).setCell ⟨go55, ((rd x10_1 x11_1) : Int).toNat * 4 + 3, none⟩ (.int .i64 ((rd_T33 l0 (rd x10_1 x11_1)).f1))).heap[gb116]? = some (.cells #[.int .i64 ((rd_T33 l0 (rd x10_1 x11_1)).f0), .int .i64 ((rd_T33 l0 (rd x10_1 x11_1)).f1)] 33 (0, 0))) := ⟨by (with_reducible repeat (first | refine blk_drewN ?_ _ | refine blk_drew ?_ | refine blk_alloc ?_ _)); refine blk_far ?_ (by have h_ := Kd.R_ne HO_6.out BK116.out (by decide); intro e_; exact h_ (by rw [e_]; rfl)) _; (with_reducible repeat (first | refine blk_drewN ?_ _ | refine blk_drew ?_ | refine blk_alloc ?_ _)); refine blk_far ?_ (by have h_ := Kd.R_ne HO_6.out BK116.out (by decide); intro e_; exact h_ (by rw [e_]; rfl)) _; (with_reducible repeat (first | refine blk_drewN ?_ _ | refine blk_drew ?_ | refine blk_alloc ?_ _)); refine blk_far ?_ (by have h_ := Kd.R_ne HO_6.out BK116.out (by decide); intro e_; exact h_ (by rw [e_]; rfl)) _; (with_reducible repeat (first | refine blk_drewN ?_ _ | refine blk_drew ?_ | refine blk_alloc ?_ _)); refine blk_far ?_ (by have h_ := Kd.R_ne HO_6.out BK116.out (by decide); intro e_; exact h_ (by rw [e_]; rfl)) _; (with_reducible repeat (first | refine blk_drewN ?_ _ | refine blk_drew ?_ | refine blk_alloc ?_ _)); exact BK116.out⟩
     have n5_ : Aside0 (Below w.heap.size w ((((w59.setCell ⟨go55, ((rd x10_1 x11_1) : Int).toNat * 4, none⟩ (.int .i64 (rd x8_1 x13_2))).setCell ⟨go55, ((rd x10_1 x11_1) : Int).toNat * 4 + 1, none⟩ (.int .i64 (rd x7_1 x13_2))).setCell ⟨go55, ((rd x10_1 x11_1) : Int).toNat * 4 + 2, none⟩ (.int .i64 ((rd_T33 l0 (rd x10_1 x11_1)).f0))).setCell ⟨go55, ((rd x10_1 x11_1) : Int).toNat * 4 + 3, none⟩ (.int .i64 ((rd_T33 l0 (rd x10_1 x11_1)).f1)))) := ⟨by repeat (first | (with_reducible first | exact HB.out | apply below_alloc | apply pw_below_drewN | apply below_drew1 | refine below_set ?_ GB55.out | refine below_set ?_ GB55.out | refine below_set ?_ GB55.out | refine below_set ?_ GB55.out | refine below_set ?_ GE116.out) | exact HB.out)⟩
     (try clear HO_6)
     (try clear HO_7)
     (try clear HO_8)
     (try clear HO_10)
     (try clear BK116)
     (try clear HB)
     generalize ((((w59.setCell ⟨go55, ((rd x10_1 x11_1) : Int).toNat * 4, none⟩ (.int .i64 (rd x8_1 x13_2))).setCell ⟨go55, ((rd x10_1 x11_1) : Int).toNat * 4 + 1, none⟩ (.int .i64 (rd x7_1 x13_2))).setCell ⟨go55, ((rd x10_1 x11_1) : Int).toNat * 4 + 2, none⟩ (.int .i64 ((rd_T33 l0 (rd x10_1 x11_1)).f0))).setCell ⟨go55, ((rd x10_1 x11_1) : Int).toNat * 4 + 3, none⟩ (.int .i64 ((rd_T33 l0 (rd x10_1 x11_1)).f1))) = w62 at n0_ n1_ n2_ n3_ n4_ n5_ ⊢
     have HO_6 := n0_
     have HO_7 := n1_
     have HO_8 := n2_
     have HO_10 := n3_
     have BK116 := n4_
     have HB := n5_
     clear n0_ n1_ n2_ n3_ n4_ n5_
     replace HO_6 := am_ (Kd.R_drew HO_6.out)
     replace HO_7 := am_ (Kd.R_drew HO_7.out)
     replace HO_8 := am_ (Kd.R_drew HO_8.out)
     replace HO_10 := am_ (Kd.R_drew HO_10.out)
     replace BK116 := am_ (blk_drew BK116.out)
     replace HB := am_ (below_drew1 HB.out)
     have p134 : 0 ≤ (x13_2 : Int) := of_decide_eq_true (by first | with_reducible assumption | assumption)
     have q134 : x13_2 < (x8_1.length : Int) := of_decide_eq_true (by first | with_reducible assumption | assumption)
     obtain ⟨ad134, e134, hx134_0⟩ := Kd.at_int (Kd.R_reads' HO_8.out).2.2 x13_2 p134 q134
     obtain rfl : ad117 = ad134 := (by injection e134)
     replace p134 := eq_true p134
     replace q134 := eq_true q134
     have p56 : 0 ≤ (x13_2 : Int) := of_decide_eq_true (by first | with_reducible assumption | assumption)
     have q56 : (x13_2 : Int) < ((x8_1.length : Int) : Int) := of_decide_eq_true (by first | with_reducible assumption | assumption)
     obtain ⟨go56, co56, eo56, gb56, gl56, cl56, HG56⟩ := Kd.R_form HO_8.out (by omega)
     (first | cases eo56 | (injection eo56 with ea_ en_ ec_; (first | subst ea_ | (injection ea_ with ea_; subst ea_)); subst ec_; clear en_))
     have GB56 := Aside0.mk gb56
     have GG56 := Aside0.mk HG56
     clear gb56 gl56 HG56
     (first | simp only [add_plain] at hx117_0 | skip)
     (first | simp only [add_plain] at hx131_0 | skip)
     (first | simp only [add_plain] at hx134_0 | skip)
     obtain ⟨hx56_0, hf56_0⟩ := Kd.R_celln 0 HO_8.out (x13_2 : Int) p56 q56
     replace p56 := eq_true p56
     replace q56 := eq_true q56
     have HP64 := Kd.R_putn HO_8.out (x13_2 : Int) (wrap64 ((rd x8_1 x13_2) + ((rd_T33 l0 (rd x10_1 x11_1)).f0)))
     rw [← Ny135.out] at HP64
     have HQ64 := Aside0.mk HP64
     clear HP64
     refine start_ (n := 11) (S := fun w' => w'.cell? ⟨gb116, 0, none⟩ = some (.int .i64 ((rd_T33 l0 (rd x10_1 x11_1)).f0)) ∧ w'.cell? ⟨gb116, 1, none⟩ = some (.int .i64 ((rd_T33 l0 (rd x10_1 x11_1)).f1)) ∧ w'.cell? ⟨go56, (x13_2).toNat, none⟩ = some (.int .i64 (rd x8_1 x13_2))) (ds := [10]) #[false, false, false, false, false, false, false, false, false, false, false] (by kernel_rfl) rfl rfl ⟨(blk_cell BK116.out 0).trans rfl, (blk_cell BK116.out 1).trans rfl, hx134_0⟩ (fun hHeld => ?_); refine with_tabW spec_PackSprites.tab20 spec_PackSprites.bits20 (fun HT_ HW_ => ?_)
     generalize w62.drew = w63 at HO_6 HO_7 HO_8 HO_10 BK116 HB GG56 HQ61 HQ64 hf56_0 hx117_0 hx131_0 hx134_0 hx56_0 hHeld ⊢
     refine pure_ (i := 0) (N := some 89) (v := ?_) (a' := ?_) #[true, false, false, false, false, false, false, false, false, false, false] rfl rfl (any_of HT_.out (by kernel_rfl)) (fun _ _ _ h => h) (Or.inl ⟨by rfl, ?_⟩) ?_ ?_
     rotate_left
     ·
      intro w'
      go_simp
      with_reducible rfl
     rotate_left
     ·
      simp only [Act.put, List.setIfInBounds_toArray, List.set_cons_zero, List.set_cons_succ, i64_w, i32_w]
      rfl
     refine pure_ (i := 1) (N := some 90) (v := ?_) (a' := ?_) #[true, true, false, false, false, false, false, false, false, false, false] rfl rfl (any_of HT_.out (by kernel_rfl)) (fun _ _ _ h => h) (Or.inl ⟨by rfl, ?_⟩) ?_ ?_
     rotate_left
     ·
      intro w'
      go_simp
      with_reducible rfl
     rotate_left
     ·
      simp only [Act.put, List.setIfInBounds_toArray, List.set_cons_zero, List.set_cons_succ, i64_w, i32_w]
      rfl
     refine pure_ (i := 2) (N := some 91) (v := ?_) (a' := ?_) #[true, true, true, false, false, false, false, false, false, false, false] rfl rfl (any_of HT_.out (by kernel_rfl)) (fun _ _ _ h => h) (Or.inl ⟨by rfl, ?_⟩) ?_ ?_
     rotate_left
     ·
      intro w'
      go_simp
      with_reducible rfl
     rotate_left
     ·
      simp only [Act.put, List.setIfInBounds_toArray, List.set_cons_zero, List.set_cons_succ, i64_w, i32_w]
      rfl
     refine pure_ (i := 3) (N := some 92) (v := ?_) (a' := ?_) #[true, true, true, true, false, false, false, false, false, false, false] rfl rfl (any_of HT_.out (by kernel_rfl)) (fun _ _ _ h => h) (Or.inl ⟨by rfl, ?_⟩) ?_ ?_
     rotate_left
     ·
      intro w'
      go_simp
      with_reducible rfl
     rotate_left
     ·
      simp only [Act.put, List.setIfInBounds_toArray, List.set_cons_zero, List.set_cons_succ, i64_w, i32_w]
      rfl
     refine pure_ (i := 4) (N := some 93) (v := ?_) (a' := ?_) #[true, true, true, true, true, false, false, false, false, false, false] rfl rfl (any_of HT_.out (by kernel_rfl)) (fun _ _ _ h => h) (Or.inl ⟨by rfl, ?_⟩) ?_ ?_
     rotate_left
     ·
      intro w'
      go_simp
      with_reducible rfl
     rotate_left
     ·
      simp only [Act.put, List.setIfInBounds_toArray, List.set_cons_zero, List.set_cons_succ, i64_w, i32_w]
      rfl
     refine pure_ (i := 6) (N := some 95) (v := ?_) (a' := ?_) #[true, true, true, true, true, false, true, false, false, false, false] rfl rfl (any_of HT_.out (by kernel_rfl)) (fun _ _ _ h => h) (Or.inl ⟨by rfl, ?_⟩) ?_ ?_
     rotate_left
     ·
      intro w'
      go_simp
      with_reducible rfl
     rotate_left
     ·
      simp only [Act.put, List.setIfInBounds_toArray, List.set_cons_zero, List.set_cons_succ, i64_w, i32_w]
      rfl
     refine take_ (i := 5) (N := some 94) (v := ?_) (a' := ?_) #[true, true, true, true, true, true, true, false, false, false, false] rfl rfl (take_ofW HT_.out HW_.out (by kernel_rfl)) (fun _ _ _ h => h) (Or.inl ⟨by rfl, ?_⟩) hHeld ?_ ?_
     rotate_left
     ·
      rintro w' ⟨s0, s1, s2⟩
      go_simp
      with_reducible rfl
     rotate_left
     ·
      simp only [Act.put, List.setIfInBounds_toArray, List.set_cons_zero, List.set_cons_succ, i64_w, i32_w]
      rfl
     refine take_ (i := 7) (N := some 96) (v := ?_) (a' := ?_) #[true, true, true, true, true, true, true, true, false, false, false] rfl rfl (take_ofW HT_.out HW_.out (by kernel_rfl)) (fun _ _ _ h => h) (Or.inl ⟨by rfl, ?_⟩) hHeld ?_ ?_
     rotate_left
     ·
      rintro w' ⟨s0, s1, s2⟩
      go_simp
      with_reducible rfl
     rotate_left
     ·
      simp only [Act.put, List.setIfInBounds_toArray, List.set_cons_zero, List.set_cons_succ, i64_w, i32_w]
      rfl
     refine pure_ (i := 8) (N := some 97) (v := ?_) (a' := ?_) #[true, true, true, true, true, true, true, true, true, false, false] rfl rfl (any_of HT_.out (by kernel_rfl)) (fun _ _ _ h => h) (Or.inl ⟨by rfl, ?_⟩) ?_ ?_
     rotate_left
     ·
      intro w'
      go_simp
      with_reducible rfl
     rotate_left
     ·
      simp only [Act.put, List.setIfInBounds_toArray, List.set_cons_zero, List.set_cons_succ, i64_w, i32_w]
      rfl
     refine pure_ (i := 9) (N := some 98) (v := ?_) (a' := ?_) #[true, true, true, true, true, true, true, true, true, true, false] rfl rfl (any_of HT_.out (by kernel_rfl)) (fun _ _ _ h => h) (Or.inl ⟨by rfl, ?_⟩) ?_ ?_
     rotate_left
     ·
      intro w'
      go_simp
      with_reducible rfl
     rotate_left
     ·
      simp only [Act.put, List.setIfInBounds_toArray, List.set_cons_zero, List.set_cons_succ, i64_w, i32_w]
      rfl
     refine last_ (i := 10) (N := none) #[true, true, true, true, true, true, true, true, true, true, true] rfl rfl (one_of HT_.out (by kernel_rfl)) (by decide) (fun K hK => ?_)
     refine skip_ (w1 := ?_) (by rfl) rfl ?_ ?_
     rotate_left
     ·
      go_simp
      rfl
     refine hK.out _ _ ?_
     clear hK K
     refine done_ (done_of HT_.out (by kernel_rfl)) ?_
     try go_wp2
     go_roundg k2
     case measure => have := HK1.out; have := HK2.out; omega
     case rel => exact ⟨(y133), (x7_1), (y135), (x9_1), (x10_1), (wrap64 (x11_1 + 1)), (by first | rfl | (simp; done) | (simp [*]; done)), (by first | rfl | (simp; done) | (simp [*]; done)), H', ⟨by have := HK1.out; have := HK2.out; omega⟩, ⟨by exact Kd.R_mono (Kd.R_far (p := ⟨go56, (x13_2 : Int).toNat, none⟩) (Kd.R_types HO_6.out GG56.out (by decide)) (fun _ hk => hk.2) (.int .i64 (wrap64 ((rd x8_1 x13_2) + ((rd_T33 l0 (rd x10_1 x11_1)).f0))))) (fun _ hk => trivial)⟩, ⟨by exact Kd.R_mono (Kd.R_far (p := ⟨go56, (x13_2 : Int).toNat, none⟩) (Kd.R_mono HO_7.out (fun k_ hk => (⟨hk, fun e_ => hk.1 (by rw [e_]; rfl)⟩ : _ ∧ k_ ≠ go56))) (fun _ hk => hk.2) (.int .i64 (wrap64 ((rd x8_1 x13_2) + ((rd_T33 l0 (rd x10_1 x11_1)).f0))))) (fun _ hk => ⟨hk.1.1, hk.1.2⟩)⟩, ⟨by exact HQ64.out⟩, ⟨by exact Kd.R_mono (Kd.R_far (p := ⟨go56, (x13_2 : Int).toNat, none⟩) (Kd.R_mono HO_10.out (fun k_ hk => (⟨hk, fun e_ => hk.2 (by rw [e_]; rfl)⟩ : _ ∧ k_ ≠ go56))) (fun _ hk => hk.2) (.int .i64 (wrap64 ((rd x8_1 x13_2) + ((rd_T33 l0 (rd x10_1 x11_1)).f0))))) (fun _ hk => ⟨hk.1.1, hk.1.2⟩)⟩, ⟨by repeat (first | (with_reducible first | exact HB.out | apply below_alloc | apply pw_below_drewN | apply below_drew1 | refine below_set ?_ GB56.out | refine below_set ?_ GE116.out) | exact HB.out)⟩⟩

end Go.Proofs.Ytbpeonhhlfadcaa.Print
