-- laid by hp.py (a program of this work over the kit's print), with contracts by hand for what the print does not take
import Derived.Test.YtbpeonhhlfadcaaPrint0
import Derived.Test.YtbpeonhhlfadcaaPrintHx0
namespace Go.Proofs.Ytbpeonhhlfadcaa.Print
open Go.RowKit Go.Proofs.YtbpeonhhlfadcaaW.PrintWords Go.Proofs.YtbpeonhhlfadcaaW.PrintLast Go.Proofs.YtbpeonhhlfadcaaW.PrintMore
attribute [local go_sem] max2_int min2_int max_two min_two max_three min_three max_four min_four   -- for this text's walks alone
set_option linter.unusedVariables false
set_option linter.unusedSimpArgs false

/-! ### impl_ValidPacking: function 9 -/
mutual
def impl_ValidPacking.j0 : Nat → List (S31) → Int → Int → Bool → Option (Bool)
 | 0, _, _, _, _ => none
 | k + 1, x0, x1, x2, x29 => if x29 = true then (some false) else (impl_ValidPacking.l0 k x0 x1 x2 x0 (x0.length : Int) 0)
def impl_ValidPacking.l0 : Nat → List (S31) → Int → Int → List (S31) → Int → Int → Option (Bool)
 | 0, _, _, _, _, _, _ => none
 | k + 1, x0, x1, x2, x30, x31, x32 => if x32 < x31 then (if 0 ≤ x32 then (if x32 < (x30.length : Int) then (if ((rd_T31 x30 x32).f0) < 0 then (impl_ValidPacking.j2 k x0 x1 x2 x32 x30 x31 x32 true ((rd_T31 x30 x32).f0) ((rd_T31 x30 x32).f1) ((rd_T31 x30 x32).f2) ((rd_T31 x30 x32).f3)) else (if ((rd_T31 x30 x32).f0) > x1 then (impl_ValidPacking.j2 k x0 x1 x2 x32 x30 x31 x32 true ((rd_T31 x30 x32).f0) ((rd_T31 x30 x32).f1) ((rd_T31 x30 x32).f2) ((rd_T31 x30 x32).f3)) else (if ((rd_T31 x30 x32).f1) < 0 then (impl_ValidPacking.j2 k x0 x1 x2 x32 x30 x31 x32 true ((rd_T31 x30 x32).f0) ((rd_T31 x30 x32).f1) ((rd_T31 x30 x32).f2) ((rd_T31 x30 x32).f3)) else (if ((rd_T31 x30 x32).f1) > x2 then (impl_ValidPacking.j2 k x0 x1 x2 x32 x30 x31 x32 true ((rd_T31 x30 x32).f0) ((rd_T31 x30 x32).f1) ((rd_T31 x30 x32).f2) ((rd_T31 x30 x32).f3)) else (if ((rd_T31 x30 x32).f2) < 1 then (impl_ValidPacking.j2 k x0 x1 x2 x32 x30 x31 x32 true ((rd_T31 x30 x32).f0) ((rd_T31 x30 x32).f1) ((rd_T31 x30 x32).f2) ((rd_T31 x30 x32).f3)) else (if ((rd_T31 x30 x32).f2) > (wrap64 (x1 - ((rd_T31 x30 x32).f0))) then (impl_ValidPacking.j2 k x0 x1 x2 x32 x30 x31 x32 true ((rd_T31 x30 x32).f0) ((rd_T31 x30 x32).f1) ((rd_T31 x30 x32).f2) ((rd_T31 x30 x32).f3)) else (if ((rd_T31 x30 x32).f3) < 1 then (impl_ValidPacking.j2 k x0 x1 x2 x32 x30 x31 x32 true ((rd_T31 x30 x32).f0) ((rd_T31 x30 x32).f1) ((rd_T31 x30 x32).f2) ((rd_T31 x30 x32).f3)) else (impl_ValidPacking.j2 k x0 x1 x2 x32 x30 x31 x32 (decide (((rd_T31 x30 x32).f3) > (wrap64 (x2 - ((rd_T31 x30 x32).f1))))) ((rd_T31 x30 x32).f0) ((rd_T31 x30 x32).f1) ((rd_T31 x30 x32).f2) ((rd_T31 x30 x32).f3))))))))) else (none)) else (none)) else (some true)
def impl_ValidPacking.j2 : Nat → List (S31) → Int → Int → Int → List (S31) → Int → Int → Bool → Int → Int → Int → Int → Option (Bool)
 | 0, _, _, _, _, _, _, _, _, _, _, _, _ => none
 | k + 1, x0, x1, x2, x7, x30, x31, x32, x84, x103000, x103001, x103002, x103003 => if x84 = true then (some false) else (if 0 ≤ x7 then (if x7 ≤ (x0.length : Int) then ((some (x0.take (x7 : Int).toNat : List (S31))).bind fun y103 => (impl_ValidPacking.l1 k x0 x1 x2 x30 x31 x32 y103 (y103.length : Int) 0 x103000 x103001 x103002 x103003)) else (none)) else (none))
def impl_ValidPacking.l1 : Nat → List (S31) → Int → Int → List (S31) → Int → Int → List (S31) → Int → Int → Int → Int → Int → Int → Option (Bool)
 | 0, _, _, _, _, _, _, _, _, _, _, _, _, _ => none
 | k + 1, x0, x1, x2, x30, x31, x32, x87, x88, x89, x103000, x103001, x103002, x103003 => if x89 < x88 then (if 0 ≤ x89 then (if x89 < (x87.length : Int) then (if x103000 < (wrap64 (((rd_T31 x87 x89).f0) + ((rd_T31 x87 x89).f2))) then (if ((rd_T31 x87 x89).f0) < (wrap64 (x103000 + x103002)) then (if x103001 < (wrap64 (((rd_T31 x87 x89).f1) + ((rd_T31 x87 x89).f3))) then (if ((rd_T31 x87 x89).f1) < (wrap64 (x103001 + x103003)) then (some false) else (impl_ValidPacking.l1 k x0 x1 x2 x30 x31 x32 x87 x88 (wrap64 (x89 + 1)) x103000 x103001 x103002 x103003)) else (impl_ValidPacking.l1 k x0 x1 x2 x30 x31 x32 x87 x88 (wrap64 (x89 + 1)) x103000 x103001 x103002 x103003)) else (impl_ValidPacking.l1 k x0 x1 x2 x30 x31 x32 x87 x88 (wrap64 (x89 + 1)) x103000 x103001 x103002 x103003)) else (impl_ValidPacking.l1 k x0 x1 x2 x30 x31 x32 x87 x88 (wrap64 (x89 + 1)) x103000 x103001 x103002 x103003)) else (none)) else (none)) else (impl_ValidPacking.l0 k x0 x1 x2 x30 x31 (wrap64 (x32 + 1)))
end
def impl_ValidPacking.f (k : Nat) (l0 : List (S31)) (a1 : Int) (a2 : Int) : Option (Bool) := if (l0.length : Int) > 12 then (impl_ValidPacking.j0 k l0 a1 a2 true) else (if a1 < 1 then (impl_ValidPacking.j0 k l0 a1 a2 true) else (if a1 > 64 then (impl_ValidPacking.j0 k l0 a1 a2 true) else (if a2 < 0 then (impl_ValidPacking.j0 k l0 a1 a2 true) else (impl_ValidPacking.j0 k l0 a1 a2 (decide (a2 > 192))))))
theorem impl_ValidPacking.mono_l : ∀ k, (∀ y0 y1 y2 y3, LeO (impl_ValidPacking.j0 k y0 y1 y2 y3) (impl_ValidPacking.j0 (k + 1) y0 y1 y2 y3)) ∧ (∀ y0 y1 y2 y3 y4 y5, LeO (impl_ValidPacking.l0 k y0 y1 y2 y3 y4 y5) (impl_ValidPacking.l0 (k + 1) y0 y1 y2 y3 y4 y5)) ∧ (∀ y0 y1 y2 y3 y4 y5 y6 y7 y8 y9 y10 y11, LeO (impl_ValidPacking.j2 k y0 y1 y2 y3 y4 y5 y6 y7 y8 y9 y10 y11) (impl_ValidPacking.j2 (k + 1) y0 y1 y2 y3 y4 y5 y6 y7 y8 y9 y10 y11)) ∧ (∀ y0 y1 y2 y3 y4 y5 y6 y7 y8 y9 y10 y11 y12, LeO (impl_ValidPacking.l1 k y0 y1 y2 y3 y4 y5 y6 y7 y8 y9 y10 y11 y12) (impl_ValidPacking.l1 (k + 1) y0 y1 y2 y3 y4 y5 y6 y7 y8 y9 y10 y11 y12))
 | 0 => ⟨fun _ _ _ _ r h => by simp [impl_ValidPacking.j0] at h, fun _ _ _ _ _ _ r h => by simp [impl_ValidPacking.l0] at h, fun _ _ _ _ _ _ _ _ _ _ _ _ r h => by simp [impl_ValidPacking.j2] at h, fun _ _ _ _ _ _ _ _ _ _ _ _ _ r h => by simp [impl_ValidPacking.l1] at h⟩
 | k + 1 => by
  obtain ⟨ih0, ih1, ih2, ih3⟩ := impl_ValidPacking.mono_l k
  refine ⟨?_, ?_, ?_, ?_⟩
  ·
   intro y0 y1 y2 y3
   unfold impl_ValidPacking.j0
   repeat' first
   | (with_reducible exact ih0 _ _ _ _)
   | (with_reducible exact ih1 _ _ _ _ _ _)
   | (with_reducible exact ih2 _ _ _ _ _ _ _ _ _ _ _ _)
   | (with_reducible exact ih3 _ _ _ _ _ _ _ _ _ _ _ _ _)
   | (with_reducible exact LeO.refl _)
   | (with_reducible exact LeO.none _)
   | (with_reducible refine LeO.ite ?_ ?_)
   | (with_reducible refine LeO.bind ?_ (fun _ => ?_))
   | exact ih0 _ _ _ _
   | exact ih1 _ _ _ _ _ _
   | exact ih2 _ _ _ _ _ _ _ _ _ _ _ _
   | exact ih3 _ _ _ _ _ _ _ _ _ _ _ _ _
   | exact LeO.none _
   | refine LeO.ite ?_ ?_
   | refine LeO.bind ?_ (fun _ => ?_)
  ·
   intro y0 y1 y2 y3 y4 y5
   unfold impl_ValidPacking.l0
   repeat' first
   | (with_reducible exact ih0 _ _ _ _)
   | (with_reducible exact ih1 _ _ _ _ _ _)
   | (with_reducible exact ih2 _ _ _ _ _ _ _ _ _ _ _ _)
   | (with_reducible exact ih3 _ _ _ _ _ _ _ _ _ _ _ _ _)
   | (with_reducible exact LeO.refl _)
   | (with_reducible exact LeO.none _)
   | (with_reducible refine LeO.ite ?_ ?_)
   | (with_reducible refine LeO.bind ?_ (fun _ => ?_))
   | exact ih0 _ _ _ _
   | exact ih1 _ _ _ _ _ _
   | exact ih2 _ _ _ _ _ _ _ _ _ _ _ _
   | exact ih3 _ _ _ _ _ _ _ _ _ _ _ _ _
   | exact LeO.none _
   | refine LeO.ite ?_ ?_
   | refine LeO.bind ?_ (fun _ => ?_)
  ·
   intro y0 y1 y2 y3 y4 y5 y6 y7 y8 y9 y10 y11
   unfold impl_ValidPacking.j2
   repeat' first
   | (with_reducible exact ih0 _ _ _ _)
   | (with_reducible exact ih1 _ _ _ _ _ _)
   | (with_reducible exact ih2 _ _ _ _ _ _ _ _ _ _ _ _)
   | (with_reducible exact ih3 _ _ _ _ _ _ _ _ _ _ _ _ _)
   | (with_reducible exact LeO.refl _)
   | (with_reducible exact LeO.none _)
   | (with_reducible refine LeO.ite ?_ ?_)
   | (with_reducible refine LeO.bind ?_ (fun _ => ?_))
   | exact ih0 _ _ _ _
   | exact ih1 _ _ _ _ _ _
   | exact ih2 _ _ _ _ _ _ _ _ _ _ _ _
   | exact ih3 _ _ _ _ _ _ _ _ _ _ _ _ _
   | exact LeO.none _
   | refine LeO.ite ?_ ?_
   | refine LeO.bind ?_ (fun _ => ?_)
  intro y0 y1 y2 y3 y4 y5 y6 y7 y8 y9 y10 y11 y12
  unfold impl_ValidPacking.l1
  repeat' first
  | (with_reducible exact ih0 _ _ _ _)
  | (with_reducible exact ih1 _ _ _ _ _ _)
  | (with_reducible exact ih2 _ _ _ _ _ _ _ _ _ _ _ _)
  | (with_reducible exact ih3 _ _ _ _ _ _ _ _ _ _ _ _ _)
  | (with_reducible exact LeO.refl _)
  | (with_reducible exact LeO.none _)
  | (with_reducible refine LeO.ite ?_ ?_)
  | (with_reducible refine LeO.bind ?_ (fun _ => ?_))
  | exact ih0 _ _ _ _
  | exact ih1 _ _ _ _ _ _
  | exact ih2 _ _ _ _ _ _ _ _ _ _ _ _
  | exact ih3 _ _ _ _ _ _ _ _ _ _ _ _ _
  | exact LeO.none _
  | refine LeO.ite ?_ ?_
  | refine LeO.bind ?_ (fun _ => ?_)
theorem impl_ValidPacking.mono : ∀ a0 a1 a2 k, LeO (impl_ValidPacking.f k a0 a1 a2) (impl_ValidPacking.f (k + 1) a0 a1 a2) := by
 intro a0 a1 a2 k
 obtain ⟨ih0, ih1, ih2, ih3⟩ := impl_ValidPacking.mono_l k
 unfold impl_ValidPacking.f
 repeat' first
   | (with_reducible exact ih0 _ _ _ _)
   | (with_reducible exact ih1 _ _ _ _ _ _)
   | (with_reducible exact ih2 _ _ _ _ _ _ _ _ _ _ _ _)
   | (with_reducible exact ih3 _ _ _ _ _ _ _ _ _ _ _ _ _)
   | (with_reducible exact LeO.refl _)
   | (with_reducible exact LeO.none _)
   | (with_reducible refine LeO.ite ?_ ?_)
   | (with_reducible refine LeO.bind ?_ (fun _ => ?_))
   | exact ih0 _ _ _ _
   | exact ih1 _ _ _ _ _ _
   | exact ih2 _ _ _ _ _ _ _ _ _ _ _ _
   | exact ih3 _ _ _ _ _ _ _ _ _ _ _ _ _
   | exact LeO.none _
   | refine LeO.ite ?_ ?_
   | refine LeO.bind ?_ (fun _ => ?_)
set_option maxHeartbeats 8000000 in
set_option maxRecDepth 100000 in
theorem impl_ValidPacking.calls (k : Nat) (A0 : Option Addr) (c0 : Nat) (l0 : List (S31)) (a1 : Int) (a2 : Int) (r : Bool) (w : World) (hr0 : Kd.C k31 w A0 l0.length l0) (hc0 : l0.length ≤ c0) (h : impl_ValidPacking.f k l0 a1 a2 = some r) :
  Calls Try.prog 9 #[.slice A0 l0.length c0, .int .i64 a1, .int .i64 a2] w fun e w' => e = .returned (.bool r) ∧ Below w.heap.size w w' := by
 have hu31 := Try.underlying31
 have HR0 := Aside0.mk hr0
 have HC0 := Aside0.mk hc0
 clear hr0 hc0
 have HB := Aside0.mk (Below.refl w.heap.size w)
 have H : (if (l0.length : Int) > 12 then (impl_ValidPacking.j0 k l0 a1 a2 true) else (if a1 < 1 then (impl_ValidPacking.j0 k l0 a1 a2 true) else (if a1 > 64 then (impl_ValidPacking.j0 k l0 a1 a2 true) else (if a2 < 0 then (impl_ValidPacking.j0 k l0 a1 a2 true) else (impl_ValidPacking.j0 k l0 a1 a2 (decide (a2 > 192))))))) = some r := h
 clear h
 have HC4 := Aside0.mk H
 clear H
 go_enter Try.func9, Try.ntmps9
 go_upto_region 1 with (fail)
 go_cut [29] (fun v29 wc => ∃ (kq : Nat) (x29_3 : Bool), v29 = .bool x29_3 ∧ Aside0 (impl_ValidPacking.j0 kq l0 a1 a2 x29_3 = some r) ∧ Aside0 (kq ≤ k) ∧ Aside0 (Below w.heap.size w wc))
 case first =>
  have H := HC4.out
  clear HC4
  by_cases c5 : (l0.length : Int) > 12
  ·
   rw [if_pos c5] at H
   have c5b0 : decide (12 < (l0.length : Int)) = true := decide_eq_true c5
   have c5b1 : decide (12 < l0.length) = true := decide_eq_true (by omega)
   clear c5
   (first | rw [c5b0] | (simp only [i64_w, i32_w]; rw [c5b0]) | skip)
   have H' := Aside0.mk H
   clear H
   go_wp2
   go_meet
   case rel => exact ⟨_, (true), (by first | rfl | (simp; done) | (simp [*]; done)), H', ⟨by first | omega | exact Nat.le_refl _⟩, ⟨by repeat (first | (with_reducible first | exact HB.out | apply below_alloc | apply pw_below_drewN | apply below_drew1) | exact HB.out)⟩⟩
  rw [if_neg c5] at H
  have c5b0 : decide (12 < (l0.length : Int)) = false := decide_eq_false c5
  have c5b1 : decide (12 < l0.length) = false := decide_eq_false (by omega)
  clear c5
  (first | rw [c5b0] | (simp only [i64_w, i32_w]; rw [c5b0]) | skip)
  by_cases c6 : a1 < 1
  ·
   rw [if_pos c6] at H
   have c6b0 : decide (a1 < 1) = true := decide_eq_true c6
   clear c6
   have H' := Aside0.mk H
   clear H
   go_wp2
   go_meet
   case rel => exact ⟨_, (true), (by first | rfl | (simp; done) | (simp [*]; done)), H', ⟨by first | omega | exact Nat.le_refl _⟩, ⟨by repeat (first | (with_reducible first | exact HB.out | apply below_alloc | apply pw_below_drewN | apply below_drew1) | exact HB.out)⟩⟩
  rw [if_neg c6] at H
  have c6b0 : decide (a1 < 1) = false := decide_eq_false c6
  clear c6
  by_cases c7 : a1 > 64
  ·
   rw [if_pos c7] at H
   have c7b0 : decide (64 < a1) = true := decide_eq_true c7
   clear c7
   have H' := Aside0.mk H
   clear H
   go_wp2
   go_meet
   case rel => exact ⟨_, (true), (by first | rfl | (simp; done) | (simp [*]; done)), H', ⟨by first | omega | exact Nat.le_refl _⟩, ⟨by repeat (first | (with_reducible first | exact HB.out | apply below_alloc | apply pw_below_drewN | apply below_drew1) | exact HB.out)⟩⟩
  rw [if_neg c7] at H
  have c7b0 : decide (64 < a1) = false := decide_eq_false c7
  clear c7
  by_cases c8 : a2 < 0
  ·
   rw [if_pos c8] at H
   have c8b0 : decide (a2 < 0) = true := decide_eq_true c8
   clear c8
   have H' := Aside0.mk H
   clear H
   go_wp2
   go_meet
   case rel => exact ⟨_, (true), (by first | rfl | (simp; done) | (simp [*]; done)), H', ⟨by first | omega | exact Nat.le_refl _⟩, ⟨by repeat (first | (with_reducible first | exact HB.out | apply below_alloc | apply pw_below_drewN | apply below_drew1) | exact HB.out)⟩⟩
  rw [if_neg c8] at H
  have c8b0 : decide (a2 < 0) = false := decide_eq_false c8
  clear c8
  have H' := Aside0.mk H
  clear H
  go_wp2
  go_meet
  case rel => exact ⟨_, (decide (a2 > 192)), (by first | rfl | (simp; done) | (simp [*]; done)), H', ⟨by first | omega | exact Nat.le_refl _⟩, ⟨by repeat (first | (with_reducible first | exact HB.out | apply below_alloc | apply pw_below_drewN | apply below_drew1) | exact HB.out)⟩⟩
 case rest =>
  clear HC4
  try clear p2
  try clear c5
  try clear c5b0
  try clear c5b1
  try clear c6
  try clear c6b0
  try clear c7
  try clear c7b0
  try clear c8
  try clear c8b0
  obtain ⟨kq, x29_3, rfl, HA, HJ3, HB⟩ := hcut
  cases kq with
  | zero => exact absurd HA.out (by simp [impl_ValidPacking.j0])
  | succ kj3 =>
   have H := HA.out
   clear HA
   simp only [impl_ValidPacking.j0] at H
   by_cases c9 : x29_3 = true
   ·
    subst c9
    have H1 : (some false) = some r := by rw [if_pos rfl] at H; exact H
    clear H
    have H := H1
    clear H1
    obtain rfl := Option.some.inj H
    go_wp2
    go_ret
    exact ⟨by first | rfl | (simp [errW_none, errW_some] <;> rfl) | (simp [*, errW_none, errW_some] <;> rfl), by repeat (first | (with_reducible first | exact HB.out | apply below_alloc | apply pw_below_drewN | apply below_drew1) | exact HB.out)⟩
   replace c9 := Bool.eq_false_iff.mpr c9
   subst c9
   have H1 : (impl_ValidPacking.l0 kj3 l0 a1 a2 l0 (l0.length : Int) 0) = some r := by rw [if_neg (show ¬ (false = true) by decide)] at H; exact H
   clear H
   have H := H1
   clear H1
   have H' := Aside0.mk H
   clear H
   go_wp2
   go_loopg [32] kj3 (fun kq v32 w' => ∃ (x32_2 : Int), v32 = .int .i64 x32_2 ∧ Aside0 (impl_ValidPacking.l0 kq l0 a1 a2 l0 (l0.length : Int) x32_2 = some r) ∧ Aside0 (kq ≤ kj3) ∧ Aside0 (Below w.heap.size w w'))
   case atStart => exact ⟨(0), (by first | rfl | (simp; done) | (simp [*]; done)), H', ⟨Nat.le_refl _⟩, ⟨by repeat (first | (with_reducible first | exact HB.out | apply below_alloc | apply pw_below_drewN | apply below_drew1) | exact HB.out)⟩⟩
   case round =>
    clear H'
    try clear p2
    try clear c5
    try clear c5b0
    try clear c5b1
    try clear c6
    try clear c6b0
    try clear c7
    try clear c7b0
    try clear c8
    try clear c8b0
    try clear c9
    try clear p2
    obtain ⟨x32_2, rfl, HA, HK2, HB⟩ := hrel
    cases gk with
    | zero => exact absurd HA.out (by simp [impl_ValidPacking.l0])
    | succ k2 =>
     have H := HA.out
     clear HA
     simp only [impl_ValidPacking.l0] at H
     by_cases c10 : x32_2 < (l0.length : Int)
     rotate_left
     ·
      rw [if_neg c10] at H
      have c10b0 : decide (x32_2 < (l0.length : Int)) = false := decide_eq_false c10
      clear c10
      obtain rfl := Option.some.inj H
      go_wp2
      go_ret
      exact ⟨by first | rfl | (simp [errW_none, errW_some] <;> rfl) | (simp [*, errW_none, errW_some] <;> rfl), by repeat (first | (with_reducible first | exact HB.out | apply below_alloc | apply pw_below_drewN | apply below_drew1) | exact HB.out)⟩
     rw [if_pos c10] at H
     have c10b0 : decide (x32_2 < (l0.length : Int)) = true := decide_eq_true c10
     clear c10
     by_cases c11 : 0 ≤ x32_2
     rotate_left
     ·
      rw [if_neg c11] at H
      exact absurd H (by simp)
     rw [if_pos c11] at H
     have c11b0 : decide (0 ≤ x32_2) = true := decide_eq_true c11
     clear c11
     by_cases c12 : x32_2 < (l0.length : Int)
     rotate_left
     ·
      rw [if_neg c12] at H
      exact absurd H (by simp)
     rw [if_pos c12] at H
     have c12b0 : decide (x32_2 < (l0.length : Int)) = true := decide_eq_true c12
     clear c12
     have HC13 := Aside0.mk H
     clear H
     have p101 : 0 ≤ (x32_2 : Int) := of_decide_eq_true (by first | with_reducible assumption | assumption)
     have q101 : x32_2 < (l0.length : Int) := of_decide_eq_true (by first | with_reducible assumption | assumption)
     obtain ⟨ad101, e101, hx101_0, hx101_1, hx101_2, hx101_3⟩ := at_T31 HR0.out x32_2 p101 q101
     cases e101
     replace hx101_0 := (HB.out.cell (World.block_lt_of_cell? w _ hx101_0)).trans hx101_0
     replace hx101_1 := (HB.out.cell (World.block_lt_of_cell? w _ hx101_1)).trans hx101_1
     replace hx101_2 := (HB.out.cell (World.block_lt_of_cell? w _ hx101_2)).trans hx101_2
     replace hx101_3 := (HB.out.cell (World.block_lt_of_cell? w _ hx101_3)).trans hx101_3
     replace p101 := eq_true p101
     replace q101 := eq_true q101
     go_upto_region 6 with (first | ((with_reducible refine gate_dst (N := 8) rfl ?_); refine box_event ?hg (N := 8) ?hd (cs := #[.int .i64 0, .int .i64 0, .int .i64 0, .int .i64 0]) (t := 31) ?hr ?_; (case hd => rfl); (case hg => rfl); (case hr => first | (go_simp; done) | (go_simp; rfl)); intro gb102 hg w14 hbox hb; have BK102 := am_ (hbox); have GW102 := am_ ((by rw [hg]; exact (below_size (by repeat (first | (with_reducible first | exact HB.out | apply below_alloc | apply pw_below_drewN | apply below_drew1) | exact HB.out))) : w.heap.size ≤ gb102)); have GE102 := GW102; replace HB := am_ (below_step (by repeat (first | (with_reducible first | exact HB.out | apply below_alloc | apply pw_below_drewN | apply below_drew1) | exact HB.out)) hb); clear hb hbox hg; obtain ⟨hcz15_0, hcz15_1, hcz15_2, hcz15_3, hfz15_0, hfz15_1, hfz15_2, hfz15_3⟩ := blk4_ BK102.out))
     (try simp only [Act.put, List.setIfInBounds_toArray, List.set_cons_zero, List.set_cons_succ])
     go_cut [84] (fun v84 wc => ∃ (kq : Nat) (x84_12 : Bool), v84 = .bool x84_12 ∧ Aside0 (impl_ValidPacking.j2 kq l0 a1 a2 x32_2 l0 (l0.length : Int) x32_2 x84_12 ((rd_T31 l0 x32_2).f0) ((rd_T31 l0 x32_2).f1) ((rd_T31 l0 x32_2).f2) ((rd_T31 l0 x32_2).f3) = some r) ∧ Aside0 (kq ≤ k2) ∧ Aside0 (wc.heap[gb102]? = some (.cells #[.int .i64 ((rd_T31 l0 x32_2).f0), .int .i64 ((rd_T31 l0 x32_2).f1), .int .i64 ((rd_T31 l0 x32_2).f2), .int .i64 ((rd_T31 l0 x32_2).f3)] 31 (0, 0))) ∧ Aside0 (Below w.heap.size w wc))
     case first =>
      have H := HC13.out
      clear HC13
      by_cases c16 : ((rd_T31 l0 x32_2).f0) < 0
      ·
       rw [if_pos c16] at H
       have c16b0 : decide (((rd_T31 l0 x32_2).f0) < 0) = true := decide_eq_true c16
       clear c16
       (first | rw [c16b0] | (simp only [i64_w, i32_w]; rw [c16b0]) | skip)
       have H' := Aside0.mk H
       clear H
       obtain ⟨hcz17_0, hcz17_1, hcz17_2, hcz17_3, hfz17_0, hfz17_1, hfz17_2, hfz17_3⟩ := blk4_ BK102.out
       go_wp2
       go_meet
       case rel => exact ⟨_, (true), (by first | rfl | (simp; done) | (simp [*]; done)), H', ⟨by have := HJ3.out; have := HK2.out; first | omega | exact Nat.le_refl _⟩, ⟨by exact put4_ BK102.out _ _ _ _⟩, ⟨by repeat (first | (with_reducible first | exact HB.out | apply below_alloc | apply pw_below_drewN | apply below_drew1 | refine below_set ?_ GE102.out) | exact HB.out)⟩⟩
      rw [if_neg c16] at H
      have c16b0 : decide (((rd_T31 l0 x32_2).f0) < 0) = false := decide_eq_false c16
      clear c16
      (first | rw [c16b0] | (simp only [i64_w, i32_w]; rw [c16b0]) | skip)
      by_cases c18 : ((rd_T31 l0 x32_2).f0) > a1
      ·
       rw [if_pos c18] at H
       have c18b0 : decide (a1 < ((rd_T31 l0 x32_2).f0)) = true := decide_eq_true c18
       clear c18
       have H' := Aside0.mk H
       clear H
       obtain ⟨hcz19_0, hcz19_1, hcz19_2, hcz19_3, hfz19_0, hfz19_1, hfz19_2, hfz19_3⟩ := blk4_ BK102.out
       go_wp2
       go_meet
       case rel => exact ⟨_, (true), (by first | rfl | (simp; done) | (simp [*]; done)), H', ⟨by have := HJ3.out; have := HK2.out; first | omega | exact Nat.le_refl _⟩, ⟨by exact put4_ BK102.out _ _ _ _⟩, ⟨by repeat (first | (with_reducible first | exact HB.out | apply below_alloc | apply pw_below_drewN | apply below_drew1 | refine below_set ?_ GE102.out) | exact HB.out)⟩⟩
      rw [if_neg c18] at H
      have c18b0 : decide (a1 < ((rd_T31 l0 x32_2).f0)) = false := decide_eq_false c18
      clear c18
      by_cases c20 : ((rd_T31 l0 x32_2).f1) < 0
      ·
       rw [if_pos c20] at H
       have c20b0 : decide (((rd_T31 l0 x32_2).f1) < 0) = true := decide_eq_true c20
       clear c20
       have H' := Aside0.mk H
       clear H
       obtain ⟨hcz21_0, hcz21_1, hcz21_2, hcz21_3, hfz21_0, hfz21_1, hfz21_2, hfz21_3⟩ := blk4_ BK102.out
       go_wp2
       go_meet
       case rel => exact ⟨_, (true), (by first | rfl | (simp; done) | (simp [*]; done)), H', ⟨by have := HJ3.out; have := HK2.out; first | omega | exact Nat.le_refl _⟩, ⟨by exact put4_ BK102.out _ _ _ _⟩, ⟨by repeat (first | (with_reducible first | exact HB.out | apply below_alloc | apply pw_below_drewN | apply below_drew1 | refine below_set ?_ GE102.out) | exact HB.out)⟩⟩
      rw [if_neg c20] at H
      have c20b0 : decide (((rd_T31 l0 x32_2).f1) < 0) = false := decide_eq_false c20
      clear c20
      by_cases c22 : ((rd_T31 l0 x32_2).f1) > a2
      ·
       rw [if_pos c22] at H
       have c22b0 : decide (a2 < ((rd_T31 l0 x32_2).f1)) = true := decide_eq_true c22
       clear c22
       have H' := Aside0.mk H
       clear H
       obtain ⟨hcz23_0, hcz23_1, hcz23_2, hcz23_3, hfz23_0, hfz23_1, hfz23_2, hfz23_3⟩ := blk4_ BK102.out
       go_wp2
       go_meet
       case rel => exact ⟨_, (true), (by first | rfl | (simp; done) | (simp [*]; done)), H', ⟨by have := HJ3.out; have := HK2.out; first | omega | exact Nat.le_refl _⟩, ⟨by exact put4_ BK102.out _ _ _ _⟩, ⟨by repeat (first | (with_reducible first | exact HB.out | apply below_alloc | apply pw_below_drewN | apply below_drew1 | refine below_set ?_ GE102.out) | exact HB.out)⟩⟩
      rw [if_neg c22] at H
      have c22b0 : decide (a2 < ((rd_T31 l0 x32_2).f1)) = false := decide_eq_false c22
      clear c22
      by_cases c24 : ((rd_T31 l0 x32_2).f2) < 1
      ·
       rw [if_pos c24] at H
       have c24b0 : decide (((rd_T31 l0 x32_2).f2) < 1) = true := decide_eq_true c24
       clear c24
       have H' := Aside0.mk H
       clear H
       obtain ⟨hcz25_0, hcz25_1, hcz25_2, hcz25_3, hfz25_0, hfz25_1, hfz25_2, hfz25_3⟩ := blk4_ BK102.out
       go_wp2
       go_meet
       case rel => exact ⟨_, (true), (by first | rfl | (simp; done) | (simp [*]; done)), H', ⟨by have := HJ3.out; have := HK2.out; first | omega | exact Nat.le_refl _⟩, ⟨by exact put4_ BK102.out _ _ _ _⟩, ⟨by repeat (first | (with_reducible first | exact HB.out | apply below_alloc | apply pw_below_drewN | apply below_drew1 | refine below_set ?_ GE102.out) | exact HB.out)⟩⟩
      rw [if_neg c24] at H
      have c24b0 : decide (((rd_T31 l0 x32_2).f2) < 1) = false := decide_eq_false c24
      clear c24
      by_cases c26 : ((rd_T31 l0 x32_2).f2) > (wrap64 (a1 - ((rd_T31 l0 x32_2).f0)))
      ·
       rw [if_pos c26] at H
       have c26b0 : decide ((wrap64 (a1 - ((rd_T31 l0 x32_2).f0))) < ((rd_T31 l0 x32_2).f2)) = true := decide_eq_true c26
       clear c26
       have H' := Aside0.mk H
       clear H
       obtain ⟨hcz27_0, hcz27_1, hcz27_2, hcz27_3, hfz27_0, hfz27_1, hfz27_2, hfz27_3⟩ := blk4_ BK102.out
       go_wp2
       go_meet
       case rel => exact ⟨_, (true), (by first | rfl | (simp; done) | (simp [*]; done)), H', ⟨by have := HJ3.out; have := HK2.out; first | omega | exact Nat.le_refl _⟩, ⟨by exact put4_ BK102.out _ _ _ _⟩, ⟨by repeat (first | (with_reducible first | exact HB.out | apply below_alloc | apply pw_below_drewN | apply below_drew1 | refine below_set ?_ GE102.out) | exact HB.out)⟩⟩
      rw [if_neg c26] at H
      have c26b0 : decide ((wrap64 (a1 - ((rd_T31 l0 x32_2).f0))) < ((rd_T31 l0 x32_2).f2)) = false := decide_eq_false c26
      clear c26
      by_cases c28 : ((rd_T31 l0 x32_2).f3) < 1
      ·
       rw [if_pos c28] at H
       have c28b0 : decide (((rd_T31 l0 x32_2).f3) < 1) = true := decide_eq_true c28
       clear c28
       have H' := Aside0.mk H
       clear H
       obtain ⟨hcz29_0, hcz29_1, hcz29_2, hcz29_3, hfz29_0, hfz29_1, hfz29_2, hfz29_3⟩ := blk4_ BK102.out
       go_wp2
       go_meet
       case rel => exact ⟨_, (true), (by first | rfl | (simp; done) | (simp [*]; done)), H', ⟨by have := HJ3.out; have := HK2.out; first | omega | exact Nat.le_refl _⟩, ⟨by exact put4_ BK102.out _ _ _ _⟩, ⟨by repeat (first | (with_reducible first | exact HB.out | apply below_alloc | apply pw_below_drewN | apply below_drew1 | refine below_set ?_ GE102.out) | exact HB.out)⟩⟩
      rw [if_neg c28] at H
      have c28b0 : decide (((rd_T31 l0 x32_2).f3) < 1) = false := decide_eq_false c28
      clear c28
      have H' := Aside0.mk H
      clear H
      obtain ⟨hcz30_0, hcz30_1, hcz30_2, hcz30_3, hfz30_0, hfz30_1, hfz30_2, hfz30_3⟩ := blk4_ BK102.out
      go_wp2
      go_meet
      case rel => exact ⟨_, (decide (((rd_T31 l0 x32_2).f3) > (wrap64 (a2 - ((rd_T31 l0 x32_2).f1))))), (by first | rfl | (simp; done) | (simp [*]; done)), H', ⟨by have := HJ3.out; have := HK2.out; first | omega | exact Nat.le_refl _⟩, ⟨by exact put4_ BK102.out _ _ _ _⟩, ⟨by repeat (first | (with_reducible first | exact HB.out | apply below_alloc | apply pw_below_drewN | apply below_drew1 | refine below_set ?_ GE102.out) | exact HB.out)⟩⟩
     case rest =>
      clear HC13
      try clear c1
      try clear p1
      try clear q1
      try clear hx1
      try clear c2
      try clear p2
      try clear c5
      try clear c5b0
      try clear c5b1
      try clear c6
      try clear c6b0
      try clear p6
      try clear c7
      try clear c7b0
      try clear c8
      try clear c8b0
      try clear c9
      try clear c10
      try clear c10b0
      try clear p10
      try clear q10
      try clear hx10
      try clear c11
      try clear c11b0
      try clear c12
      try clear c12b0
      try clear c16
      try clear c16b0
      try clear c18
      try clear c18b0
      try clear c20
      try clear c20b0
      try clear c22
      try clear c22b0
      try clear c24
      try clear c24b0
      try clear c26
      try clear c26b0
      try clear c28
      try clear c28b0
      try clear hcz15_0
      try clear hcz15_1
      try clear hcz15_2
      try clear hcz15_3
      try clear hcz17_0
      try clear hcz17_1
      try clear hcz17_2
      try clear hcz17_3
      try clear hcz19_0
      try clear hcz19_1
      try clear hcz19_2
      try clear hcz19_3
      try clear hcz21_0
      try clear hcz21_1
      try clear hcz21_2
      try clear hcz21_3
      try clear hcz23_0
      try clear hcz23_1
      try clear hcz23_2
      try clear hcz23_3
      try clear hcz25_0
      try clear hcz25_1
      try clear hcz25_2
      try clear hcz25_3
      try clear hcz27_0
      try clear hcz27_1
      try clear hcz27_2
      try clear hcz27_3
      try clear hcz29_0
      try clear hcz29_1
      try clear hcz29_2
      try clear hcz29_3
      try clear hcz30_0
      try clear hcz30_1
      try clear hcz30_2
      try clear hcz30_3
      try clear hfz15_0
      try clear hfz15_1
      try clear hfz15_2
      try clear hfz15_3
      try clear hfz17_0
      try clear hfz17_1
      try clear hfz17_2
      try clear hfz17_3
      try clear hfz19_0
      try clear hfz19_1
      try clear hfz19_2
      try clear hfz19_3
      try clear hfz21_0
      try clear hfz21_1
      try clear hfz21_2
      try clear hfz21_3
      try clear hfz23_0
      try clear hfz23_1
      try clear hfz23_2
      try clear hfz23_3
      try clear hfz25_0
      try clear hfz25_1
      try clear hfz25_2
      try clear hfz25_3
      try clear hfz27_0
      try clear hfz27_1
      try clear hfz27_2
      try clear hfz27_3
      try clear hfz29_0
      try clear hfz29_1
      try clear hfz29_2
      try clear hfz29_3
      try clear hfz30_0
      try clear hfz30_1
      try clear hfz30_2
      try clear hfz30_3
      try clear hx101_0
      try clear hx101_1
      try clear hx101_2
      try clear hx101_3
      try clear p101
      try clear p2
      try clear q101
      obtain ⟨kq, x84_12, rfl, HA, HJ12, BK102, HB⟩ := hcut
      cases kq with
      | zero => exact absurd HA.out (by simp [impl_ValidPacking.j2])
      | succ kj12 =>
       have H := HA.out
       clear HA
       simp only [impl_ValidPacking.j2] at H
       by_cases c31 : x84_12 = true
       ·
        subst c31
        have H1 : (some false) = some r := by rw [if_pos rfl] at H; exact H
        clear H
        have H := H1
        clear H1
        obtain rfl := Option.some.inj H
        go_wp2
        go_ret
        exact ⟨by first | rfl | (simp [errW_none, errW_some] <;> rfl) | (simp [*, errW_none, errW_some] <;> rfl), by repeat (first | (with_reducible first | exact HB.out | apply below_alloc | apply pw_below_drewN | apply below_drew1 | refine below_set ?_ GE102.out) | exact HB.out)⟩
       replace c31 := Bool.eq_false_iff.mpr c31
       subst c31
       have H1 : (if 0 ≤ x32_2 then (if x32_2 ≤ (l0.length : Int) then ((some (l0.take (x32_2 : Int).toNat : List (S31))).bind fun y103 => (impl_ValidPacking.l1 kj12 l0 a1 a2 l0 (l0.length : Int) x32_2 y103 (y103.length : Int) 0 ((rd_T31 l0 x32_2).f0) ((rd_T31 l0 x32_2).f1) ((rd_T31 l0 x32_2).f2) ((rd_T31 l0 x32_2).f3))) else (none)) else (none)) = some r := by rw [if_neg (show ¬ (false = true) by decide)] at H; exact H
       clear H
       have H := H1
       clear H1
       by_cases c32 : 0 ≤ x32_2
       rotate_left
       ·
        rw [if_neg c32] at H
        exact absurd H (by simp)
       rw [if_pos c32] at H
       have c32b0 := eq_true c32
       have c32b1 : decide (0 ≤ x32_2) = true := decide_eq_true c32
       clear c32
       by_cases c33 : x32_2 ≤ (l0.length : Int)
       rotate_left
       ·
        rw [if_neg c33] at H
        exact absurd H (by simp)
       rw [if_pos c33] at H
       have c33b0 := eq_true c33
       have c33b1 : decide (x32_2 ≤ (l0.length : Int)) = true := decide_eq_true c33
       clear c33
       obtain ⟨y103, hy103⟩ : ∃ y_ : List (S31), y_ = (l0.take (x32_2 : Int).toNat) := ⟨_, rfl⟩
       replace H : (impl_ValidPacking.l1 kj12 l0 a1 a2 l0 (l0.length : Int) x32_2 y103 (y103.length : Int) 0 ((rd_T31 l0 x32_2).f0) ((rd_T31 l0 x32_2).f1) ((rd_T31 l0 x32_2).f2) ((rd_T31 l0 x32_2).f3)) = some r := by first | (rw [hy103]; with_reducible exact H) | (have H2_ := (Option.bind_some _ _).symm.trans H; rw [hy103]; with_reducible exact H2_) | (have H2_ := (Option.bind_some _ _).symm.trans H; with_reducible exact H2_) | with_reducible exact H | (rw [hy103]; exact H) | exact H
       have Ny103 := Aside0.mk hy103
       clear hy103
       have H' := Aside0.mk H
       clear H
       have q34 : (x32_2 : Int) ≤ ((l0.length : Int) : Int) := of_decide_eq_true (by first | with_reducible assumption | assumption)
       obtain ⟨i034, hi034, _, hsz34, _⟩ := info_parts info31
       have hroom34 : l0.length ≤ c0 := HC0.out
       have hC34 : Kd.C k31 _ (some ad101) l0.length l0 := HR0.out
       have hcut34 := cut_to (P := Try.prog) 26 31 .i64 Try.underlying26 hi034 (some ad101) l0.length c0 x32_2 (of_decide_eq_true (by first | with_reducible assumption | assumption)) q34 hroom34
       have hr34 := Kd.C_take (m := (x32_2 : Int).toNat) hC34 (by omega)
       have hy34 : y103.length = (x32_2 : Int).toNat := (by rw [Ny103.out, List.length_take]; omega)
       rw [← Ny103.out] at hr34
       rw [← hy34] at hcut34
       have HR106 := Aside0.mk hr34
       have HC106 := Aside0.mk (show y103.length ≤ c0 from by omega)
       clear hr34 hC34 hroom34 hi034 hsz34
       have KY34 := Aside0.mk hy34
       clear hy34
       replace q34 := eq_true q34
       go_wp2
       go_loopg [89] kj12 (fun kq v89 w' => ∃ (x89_4 : Int), v89 = .int .i64 x89_4 ∧ Aside0 (impl_ValidPacking.l1 kq l0 a1 a2 l0 (l0.length : Int) x32_2 y103 (y103.length : Int) x89_4 ((rd_T31 l0 x32_2).f0) ((rd_T31 l0 x32_2).f1) ((rd_T31 l0 x32_2).f2) ((rd_T31 l0 x32_2).f3) = some r) ∧ Aside0 (kq ≤ kj12) ∧ Aside0 (w'.heap[gb102]? = some (.cells #[.int .i64 ((rd_T31 l0 x32_2).f0), .int .i64 ((rd_T31 l0 x32_2).f1), .int .i64 ((rd_T31 l0 x32_2).f2), .int .i64 ((rd_T31 l0 x32_2).f3)] 31 (0, 0))) ∧ Aside0 (Below w.heap.size w w'))
       case atStart => exact ⟨(0), (by first | rfl | (simp; done) | (simp [*]; done)), H', ⟨Nat.le_refl _⟩, ⟨by exact BK102.out⟩, ⟨by repeat (first | (with_reducible first | exact HB.out | apply below_alloc | apply pw_below_drewN | apply below_drew1 | refine below_set ?_ GE102.out) | exact HB.out)⟩⟩
       case round =>
        clear H'
        try clear c1
        try clear p1
        try clear q1
        try clear hx1
        try clear c2
        try clear p2
        try clear c3
        try clear q3
        try clear c5
        try clear c5b0
        try clear c5b1
        try clear c6
        try clear c6b0
        try clear p6
        try clear c7
        try clear c7b0
        try clear c8
        try clear c8b0
        try clear c9
        try clear c10
        try clear c10b0
        try clear p10
        try clear q10
        try clear hx10
        try clear c11
        try clear c11b0
        try clear c12
        try clear c12b0
        try clear c16
        try clear c16b0
        try clear c18
        try clear c18b0
        try clear c20
        try clear c20b0
        try clear c22
        try clear c22b0
        try clear c24
        try clear c24b0
        try clear c26
        try clear c26b0
        try clear c28
        try clear c28b0
        try clear c31
        try clear c32
        try clear c32b0
        try clear c32b1
        try clear c33
        try clear c33b0
        try clear c33b1
        try clear q34
        try clear hcz15_0
        try clear hcz15_1
        try clear hcz15_2
        try clear hcz15_3
        try clear hcz17_0
        try clear hcz17_1
        try clear hcz17_2
        try clear hcz17_3
        try clear hcz19_0
        try clear hcz19_1
        try clear hcz19_2
        try clear hcz19_3
        try clear hcz21_0
        try clear hcz21_1
        try clear hcz21_2
        try clear hcz21_3
        try clear hcz23_0
        try clear hcz23_1
        try clear hcz23_2
        try clear hcz23_3
        try clear hcz25_0
        try clear hcz25_1
        try clear hcz25_2
        try clear hcz25_3
        try clear hcz27_0
        try clear hcz27_1
        try clear hcz27_2
        try clear hcz27_3
        try clear hcz29_0
        try clear hcz29_1
        try clear hcz29_2
        try clear hcz29_3
        try clear hcz30_0
        try clear hcz30_1
        try clear hcz30_2
        try clear hcz30_3
        try clear hfz15_0
        try clear hfz15_1
        try clear hfz15_2
        try clear hfz15_3
        try clear hfz17_0
        try clear hfz17_1
        try clear hfz17_2
        try clear hfz17_3
        try clear hfz19_0
        try clear hfz19_1
        try clear hfz19_2
        try clear hfz19_3
        try clear hfz21_0
        try clear hfz21_1
        try clear hfz21_2
        try clear hfz21_3
        try clear hfz23_0
        try clear hfz23_1
        try clear hfz23_2
        try clear hfz23_3
        try clear hfz25_0
        try clear hfz25_1
        try clear hfz25_2
        try clear hfz25_3
        try clear hfz27_0
        try clear hfz27_1
        try clear hfz27_2
        try clear hfz27_3
        try clear hfz29_0
        try clear hfz29_1
        try clear hfz29_2
        try clear hfz29_3
        try clear hfz30_0
        try clear hfz30_1
        try clear hfz30_2
        try clear hfz30_3
        try clear hx101_0
        try clear hx101_1
        try clear hx101_2
        try clear hx101_3
        try clear p1
        try clear p10
        try clear p101
        try clear p2
        try clear p6
        try clear q1
        try clear q10
        try clear q101
        try clear q34
        obtain ⟨x89_4, rfl, HA, HK4, BK102, HB⟩ := hrel
        cases gk with
        | zero => exact absurd HA.out (by simp [impl_ValidPacking.l1])
        | succ k4 =>
         have H := HA.out
         clear HA
         simp only [impl_ValidPacking.l1] at H
         by_cases c35 : x89_4 < (y103.length : Int)
         rotate_left
         ·
          rw [if_neg c35] at H
          have c35b0 : decide (x89_4 < (y103.length : Int)) = false := decide_eq_false c35
          clear c35
          have H' := Aside0.mk H
          clear H
          go_wp2
          go_roundg k4
          case measure => have := HJ3.out; have := HK2.out; have := HJ12.out; have := HK4.out; omega
          case rel => exact ⟨(wrap64 (x32_2 + 1)), (by first | rfl | (simp; done) | (simp [*]; done)), H', ⟨by have := HJ3.out; have := HK2.out; have := HJ12.out; have := HK4.out; omega⟩, ⟨by repeat (first | (with_reducible first | exact HB.out | apply below_alloc | apply pw_below_drewN | apply below_drew1 | refine below_set ?_ GE102.out) | exact HB.out)⟩⟩
         rw [if_pos c35] at H
         have c35b0 : decide (x89_4 < (y103.length : Int)) = true := decide_eq_true c35
         clear c35
         by_cases c36 : 0 ≤ x89_4
         rotate_left
         ·
          rw [if_neg c36] at H
          exact absurd H (by simp)
         rw [if_pos c36] at H
         have c36b0 : decide (0 ≤ x89_4) = true := decide_eq_true c36
         clear c36
         by_cases c37 : x89_4 < (y103.length : Int)
         rotate_left
         ·
          rw [if_neg c37] at H
          exact absurd H (by simp)
         rw [if_pos c37] at H
         have c37b0 : decide (x89_4 < (y103.length : Int)) = true := decide_eq_true c37
         clear c37
         by_cases c38 : ((rd_T31 l0 x32_2).f0) < (wrap64 (((rd_T31 y103 x89_4).f0) + ((rd_T31 y103 x89_4).f2)))
         rotate_left
         ·
          rw [if_neg c38] at H
          have c38b0 : decide (((rd_T31 l0 x32_2).f0) < (wrap64 (((rd_T31 y103 x89_4).f0) + ((rd_T31 y103 x89_4).f2)))) = false := decide_eq_false c38
          clear c38
          have H' := Aside0.mk H
          clear H
          have p107 : 0 ≤ (x89_4 : Int) := of_decide_eq_true (by first | with_reducible assumption | assumption)
          have q107 : x89_4 < (y103.length : Int) := of_decide_eq_true (by first | with_reducible assumption | assumption)
          obtain ⟨ad107, e107, hx107_0, hx107_1, hx107_2, hx107_3⟩ := at_T31 HR106.out x89_4 p107 q107
          obtain rfl : ad101 = ad107 := (by injection e107)
          replace hx107_0 := (HB.out.cell (World.block_lt_of_cell? w _ hx107_0)).trans hx107_0
          replace hx107_1 := (HB.out.cell (World.block_lt_of_cell? w _ hx107_1)).trans hx107_1
          replace hx107_2 := (HB.out.cell (World.block_lt_of_cell? w _ hx107_2)).trans hx107_2
          replace hx107_3 := (HB.out.cell (World.block_lt_of_cell? w _ hx107_3)).trans hx107_3
          replace p107 := eq_true p107
          replace q107 := eq_true q107
          go_wp2_with (first | ((with_reducible refine gate_dst (N := 10) rfl ?_); refine box_event ?hg (N := 10) ?hd (cs := #[.int .i64 0, .int .i64 0, .int .i64 0, .int .i64 0]) (t := 31) ?hr ?_; (case hd => rfl); (case hg => rfl); (case hr => first | (go_simp; done) | (go_simp; rfl)); intro gb108 hg w58 hbox hb; have BK108 := am_ (hbox); have GW108 := am_ ((by rw [hg]; exact (below_size (by repeat (first | (with_reducible first | exact HB.out | apply below_alloc | apply pw_below_drewN | apply below_drew1 | refine below_set ?_ GE102.out) | exact HB.out))) : w.heap.size ≤ gb108)); have GE108 := GW108; replace HB := am_ (below_step (by repeat (first | (with_reducible first | exact HB.out | apply below_alloc | apply pw_below_drewN | apply below_drew1 | refine below_set ?_ GE102.out) | exact HB.out)) hb); have NB102_108 := am_ ((by rw [hg]; exact Nat.ne_of_lt (blk_lt (by exact BK102.out)) : gb102 ≠ gb108)); have NB108_102 := am_ ((by rw [hg]; exact Nat.ne_of_gt (blk_lt (by exact BK102.out)) : gb108 ≠ gb102)); replace BK102 := am_ (blk_below (by exact BK102.out) hb); clear hb hbox hg; have hnb59 := NB108_102.out; have hnc59 := NB102_108.out; obtain ⟨hcz60_0, hcz60_1, hcz60_2, hcz60_3, hfz60_0, hfz60_1, hfz60_2, hfz60_3⟩ := blk4_ BK108.out; obtain ⟨hcz61_0, hcz61_1, hcz61_2, hcz61_3, hfz61_0, hfz61_1, hfz61_2, hfz61_3⟩ := blk4_ BK102.out))
          go_roundg k4
          case measure => have := HJ3.out; have := HK2.out; have := HJ12.out; have := HK4.out; omega
          case rel => exact ⟨(wrap64 (x89_4 + 1)), (by first | rfl | (simp; done) | (simp [*]; done)), H', ⟨by have := HJ3.out; have := HK2.out; have := HJ12.out; have := HK4.out; omega⟩, ⟨by exact far4_ BK102.out NB102_108.out _ _ _ _⟩, ⟨by repeat (first | (with_reducible first | exact HB.out | apply below_alloc | apply pw_below_drewN | apply below_drew1 | refine below_set ?_ GE102.out | refine below_set ?_ GE108.out) | exact HB.out)⟩⟩
         rw [if_pos c38] at H
         have c38b0 : decide (((rd_T31 l0 x32_2).f0) < (wrap64 (((rd_T31 y103 x89_4).f0) + ((rd_T31 y103 x89_4).f2)))) = true := decide_eq_true c38
         clear c38
         by_cases c39 : ((rd_T31 y103 x89_4).f0) < (wrap64 (((rd_T31 l0 x32_2).f0) + ((rd_T31 l0 x32_2).f2)))
         rotate_left
         ·
          rw [if_neg c39] at H
          have c39b0 : decide (((rd_T31 y103 x89_4).f0) < (wrap64 (((rd_T31 l0 x32_2).f0) + ((rd_T31 l0 x32_2).f2)))) = false := decide_eq_false c39
          clear c39
          have H' := Aside0.mk H
          clear H
          have p107 : 0 ≤ (x89_4 : Int) := of_decide_eq_true (by first | with_reducible assumption | assumption)
          have q107 : x89_4 < (y103.length : Int) := of_decide_eq_true (by first | with_reducible assumption | assumption)
          obtain ⟨ad107, e107, hx107_0, hx107_1, hx107_2, hx107_3⟩ := at_T31 HR106.out x89_4 p107 q107
          obtain rfl : ad101 = ad107 := (by injection e107)
          replace hx107_0 := (HB.out.cell (World.block_lt_of_cell? w _ hx107_0)).trans hx107_0
          replace hx107_1 := (HB.out.cell (World.block_lt_of_cell? w _ hx107_1)).trans hx107_1
          replace hx107_2 := (HB.out.cell (World.block_lt_of_cell? w _ hx107_2)).trans hx107_2
          replace hx107_3 := (HB.out.cell (World.block_lt_of_cell? w _ hx107_3)).trans hx107_3
          replace p107 := eq_true p107
          replace q107 := eq_true q107
          go_wp2_with (first | ((with_reducible refine gate_dst (N := 10) rfl ?_); refine box_event ?hg (N := 10) ?hd (cs := #[.int .i64 0, .int .i64 0, .int .i64 0, .int .i64 0]) (t := 31) ?hr ?_; (case hd => rfl); (case hg => rfl); (case hr => first | (go_simp; done) | (go_simp; rfl)); intro gb108 hg w54 hbox hb; have BK108 := am_ (hbox); have GW108 := am_ ((by rw [hg]; exact (below_size (by repeat (first | (with_reducible first | exact HB.out | apply below_alloc | apply pw_below_drewN | apply below_drew1 | refine below_set ?_ GE102.out) | exact HB.out))) : w.heap.size ≤ gb108)); have GE108 := GW108; replace HB := am_ (below_step (by repeat (first | (with_reducible first | exact HB.out | apply below_alloc | apply pw_below_drewN | apply below_drew1 | refine below_set ?_ GE102.out) | exact HB.out)) hb); have NB102_108 := am_ ((by rw [hg]; exact Nat.ne_of_lt (blk_lt (by exact BK102.out)) : gb102 ≠ gb108)); have NB108_102 := am_ ((by rw [hg]; exact Nat.ne_of_gt (blk_lt (by exact BK102.out)) : gb108 ≠ gb102)); replace BK102 := am_ (blk_below (by exact BK102.out) hb); clear hb hbox hg; have hnb55 := NB108_102.out; have hnc55 := NB102_108.out; obtain ⟨hcz56_0, hcz56_1, hcz56_2, hcz56_3, hfz56_0, hfz56_1, hfz56_2, hfz56_3⟩ := blk4_ BK108.out; obtain ⟨hcz57_0, hcz57_1, hcz57_2, hcz57_3, hfz57_0, hfz57_1, hfz57_2, hfz57_3⟩ := blk4_ BK102.out))
          go_roundg k4
          case measure => have := HJ3.out; have := HK2.out; have := HJ12.out; have := HK4.out; omega
          case rel => exact ⟨(wrap64 (x89_4 + 1)), (by first | rfl | (simp; done) | (simp [*]; done)), H', ⟨by have := HJ3.out; have := HK2.out; have := HJ12.out; have := HK4.out; omega⟩, ⟨by exact far4_ BK102.out NB102_108.out _ _ _ _⟩, ⟨by repeat (first | (with_reducible first | exact HB.out | apply below_alloc | apply pw_below_drewN | apply below_drew1 | refine below_set ?_ GE102.out | refine below_set ?_ GE108.out) | exact HB.out)⟩⟩
         rw [if_pos c39] at H
         have c39b0 : decide (((rd_T31 y103 x89_4).f0) < (wrap64 (((rd_T31 l0 x32_2).f0) + ((rd_T31 l0 x32_2).f2)))) = true := decide_eq_true c39
         clear c39
         by_cases c40 : ((rd_T31 l0 x32_2).f1) < (wrap64 (((rd_T31 y103 x89_4).f1) + ((rd_T31 y103 x89_4).f3)))
         ·
          rw [if_pos c40] at H
          have c40b0 : decide (((rd_T31 l0 x32_2).f1) < (wrap64 (((rd_T31 y103 x89_4).f1) + ((rd_T31 y103 x89_4).f3)))) = true := decide_eq_true c40
          clear c40
          by_cases c41 : ((rd_T31 y103 x89_4).f1) < (wrap64 (((rd_T31 l0 x32_2).f1) + ((rd_T31 l0 x32_2).f3)))
          ·
           rw [if_pos c41] at H
           have c41b0 : decide (((rd_T31 y103 x89_4).f1) < (wrap64 (((rd_T31 l0 x32_2).f1) + ((rd_T31 l0 x32_2).f3)))) = true := decide_eq_true c41
           clear c41
           obtain rfl := Option.some.inj H
           have p107 : 0 ≤ (x89_4 : Int) := of_decide_eq_true (by first | with_reducible assumption | assumption)
           have q107 : x89_4 < (y103.length : Int) := of_decide_eq_true (by first | with_reducible assumption | assumption)
           obtain ⟨ad107, e107, hx107_0, hx107_1, hx107_2, hx107_3⟩ := at_T31 HR106.out x89_4 p107 q107
           obtain rfl : ad101 = ad107 := (by injection e107)
           replace hx107_0 := (HB.out.cell (World.block_lt_of_cell? w _ hx107_0)).trans hx107_0
           replace hx107_1 := (HB.out.cell (World.block_lt_of_cell? w _ hx107_1)).trans hx107_1
           replace hx107_2 := (HB.out.cell (World.block_lt_of_cell? w _ hx107_2)).trans hx107_2
           replace hx107_3 := (HB.out.cell (World.block_lt_of_cell? w _ hx107_3)).trans hx107_3
           replace p107 := eq_true p107
           replace q107 := eq_true q107
           go_wp2_with (first | ((with_reducible refine gate_dst (N := 10) rfl ?_); refine box_event ?hg (N := 10) ?hd (cs := #[.int .i64 0, .int .i64 0, .int .i64 0, .int .i64 0]) (t := 31) ?hr ?_; (case hd => rfl); (case hg => rfl); (case hr => first | (go_simp; done) | (go_simp; rfl)); intro gb108 hg w42 hbox hb; have BK108 := am_ (hbox); have GW108 := am_ ((by rw [hg]; exact (below_size (by repeat (first | (with_reducible first | exact HB.out | apply below_alloc | apply pw_below_drewN | apply below_drew1 | refine below_set ?_ GE102.out) | exact HB.out))) : w.heap.size ≤ gb108)); have GE108 := GW108; replace HB := am_ (below_step (by repeat (first | (with_reducible first | exact HB.out | apply below_alloc | apply pw_below_drewN | apply below_drew1 | refine below_set ?_ GE102.out) | exact HB.out)) hb); have NB102_108 := am_ ((by rw [hg]; exact Nat.ne_of_lt (blk_lt (by exact BK102.out)) : gb102 ≠ gb108)); have NB108_102 := am_ ((by rw [hg]; exact Nat.ne_of_gt (blk_lt (by exact BK102.out)) : gb108 ≠ gb102)); replace BK102 := am_ (blk_below (by exact BK102.out) hb); clear hb hbox hg; have hnb43 := NB108_102.out; have hnc43 := NB102_108.out; obtain ⟨hcz44_0, hcz44_1, hcz44_2, hcz44_3, hfz44_0, hfz44_1, hfz44_2, hfz44_3⟩ := blk4_ BK108.out; obtain ⟨hcz45_0, hcz45_1, hcz45_2, hcz45_3, hfz45_0, hfz45_1, hfz45_2, hfz45_3⟩ := blk4_ BK102.out))
           go_ret
           exact ⟨by first | rfl | (simp [errW_none, errW_some] <;> rfl) | (simp [*, errW_none, errW_some] <;> rfl), by repeat (first | (with_reducible first | exact HB.out | apply below_alloc | apply pw_below_drewN | apply below_drew1 | refine below_set ?_ GE102.out | refine below_set ?_ GE108.out) | exact HB.out)⟩
          rw [if_neg c41] at H
          have c41b0 : decide (((rd_T31 y103 x89_4).f1) < (wrap64 (((rd_T31 l0 x32_2).f1) + ((rd_T31 l0 x32_2).f3)))) = false := decide_eq_false c41
          clear c41
          have H' := Aside0.mk H
          clear H
          have p107 : 0 ≤ (x89_4 : Int) := of_decide_eq_true (by first | with_reducible assumption | assumption)
          have q107 : x89_4 < (y103.length : Int) := of_decide_eq_true (by first | with_reducible assumption | assumption)
          obtain ⟨ad107, e107, hx107_0, hx107_1, hx107_2, hx107_3⟩ := at_T31 HR106.out x89_4 p107 q107
          obtain rfl : ad101 = ad107 := (by injection e107)
          replace hx107_0 := (HB.out.cell (World.block_lt_of_cell? w _ hx107_0)).trans hx107_0
          replace hx107_1 := (HB.out.cell (World.block_lt_of_cell? w _ hx107_1)).trans hx107_1
          replace hx107_2 := (HB.out.cell (World.block_lt_of_cell? w _ hx107_2)).trans hx107_2
          replace hx107_3 := (HB.out.cell (World.block_lt_of_cell? w _ hx107_3)).trans hx107_3
          replace p107 := eq_true p107
          replace q107 := eq_true q107
          go_wp2_with (first | ((with_reducible refine gate_dst (N := 10) rfl ?_); refine box_event ?hg (N := 10) ?hd (cs := #[.int .i64 0, .int .i64 0, .int .i64 0, .int .i64 0]) (t := 31) ?hr ?_; (case hd => rfl); (case hg => rfl); (case hr => first | (go_simp; done) | (go_simp; rfl)); intro gb108 hg w46 hbox hb; have BK108 := am_ (hbox); have GW108 := am_ ((by rw [hg]; exact (below_size (by repeat (first | (with_reducible first | exact HB.out | apply below_alloc | apply pw_below_drewN | apply below_drew1 | refine below_set ?_ GE102.out) | exact HB.out))) : w.heap.size ≤ gb108)); have GE108 := GW108; replace HB := am_ (below_step (by repeat (first | (with_reducible first | exact HB.out | apply below_alloc | apply pw_below_drewN | apply below_drew1 | refine below_set ?_ GE102.out) | exact HB.out)) hb); have NB102_108 := am_ ((by rw [hg]; exact Nat.ne_of_lt (blk_lt (by exact BK102.out)) : gb102 ≠ gb108)); have NB108_102 := am_ ((by rw [hg]; exact Nat.ne_of_gt (blk_lt (by exact BK102.out)) : gb108 ≠ gb102)); replace BK102 := am_ (blk_below (by exact BK102.out) hb); clear hb hbox hg; have hnb47 := NB108_102.out; have hnc47 := NB102_108.out; obtain ⟨hcz48_0, hcz48_1, hcz48_2, hcz48_3, hfz48_0, hfz48_1, hfz48_2, hfz48_3⟩ := blk4_ BK108.out; obtain ⟨hcz49_0, hcz49_1, hcz49_2, hcz49_3, hfz49_0, hfz49_1, hfz49_2, hfz49_3⟩ := blk4_ BK102.out))
          go_roundg k4
          case measure => have := HJ3.out; have := HK2.out; have := HJ12.out; have := HK4.out; omega
          case rel => exact ⟨(wrap64 (x89_4 + 1)), (by first | rfl | (simp; done) | (simp [*]; done)), H', ⟨by have := HJ3.out; have := HK2.out; have := HJ12.out; have := HK4.out; omega⟩, ⟨by exact far4_ BK102.out NB102_108.out _ _ _ _⟩, ⟨by repeat (first | (with_reducible first | exact HB.out | apply below_alloc | apply pw_below_drewN | apply below_drew1 | refine below_set ?_ GE102.out | refine below_set ?_ GE108.out) | exact HB.out)⟩⟩
         rw [if_neg c40] at H
         have c40b0 : decide (((rd_T31 l0 x32_2).f1) < (wrap64 (((rd_T31 y103 x89_4).f1) + ((rd_T31 y103 x89_4).f3)))) = false := decide_eq_false c40
         clear c40
         have H' := Aside0.mk H
         clear H
         have p107 : 0 ≤ (x89_4 : Int) := of_decide_eq_true (by first | with_reducible assumption | assumption)
         have q107 : x89_4 < (y103.length : Int) := of_decide_eq_true (by first | with_reducible assumption | assumption)
         obtain ⟨ad107, e107, hx107_0, hx107_1, hx107_2, hx107_3⟩ := at_T31 HR106.out x89_4 p107 q107
         obtain rfl : ad101 = ad107 := (by injection e107)
         replace hx107_0 := (HB.out.cell (World.block_lt_of_cell? w _ hx107_0)).trans hx107_0
         replace hx107_1 := (HB.out.cell (World.block_lt_of_cell? w _ hx107_1)).trans hx107_1
         replace hx107_2 := (HB.out.cell (World.block_lt_of_cell? w _ hx107_2)).trans hx107_2
         replace hx107_3 := (HB.out.cell (World.block_lt_of_cell? w _ hx107_3)).trans hx107_3
         replace p107 := eq_true p107
         replace q107 := eq_true q107
         go_wp2_with (first | ((with_reducible refine gate_dst (N := 10) rfl ?_); refine box_event ?hg (N := 10) ?hd (cs := #[.int .i64 0, .int .i64 0, .int .i64 0, .int .i64 0]) (t := 31) ?hr ?_; (case hd => rfl); (case hg => rfl); (case hr => first | (go_simp; done) | (go_simp; rfl)); intro gb108 hg w50 hbox hb; have BK108 := am_ (hbox); have GW108 := am_ ((by rw [hg]; exact (below_size (by repeat (first | (with_reducible first | exact HB.out | apply below_alloc | apply pw_below_drewN | apply below_drew1 | refine below_set ?_ GE102.out) | exact HB.out))) : w.heap.size ≤ gb108)); have GE108 := GW108; replace HB := am_ (below_step (by repeat (first | (with_reducible first | exact HB.out | apply below_alloc | apply pw_below_drewN | apply below_drew1 | refine below_set ?_ GE102.out) | exact HB.out)) hb); have NB102_108 := am_ ((by rw [hg]; exact Nat.ne_of_lt (blk_lt (by exact BK102.out)) : gb102 ≠ gb108)); have NB108_102 := am_ ((by rw [hg]; exact Nat.ne_of_gt (blk_lt (by exact BK102.out)) : gb108 ≠ gb102)); replace BK102 := am_ (blk_below (by exact BK102.out) hb); clear hb hbox hg; have hnb51 := NB108_102.out; have hnc51 := NB102_108.out; obtain ⟨hcz52_0, hcz52_1, hcz52_2, hcz52_3, hfz52_0, hfz52_1, hfz52_2, hfz52_3⟩ := blk4_ BK108.out; obtain ⟨hcz53_0, hcz53_1, hcz53_2, hcz53_3, hfz53_0, hfz53_1, hfz53_2, hfz53_3⟩ := blk4_ BK102.out))
         go_roundg k4
         case measure => have := HJ3.out; have := HK2.out; have := HJ12.out; have := HK4.out; omega
         case rel => exact ⟨(wrap64 (x89_4 + 1)), (by first | rfl | (simp; done) | (simp [*]; done)), H', ⟨by have := HJ3.out; have := HK2.out; have := HJ12.out; have := HK4.out; omega⟩, ⟨by exact far4_ BK102.out NB102_108.out _ _ _ _⟩, ⟨by repeat (first | (with_reducible first | exact HB.out | apply below_alloc | apply pw_below_drewN | apply below_drew1 | refine below_set ?_ GE102.out | refine below_set ?_ GE108.out) | exact HB.out)⟩⟩

end Go.Proofs.Ytbpeonhhlfadcaa.Print
