-- laid by hp.py (a program of this work over the kit's print), with contracts by hand for what the print does not take
import Derived.Test.YtllodpaghkohbaaPrint0
import Derived.Test.YtllodpaghkohbaaPrintHx0
namespace Go.Proofs.Ytllodpaghkohbaa.Print
open Go.RowKit Go.Proofs.YtllodpaghkohbaaW.PrintWords Go.Proofs.YtllodpaghkohbaaW.PrintLast Go.Proofs.YtllodpaghkohbaaW.PrintMore
attribute [local go_sem] max2_int min2_int max_two min_two max_three min_three max_four min_four   -- for this text's walks alone
set_option linter.unusedVariables false
set_option linter.unusedSimpArgs false

/-! ### spec_grow: function 71 -/
def spec_grow.l0 : Nat → List Bool → List Bool → Int → Int → Option (List Bool)
 | 0, _, _, _, _ => none
 | k + 1, x0, x3, x4, x5 => if x5 < (x0.length : Int) then (if x4 = 0 then (none) else (if 0 ≤ x5 then (if rdOf false x0 x5 = true then (if x5 < (x3.length : Int) then (spec_grow.l0 k x0 (x3.set (x5 : Int).toNat true) x4 (wrap64 (x5 + 1))) else (none)) else (if (Int.tmod x5 x4) > 0 then (if 0 ≤ (wrap64 (x5 - 1)) then (if (wrap64 (x5 - 1)) < (x0.length : Int) then (if rdOf false x0 (wrap64 (x5 - 1)) = true then (if x5 < (x3.length : Int) then (spec_grow.l0 k x0 (x3.set (x5 : Int).toNat true) x4 (wrap64 (x5 + 1))) else (none)) else (if (Int.tmod x5 x4) < (wrap64 (x4 - 1)) then (if 0 ≤ (wrap64 (x5 + 1)) then (if (wrap64 (x5 + 1)) < (x0.length : Int) then (if rdOf false x0 (wrap64 (x5 + 1)) = true then (if x5 < (x3.length : Int) then (spec_grow.l0 k x0 (x3.set (x5 : Int).toNat true) x4 (wrap64 (x5 + 1))) else (none)) else (if (wrap64 (Int.tdiv x5 x4)) > 0 then (if 0 ≤ (wrap64 (x5 - x4)) then (if (wrap64 (x5 - x4)) < (x0.length : Int) then (if rdOf false x0 (wrap64 (x5 - x4)) = true then (if x5 < (x3.length : Int) then (spec_grow.l0 k x0 (x3.set (x5 : Int).toNat true) x4 (wrap64 (x5 + 1))) else (none)) else (if (wrap64 (Int.tdiv x5 x4)) < (wrap64 (x4 - 1)) then (if 0 ≤ (wrap64 (x5 + x4)) then (if (wrap64 (x5 + x4)) < (x0.length : Int) then (if x5 < (x3.length : Int) then (spec_grow.l0 k x0 (x3.set (x5 : Int).toNat (rdOf false x0 (wrap64 (x5 + x4)))) x4 (wrap64 (x5 + 1))) else (none)) else (none)) else (none)) else (if x5 < (x3.length : Int) then (spec_grow.l0 k x0 (x3.set (x5 : Int).toNat false) x4 (wrap64 (x5 + 1))) else (none)))) else (none)) else (none)) else (if (wrap64 (Int.tdiv x5 x4)) < (wrap64 (x4 - 1)) then (if 0 ≤ (wrap64 (x5 + x4)) then (if (wrap64 (x5 + x4)) < (x0.length : Int) then (if x5 < (x3.length : Int) then (spec_grow.l0 k x0 (x3.set (x5 : Int).toNat (rdOf false x0 (wrap64 (x5 + x4)))) x4 (wrap64 (x5 + 1))) else (none)) else (none)) else (none)) else (if x5 < (x3.length : Int) then (spec_grow.l0 k x0 (x3.set (x5 : Int).toNat false) x4 (wrap64 (x5 + 1))) else (none))))) else (none)) else (none)) else (if (wrap64 (Int.tdiv x5 x4)) > 0 then (if 0 ≤ (wrap64 (x5 - x4)) then (if (wrap64 (x5 - x4)) < (x0.length : Int) then (if rdOf false x0 (wrap64 (x5 - x4)) = true then (if x5 < (x3.length : Int) then (spec_grow.l0 k x0 (x3.set (x5 : Int).toNat true) x4 (wrap64 (x5 + 1))) else (none)) else (if (wrap64 (Int.tdiv x5 x4)) < (wrap64 (x4 - 1)) then (if 0 ≤ (wrap64 (x5 + x4)) then (if (wrap64 (x5 + x4)) < (x0.length : Int) then (if x5 < (x3.length : Int) then (spec_grow.l0 k x0 (x3.set (x5 : Int).toNat (rdOf false x0 (wrap64 (x5 + x4)))) x4 (wrap64 (x5 + 1))) else (none)) else (none)) else (none)) else (if x5 < (x3.length : Int) then (spec_grow.l0 k x0 (x3.set (x5 : Int).toNat false) x4 (wrap64 (x5 + 1))) else (none)))) else (none)) else (none)) else (if (wrap64 (Int.tdiv x5 x4)) < (wrap64 (x4 - 1)) then (if 0 ≤ (wrap64 (x5 + x4)) then (if (wrap64 (x5 + x4)) < (x0.length : Int) then (if x5 < (x3.length : Int) then (spec_grow.l0 k x0 (x3.set (x5 : Int).toNat (rdOf false x0 (wrap64 (x5 + x4)))) x4 (wrap64 (x5 + 1))) else (none)) else (none)) else (none)) else (if x5 < (x3.length : Int) then (spec_grow.l0 k x0 (x3.set (x5 : Int).toNat false) x4 (wrap64 (x5 + 1))) else (none)))))) else (none)) else (none)) else (if (Int.tmod x5 x4) < (wrap64 (x4 - 1)) then (if 0 ≤ (wrap64 (x5 + 1)) then (if (wrap64 (x5 + 1)) < (x0.length : Int) then (if rdOf false x0 (wrap64 (x5 + 1)) = true then (if x5 < (x3.length : Int) then (spec_grow.l0 k x0 (x3.set (x5 : Int).toNat true) x4 (wrap64 (x5 + 1))) else (none)) else (if (wrap64 (Int.tdiv x5 x4)) > 0 then (if 0 ≤ (wrap64 (x5 - x4)) then (if (wrap64 (x5 - x4)) < (x0.length : Int) then (if rdOf false x0 (wrap64 (x5 - x4)) = true then (if x5 < (x3.length : Int) then (spec_grow.l0 k x0 (x3.set (x5 : Int).toNat true) x4 (wrap64 (x5 + 1))) else (none)) else (if (wrap64 (Int.tdiv x5 x4)) < (wrap64 (x4 - 1)) then (if 0 ≤ (wrap64 (x5 + x4)) then (if (wrap64 (x5 + x4)) < (x0.length : Int) then (if x5 < (x3.length : Int) then (spec_grow.l0 k x0 (x3.set (x5 : Int).toNat (rdOf false x0 (wrap64 (x5 + x4)))) x4 (wrap64 (x5 + 1))) else (none)) else (none)) else (none)) else (if x5 < (x3.length : Int) then (spec_grow.l0 k x0 (x3.set (x5 : Int).toNat false) x4 (wrap64 (x5 + 1))) else (none)))) else (none)) else (none)) else (if (wrap64 (Int.tdiv x5 x4)) < (wrap64 (x4 - 1)) then (if 0 ≤ (wrap64 (x5 + x4)) then (if (wrap64 (x5 + x4)) < (x0.length : Int) then (if x5 < (x3.length : Int) then (spec_grow.l0 k x0 (x3.set (x5 : Int).toNat (rdOf false x0 (wrap64 (x5 + x4)))) x4 (wrap64 (x5 + 1))) else (none)) else (none)) else (none)) else (if x5 < (x3.length : Int) then (spec_grow.l0 k x0 (x3.set (x5 : Int).toNat false) x4 (wrap64 (x5 + 1))) else (none))))) else (none)) else (none)) else (if (wrap64 (Int.tdiv x5 x4)) > 0 then (if 0 ≤ (wrap64 (x5 - x4)) then (if (wrap64 (x5 - x4)) < (x0.length : Int) then (if rdOf false x0 (wrap64 (x5 - x4)) = true then (if x5 < (x3.length : Int) then (spec_grow.l0 k x0 (x3.set (x5 : Int).toNat true) x4 (wrap64 (x5 + 1))) else (none)) else (if (wrap64 (Int.tdiv x5 x4)) < (wrap64 (x4 - 1)) then (if 0 ≤ (wrap64 (x5 + x4)) then (if (wrap64 (x5 + x4)) < (x0.length : Int) then (if x5 < (x3.length : Int) then (spec_grow.l0 k x0 (x3.set (x5 : Int).toNat (rdOf false x0 (wrap64 (x5 + x4)))) x4 (wrap64 (x5 + 1))) else (none)) else (none)) else (none)) else (if x5 < (x3.length : Int) then (spec_grow.l0 k x0 (x3.set (x5 : Int).toNat false) x4 (wrap64 (x5 + 1))) else (none)))) else (none)) else (none)) else (if (wrap64 (Int.tdiv x5 x4)) < (wrap64 (x4 - 1)) then (if 0 ≤ (wrap64 (x5 + x4)) then (if (wrap64 (x5 + x4)) < (x0.length : Int) then (if x5 < (x3.length : Int) then (spec_grow.l0 k x0 (x3.set (x5 : Int).toNat (rdOf false x0 (wrap64 (x5 + x4)))) x4 (wrap64 (x5 + 1))) else (none)) else (none)) else (none)) else (if x5 < (x3.length : Int) then (spec_grow.l0 k x0 (x3.set (x5 : Int).toNat false) x4 (wrap64 (x5 + 1))) else (none))))))) else (none))) else (some x3)
def spec_grow.f (k : Nat) (l0 : List Bool) : Option (List Bool) := (some (([] : List Bool) : List Bool)).bind fun y101 => (if y101.length + l0.length < 140737488355328 then (spec_grow.l0 k l0 (y101 ++ l0) 16 0) else (none))
theorem spec_grow.mono_l : ∀ k, (∀ y0 y1 y2 y3, LeO (spec_grow.l0 k y0 y1 y2 y3) (spec_grow.l0 (k + 1) y0 y1 y2 y3))
 | 0 => fun _ _ _ _ r h => by simp [spec_grow.l0] at h
 | k + 1 => by
  have ih0 := spec_grow.mono_l k
  intro y0 y1 y2 y3
  unfold spec_grow.l0
  repeat' first
  | (with_reducible exact ih0 _ _ _ _)
  | (with_reducible exact LeO.refl _)
  | (with_reducible exact LeO.none _)
  | (with_reducible refine LeO.ite ?_ ?_)
  | (with_reducible refine LeO.bind ?_ (fun _ => ?_))
  | exact ih0 _ _ _ _
  | exact LeO.none _
  | refine LeO.ite ?_ ?_
  | refine LeO.bind ?_ (fun _ => ?_)
theorem spec_grow.mono : ∀ a0 k, LeO (spec_grow.f k a0) (spec_grow.f (k + 1) a0) := by
 intro a0 k
 have ih0 := spec_grow.mono_l k
 unfold spec_grow.f
 repeat' first
   | (with_reducible exact ih0 _ _ _ _)
   | (with_reducible exact LeO.refl _)
   | (with_reducible exact LeO.none _)
   | (with_reducible refine LeO.ite ?_ ?_)
   | (with_reducible refine LeO.bind ?_ (fun _ => ?_))
   | exact ih0 _ _ _ _
   | exact LeO.none _
   | refine LeO.ite ?_ ?_
   | refine LeO.bind ?_ (fun _ => ?_)
set_option maxHeartbeats 8000000 in
set_option maxRecDepth 100000 in
theorem spec_grow.calls (k : Nat) (A0 : Option Addr) (c0 : Nat) (l0 : List Bool) (r : List Bool) (w : World) (hr0 : Kd.C Kd.bool w A0 l0.length l0) (hc0 : l0.length ≤ c0) (h : spec_grow.f k l0 = some r) :
  Calls Try.prog 71 #[.slice A0 l0.length c0] w fun e w' => ∃ v0_ : Value, e = .returned (v0_) ∧ Kd.R Kd.bool 4 w' w.heap.size (fun _ => True) v0_ r ∧ Below w.heap.size w w' := by
 have HR0 := Aside0.mk hr0
 have HC0 := Aside0.mk hc0
 clear hr0 hc0
 have HB := Aside0.mk (Below.refl w.heap.size w)
 have H : ((some (([] : List Bool) : List Bool)).bind fun y101 => (if y101.length + l0.length < 140737488355328 then (spec_grow.l0 k l0 (y101 ++ l0) 16 0) else (none))) = some r := h
 clear h
 obtain ⟨y101, hy101⟩ : ∃ y_ : List Bool, y_ = (([] : List Bool)) := ⟨_, rfl⟩
 replace H : (if y101.length + l0.length < 140737488355328 then (spec_grow.l0 k l0 (y101 ++ l0) 16 0) else (none)) = some r := by first | (rw [hy101]; with_reducible exact H) | (have H2_ := (Option.bind_some _ _).symm.trans H; rw [hy101]; with_reducible exact H2_) | (have H2_ := (Option.bind_some _ _).symm.trans H; with_reducible exact H2_) | with_reducible exact H | (rw [hy101]; exact H) | exact H
 have Ny101 := Aside0.mk hy101
 clear hy101
 by_cases c2 : y101.length + l0.length < 140737488355328
 rotate_left
 ·
  rw [if_neg c2] at H
  exact absurd H (by simp)
 rw [if_pos c2] at H
 have LMc2 := Aside0.mk c2
 clear c2
 obtain ⟨y104, hy104⟩ : ∃ y_ : List Bool, y_ = (y101 ++ l0) := ⟨_, rfl⟩
 replace H : (spec_grow.l0 k l0 y104 16 0) = some r := by first | (rw [hy104]; with_reducible exact H) | (have H2_ := (Option.bind_some _ _).symm.trans H; rw [hy104]; with_reducible exact H2_) | (have H2_ := (Option.bind_some _ _).symm.trans H; with_reducible exact H2_) | with_reducible exact H | (rw [hy104]; exact H) | exact H
 have Ny104 := Aside0.mk hy104
 clear hy104
 have H' := Aside0.mk H
 clear H
 go_enter Try.func71, Try.ntmps71
 go_wp2_with (first | ((with_reducible refine gate_dst (N := 8) rfl ?_); refine Kd.R_lit Kd.bool _ 4 ?hg (N := 8) ?hd (xs := ([] : List Bool)) (inner := []) (ok := fun _ => True) (okp := fun _ => True) ?hr ?hp (fun _ hk => hk) trivial (Below.refl _ _) (Nat.le_refl _) (by simp) ?_; (case hd => rfl); (case hg => rfl); (case hr => first | (go_simp; done) | (go_simp; rfl)); (case hp => exact (Reps.none _ _)); intro v102 w3 ho4 hb hg_ hnew_; clear hg_ hnew_; (first | rw [← Ny101.out] at ho4 | (simp only [Int.reduceToNat] at ho4; rw [← Ny101.out] at ho4)); have HO103 := am_ (Kd.R_lower ho4 (below_size (by repeat (first | (with_reducible first | exact HB.out | apply below_alloc | apply pw_below_drewN | apply below_drew1) | exact HB.out)))); replace HB := am_ (below_step (by repeat (first | (with_reducible first | exact HB.out | apply below_alloc | apply pw_below_drewN | apply below_drew1) | exact HB.out)) hb); clear hb ho4) | ((with_reducible refine gate_builtin (b := .append) (xs := #[.tmp 8, .tmp 9]) rfl ?_); at_builtin; refine Kd.R_append_rows Kd.bool (w0 := w) w.heap.size rfl (.tmp 8) (.tmp 9) 32 4 (.bool false) 1 rfl Try.underlying32 info4 rfl (by decide) (by omega) v102 y101 l0 _ _ _ (fun _ => True) (fun _ => False) rfl rfl ?aO ?aR (fun _ _ h => h) (fun _ h => h.elim) ?aF ?aB ?aS ?aL ?_; (case aR => repeat (first | exact (Kd.C_below HR0.out HB.out) | (with_reducible refine Kd.C_alloc ?_ _) | (with_reducible refine Kd.C_drewN ?_ _) | (with_reducible refine Kd.C_drew ?_))); (case aB => exact (by repeat (first | (with_reducible first | exact HB.out | apply below_alloc | apply pw_below_drewN | apply below_drew1) | exact HB.out))); (case aF => exact (fun _ _ => trivial)); (case aO => exact (by exact HO103.out)); (case aS => exact (below_size (by repeat (first | (with_reducible first | exact HB.out | apply below_alloc | apply pw_below_drewN | apply below_drew1) | exact HB.out)))); (case aL => have := LMc2.out; omega); intro v105 w5 ho hb hg hat; rw [← Ny104.out] at ho; replace HB := am_ (hb); have HO106 := am_ (ho); clear HO103; clear ho hb hg hat))
 go_loopg [5] k (fun kq v5 w' => ∃ (x3_1 : List Bool) (x5_1 : Int), v5 = .int .i64 x5_1 ∧ Aside0 (spec_grow.l0 kq l0 x3_1 16 x5_1 = some r) ∧ Aside0 (kq ≤ k) ∧ Aside0 (Kd.R Kd.bool 4 w' w.heap.size (fun _ => True) v105 x3_1) ∧ Aside0 (Below w.heap.size w w'))
 case atStart => exact ⟨(y104), (0), (by first | rfl | (simp; done) | (simp [*]; done)), H', ⟨Nat.le_refl _⟩, ⟨by exact HO106.out⟩, ⟨by repeat (first | (with_reducible first | exact HB.out | apply below_alloc | apply pw_below_drewN | apply below_drew1) | exact HB.out)⟩⟩
 case round =>
  clear H'
  try clear c2
  try clear p2
  obtain ⟨x3_1, x5_1, rfl, HA, HK1, HO_3, HB⟩ := hrel
  cases gk with
  | zero => exact absurd HA.out (by simp [spec_grow.l0])
  | succ k1 =>
   have H := HA.out
   clear HA
   simp only [spec_grow.l0, show wrap64 (16 - 1) = 15 from (by unfold wrap64; omega)] at H
   by_cases c6 : x5_1 < (l0.length : Int)
   rotate_left
   ·
    rw [if_neg c6] at H
    have c6b0 : decide (x5_1 < (l0.length : Int)) = false := decide_eq_false c6
    clear c6
    obtain rfl := Option.some.inj H
    go_wp2
    go_ret
    exact ⟨_, by first | rfl | (simp [errW_none, errW_some] <;> rfl) | (simp [*, errW_none, errW_some] <;> rfl), by exact HO_3.out, by repeat (first | (with_reducible first | exact HB.out | apply below_alloc | apply pw_below_drewN | apply below_drew1) | exact HB.out)⟩
   rw [if_pos c6] at H
   have c6b0 : decide (x5_1 < (l0.length : Int)) = true := decide_eq_true c6
   clear c6
   by_cases c7 : (16 : Int) = 0
   ·
    rw [if_pos c7] at H
    exact absurd H (by simp)
   rw [if_neg c7] at H
   have c7b0 : ((16 : Int) == 0) = false := beq_eq_false_iff_ne.mpr c7
   have c7b1 : ((16 : Int) != 0) = true := bne_iff_ne.mpr c7
   by_cases c8 : 0 ≤ x5_1
   rotate_left
   ·
    rw [if_neg c8] at H
    exact absurd H (by simp)
   rw [if_pos c8] at H
   have c8b0 : decide (0 ≤ x5_1) = true := decide_eq_true c8
   clear c8
   obtain ⟨bq9, hbq9⟩ : ∃ b_ : Bool, b_ = (rdOf false l0 x5_1) := ⟨_, rfl⟩
   replace H : (if bq9 = true then (if x5_1 < (x3_1.length : Int) then (spec_grow.l0 k1 l0 (x3_1.set (x5_1 : Int).toNat true) 16 (wrap64 (x5_1 + 1))) else (none)) else (if (Int.tmod x5_1 16) > 0 then (if 0 ≤ (wrap64 (x5_1 - 1)) then (if (wrap64 (x5_1 - 1)) < (l0.length : Int) then (if rdOf false l0 (wrap64 (x5_1 - 1)) = true then (if x5_1 < (x3_1.length : Int) then (spec_grow.l0 k1 l0 (x3_1.set (x5_1 : Int).toNat true) 16 (wrap64 (x5_1 + 1))) else (none)) else (if (Int.tmod x5_1 16) < 15 then (if 0 ≤ (wrap64 (x5_1 + 1)) then (if (wrap64 (x5_1 + 1)) < (l0.length : Int) then (if rdOf false l0 (wrap64 (x5_1 + 1)) = true then (if x5_1 < (x3_1.length : Int) then (spec_grow.l0 k1 l0 (x3_1.set (x5_1 : Int).toNat true) 16 (wrap64 (x5_1 + 1))) else (none)) else (if (wrap64 (Int.tdiv x5_1 16)) > 0 then (if 0 ≤ (wrap64 (x5_1 - 16)) then (if (wrap64 (x5_1 - 16)) < (l0.length : Int) then (if rdOf false l0 (wrap64 (x5_1 - 16)) = true then (if x5_1 < (x3_1.length : Int) then (spec_grow.l0 k1 l0 (x3_1.set (x5_1 : Int).toNat true) 16 (wrap64 (x5_1 + 1))) else (none)) else (if (wrap64 (Int.tdiv x5_1 16)) < 15 then (if 0 ≤ (wrap64 (x5_1 + 16)) then (if (wrap64 (x5_1 + 16)) < (l0.length : Int) then (if x5_1 < (x3_1.length : Int) then (spec_grow.l0 k1 l0 (x3_1.set (x5_1 : Int).toNat (rdOf false l0 (wrap64 (x5_1 + 16)))) 16 (wrap64 (x5_1 + 1))) else (none)) else (none)) else (none)) else (if x5_1 < (x3_1.length : Int) then (spec_grow.l0 k1 l0 (x3_1.set (x5_1 : Int).toNat false) 16 (wrap64 (x5_1 + 1))) else (none)))) else (none)) else (none)) else (if (wrap64 (Int.tdiv x5_1 16)) < 15 then (if 0 ≤ (wrap64 (x5_1 + 16)) then (if (wrap64 (x5_1 + 16)) < (l0.length : Int) then (if x5_1 < (x3_1.length : Int) then (spec_grow.l0 k1 l0 (x3_1.set (x5_1 : Int).toNat (rdOf false l0 (wrap64 (x5_1 + 16)))) 16 (wrap64 (x5_1 + 1))) else (none)) else (none)) else (none)) else (if x5_1 < (x3_1.length : Int) then (spec_grow.l0 k1 l0 (x3_1.set (x5_1 : Int).toNat false) 16 (wrap64 (x5_1 + 1))) else (none))))) else (none)) else (none)) else (if (wrap64 (Int.tdiv x5_1 16)) > 0 then (if 0 ≤ (wrap64 (x5_1 - 16)) then (if (wrap64 (x5_1 - 16)) < (l0.length : Int) then (if rdOf false l0 (wrap64 (x5_1 - 16)) = true then (if x5_1 < (x3_1.length : Int) then (spec_grow.l0 k1 l0 (x3_1.set (x5_1 : Int).toNat true) 16 (wrap64 (x5_1 + 1))) else (none)) else (if (wrap64 (Int.tdiv x5_1 16)) < 15 then (if 0 ≤ (wrap64 (x5_1 + 16)) then (if (wrap64 (x5_1 + 16)) < (l0.length : Int) then (if x5_1 < (x3_1.length : Int) then (spec_grow.l0 k1 l0 (x3_1.set (x5_1 : Int).toNat (rdOf false l0 (wrap64 (x5_1 + 16)))) 16 (wrap64 (x5_1 + 1))) else (none)) else (none)) else (none)) else (if x5_1 < (x3_1.length : Int) then (spec_grow.l0 k1 l0 (x3_1.set (x5_1 : Int).toNat false) 16 (wrap64 (x5_1 + 1))) else (none)))) else (none)) else (none)) else (if (wrap64 (Int.tdiv x5_1 16)) < 15 then (if 0 ≤ (wrap64 (x5_1 + 16)) then (if (wrap64 (x5_1 + 16)) < (l0.length : Int) then (if x5_1 < (x3_1.length : Int) then (spec_grow.l0 k1 l0 (x3_1.set (x5_1 : Int).toNat (rdOf false l0 (wrap64 (x5_1 + 16)))) 16 (wrap64 (x5_1 + 1))) else (none)) else (none)) else (none)) else (if x5_1 < (x3_1.length : Int) then (spec_grow.l0 k1 l0 (x3_1.set (x5_1 : Int).toNat false) 16 (wrap64 (x5_1 + 1))) else (none)))))) else (none)) else (none)) else (if (Int.tmod x5_1 16) < 15 then (if 0 ≤ (wrap64 (x5_1 + 1)) then (if (wrap64 (x5_1 + 1)) < (l0.length : Int) then (if rdOf false l0 (wrap64 (x5_1 + 1)) = true then (if x5_1 < (x3_1.length : Int) then (spec_grow.l0 k1 l0 (x3_1.set (x5_1 : Int).toNat true) 16 (wrap64 (x5_1 + 1))) else (none)) else (if (wrap64 (Int.tdiv x5_1 16)) > 0 then (if 0 ≤ (wrap64 (x5_1 - 16)) then (if (wrap64 (x5_1 - 16)) < (l0.length : Int) then (if rdOf false l0 (wrap64 (x5_1 - 16)) = true then (if x5_1 < (x3_1.length : Int) then (spec_grow.l0 k1 l0 (x3_1.set (x5_1 : Int).toNat true) 16 (wrap64 (x5_1 + 1))) else (none)) else (if (wrap64 (Int.tdiv x5_1 16)) < 15 then (if 0 ≤ (wrap64 (x5_1 + 16)) then (if (wrap64 (x5_1 + 16)) < (l0.length : Int) then (if x5_1 < (x3_1.length : Int) then (spec_grow.l0 k1 l0 (x3_1.set (x5_1 : Int).toNat (rdOf false l0 (wrap64 (x5_1 + 16)))) 16 (wrap64 (x5_1 + 1))) else (none)) else (none)) else (none)) else (if x5_1 < (x3_1.length : Int) then (spec_grow.l0 k1 l0 (x3_1.set (x5_1 : Int).toNat false) 16 (wrap64 (x5_1 + 1))) else (none)))) else (none)) else (none)) else (if (wrap64 (Int.tdiv x5_1 16)) < 15 then (if 0 ≤ (wrap64 (x5_1 + 16)) then (if (wrap64 (x5_1 + 16)) < (l0.length : Int) then (if x5_1 < (x3_1.length : Int) then (spec_grow.l0 k1 l0 (x3_1.set (x5_1 : Int).toNat (rdOf false l0 (wrap64 (x5_1 + 16)))) 16 (wrap64 (x5_1 + 1))) else (none)) else (none)) else (none)) else (if x5_1 < (x3_1.length : Int) then (spec_grow.l0 k1 l0 (x3_1.set (x5_1 : Int).toNat false) 16 (wrap64 (x5_1 + 1))) else (none))))) else (none)) else (none)) else (if (wrap64 (Int.tdiv x5_1 16)) > 0 then (if 0 ≤ (wrap64 (x5_1 - 16)) then (if (wrap64 (x5_1 - 16)) < (l0.length : Int) then (if rdOf false l0 (wrap64 (x5_1 - 16)) = true then (if x5_1 < (x3_1.length : Int) then (spec_grow.l0 k1 l0 (x3_1.set (x5_1 : Int).toNat true) 16 (wrap64 (x5_1 + 1))) else (none)) else (if (wrap64 (Int.tdiv x5_1 16)) < 15 then (if 0 ≤ (wrap64 (x5_1 + 16)) then (if (wrap64 (x5_1 + 16)) < (l0.length : Int) then (if x5_1 < (x3_1.length : Int) then (spec_grow.l0 k1 l0 (x3_1.set (x5_1 : Int).toNat (rdOf false l0 (wrap64 (x5_1 + 16)))) 16 (wrap64 (x5_1 + 1))) else (none)) else (none)) else (none)) else (if x5_1 < (x3_1.length : Int) then (spec_grow.l0 k1 l0 (x3_1.set (x5_1 : Int).toNat false) 16 (wrap64 (x5_1 + 1))) else (none)))) else (none)) else (none)) else (if (wrap64 (Int.tdiv x5_1 16)) < 15 then (if 0 ≤ (wrap64 (x5_1 + 16)) then (if (wrap64 (x5_1 + 16)) < (l0.length : Int) then (if x5_1 < (x3_1.length : Int) then (spec_grow.l0 k1 l0 (x3_1.set (x5_1 : Int).toNat (rdOf false l0 (wrap64 (x5_1 + 16)))) 16 (wrap64 (x5_1 + 1))) else (none)) else (none)) else (none)) else (if x5_1 < (x3_1.length : Int) then (spec_grow.l0 k1 l0 (x3_1.set (x5_1 : Int).toNat false) 16 (wrap64 (x5_1 + 1))) else (none))))))) = some r := by rw [← hbq9] at H; exact H
   have Nbq9 := Aside0.mk hbq9
   clear hbq9
   by_cases c10 : bq9 = true
   ·
    subst c10
    have H1 : (if x5_1 < (x3_1.length : Int) then (spec_grow.l0 k1 l0 (x3_1.set (x5_1 : Int).toNat true) 16 (wrap64 (x5_1 + 1))) else (none)) = some r := by rw [if_pos rfl] at H; exact H
    clear H
    have H := H1
    clear H1
    by_cases c11 : x5_1 < (x3_1.length : Int)
    rotate_left
    ·
     rw [if_neg c11] at H
     exact absurd H (by simp)
    rw [if_pos c11] at H
    have c11b0 : decide (x5_1 < (x3_1.length : Int)) = true := decide_eq_true c11
    clear c11
    obtain ⟨y108, hy108⟩ : ∃ y_ : List Bool, y_ = (x3_1.set (x5_1 : Int).toNat true) := ⟨_, rfl⟩
    replace H : (spec_grow.l0 k1 l0 y108 16 (wrap64 (x5_1 + 1))) = some r := by first | (rw [hy108]; with_reducible exact H) | (have H2_ := (Option.bind_some _ _).symm.trans H; rw [hy108]; with_reducible exact H2_) | (have H2_ := (Option.bind_some _ _).symm.trans H; with_reducible exact H2_) | with_reducible exact H | (rw [hy108]; exact H) | exact H
    have Ny108 := Aside0.mk hy108
    clear hy108
    have H' := Aside0.mk H
    clear H
    have p107 : 0 ≤ (x5_1 : Int) := of_decide_eq_true (by first | with_reducible assumption | assumption)
    have q107 : x5_1 < (l0.length : Int) := of_decide_eq_true (by first | with_reducible assumption | assumption)
    obtain ⟨ad107, e107, hx107_0⟩ := Kd.at_bool HR0.out x5_1 p107 q107
    (try rw [← Nbq9.out] at hx107_0)
    cases e107
    replace hx107_0 := (HB.out.cell (World.block_lt_of_cell? w _ hx107_0)).trans hx107_0
    replace p107 := eq_true p107
    replace q107 := eq_true q107
    have p12 : 0 ≤ (x5_1 : Int) := of_decide_eq_true (by first | with_reducible assumption | assumption)
    have q12 : (x5_1 : Int) < ((x3_1.length : Int) : Int) := of_decide_eq_true (by first | with_reducible assumption | assumption)
    obtain ⟨go12, co12, eo12, gb12, gl12, cl12, HG12⟩ := Kd.R_form HO_3.out (by omega)
    (first | cases eo12 | (injection eo12 with ea_ en_ ec_; (first | subst ea_ | (injection ea_ with ea_; subst ea_)); subst ec_; clear en_))
    have GB12 := Aside0.mk gb12
    have GG12 := Aside0.mk HG12
    clear gb12 gl12 HG12
    obtain ⟨hx12_0, hf12_0⟩ := Kd.R_celln false HO_3.out (x5_1 : Int) p12 q12
    replace p12 := eq_true p12
    replace q12 := eq_true q12
    have HP13 := Kd.R_putg HO_3.out (x5_1 : Int) true
    go_wp2_with (first | ((with_reducible refine gate_store (t := 4) (p := 79) rfl ?_); refine store_event (t := 4) (p := 79) (v := ?vo_w14) (w1 := (wr.setCell ⟨go12, (x5_1 : Int).toNat, none⟩ (.bool true))) ?hg ?ho ?hn ?hr ?_; (case ho => rfl); (case hg => rfl); (case hn => rfl); (case hr => first | (go_simp; done) | (go_simp; rfl)); intro w14 hw; have hg : wr.grownBy w14 (some go12) := (by rw [hw]; exact HP13.2); have hp_ : Kd.R Kd.bool 4 w14 w.heap.size (fun _ => True) (.slice (some ⟨go12, 0, none⟩) x3_1.length co12) y108 := (by rw [hw, Ny108.out]; exact HP13.1); clear HP13; replace HO_3 := am_ (hp_); replace HB := am_ ((by rw [hw]; exact below_set (HB.out) GB12.out : Below w.heap.size w w14)); clear hg hw hp_))
    go_roundg k1
    case measure => have := HK1.out; omega
    case rel => exact ⟨(y108), (wrap64 (x5_1 + 1)), (by first | rfl | (simp; done) | (simp [*]; done)), H', ⟨by have := HK1.out; omega⟩, ⟨by exact HO_3.out⟩, ⟨by repeat (first | (with_reducible first | exact HB.out | apply below_alloc | apply pw_below_drewN | apply below_drew1) | exact HB.out)⟩⟩
   replace c10 := Bool.eq_false_iff.mpr c10
   subst c10
   have H1 : (if (Int.tmod x5_1 16) > 0 then (if 0 ≤ (wrap64 (x5_1 - 1)) then (if (wrap64 (x5_1 - 1)) < (l0.length : Int) then (if rdOf false l0 (wrap64 (x5_1 - 1)) = true then (if x5_1 < (x3_1.length : Int) then (spec_grow.l0 k1 l0 (x3_1.set (x5_1 : Int).toNat true) 16 (wrap64 (x5_1 + 1))) else (none)) else (if (Int.tmod x5_1 16) < 15 then (if 0 ≤ (wrap64 (x5_1 + 1)) then (if (wrap64 (x5_1 + 1)) < (l0.length : Int) then (if rdOf false l0 (wrap64 (x5_1 + 1)) = true then (if x5_1 < (x3_1.length : Int) then (spec_grow.l0 k1 l0 (x3_1.set (x5_1 : Int).toNat true) 16 (wrap64 (x5_1 + 1))) else (none)) else (if (wrap64 (Int.tdiv x5_1 16)) > 0 then (if 0 ≤ (wrap64 (x5_1 - 16)) then (if (wrap64 (x5_1 - 16)) < (l0.length : Int) then (if rdOf false l0 (wrap64 (x5_1 - 16)) = true then (if x5_1 < (x3_1.length : Int) then (spec_grow.l0 k1 l0 (x3_1.set (x5_1 : Int).toNat true) 16 (wrap64 (x5_1 + 1))) else (none)) else (if (wrap64 (Int.tdiv x5_1 16)) < 15 then (if 0 ≤ (wrap64 (x5_1 + 16)) then (if (wrap64 (x5_1 + 16)) < (l0.length : Int) then (if x5_1 < (x3_1.length : Int) then (spec_grow.l0 k1 l0 (x3_1.set (x5_1 : Int).toNat (rdOf false l0 (wrap64 (x5_1 + 16)))) 16 (wrap64 (x5_1 + 1))) else (none)) else (none)) else (none)) else (if x5_1 < (x3_1.length : Int) then (spec_grow.l0 k1 l0 (x3_1.set (x5_1 : Int).toNat false) 16 (wrap64 (x5_1 + 1))) else (none)))) else (none)) else (none)) else (if (wrap64 (Int.tdiv x5_1 16)) < 15 then (if 0 ≤ (wrap64 (x5_1 + 16)) then (if (wrap64 (x5_1 + 16)) < (l0.length : Int) then (if x5_1 < (x3_1.length : Int) then (spec_grow.l0 k1 l0 (x3_1.set (x5_1 : Int).toNat (rdOf false l0 (wrap64 (x5_1 + 16)))) 16 (wrap64 (x5_1 + 1))) else (none)) else (none)) else (none)) else (if x5_1 < (x3_1.length : Int) then (spec_grow.l0 k1 l0 (x3_1.set (x5_1 : Int).toNat false) 16 (wrap64 (x5_1 + 1))) else (none))))) else (none)) else (none)) else (if (wrap64 (Int.tdiv x5_1 16)) > 0 then (if 0 ≤ (wrap64 (x5_1 - 16)) then (if (wrap64 (x5_1 - 16)) < (l0.length : Int) then (if rdOf false l0 (wrap64 (x5_1 - 16)) = true then (if x5_1 < (x3_1.length : Int) then (spec_grow.l0 k1 l0 (x3_1.set (x5_1 : Int).toNat true) 16 (wrap64 (x5_1 + 1))) else (none)) else (if (wrap64 (Int.tdiv x5_1 16)) < 15 then (if 0 ≤ (wrap64 (x5_1 + 16)) then (if (wrap64 (x5_1 + 16)) < (l0.length : Int) then (if x5_1 < (x3_1.length : Int) then (spec_grow.l0 k1 l0 (x3_1.set (x5_1 : Int).toNat (rdOf false l0 (wrap64 (x5_1 + 16)))) 16 (wrap64 (x5_1 + 1))) else (none)) else (none)) else (none)) else (if x5_1 < (x3_1.length : Int) then (spec_grow.l0 k1 l0 (x3_1.set (x5_1 : Int).toNat false) 16 (wrap64 (x5_1 + 1))) else (none)))) else (none)) else (none)) else (if (wrap64 (Int.tdiv x5_1 16)) < 15 then (if 0 ≤ (wrap64 (x5_1 + 16)) then (if (wrap64 (x5_1 + 16)) < (l0.length : Int) then (if x5_1 < (x3_1.length : Int) then (spec_grow.l0 k1 l0 (x3_1.set (x5_1 : Int).toNat (rdOf false l0 (wrap64 (x5_1 + 16)))) 16 (wrap64 (x5_1 + 1))) else (none)) else (none)) else (none)) else (if x5_1 < (x3_1.length : Int) then (spec_grow.l0 k1 l0 (x3_1.set (x5_1 : Int).toNat false) 16 (wrap64 (x5_1 + 1))) else (none)))))) else (none)) else (none)) else (if (Int.tmod x5_1 16) < 15 then (if 0 ≤ (wrap64 (x5_1 + 1)) then (if (wrap64 (x5_1 + 1)) < (l0.length : Int) then (if rdOf false l0 (wrap64 (x5_1 + 1)) = true then (if x5_1 < (x3_1.length : Int) then (spec_grow.l0 k1 l0 (x3_1.set (x5_1 : Int).toNat true) 16 (wrap64 (x5_1 + 1))) else (none)) else (if (wrap64 (Int.tdiv x5_1 16)) > 0 then (if 0 ≤ (wrap64 (x5_1 - 16)) then (if (wrap64 (x5_1 - 16)) < (l0.length : Int) then (if rdOf false l0 (wrap64 (x5_1 - 16)) = true then (if x5_1 < (x3_1.length : Int) then (spec_grow.l0 k1 l0 (x3_1.set (x5_1 : Int).toNat true) 16 (wrap64 (x5_1 + 1))) else (none)) else (if (wrap64 (Int.tdiv x5_1 16)) < 15 then (if 0 ≤ (wrap64 (x5_1 + 16)) then (if (wrap64 (x5_1 + 16)) < (l0.length : Int) then (if x5_1 < (x3_1.length : Int) then (spec_grow.l0 k1 l0 (x3_1.set (x5_1 : Int).toNat (rdOf false l0 (wrap64 (x5_1 + 16)))) 16 (wrap64 (x5_1 + 1))) else (none)) else (none)) else (none)) else (if x5_1 < (x3_1.length : Int) then (spec_grow.l0 k1 l0 (x3_1.set (x5_1 : Int).toNat false) 16 (wrap64 (x5_1 + 1))) else (none)))) else (none)) else (none)) else (if (wrap64 (Int.tdiv x5_1 16)) < 15 then (if 0 ≤ (wrap64 (x5_1 + 16)) then (if (wrap64 (x5_1 + 16)) < (l0.length : Int) then (if x5_1 < (x3_1.length : Int) then (spec_grow.l0 k1 l0 (x3_1.set (x5_1 : Int).toNat (rdOf false l0 (wrap64 (x5_1 + 16)))) 16 (wrap64 (x5_1 + 1))) else (none)) else (none)) else (none)) else (if x5_1 < (x3_1.length : Int) then (spec_grow.l0 k1 l0 (x3_1.set (x5_1 : Int).toNat false) 16 (wrap64 (x5_1 + 1))) else (none))))) else (none)) else (none)) else (if (wrap64 (Int.tdiv x5_1 16)) > 0 then (if 0 ≤ (wrap64 (x5_1 - 16)) then (if (wrap64 (x5_1 - 16)) < (l0.length : Int) then (if rdOf false l0 (wrap64 (x5_1 - 16)) = true then (if x5_1 < (x3_1.length : Int) then (spec_grow.l0 k1 l0 (x3_1.set (x5_1 : Int).toNat true) 16 (wrap64 (x5_1 + 1))) else (none)) else (if (wrap64 (Int.tdiv x5_1 16)) < 15 then (if 0 ≤ (wrap64 (x5_1 + 16)) then (if (wrap64 (x5_1 + 16)) < (l0.length : Int) then (if x5_1 < (x3_1.length : Int) then (spec_grow.l0 k1 l0 (x3_1.set (x5_1 : Int).toNat (rdOf false l0 (wrap64 (x5_1 + 16)))) 16 (wrap64 (x5_1 + 1))) else (none)) else (none)) else (none)) else (if x5_1 < (x3_1.length : Int) then (spec_grow.l0 k1 l0 (x3_1.set (x5_1 : Int).toNat false) 16 (wrap64 (x5_1 + 1))) else (none)))) else (none)) else (none)) else (if (wrap64 (Int.tdiv x5_1 16)) < 15 then (if 0 ≤ (wrap64 (x5_1 + 16)) then (if (wrap64 (x5_1 + 16)) < (l0.length : Int) then (if x5_1 < (x3_1.length : Int) then (spec_grow.l0 k1 l0 (x3_1.set (x5_1 : Int).toNat (rdOf false l0 (wrap64 (x5_1 + 16)))) 16 (wrap64 (x5_1 + 1))) else (none)) else (none)) else (none)) else (if x5_1 < (x3_1.length : Int) then (spec_grow.l0 k1 l0 (x3_1.set (x5_1 : Int).toNat false) 16 (wrap64 (x5_1 + 1))) else (none)))))) = some r := by rw [if_neg (show ¬ (false = true) by decide)] at H; exact H
   clear H
   have H := H1
   clear H1
   by_cases c15 : (Int.tmod x5_1 16) > 0
   ·
    rw [if_pos c15] at H
    have c15b0 : decide (0 < (Int.tmod x5_1 16)) = true := decide_eq_true c15
    clear c15
    obtain ⟨ji16, hji16⟩ : ∃ j_ : Int, (wrap64 (x5_1 - 1)) = j_ := ⟨_, rfl⟩
    replace H : (if 0 ≤ (ji16) then (if (ji16) < (l0.length : Int) then (if rdOf false l0 (ji16) = true then (if x5_1 < (x3_1.length : Int) then (spec_grow.l0 k1 l0 (x3_1.set (x5_1 : Int).toNat true) 16 (wrap64 (x5_1 + 1))) else (none)) else (if (Int.tmod x5_1 16) < 15 then (if 0 ≤ (wrap64 (x5_1 + 1)) then (if (wrap64 (x5_1 + 1)) < (l0.length : Int) then (if rdOf false l0 (wrap64 (x5_1 + 1)) = true then (if x5_1 < (x3_1.length : Int) then (spec_grow.l0 k1 l0 (x3_1.set (x5_1 : Int).toNat true) 16 (wrap64 (x5_1 + 1))) else (none)) else (if (wrap64 (Int.tdiv x5_1 16)) > 0 then (if 0 ≤ (wrap64 (x5_1 - 16)) then (if (wrap64 (x5_1 - 16)) < (l0.length : Int) then (if rdOf false l0 (wrap64 (x5_1 - 16)) = true then (if x5_1 < (x3_1.length : Int) then (spec_grow.l0 k1 l0 (x3_1.set (x5_1 : Int).toNat true) 16 (wrap64 (x5_1 + 1))) else (none)) else (if (wrap64 (Int.tdiv x5_1 16)) < 15 then (if 0 ≤ (wrap64 (x5_1 + 16)) then (if (wrap64 (x5_1 + 16)) < (l0.length : Int) then (if x5_1 < (x3_1.length : Int) then (spec_grow.l0 k1 l0 (x3_1.set (x5_1 : Int).toNat (rdOf false l0 (wrap64 (x5_1 + 16)))) 16 (wrap64 (x5_1 + 1))) else (none)) else (none)) else (none)) else (if x5_1 < (x3_1.length : Int) then (spec_grow.l0 k1 l0 (x3_1.set (x5_1 : Int).toNat false) 16 (wrap64 (x5_1 + 1))) else (none)))) else (none)) else (none)) else (if (wrap64 (Int.tdiv x5_1 16)) < 15 then (if 0 ≤ (wrap64 (x5_1 + 16)) then (if (wrap64 (x5_1 + 16)) < (l0.length : Int) then (if x5_1 < (x3_1.length : Int) then (spec_grow.l0 k1 l0 (x3_1.set (x5_1 : Int).toNat (rdOf false l0 (wrap64 (x5_1 + 16)))) 16 (wrap64 (x5_1 + 1))) else (none)) else (none)) else (none)) else (if x5_1 < (x3_1.length : Int) then (spec_grow.l0 k1 l0 (x3_1.set (x5_1 : Int).toNat false) 16 (wrap64 (x5_1 + 1))) else (none))))) else (none)) else (none)) else (if (wrap64 (Int.tdiv x5_1 16)) > 0 then (if 0 ≤ (wrap64 (x5_1 - 16)) then (if (wrap64 (x5_1 - 16)) < (l0.length : Int) then (if rdOf false l0 (wrap64 (x5_1 - 16)) = true then (if x5_1 < (x3_1.length : Int) then (spec_grow.l0 k1 l0 (x3_1.set (x5_1 : Int).toNat true) 16 (wrap64 (x5_1 + 1))) else (none)) else (if (wrap64 (Int.tdiv x5_1 16)) < 15 then (if 0 ≤ (wrap64 (x5_1 + 16)) then (if (wrap64 (x5_1 + 16)) < (l0.length : Int) then (if x5_1 < (x3_1.length : Int) then (spec_grow.l0 k1 l0 (x3_1.set (x5_1 : Int).toNat (rdOf false l0 (wrap64 (x5_1 + 16)))) 16 (wrap64 (x5_1 + 1))) else (none)) else (none)) else (none)) else (if x5_1 < (x3_1.length : Int) then (spec_grow.l0 k1 l0 (x3_1.set (x5_1 : Int).toNat false) 16 (wrap64 (x5_1 + 1))) else (none)))) else (none)) else (none)) else (if (wrap64 (Int.tdiv x5_1 16)) < 15 then (if 0 ≤ (wrap64 (x5_1 + 16)) then (if (wrap64 (x5_1 + 16)) < (l0.length : Int) then (if x5_1 < (x3_1.length : Int) then (spec_grow.l0 k1 l0 (x3_1.set (x5_1 : Int).toNat (rdOf false l0 (wrap64 (x5_1 + 16)))) 16 (wrap64 (x5_1 + 1))) else (none)) else (none)) else (none)) else (if x5_1 < (x3_1.length : Int) then (spec_grow.l0 k1 l0 (x3_1.set (x5_1 : Int).toNat false) 16 (wrap64 (x5_1 + 1))) else (none)))))) else (none)) else (none)) = some r := by first | (rw [hji16] at H; exact H) | (simp only [hji16] at H ⊢; exact H)
    have hji16w : (IntKind.i64.wrap (x5_1 - 1)) = ji16 := (i64_w _).trans hji16
    by_cases c17 : 0 ≤ (ji16)
    rotate_left
    ·
     rw [if_neg c17] at H
     exact absurd H (by simp)
    rw [if_pos c17] at H
    have c17b0 : decide (0 ≤ (ji16)) = true := decide_eq_true c17
    clear c17
    by_cases c18 : (ji16) < (l0.length : Int)
    rotate_left
    ·
     rw [if_neg c18] at H
     exact absurd H (by simp)
    rw [if_pos c18] at H
    have c18b0 : decide ((ji16) < (l0.length : Int)) = true := decide_eq_true c18
    clear c18
    obtain ⟨bq19, hbq19⟩ : ∃ b_ : Bool, b_ = (rdOf false l0 (ji16)) := ⟨_, rfl⟩
    replace H : (if bq19 = true then (if x5_1 < (x3_1.length : Int) then (spec_grow.l0 k1 l0 (x3_1.set (x5_1 : Int).toNat true) 16 (wrap64 (x5_1 + 1))) else (none)) else (if (Int.tmod x5_1 16) < 15 then (if 0 ≤ (wrap64 (x5_1 + 1)) then (if (wrap64 (x5_1 + 1)) < (l0.length : Int) then (if rdOf false l0 (wrap64 (x5_1 + 1)) = true then (if x5_1 < (x3_1.length : Int) then (spec_grow.l0 k1 l0 (x3_1.set (x5_1 : Int).toNat true) 16 (wrap64 (x5_1 + 1))) else (none)) else (if (wrap64 (Int.tdiv x5_1 16)) > 0 then (if 0 ≤ (wrap64 (x5_1 - 16)) then (if (wrap64 (x5_1 - 16)) < (l0.length : Int) then (if rdOf false l0 (wrap64 (x5_1 - 16)) = true then (if x5_1 < (x3_1.length : Int) then (spec_grow.l0 k1 l0 (x3_1.set (x5_1 : Int).toNat true) 16 (wrap64 (x5_1 + 1))) else (none)) else (if (wrap64 (Int.tdiv x5_1 16)) < 15 then (if 0 ≤ (wrap64 (x5_1 + 16)) then (if (wrap64 (x5_1 + 16)) < (l0.length : Int) then (if x5_1 < (x3_1.length : Int) then (spec_grow.l0 k1 l0 (x3_1.set (x5_1 : Int).toNat (rdOf false l0 (wrap64 (x5_1 + 16)))) 16 (wrap64 (x5_1 + 1))) else (none)) else (none)) else (none)) else (if x5_1 < (x3_1.length : Int) then (spec_grow.l0 k1 l0 (x3_1.set (x5_1 : Int).toNat false) 16 (wrap64 (x5_1 + 1))) else (none)))) else (none)) else (none)) else (if (wrap64 (Int.tdiv x5_1 16)) < 15 then (if 0 ≤ (wrap64 (x5_1 + 16)) then (if (wrap64 (x5_1 + 16)) < (l0.length : Int) then (if x5_1 < (x3_1.length : Int) then (spec_grow.l0 k1 l0 (x3_1.set (x5_1 : Int).toNat (rdOf false l0 (wrap64 (x5_1 + 16)))) 16 (wrap64 (x5_1 + 1))) else (none)) else (none)) else (none)) else (if x5_1 < (x3_1.length : Int) then (spec_grow.l0 k1 l0 (x3_1.set (x5_1 : Int).toNat false) 16 (wrap64 (x5_1 + 1))) else (none))))) else (none)) else (none)) else (if (wrap64 (Int.tdiv x5_1 16)) > 0 then (if 0 ≤ (wrap64 (x5_1 - 16)) then (if (wrap64 (x5_1 - 16)) < (l0.length : Int) then (if rdOf false l0 (wrap64 (x5_1 - 16)) = true then (if x5_1 < (x3_1.length : Int) then (spec_grow.l0 k1 l0 (x3_1.set (x5_1 : Int).toNat true) 16 (wrap64 (x5_1 + 1))) else (none)) else (if (wrap64 (Int.tdiv x5_1 16)) < 15 then (if 0 ≤ (wrap64 (x5_1 + 16)) then (if (wrap64 (x5_1 + 16)) < (l0.length : Int) then (if x5_1 < (x3_1.length : Int) then (spec_grow.l0 k1 l0 (x3_1.set (x5_1 : Int).toNat (rdOf false l0 (wrap64 (x5_1 + 16)))) 16 (wrap64 (x5_1 + 1))) else (none)) else (none)) else (none)) else (if x5_1 < (x3_1.length : Int) then (spec_grow.l0 k1 l0 (x3_1.set (x5_1 : Int).toNat false) 16 (wrap64 (x5_1 + 1))) else (none)))) else (none)) else (none)) else (if (wrap64 (Int.tdiv x5_1 16)) < 15 then (if 0 ≤ (wrap64 (x5_1 + 16)) then (if (wrap64 (x5_1 + 16)) < (l0.length : Int) then (if x5_1 < (x3_1.length : Int) then (spec_grow.l0 k1 l0 (x3_1.set (x5_1 : Int).toNat (rdOf false l0 (wrap64 (x5_1 + 16)))) 16 (wrap64 (x5_1 + 1))) else (none)) else (none)) else (none)) else (if x5_1 < (x3_1.length : Int) then (spec_grow.l0 k1 l0 (x3_1.set (x5_1 : Int).toNat false) 16 (wrap64 (x5_1 + 1))) else (none)))))) = some r := by rw [← hbq19] at H; exact H
    have Nbq19 := Aside0.mk hbq19
    clear hbq19
    by_cases c20 : bq19 = true
    ·
     subst c20
     have H1 : (if x5_1 < (x3_1.length : Int) then (spec_grow.l0 k1 l0 (x3_1.set (x5_1 : Int).toNat true) 16 (wrap64 (x5_1 + 1))) else (none)) = some r := by rw [if_pos rfl] at H; exact H
     clear H
     have H := H1
     clear H1
     by_cases c21 : x5_1 < (x3_1.length : Int)
     rotate_left
     ·
      rw [if_neg c21] at H
      exact absurd H (by simp)
     rw [if_pos c21] at H
     have c21b0 : decide (x5_1 < (x3_1.length : Int)) = true := decide_eq_true c21
     clear c21
     obtain ⟨y110, hy110⟩ : ∃ y_ : List Bool, y_ = (x3_1.set (x5_1 : Int).toNat true) := ⟨_, rfl⟩
     replace H : (spec_grow.l0 k1 l0 y110 16 (wrap64 (x5_1 + 1))) = some r := by first | (rw [hy110]; with_reducible exact H) | (have H2_ := (Option.bind_some _ _).symm.trans H; rw [hy110]; with_reducible exact H2_) | (have H2_ := (Option.bind_some _ _).symm.trans H; with_reducible exact H2_) | with_reducible exact H | (rw [hy110]; exact H) | exact H
     have Ny110 := Aside0.mk hy110
     clear hy110
     have H' := Aside0.mk H
     clear H
     have p107 : 0 ≤ (x5_1 : Int) := of_decide_eq_true (by first | with_reducible assumption | assumption)
     have q107 : x5_1 < (l0.length : Int) := of_decide_eq_true (by first | with_reducible assumption | assumption)
     obtain ⟨ad107, e107, hx107_0⟩ := Kd.at_bool HR0.out x5_1 p107 q107
     (try rw [← Nbq9.out] at hx107_0)
     (try rw [← Nbq19.out] at hx107_0)
     cases e107
     replace hx107_0 := (HB.out.cell (World.block_lt_of_cell? w _ hx107_0)).trans hx107_0
     replace p107 := eq_true p107
     replace q107 := eq_true q107
     have p109 : 0 ≤ ((ji16) : Int) := of_decide_eq_true (by first | with_reducible assumption | assumption)
     have q109 : (ji16) < (l0.length : Int) := of_decide_eq_true (by first | with_reducible assumption | assumption)
     obtain ⟨ad109, e109, hx109_0⟩ := Kd.at_bool HR0.out (ji16) p109 q109
     (try rw [← Nbq9.out] at hx109_0)
     (try rw [← Nbq19.out] at hx109_0)
     obtain rfl : ad107 = ad109 := (by injection e109)
     replace hx109_0 := (HB.out.cell (World.block_lt_of_cell? w _ hx109_0)).trans hx109_0
     replace p109 := eq_true p109
     replace q109 := eq_true q109
     have p22 : 0 ≤ (x5_1 : Int) := of_decide_eq_true (by first | with_reducible assumption | assumption)
     have q22 : (x5_1 : Int) < ((x3_1.length : Int) : Int) := of_decide_eq_true (by first | with_reducible assumption | assumption)
     obtain ⟨go22, co22, eo22, gb22, gl22, cl22, HG22⟩ := Kd.R_form HO_3.out (by omega)
     (first | cases eo22 | (injection eo22 with ea_ en_ ec_; (first | subst ea_ | (injection ea_ with ea_; subst ea_)); subst ec_; clear en_))
     have GB22 := Aside0.mk gb22
     have GG22 := Aside0.mk HG22
     clear gb22 gl22 HG22
     obtain ⟨hx22_0, hf22_0⟩ := Kd.R_celln false HO_3.out (x5_1 : Int) p22 q22
     replace p22 := eq_true p22
     replace q22 := eq_true q22
     have HP23 := Kd.R_putg HO_3.out (x5_1 : Int) true
     go_wp2_with (first | ((with_reducible refine gate_store (t := 4) (p := 79) rfl ?_); refine store_event (t := 4) (p := 79) (v := ?vo_w24) (w1 := (wr.setCell ⟨go22, (x5_1 : Int).toNat, none⟩ (.bool true))) ?hg ?ho ?hn ?hr ?_; (case ho => rfl); (case hg => rfl); (case hn => rfl); (case hr => first | (go_simp; done) | (go_simp; rfl)); intro w24 hw; have hg : wr.grownBy w24 (some go22) := (by rw [hw]; exact HP23.2); have hp_ : Kd.R Kd.bool 4 w24 w.heap.size (fun _ => True) (.slice (some ⟨go22, 0, none⟩) x3_1.length co22) y110 := (by rw [hw, Ny110.out]; exact HP23.1); clear HP23; replace HO_3 := am_ (hp_); replace HB := am_ ((by rw [hw]; exact below_set (HB.out) GB22.out : Below w.heap.size w w24)); clear hg hw hp_))
     go_roundg k1
     case measure => have := HK1.out; omega
     case rel => exact ⟨(y110), (wrap64 (x5_1 + 1)), (by first | rfl | (simp; done) | (simp [*]; done)), H', ⟨by have := HK1.out; omega⟩, ⟨by exact HO_3.out⟩, ⟨by repeat (first | (with_reducible first | exact HB.out | apply below_alloc | apply pw_below_drewN | apply below_drew1) | exact HB.out)⟩⟩
    replace c20 := Bool.eq_false_iff.mpr c20
    subst c20
    have H1 : (if (Int.tmod x5_1 16) < 15 then (if 0 ≤ (wrap64 (x5_1 + 1)) then (if (wrap64 (x5_1 + 1)) < (l0.length : Int) then (if rdOf false l0 (wrap64 (x5_1 + 1)) = true then (if x5_1 < (x3_1.length : Int) then (spec_grow.l0 k1 l0 (x3_1.set (x5_1 : Int).toNat true) 16 (wrap64 (x5_1 + 1))) else (none)) else (if (wrap64 (Int.tdiv x5_1 16)) > 0 then (if 0 ≤ (wrap64 (x5_1 - 16)) then (if (wrap64 (x5_1 - 16)) < (l0.length : Int) then (if rdOf false l0 (wrap64 (x5_1 - 16)) = true then (if x5_1 < (x3_1.length : Int) then (spec_grow.l0 k1 l0 (x3_1.set (x5_1 : Int).toNat true) 16 (wrap64 (x5_1 + 1))) else (none)) else (if (wrap64 (Int.tdiv x5_1 16)) < 15 then (if 0 ≤ (wrap64 (x5_1 + 16)) then (if (wrap64 (x5_1 + 16)) < (l0.length : Int) then (if x5_1 < (x3_1.length : Int) then (spec_grow.l0 k1 l0 (x3_1.set (x5_1 : Int).toNat (rdOf false l0 (wrap64 (x5_1 + 16)))) 16 (wrap64 (x5_1 + 1))) else (none)) else (none)) else (none)) else (if x5_1 < (x3_1.length : Int) then (spec_grow.l0 k1 l0 (x3_1.set (x5_1 : Int).toNat false) 16 (wrap64 (x5_1 + 1))) else (none)))) else (none)) else (none)) else (if (wrap64 (Int.tdiv x5_1 16)) < 15 then (if 0 ≤ (wrap64 (x5_1 + 16)) then (if (wrap64 (x5_1 + 16)) < (l0.length : Int) then (if x5_1 < (x3_1.length : Int) then (spec_grow.l0 k1 l0 (x3_1.set (x5_1 : Int).toNat (rdOf false l0 (wrap64 (x5_1 + 16)))) 16 (wrap64 (x5_1 + 1))) else (none)) else (none)) else (none)) else (if x5_1 < (x3_1.length : Int) then (spec_grow.l0 k1 l0 (x3_1.set (x5_1 : Int).toNat false) 16 (wrap64 (x5_1 + 1))) else (none))))) else (none)) else (none)) else (if (wrap64 (Int.tdiv x5_1 16)) > 0 then (if 0 ≤ (wrap64 (x5_1 - 16)) then (if (wrap64 (x5_1 - 16)) < (l0.length : Int) then (if rdOf false l0 (wrap64 (x5_1 - 16)) = true then (if x5_1 < (x3_1.length : Int) then (spec_grow.l0 k1 l0 (x3_1.set (x5_1 : Int).toNat true) 16 (wrap64 (x5_1 + 1))) else (none)) else (if (wrap64 (Int.tdiv x5_1 16)) < 15 then (if 0 ≤ (wrap64 (x5_1 + 16)) then (if (wrap64 (x5_1 + 16)) < (l0.length : Int) then (if x5_1 < (x3_1.length : Int) then (spec_grow.l0 k1 l0 (x3_1.set (x5_1 : Int).toNat (rdOf false l0 (wrap64 (x5_1 + 16)))) 16 (wrap64 (x5_1 + 1))) else (none)) else (none)) else (none)) else (if x5_1 < (x3_1.length : Int) then (spec_grow.l0 k1 l0 (x3_1.set (x5_1 : Int).toNat false) 16 (wrap64 (x5_1 + 1))) else (none)))) else (none)) else (none)) else (if (wrap64 (Int.tdiv x5_1 16)) < 15 then (if 0 ≤ (wrap64 (x5_1 + 16)) then (if (wrap64 (x5_1 + 16)) < (l0.length : Int) then (if x5_1 < (x3_1.length : Int) then (spec_grow.l0 k1 l0 (x3_1.set (x5_1 : Int).toNat (rdOf false l0 (wrap64 (x5_1 + 16)))) 16 (wrap64 (x5_1 + 1))) else (none)) else (none)) else (none)) else (if x5_1 < (x3_1.length : Int) then (spec_grow.l0 k1 l0 (x3_1.set (x5_1 : Int).toNat false) 16 (wrap64 (x5_1 + 1))) else (none))))) = some r := by rw [if_neg (show ¬ (false = true) by decide)] at H; exact H
    clear H
    have H := H1
    clear H1
    by_cases c25 : (Int.tmod x5_1 16) < 15
    ·
     rw [if_pos c25] at H
     have c25b0 : decide ((Int.tmod x5_1 16) < 15) = true := decide_eq_true c25
     clear c25
     obtain ⟨ji26, hji26⟩ : ∃ j_ : Int, (wrap64 (x5_1 + 1)) = j_ := ⟨_, rfl⟩
     replace H : (if 0 ≤ (ji26) then (if (ji26) < (l0.length : Int) then (if rdOf false l0 (ji26) = true then (if x5_1 < (x3_1.length : Int) then (spec_grow.l0 k1 l0 (x3_1.set (x5_1 : Int).toNat true) 16 ji26) else (none)) else (if (wrap64 (Int.tdiv x5_1 16)) > 0 then (if 0 ≤ (wrap64 (x5_1 - 16)) then (if (wrap64 (x5_1 - 16)) < (l0.length : Int) then (if rdOf false l0 (wrap64 (x5_1 - 16)) = true then (if x5_1 < (x3_1.length : Int) then (spec_grow.l0 k1 l0 (x3_1.set (x5_1 : Int).toNat true) 16 ji26) else (none)) else (if (wrap64 (Int.tdiv x5_1 16)) < 15 then (if 0 ≤ (wrap64 (x5_1 + 16)) then (if (wrap64 (x5_1 + 16)) < (l0.length : Int) then (if x5_1 < (x3_1.length : Int) then (spec_grow.l0 k1 l0 (x3_1.set (x5_1 : Int).toNat (rdOf false l0 (wrap64 (x5_1 + 16)))) 16 ji26) else (none)) else (none)) else (none)) else (if x5_1 < (x3_1.length : Int) then (spec_grow.l0 k1 l0 (x3_1.set (x5_1 : Int).toNat false) 16 ji26) else (none)))) else (none)) else (none)) else (if (wrap64 (Int.tdiv x5_1 16)) < 15 then (if 0 ≤ (wrap64 (x5_1 + 16)) then (if (wrap64 (x5_1 + 16)) < (l0.length : Int) then (if x5_1 < (x3_1.length : Int) then (spec_grow.l0 k1 l0 (x3_1.set (x5_1 : Int).toNat (rdOf false l0 (wrap64 (x5_1 + 16)))) 16 ji26) else (none)) else (none)) else (none)) else (if x5_1 < (x3_1.length : Int) then (spec_grow.l0 k1 l0 (x3_1.set (x5_1 : Int).toNat false) 16 ji26) else (none))))) else (none)) else (none)) = some r := by first | (rw [hji26] at H; exact H) | (simp only [hji26] at H ⊢; exact H)
     have hji26w : (IntKind.i64.wrap (x5_1 + 1)) = ji26 := (i64_w _).trans hji26
     by_cases c27 : 0 ≤ (ji26)
     rotate_left
     ·
      rw [if_neg c27] at H
      exact absurd H (by simp)
     rw [if_pos c27] at H
     have c27b0 : decide (0 ≤ (ji26)) = true := decide_eq_true c27
     clear c27
     by_cases c28 : (ji26) < (l0.length : Int)
     rotate_left
     ·
      rw [if_neg c28] at H
      exact absurd H (by simp)
     rw [if_pos c28] at H
     have c28b0 : decide ((ji26) < (l0.length : Int)) = true := decide_eq_true c28
     clear c28
     obtain ⟨bq29, hbq29⟩ : ∃ b_ : Bool, b_ = (rdOf false l0 (ji26)) := ⟨_, rfl⟩
     replace H : (if bq29 = true then (if x5_1 < (x3_1.length : Int) then (spec_grow.l0 k1 l0 (x3_1.set (x5_1 : Int).toNat true) 16 ji26) else (none)) else (if (wrap64 (Int.tdiv x5_1 16)) > 0 then (if 0 ≤ (wrap64 (x5_1 - 16)) then (if (wrap64 (x5_1 - 16)) < (l0.length : Int) then (if rdOf false l0 (wrap64 (x5_1 - 16)) = true then (if x5_1 < (x3_1.length : Int) then (spec_grow.l0 k1 l0 (x3_1.set (x5_1 : Int).toNat true) 16 ji26) else (none)) else (if (wrap64 (Int.tdiv x5_1 16)) < 15 then (if 0 ≤ (wrap64 (x5_1 + 16)) then (if (wrap64 (x5_1 + 16)) < (l0.length : Int) then (if x5_1 < (x3_1.length : Int) then (spec_grow.l0 k1 l0 (x3_1.set (x5_1 : Int).toNat (rdOf false l0 (wrap64 (x5_1 + 16)))) 16 ji26) else (none)) else (none)) else (none)) else (if x5_1 < (x3_1.length : Int) then (spec_grow.l0 k1 l0 (x3_1.set (x5_1 : Int).toNat false) 16 ji26) else (none)))) else (none)) else (none)) else (if (wrap64 (Int.tdiv x5_1 16)) < 15 then (if 0 ≤ (wrap64 (x5_1 + 16)) then (if (wrap64 (x5_1 + 16)) < (l0.length : Int) then (if x5_1 < (x3_1.length : Int) then (spec_grow.l0 k1 l0 (x3_1.set (x5_1 : Int).toNat (rdOf false l0 (wrap64 (x5_1 + 16)))) 16 ji26) else (none)) else (none)) else (none)) else (if x5_1 < (x3_1.length : Int) then (spec_grow.l0 k1 l0 (x3_1.set (x5_1 : Int).toNat false) 16 ji26) else (none))))) = some r := by rw [← hbq29] at H; exact H
     have Nbq29 := Aside0.mk hbq29
     clear hbq29
     by_cases c30 : bq29 = true
     ·
      subst c30
      have H1 : (if x5_1 < (x3_1.length : Int) then (spec_grow.l0 k1 l0 (x3_1.set (x5_1 : Int).toNat true) 16 ji26) else (none)) = some r := by rw [if_pos rfl] at H; exact H
      clear H
      have H := H1
      clear H1
      by_cases c31 : x5_1 < (x3_1.length : Int)
      rotate_left
      ·
       rw [if_neg c31] at H
       exact absurd H (by simp)
      rw [if_pos c31] at H
      have c31b0 : decide (x5_1 < (x3_1.length : Int)) = true := decide_eq_true c31
      clear c31
      obtain ⟨y112, hy112⟩ : ∃ y_ : List Bool, y_ = (x3_1.set (x5_1 : Int).toNat true) := ⟨_, rfl⟩
      replace H : (spec_grow.l0 k1 l0 y112 16 ji26) = some r := by first | (rw [hy112]; with_reducible exact H) | (have H2_ := (Option.bind_some _ _).symm.trans H; rw [hy112]; with_reducible exact H2_) | (have H2_ := (Option.bind_some _ _).symm.trans H; with_reducible exact H2_) | with_reducible exact H | (rw [hy112]; exact H) | exact H
      have Ny112 := Aside0.mk hy112
      clear hy112
      have H' := Aside0.mk H
      clear H
      have p107 : 0 ≤ (x5_1 : Int) := of_decide_eq_true (by first | with_reducible assumption | assumption)
      have q107 : x5_1 < (l0.length : Int) := of_decide_eq_true (by first | with_reducible assumption | assumption)
      obtain ⟨ad107, e107, hx107_0⟩ := Kd.at_bool HR0.out x5_1 p107 q107
      (try rw [← Nbq9.out] at hx107_0)
      (try rw [← Nbq19.out] at hx107_0)
      (try rw [← Nbq29.out] at hx107_0)
      cases e107
      replace hx107_0 := (HB.out.cell (World.block_lt_of_cell? w _ hx107_0)).trans hx107_0
      replace p107 := eq_true p107
      replace q107 := eq_true q107
      have p109 : 0 ≤ ((ji16) : Int) := of_decide_eq_true (by first | with_reducible assumption | assumption)
      have q109 : (ji16) < (l0.length : Int) := of_decide_eq_true (by first | with_reducible assumption | assumption)
      obtain ⟨ad109, e109, hx109_0⟩ := Kd.at_bool HR0.out (ji16) p109 q109
      (try rw [← Nbq9.out] at hx109_0)
      (try rw [← Nbq19.out] at hx109_0)
      (try rw [← Nbq29.out] at hx109_0)
      obtain rfl : ad107 = ad109 := (by injection e109)
      replace hx109_0 := (HB.out.cell (World.block_lt_of_cell? w _ hx109_0)).trans hx109_0
      replace p109 := eq_true p109
      replace q109 := eq_true q109
      have p111 : 0 ≤ ((ji26) : Int) := of_decide_eq_true (by first | with_reducible assumption | assumption)
      have q111 : (ji26) < (l0.length : Int) := of_decide_eq_true (by first | with_reducible assumption | assumption)
      obtain ⟨ad111, e111, hx111_0⟩ := Kd.at_bool HR0.out (ji26) p111 q111
      (try rw [← Nbq9.out] at hx111_0)
      (try rw [← Nbq19.out] at hx111_0)
      (try rw [← Nbq29.out] at hx111_0)
      obtain rfl : ad107 = ad111 := (by injection e111)
      replace hx111_0 := (HB.out.cell (World.block_lt_of_cell? w _ hx111_0)).trans hx111_0
      replace p111 := eq_true p111
      replace q111 := eq_true q111
      have p32 : 0 ≤ (x5_1 : Int) := of_decide_eq_true (by first | with_reducible assumption | assumption)
      have q32 : (x5_1 : Int) < ((x3_1.length : Int) : Int) := of_decide_eq_true (by first | with_reducible assumption | assumption)
      obtain ⟨go32, co32, eo32, gb32, gl32, cl32, HG32⟩ := Kd.R_form HO_3.out (by omega)
      (first | cases eo32 | (injection eo32 with ea_ en_ ec_; (first | subst ea_ | (injection ea_ with ea_; subst ea_)); subst ec_; clear en_))
      have GB32 := Aside0.mk gb32
      have GG32 := Aside0.mk HG32
      clear gb32 gl32 HG32
      obtain ⟨hx32_0, hf32_0⟩ := Kd.R_celln false HO_3.out (x5_1 : Int) p32 q32
      replace p32 := eq_true p32
      replace q32 := eq_true q32
      have HP33 := Kd.R_putg HO_3.out (x5_1 : Int) true
      go_wp2_with (first | ((with_reducible refine gate_store (t := 4) (p := 79) rfl ?_); refine store_event (t := 4) (p := 79) (v := ?vo_w34) (w1 := (wr.setCell ⟨go32, (x5_1 : Int).toNat, none⟩ (.bool true))) ?hg ?ho ?hn ?hr ?_; (case ho => rfl); (case hg => rfl); (case hn => rfl); (case hr => first | (go_simp; done) | (go_simp; rfl)); intro w34 hw; have hg : wr.grownBy w34 (some go32) := (by rw [hw]; exact HP33.2); have hp_ : Kd.R Kd.bool 4 w34 w.heap.size (fun _ => True) (.slice (some ⟨go32, 0, none⟩) x3_1.length co32) y112 := (by rw [hw, Ny112.out]; exact HP33.1); clear HP33; replace HO_3 := am_ (hp_); replace HB := am_ ((by rw [hw]; exact below_set (HB.out) GB32.out : Below w.heap.size w w34)); clear hg hw hp_))
      go_roundg k1
      case measure => have := HK1.out; omega
      case rel => exact ⟨(y112), (ji26), (by first | rfl | (simp; done) | (simp only [← hji26] <;> (first | rfl | simp)) | (simp [*]; done)), H', ⟨by have := HK1.out; omega⟩, ⟨by exact HO_3.out⟩, ⟨by repeat (first | (with_reducible first | exact HB.out | apply below_alloc | apply pw_below_drewN | apply below_drew1) | exact HB.out)⟩⟩
     replace c30 := Bool.eq_false_iff.mpr c30
     subst c30
     have H1 : (if (wrap64 (Int.tdiv x5_1 16)) > 0 then (if 0 ≤ (wrap64 (x5_1 - 16)) then (if (wrap64 (x5_1 - 16)) < (l0.length : Int) then (if rdOf false l0 (wrap64 (x5_1 - 16)) = true then (if x5_1 < (x3_1.length : Int) then (spec_grow.l0 k1 l0 (x3_1.set (x5_1 : Int).toNat true) 16 ji26) else (none)) else (if (wrap64 (Int.tdiv x5_1 16)) < 15 then (if 0 ≤ (wrap64 (x5_1 + 16)) then (if (wrap64 (x5_1 + 16)) < (l0.length : Int) then (if x5_1 < (x3_1.length : Int) then (spec_grow.l0 k1 l0 (x3_1.set (x5_1 : Int).toNat (rdOf false l0 (wrap64 (x5_1 + 16)))) 16 ji26) else (none)) else (none)) else (none)) else (if x5_1 < (x3_1.length : Int) then (spec_grow.l0 k1 l0 (x3_1.set (x5_1 : Int).toNat false) 16 ji26) else (none)))) else (none)) else (none)) else (if (wrap64 (Int.tdiv x5_1 16)) < 15 then (if 0 ≤ (wrap64 (x5_1 + 16)) then (if (wrap64 (x5_1 + 16)) < (l0.length : Int) then (if x5_1 < (x3_1.length : Int) then (spec_grow.l0 k1 l0 (x3_1.set (x5_1 : Int).toNat (rdOf false l0 (wrap64 (x5_1 + 16)))) 16 ji26) else (none)) else (none)) else (none)) else (if x5_1 < (x3_1.length : Int) then (spec_grow.l0 k1 l0 (x3_1.set (x5_1 : Int).toNat false) 16 ji26) else (none)))) = some r := by rw [if_neg (show ¬ (false = true) by decide)] at H; exact H
     clear H
     have H := H1
     clear H1
     by_cases c35 : (wrap64 (Int.tdiv x5_1 16)) > 0
     ·
      rw [if_pos c35] at H
      have c35b0 : decide (0 < (wrap64 (Int.tdiv x5_1 16))) = true := decide_eq_true c35
      clear c35
      obtain ⟨ji36, hji36⟩ : ∃ j_ : Int, (wrap64 (x5_1 - 16)) = j_ := ⟨_, rfl⟩
      replace H : (if 0 ≤ (ji36) then (if (ji36) < (l0.length : Int) then (if rdOf false l0 (ji36) = true then (if x5_1 < (x3_1.length : Int) then (spec_grow.l0 k1 l0 (x3_1.set (x5_1 : Int).toNat true) 16 ji26) else (none)) else (if (wrap64 (Int.tdiv x5_1 16)) < 15 then (if 0 ≤ (wrap64 (x5_1 + 16)) then (if (wrap64 (x5_1 + 16)) < (l0.length : Int) then (if x5_1 < (x3_1.length : Int) then (spec_grow.l0 k1 l0 (x3_1.set (x5_1 : Int).toNat (rdOf false l0 (wrap64 (x5_1 + 16)))) 16 ji26) else (none)) else (none)) else (none)) else (if x5_1 < (x3_1.length : Int) then (spec_grow.l0 k1 l0 (x3_1.set (x5_1 : Int).toNat false) 16 ji26) else (none)))) else (none)) else (none)) = some r := by first | (rw [hji36] at H; exact H) | (simp only [hji36] at H ⊢; exact H)
      have hji36w : (IntKind.i64.wrap (x5_1 - 16)) = ji36 := (i64_w _).trans hji36
      by_cases c37 : 0 ≤ (ji36)
      rotate_left
      ·
       rw [if_neg c37] at H
       exact absurd H (by simp)
      rw [if_pos c37] at H
      have c37b0 : decide (0 ≤ (ji36)) = true := decide_eq_true c37
      clear c37
      by_cases c38 : (ji36) < (l0.length : Int)
      rotate_left
      ·
       rw [if_neg c38] at H
       exact absurd H (by simp)
      rw [if_pos c38] at H
      have c38b0 : decide ((ji36) < (l0.length : Int)) = true := decide_eq_true c38
      clear c38
      obtain ⟨bq39, hbq39⟩ : ∃ b_ : Bool, b_ = (rdOf false l0 (ji36)) := ⟨_, rfl⟩
      replace H : (if bq39 = true then (if x5_1 < (x3_1.length : Int) then (spec_grow.l0 k1 l0 (x3_1.set (x5_1 : Int).toNat true) 16 ji26) else (none)) else (if (wrap64 (Int.tdiv x5_1 16)) < 15 then (if 0 ≤ (wrap64 (x5_1 + 16)) then (if (wrap64 (x5_1 + 16)) < (l0.length : Int) then (if x5_1 < (x3_1.length : Int) then (spec_grow.l0 k1 l0 (x3_1.set (x5_1 : Int).toNat (rdOf false l0 (wrap64 (x5_1 + 16)))) 16 ji26) else (none)) else (none)) else (none)) else (if x5_1 < (x3_1.length : Int) then (spec_grow.l0 k1 l0 (x3_1.set (x5_1 : Int).toNat false) 16 ji26) else (none)))) = some r := by rw [← hbq39] at H; exact H
      have Nbq39 := Aside0.mk hbq39
      clear hbq39
      by_cases c40 : bq39 = true
      ·
       subst c40
       have H1 : (if x5_1 < (x3_1.length : Int) then (spec_grow.l0 k1 l0 (x3_1.set (x5_1 : Int).toNat true) 16 ji26) else (none)) = some r := by rw [if_pos rfl] at H; exact H
       clear H
       have H := H1
       clear H1
       by_cases c41 : x5_1 < (x3_1.length : Int)
       rotate_left
       ·
        rw [if_neg c41] at H
        exact absurd H (by simp)
       rw [if_pos c41] at H
       have c41b0 : decide (x5_1 < (x3_1.length : Int)) = true := decide_eq_true c41
       clear c41
       obtain ⟨y114, hy114⟩ : ∃ y_ : List Bool, y_ = (x3_1.set (x5_1 : Int).toNat true) := ⟨_, rfl⟩
       replace H : (spec_grow.l0 k1 l0 y114 16 ji26) = some r := by first | (rw [hy114]; with_reducible exact H) | (have H2_ := (Option.bind_some _ _).symm.trans H; rw [hy114]; with_reducible exact H2_) | (have H2_ := (Option.bind_some _ _).symm.trans H; with_reducible exact H2_) | with_reducible exact H | (rw [hy114]; exact H) | exact H
       have Ny114 := Aside0.mk hy114
       clear hy114
       have H' := Aside0.mk H
       clear H
       have p107 : 0 ≤ (x5_1 : Int) := of_decide_eq_true (by first | with_reducible assumption | assumption)
       have q107 : x5_1 < (l0.length : Int) := of_decide_eq_true (by first | with_reducible assumption | assumption)
       obtain ⟨ad107, e107, hx107_0⟩ := Kd.at_bool HR0.out x5_1 p107 q107
       (try rw [← Nbq9.out] at hx107_0)
       (try rw [← Nbq19.out] at hx107_0)
       (try rw [← Nbq29.out] at hx107_0)
       (try rw [← Nbq39.out] at hx107_0)
       cases e107
       replace hx107_0 := (HB.out.cell (World.block_lt_of_cell? w _ hx107_0)).trans hx107_0
       replace p107 := eq_true p107
       replace q107 := eq_true q107
       have p109 : 0 ≤ ((ji16) : Int) := of_decide_eq_true (by first | with_reducible assumption | assumption)
       have q109 : (ji16) < (l0.length : Int) := of_decide_eq_true (by first | with_reducible assumption | assumption)
       obtain ⟨ad109, e109, hx109_0⟩ := Kd.at_bool HR0.out (ji16) p109 q109
       (try rw [← Nbq9.out] at hx109_0)
       (try rw [← Nbq19.out] at hx109_0)
       (try rw [← Nbq29.out] at hx109_0)
       (try rw [← Nbq39.out] at hx109_0)
       obtain rfl : ad107 = ad109 := (by injection e109)
       replace hx109_0 := (HB.out.cell (World.block_lt_of_cell? w _ hx109_0)).trans hx109_0
       replace p109 := eq_true p109
       replace q109 := eq_true q109
       have p111 : 0 ≤ ((ji26) : Int) := of_decide_eq_true (by first | with_reducible assumption | assumption)
       have q111 : (ji26) < (l0.length : Int) := of_decide_eq_true (by first | with_reducible assumption | assumption)
       obtain ⟨ad111, e111, hx111_0⟩ := Kd.at_bool HR0.out (ji26) p111 q111
       (try rw [← Nbq9.out] at hx111_0)
       (try rw [← Nbq19.out] at hx111_0)
       (try rw [← Nbq29.out] at hx111_0)
       (try rw [← Nbq39.out] at hx111_0)
       obtain rfl : ad107 = ad111 := (by injection e111)
       replace hx111_0 := (HB.out.cell (World.block_lt_of_cell? w _ hx111_0)).trans hx111_0
       replace p111 := eq_true p111
       replace q111 := eq_true q111
       have p113 : 0 ≤ ((ji36) : Int) := of_decide_eq_true (by first | with_reducible assumption | assumption)
       have q113 : (ji36) < (l0.length : Int) := of_decide_eq_true (by first | with_reducible assumption | assumption)
       obtain ⟨ad113, e113, hx113_0⟩ := Kd.at_bool HR0.out (ji36) p113 q113
       (try rw [← Nbq9.out] at hx113_0)
       (try rw [← Nbq19.out] at hx113_0)
       (try rw [← Nbq29.out] at hx113_0)
       (try rw [← Nbq39.out] at hx113_0)
       obtain rfl : ad107 = ad113 := (by injection e113)
       replace hx113_0 := (HB.out.cell (World.block_lt_of_cell? w _ hx113_0)).trans hx113_0
       replace p113 := eq_true p113
       replace q113 := eq_true q113
       have p42 : 0 ≤ (x5_1 : Int) := of_decide_eq_true (by first | with_reducible assumption | assumption)
       have q42 : (x5_1 : Int) < ((x3_1.length : Int) : Int) := of_decide_eq_true (by first | with_reducible assumption | assumption)
       obtain ⟨go42, co42, eo42, gb42, gl42, cl42, HG42⟩ := Kd.R_form HO_3.out (by omega)
       (first | cases eo42 | (injection eo42 with ea_ en_ ec_; (first | subst ea_ | (injection ea_ with ea_; subst ea_)); subst ec_; clear en_))
       have GB42 := Aside0.mk gb42
       have GG42 := Aside0.mk HG42
       clear gb42 gl42 HG42
       obtain ⟨hx42_0, hf42_0⟩ := Kd.R_celln false HO_3.out (x5_1 : Int) p42 q42
       replace p42 := eq_true p42
       replace q42 := eq_true q42
       have HP43 := Kd.R_putg HO_3.out (x5_1 : Int) true
       go_wp2_with (first | ((with_reducible refine gate_store (t := 4) (p := 79) rfl ?_); refine store_event (t := 4) (p := 79) (v := ?vo_w44) (w1 := (wr.setCell ⟨go42, (x5_1 : Int).toNat, none⟩ (.bool true))) ?hg ?ho ?hn ?hr ?_; (case ho => rfl); (case hg => rfl); (case hn => rfl); (case hr => first | (go_simp; done) | (go_simp; rfl)); intro w44 hw; have hg : wr.grownBy w44 (some go42) := (by rw [hw]; exact HP43.2); have hp_ : Kd.R Kd.bool 4 w44 w.heap.size (fun _ => True) (.slice (some ⟨go42, 0, none⟩) x3_1.length co42) y114 := (by rw [hw, Ny114.out]; exact HP43.1); clear HP43; replace HO_3 := am_ (hp_); replace HB := am_ ((by rw [hw]; exact below_set (HB.out) GB42.out : Below w.heap.size w w44)); clear hg hw hp_))
       go_roundg k1
       case measure => have := HK1.out; omega
       case rel => exact ⟨(y114), (ji26), (by first | rfl | (simp; done) | (simp only [← hji26] <;> (first | rfl | simp)) | (simp [*]; done)), H', ⟨by have := HK1.out; omega⟩, ⟨by exact HO_3.out⟩, ⟨by repeat (first | (with_reducible first | exact HB.out | apply below_alloc | apply pw_below_drewN | apply below_drew1) | exact HB.out)⟩⟩
      replace c40 := Bool.eq_false_iff.mpr c40
      subst c40
      have H1 : (if (wrap64 (Int.tdiv x5_1 16)) < 15 then (if 0 ≤ (wrap64 (x5_1 + 16)) then (if (wrap64 (x5_1 + 16)) < (l0.length : Int) then (if x5_1 < (x3_1.length : Int) then (spec_grow.l0 k1 l0 (x3_1.set (x5_1 : Int).toNat (rdOf false l0 (wrap64 (x5_1 + 16)))) 16 ji26) else (none)) else (none)) else (none)) else (if x5_1 < (x3_1.length : Int) then (spec_grow.l0 k1 l0 (x3_1.set (x5_1 : Int).toNat false) 16 ji26) else (none))) = some r := by rw [if_neg (show ¬ (false = true) by decide)] at H; exact H
      clear H
      have H := H1
      clear H1
      by_cases c45 : (wrap64 (Int.tdiv x5_1 16)) < 15
      ·
       rw [if_pos c45] at H
       have c45b0 : decide ((wrap64 (Int.tdiv x5_1 16)) < 15) = true := decide_eq_true c45
       clear c45
       obtain ⟨ji46, hji46⟩ : ∃ j_ : Int, (wrap64 (x5_1 + 16)) = j_ := ⟨_, rfl⟩
       replace H : (if 0 ≤ (ji46) then (if (ji46) < (l0.length : Int) then (if x5_1 < (x3_1.length : Int) then (spec_grow.l0 k1 l0 (x3_1.set (x5_1 : Int).toNat (rdOf false l0 (ji46))) 16 ji26) else (none)) else (none)) else (none)) = some r := by first | (rw [hji46] at H; exact H) | (simp only [hji46] at H ⊢; exact H)
       have hji46w : (IntKind.i64.wrap (x5_1 + 16)) = ji46 := (i64_w _).trans hji46
       by_cases c47 : 0 ≤ (ji46)
       rotate_left
       ·
        rw [if_neg c47] at H
        exact absurd H (by simp)
       rw [if_pos c47] at H
       have c47b0 : decide (0 ≤ (ji46)) = true := decide_eq_true c47
       clear c47
       by_cases c48 : (ji46) < (l0.length : Int)
       rotate_left
       ·
        rw [if_neg c48] at H
        exact absurd H (by simp)
       rw [if_pos c48] at H
       have c48b0 : decide ((ji46) < (l0.length : Int)) = true := decide_eq_true c48
       clear c48
       by_cases c49 : x5_1 < (x3_1.length : Int)
       rotate_left
       ·
        rw [if_neg c49] at H
        exact absurd H (by simp)
       rw [if_pos c49] at H
       have c49b0 : decide (x5_1 < (x3_1.length : Int)) = true := decide_eq_true c49
       clear c49
       obtain ⟨y116, hy116⟩ : ∃ y_ : List Bool, y_ = (x3_1.set (x5_1 : Int).toNat (rdOf false l0 (ji46))) := ⟨_, rfl⟩
       replace H : (spec_grow.l0 k1 l0 y116 16 ji26) = some r := by first | (rw [hy116]; with_reducible exact H) | (have H2_ := (Option.bind_some _ _).symm.trans H; rw [hy116]; with_reducible exact H2_) | (have H2_ := (Option.bind_some _ _).symm.trans H; with_reducible exact H2_) | with_reducible exact H | (rw [hy116]; exact H) | exact H
       have Ny116 := Aside0.mk hy116
       clear hy116
       have H' := Aside0.mk H
       clear H
       have p107 : 0 ≤ (x5_1 : Int) := of_decide_eq_true (by first | with_reducible assumption | assumption)
       have q107 : x5_1 < (l0.length : Int) := of_decide_eq_true (by first | with_reducible assumption | assumption)
       obtain ⟨ad107, e107, hx107_0⟩ := Kd.at_bool HR0.out x5_1 p107 q107
       (try rw [← Nbq9.out] at hx107_0)
       (try rw [← Nbq19.out] at hx107_0)
       (try rw [← Nbq29.out] at hx107_0)
       (try rw [← Nbq39.out] at hx107_0)
       cases e107
       replace hx107_0 := (HB.out.cell (World.block_lt_of_cell? w _ hx107_0)).trans hx107_0
       replace p107 := eq_true p107
       replace q107 := eq_true q107
       have p109 : 0 ≤ ((ji16) : Int) := of_decide_eq_true (by first | with_reducible assumption | assumption)
       have q109 : (ji16) < (l0.length : Int) := of_decide_eq_true (by first | with_reducible assumption | assumption)
       obtain ⟨ad109, e109, hx109_0⟩ := Kd.at_bool HR0.out (ji16) p109 q109
       (try rw [← Nbq9.out] at hx109_0)
       (try rw [← Nbq19.out] at hx109_0)
       (try rw [← Nbq29.out] at hx109_0)
       (try rw [← Nbq39.out] at hx109_0)
       obtain rfl : ad107 = ad109 := (by injection e109)
       replace hx109_0 := (HB.out.cell (World.block_lt_of_cell? w _ hx109_0)).trans hx109_0
       replace p109 := eq_true p109
       replace q109 := eq_true q109
       have p111 : 0 ≤ ((ji26) : Int) := of_decide_eq_true (by first | with_reducible assumption | assumption)
       have q111 : (ji26) < (l0.length : Int) := of_decide_eq_true (by first | with_reducible assumption | assumption)
       obtain ⟨ad111, e111, hx111_0⟩ := Kd.at_bool HR0.out (ji26) p111 q111
       (try rw [← Nbq9.out] at hx111_0)
       (try rw [← Nbq19.out] at hx111_0)
       (try rw [← Nbq29.out] at hx111_0)
       (try rw [← Nbq39.out] at hx111_0)
       obtain rfl : ad107 = ad111 := (by injection e111)
       replace hx111_0 := (HB.out.cell (World.block_lt_of_cell? w _ hx111_0)).trans hx111_0
       replace p111 := eq_true p111
       replace q111 := eq_true q111
       have p113 : 0 ≤ ((ji36) : Int) := of_decide_eq_true (by first | with_reducible assumption | assumption)
       have q113 : (ji36) < (l0.length : Int) := of_decide_eq_true (by first | with_reducible assumption | assumption)
       obtain ⟨ad113, e113, hx113_0⟩ := Kd.at_bool HR0.out (ji36) p113 q113
       (try rw [← Nbq9.out] at hx113_0)
       (try rw [← Nbq19.out] at hx113_0)
       (try rw [← Nbq29.out] at hx113_0)
       (try rw [← Nbq39.out] at hx113_0)
       obtain rfl : ad107 = ad113 := (by injection e113)
       replace hx113_0 := (HB.out.cell (World.block_lt_of_cell? w _ hx113_0)).trans hx113_0
       replace p113 := eq_true p113
       replace q113 := eq_true q113
       have p115 : 0 ≤ ((ji46) : Int) := of_decide_eq_true (by first | with_reducible assumption | assumption)
       have q115 : (ji46) < (l0.length : Int) := of_decide_eq_true (by first | with_reducible assumption | assumption)
       obtain ⟨ad115, e115, hx115_0⟩ := Kd.at_bool HR0.out (ji46) p115 q115
       (try rw [← Nbq9.out] at hx115_0)
       (try rw [← Nbq19.out] at hx115_0)
       (try rw [← Nbq29.out] at hx115_0)
       (try rw [← Nbq39.out] at hx115_0)
       obtain rfl : ad107 = ad115 := (by injection e115)
       replace hx115_0 := (HB.out.cell (World.block_lt_of_cell? w _ hx115_0)).trans hx115_0
       replace p115 := eq_true p115
       replace q115 := eq_true q115
       have p50 : 0 ≤ (x5_1 : Int) := of_decide_eq_true (by first | with_reducible assumption | assumption)
       have q50 : (x5_1 : Int) < ((x3_1.length : Int) : Int) := of_decide_eq_true (by first | with_reducible assumption | assumption)
       obtain ⟨go50, co50, eo50, gb50, gl50, cl50, HG50⟩ := Kd.R_form HO_3.out (by omega)
       (first | cases eo50 | (injection eo50 with ea_ en_ ec_; (first | subst ea_ | (injection ea_ with ea_; subst ea_)); subst ec_; clear en_))
       have GB50 := Aside0.mk gb50
       have GG50 := Aside0.mk HG50
       clear gb50 gl50 HG50
       obtain ⟨hx50_0, hf50_0⟩ := Kd.R_celln false HO_3.out (x5_1 : Int) p50 q50
       replace p50 := eq_true p50
       replace q50 := eq_true q50
       have HP51 := Kd.R_putg HO_3.out (x5_1 : Int) (rdOf false l0 (ji46))
       go_wp2_with (first | ((with_reducible refine gate_store (t := 4) (p := 79) rfl ?_); refine store_event (t := 4) (p := 79) (v := ?vo_w52) (w1 := (wr.setCell ⟨go50, (x5_1 : Int).toNat, none⟩ (.bool (rdOf false l0 (ji46))))) ?hg ?ho ?hn ?hr ?_; (case ho => rfl); (case hg => rfl); (case hn => rfl); (case hr => first | (go_simp; done) | (go_simp; rfl)); intro w52 hw; have hg : wr.grownBy w52 (some go50) := (by rw [hw]; exact HP51.2); have hp_ : Kd.R Kd.bool 4 w52 w.heap.size (fun _ => True) (.slice (some ⟨go50, 0, none⟩) x3_1.length co50) y116 := (by rw [hw, Ny116.out]; exact HP51.1); clear HP51; replace HO_3 := am_ (hp_); replace HB := am_ ((by rw [hw]; exact below_set (HB.out) GB50.out : Below w.heap.size w w52)); clear hg hw hp_))
       go_roundg k1
       case measure => have := HK1.out; omega
       case rel => exact ⟨(y116), (ji26), (by first | rfl | (simp; done) | (simp only [← hji26] <;> (first | rfl | simp)) | (simp [*]; done)), H', ⟨by have := HK1.out; omega⟩, ⟨by exact HO_3.out⟩, ⟨by repeat (first | (with_reducible first | exact HB.out | apply below_alloc | apply pw_below_drewN | apply below_drew1) | exact HB.out)⟩⟩
      rw [if_neg c45] at H
      have c45b0 : decide ((wrap64 (Int.tdiv x5_1 16)) < 15) = false := decide_eq_false c45
      clear c45
      by_cases c53 : x5_1 < (x3_1.length : Int)
      rotate_left
      ·
       rw [if_neg c53] at H
       exact absurd H (by simp)
      rw [if_pos c53] at H
      have c53b0 : decide (x5_1 < (x3_1.length : Int)) = true := decide_eq_true c53
      clear c53
      obtain ⟨y117, hy117⟩ : ∃ y_ : List Bool, y_ = (x3_1.set (x5_1 : Int).toNat false) := ⟨_, rfl⟩
      replace H : (spec_grow.l0 k1 l0 y117 16 ji26) = some r := by first | (rw [hy117]; with_reducible exact H) | (have H2_ := (Option.bind_some _ _).symm.trans H; rw [hy117]; with_reducible exact H2_) | (have H2_ := (Option.bind_some _ _).symm.trans H; with_reducible exact H2_) | with_reducible exact H | (rw [hy117]; exact H) | exact H
      have Ny117 := Aside0.mk hy117
      clear hy117
      have H' := Aside0.mk H
      clear H
      have p107 : 0 ≤ (x5_1 : Int) := of_decide_eq_true (by first | with_reducible assumption | assumption)
      have q107 : x5_1 < (l0.length : Int) := of_decide_eq_true (by first | with_reducible assumption | assumption)
      obtain ⟨ad107, e107, hx107_0⟩ := Kd.at_bool HR0.out x5_1 p107 q107
      (try rw [← Nbq9.out] at hx107_0)
      (try rw [← Nbq19.out] at hx107_0)
      (try rw [← Nbq29.out] at hx107_0)
      (try rw [← Nbq39.out] at hx107_0)
      cases e107
      replace hx107_0 := (HB.out.cell (World.block_lt_of_cell? w _ hx107_0)).trans hx107_0
      replace p107 := eq_true p107
      replace q107 := eq_true q107
      have p109 : 0 ≤ ((ji16) : Int) := of_decide_eq_true (by first | with_reducible assumption | assumption)
      have q109 : (ji16) < (l0.length : Int) := of_decide_eq_true (by first | with_reducible assumption | assumption)
      obtain ⟨ad109, e109, hx109_0⟩ := Kd.at_bool HR0.out (ji16) p109 q109
      (try rw [← Nbq9.out] at hx109_0)
      (try rw [← Nbq19.out] at hx109_0)
      (try rw [← Nbq29.out] at hx109_0)
      (try rw [← Nbq39.out] at hx109_0)
      obtain rfl : ad107 = ad109 := (by injection e109)
      replace hx109_0 := (HB.out.cell (World.block_lt_of_cell? w _ hx109_0)).trans hx109_0
      replace p109 := eq_true p109
      replace q109 := eq_true q109
      have p111 : 0 ≤ ((ji26) : Int) := of_decide_eq_true (by first | with_reducible assumption | assumption)
      have q111 : (ji26) < (l0.length : Int) := of_decide_eq_true (by first | with_reducible assumption | assumption)
      obtain ⟨ad111, e111, hx111_0⟩ := Kd.at_bool HR0.out (ji26) p111 q111
      (try rw [← Nbq9.out] at hx111_0)
      (try rw [← Nbq19.out] at hx111_0)
      (try rw [← Nbq29.out] at hx111_0)
      (try rw [← Nbq39.out] at hx111_0)
      obtain rfl : ad107 = ad111 := (by injection e111)
      replace hx111_0 := (HB.out.cell (World.block_lt_of_cell? w _ hx111_0)).trans hx111_0
      replace p111 := eq_true p111
      replace q111 := eq_true q111
      have p113 : 0 ≤ ((ji36) : Int) := of_decide_eq_true (by first | with_reducible assumption | assumption)
      have q113 : (ji36) < (l0.length : Int) := of_decide_eq_true (by first | with_reducible assumption | assumption)
      obtain ⟨ad113, e113, hx113_0⟩ := Kd.at_bool HR0.out (ji36) p113 q113
      (try rw [← Nbq9.out] at hx113_0)
      (try rw [← Nbq19.out] at hx113_0)
      (try rw [← Nbq29.out] at hx113_0)
      (try rw [← Nbq39.out] at hx113_0)
      obtain rfl : ad107 = ad113 := (by injection e113)
      replace hx113_0 := (HB.out.cell (World.block_lt_of_cell? w _ hx113_0)).trans hx113_0
      replace p113 := eq_true p113
      replace q113 := eq_true q113
      have p54 : 0 ≤ (x5_1 : Int) := of_decide_eq_true (by first | with_reducible assumption | assumption)
      have q54 : (x5_1 : Int) < ((x3_1.length : Int) : Int) := of_decide_eq_true (by first | with_reducible assumption | assumption)
      obtain ⟨go54, co54, eo54, gb54, gl54, cl54, HG54⟩ := Kd.R_form HO_3.out (by omega)
      (first | cases eo54 | (injection eo54 with ea_ en_ ec_; (first | subst ea_ | (injection ea_ with ea_; subst ea_)); subst ec_; clear en_))
      have GB54 := Aside0.mk gb54
      have GG54 := Aside0.mk HG54
      clear gb54 gl54 HG54
      obtain ⟨hx54_0, hf54_0⟩ := Kd.R_celln false HO_3.out (x5_1 : Int) p54 q54
      replace p54 := eq_true p54
      replace q54 := eq_true q54
      have HP55 := Kd.R_putg HO_3.out (x5_1 : Int) false
      go_wp2_with (first | ((with_reducible refine gate_store (t := 4) (p := 79) rfl ?_); refine store_event (t := 4) (p := 79) (v := ?vo_w56) (w1 := (wr.setCell ⟨go54, (x5_1 : Int).toNat, none⟩ (.bool false))) ?hg ?ho ?hn ?hr ?_; (case ho => rfl); (case hg => rfl); (case hn => rfl); (case hr => first | (go_simp; done) | (go_simp; rfl)); intro w56 hw; have hg : wr.grownBy w56 (some go54) := (by rw [hw]; exact HP55.2); have hp_ : Kd.R Kd.bool 4 w56 w.heap.size (fun _ => True) (.slice (some ⟨go54, 0, none⟩) x3_1.length co54) y117 := (by rw [hw, Ny117.out]; exact HP55.1); clear HP55; replace HO_3 := am_ (hp_); replace HB := am_ ((by rw [hw]; exact below_set (HB.out) GB54.out : Below w.heap.size w w56)); clear hg hw hp_))
      go_roundg k1
      case measure => have := HK1.out; omega
      case rel => exact ⟨(y117), (ji26), (by first | rfl | (simp; done) | (simp only [← hji26] <;> (first | rfl | simp)) | (simp [*]; done)), H', ⟨by have := HK1.out; omega⟩, ⟨by exact HO_3.out⟩, ⟨by repeat (first | (with_reducible first | exact HB.out | apply below_alloc | apply pw_below_drewN | apply below_drew1) | exact HB.out)⟩⟩
     rw [if_neg c35] at H
     have c35b0 : decide (0 < (wrap64 (Int.tdiv x5_1 16))) = false := decide_eq_false c35
     clear c35
     by_cases c57 : (wrap64 (Int.tdiv x5_1 16)) < 15
     ·
      rw [if_pos c57] at H
      have c57b0 : decide ((wrap64 (Int.tdiv x5_1 16)) < 15) = true := decide_eq_true c57
      clear c57
      obtain ⟨ji58, hji58⟩ : ∃ j_ : Int, (wrap64 (x5_1 + 16)) = j_ := ⟨_, rfl⟩
      replace H : (if 0 ≤ (ji58) then (if (ji58) < (l0.length : Int) then (if x5_1 < (x3_1.length : Int) then (spec_grow.l0 k1 l0 (x3_1.set (x5_1 : Int).toNat (rdOf false l0 (ji58))) 16 ji26) else (none)) else (none)) else (none)) = some r := by first | (rw [hji58] at H; exact H) | (simp only [hji58] at H ⊢; exact H)
      have hji58w : (IntKind.i64.wrap (x5_1 + 16)) = ji58 := (i64_w _).trans hji58
      by_cases c59 : 0 ≤ (ji58)
      rotate_left
      ·
       rw [if_neg c59] at H
       exact absurd H (by simp)
      rw [if_pos c59] at H
      have c59b0 : decide (0 ≤ (ji58)) = true := decide_eq_true c59
      clear c59
      by_cases c60 : (ji58) < (l0.length : Int)
      rotate_left
      ·
       rw [if_neg c60] at H
       exact absurd H (by simp)
      rw [if_pos c60] at H
      have c60b0 : decide ((ji58) < (l0.length : Int)) = true := decide_eq_true c60
      clear c60
      by_cases c61 : x5_1 < (x3_1.length : Int)
      rotate_left
      ·
       rw [if_neg c61] at H
       exact absurd H (by simp)
      rw [if_pos c61] at H
      have c61b0 : decide (x5_1 < (x3_1.length : Int)) = true := decide_eq_true c61
      clear c61
      obtain ⟨y119, hy119⟩ : ∃ y_ : List Bool, y_ = (x3_1.set (x5_1 : Int).toNat (rdOf false l0 (ji58))) := ⟨_, rfl⟩
      replace H : (spec_grow.l0 k1 l0 y119 16 ji26) = some r := by first | (rw [hy119]; with_reducible exact H) | (have H2_ := (Option.bind_some _ _).symm.trans H; rw [hy119]; with_reducible exact H2_) | (have H2_ := (Option.bind_some _ _).symm.trans H; with_reducible exact H2_) | with_reducible exact H | (rw [hy119]; exact H) | exact H
      have Ny119 := Aside0.mk hy119
      clear hy119
      have H' := Aside0.mk H
      clear H
      have p107 : 0 ≤ (x5_1 : Int) := of_decide_eq_true (by first | with_reducible assumption | assumption)
      have q107 : x5_1 < (l0.length : Int) := of_decide_eq_true (by first | with_reducible assumption | assumption)
      obtain ⟨ad107, e107, hx107_0⟩ := Kd.at_bool HR0.out x5_1 p107 q107
      (try rw [← Nbq9.out] at hx107_0)
      (try rw [← Nbq19.out] at hx107_0)
      (try rw [← Nbq29.out] at hx107_0)
      cases e107
      replace hx107_0 := (HB.out.cell (World.block_lt_of_cell? w _ hx107_0)).trans hx107_0
      replace p107 := eq_true p107
      replace q107 := eq_true q107
      have p109 : 0 ≤ ((ji16) : Int) := of_decide_eq_true (by first | with_reducible assumption | assumption)
      have q109 : (ji16) < (l0.length : Int) := of_decide_eq_true (by first | with_reducible assumption | assumption)
      obtain ⟨ad109, e109, hx109_0⟩ := Kd.at_bool HR0.out (ji16) p109 q109
      (try rw [← Nbq9.out] at hx109_0)
      (try rw [← Nbq19.out] at hx109_0)
      (try rw [← Nbq29.out] at hx109_0)
      obtain rfl : ad107 = ad109 := (by injection e109)
      replace hx109_0 := (HB.out.cell (World.block_lt_of_cell? w _ hx109_0)).trans hx109_0
      replace p109 := eq_true p109
      replace q109 := eq_true q109
      have p111 : 0 ≤ ((ji26) : Int) := of_decide_eq_true (by first | with_reducible assumption | assumption)
      have q111 : (ji26) < (l0.length : Int) := of_decide_eq_true (by first | with_reducible assumption | assumption)
      obtain ⟨ad111, e111, hx111_0⟩ := Kd.at_bool HR0.out (ji26) p111 q111
      (try rw [← Nbq9.out] at hx111_0)
      (try rw [← Nbq19.out] at hx111_0)
      (try rw [← Nbq29.out] at hx111_0)
      obtain rfl : ad107 = ad111 := (by injection e111)
      replace hx111_0 := (HB.out.cell (World.block_lt_of_cell? w _ hx111_0)).trans hx111_0
      replace p111 := eq_true p111
      replace q111 := eq_true q111
      have p118 : 0 ≤ ((ji58) : Int) := of_decide_eq_true (by first | with_reducible assumption | assumption)
      have q118 : (ji58) < (l0.length : Int) := of_decide_eq_true (by first | with_reducible assumption | assumption)
      obtain ⟨ad118, e118, hx118_0⟩ := Kd.at_bool HR0.out (ji58) p118 q118
      (try rw [← Nbq9.out] at hx118_0)
      (try rw [← Nbq19.out] at hx118_0)
      (try rw [← Nbq29.out] at hx118_0)
      obtain rfl : ad107 = ad118 := (by injection e118)
      replace hx118_0 := (HB.out.cell (World.block_lt_of_cell? w _ hx118_0)).trans hx118_0
      replace p118 := eq_true p118
      replace q118 := eq_true q118
      have p62 : 0 ≤ (x5_1 : Int) := of_decide_eq_true (by first | with_reducible assumption | assumption)
      have q62 : (x5_1 : Int) < ((x3_1.length : Int) : Int) := of_decide_eq_true (by first | with_reducible assumption | assumption)
      obtain ⟨go62, co62, eo62, gb62, gl62, cl62, HG62⟩ := Kd.R_form HO_3.out (by omega)
      (first | cases eo62 | (injection eo62 with ea_ en_ ec_; (first | subst ea_ | (injection ea_ with ea_; subst ea_)); subst ec_; clear en_))
      have GB62 := Aside0.mk gb62
      have GG62 := Aside0.mk HG62
      clear gb62 gl62 HG62
      obtain ⟨hx62_0, hf62_0⟩ := Kd.R_celln false HO_3.out (x5_1 : Int) p62 q62
      replace p62 := eq_true p62
      replace q62 := eq_true q62
      have HP63 := Kd.R_putg HO_3.out (x5_1 : Int) (rdOf false l0 (ji58))
      go_wp2_with (first | ((with_reducible refine gate_store (t := 4) (p := 79) rfl ?_); refine store_event (t := 4) (p := 79) (v := ?vo_w64) (w1 := (wr.setCell ⟨go62, (x5_1 : Int).toNat, none⟩ (.bool (rdOf false l0 (ji58))))) ?hg ?ho ?hn ?hr ?_; (case ho => rfl); (case hg => rfl); (case hn => rfl); (case hr => first | (go_simp; done) | (go_simp; rfl)); intro w64 hw; have hg : wr.grownBy w64 (some go62) := (by rw [hw]; exact HP63.2); have hp_ : Kd.R Kd.bool 4 w64 w.heap.size (fun _ => True) (.slice (some ⟨go62, 0, none⟩) x3_1.length co62) y119 := (by rw [hw, Ny119.out]; exact HP63.1); clear HP63; replace HO_3 := am_ (hp_); replace HB := am_ ((by rw [hw]; exact below_set (HB.out) GB62.out : Below w.heap.size w w64)); clear hg hw hp_))
      go_roundg k1
      case measure => have := HK1.out; omega
      case rel => exact ⟨(y119), (ji26), (by first | rfl | (simp; done) | (simp only [← hji26] <;> (first | rfl | simp)) | (simp [*]; done)), H', ⟨by have := HK1.out; omega⟩, ⟨by exact HO_3.out⟩, ⟨by repeat (first | (with_reducible first | exact HB.out | apply below_alloc | apply pw_below_drewN | apply below_drew1) | exact HB.out)⟩⟩
     rw [if_neg c57] at H
     have c57b0 : decide ((wrap64 (Int.tdiv x5_1 16)) < 15) = false := decide_eq_false c57
     clear c57
     by_cases c65 : x5_1 < (x3_1.length : Int)
     rotate_left
     ·
      rw [if_neg c65] at H
      exact absurd H (by simp)
     rw [if_pos c65] at H
     have c65b0 : decide (x5_1 < (x3_1.length : Int)) = true := decide_eq_true c65
     clear c65
     obtain ⟨y120, hy120⟩ : ∃ y_ : List Bool, y_ = (x3_1.set (x5_1 : Int).toNat false) := ⟨_, rfl⟩
     replace H : (spec_grow.l0 k1 l0 y120 16 ji26) = some r := by first | (rw [hy120]; with_reducible exact H) | (have H2_ := (Option.bind_some _ _).symm.trans H; rw [hy120]; with_reducible exact H2_) | (have H2_ := (Option.bind_some _ _).symm.trans H; with_reducible exact H2_) | with_reducible exact H | (rw [hy120]; exact H) | exact H
     have Ny120 := Aside0.mk hy120
     clear hy120
     have H' := Aside0.mk H
     clear H
     have p107 : 0 ≤ (x5_1 : Int) := of_decide_eq_true (by first | with_reducible assumption | assumption)
     have q107 : x5_1 < (l0.length : Int) := of_decide_eq_true (by first | with_reducible assumption | assumption)
     obtain ⟨ad107, e107, hx107_0⟩ := Kd.at_bool HR0.out x5_1 p107 q107
     (try rw [← Nbq9.out] at hx107_0)
     (try rw [← Nbq19.out] at hx107_0)
     (try rw [← Nbq29.out] at hx107_0)
     cases e107
     replace hx107_0 := (HB.out.cell (World.block_lt_of_cell? w _ hx107_0)).trans hx107_0
     replace p107 := eq_true p107
     replace q107 := eq_true q107
     have p109 : 0 ≤ ((ji16) : Int) := of_decide_eq_true (by first | with_reducible assumption | assumption)
     have q109 : (ji16) < (l0.length : Int) := of_decide_eq_true (by first | with_reducible assumption | assumption)
     obtain ⟨ad109, e109, hx109_0⟩ := Kd.at_bool HR0.out (ji16) p109 q109
     (try rw [← Nbq9.out] at hx109_0)
     (try rw [← Nbq19.out] at hx109_0)
     (try rw [← Nbq29.out] at hx109_0)
     obtain rfl : ad107 = ad109 := (by injection e109)
     replace hx109_0 := (HB.out.cell (World.block_lt_of_cell? w _ hx109_0)).trans hx109_0
     replace p109 := eq_true p109
     replace q109 := eq_true q109
     have p111 : 0 ≤ ((ji26) : Int) := of_decide_eq_true (by first | with_reducible assumption | assumption)
     have q111 : (ji26) < (l0.length : Int) := of_decide_eq_true (by first | with_reducible assumption | assumption)
     obtain ⟨ad111, e111, hx111_0⟩ := Kd.at_bool HR0.out (ji26) p111 q111
     (try rw [← Nbq9.out] at hx111_0)
     (try rw [← Nbq19.out] at hx111_0)
     (try rw [← Nbq29.out] at hx111_0)
     obtain rfl : ad107 = ad111 := (by injection e111)
     replace hx111_0 := (HB.out.cell (World.block_lt_of_cell? w _ hx111_0)).trans hx111_0
     replace p111 := eq_true p111
     replace q111 := eq_true q111
     have p66 : 0 ≤ (x5_1 : Int) := of_decide_eq_true (by first | with_reducible assumption | assumption)
     have q66 : (x5_1 : Int) < ((x3_1.length : Int) : Int) := of_decide_eq_true (by first | with_reducible assumption | assumption)
     obtain ⟨go66, co66, eo66, gb66, gl66, cl66, HG66⟩ := Kd.R_form HO_3.out (by omega)
     (first | cases eo66 | (injection eo66 with ea_ en_ ec_; (first | subst ea_ | (injection ea_ with ea_; subst ea_)); subst ec_; clear en_))
     have GB66 := Aside0.mk gb66
     have GG66 := Aside0.mk HG66
     clear gb66 gl66 HG66
     obtain ⟨hx66_0, hf66_0⟩ := Kd.R_celln false HO_3.out (x5_1 : Int) p66 q66
     replace p66 := eq_true p66
     replace q66 := eq_true q66
     have HP67 := Kd.R_putg HO_3.out (x5_1 : Int) false
     go_wp2_with (first | ((with_reducible refine gate_store (t := 4) (p := 79) rfl ?_); refine store_event (t := 4) (p := 79) (v := ?vo_w68) (w1 := (wr.setCell ⟨go66, (x5_1 : Int).toNat, none⟩ (.bool false))) ?hg ?ho ?hn ?hr ?_; (case ho => rfl); (case hg => rfl); (case hn => rfl); (case hr => first | (go_simp; done) | (go_simp; rfl)); intro w68 hw; have hg : wr.grownBy w68 (some go66) := (by rw [hw]; exact HP67.2); have hp_ : Kd.R Kd.bool 4 w68 w.heap.size (fun _ => True) (.slice (some ⟨go66, 0, none⟩) x3_1.length co66) y120 := (by rw [hw, Ny120.out]; exact HP67.1); clear HP67; replace HO_3 := am_ (hp_); replace HB := am_ ((by rw [hw]; exact below_set (HB.out) GB66.out : Below w.heap.size w w68)); clear hg hw hp_))
     go_roundg k1
     case measure => have := HK1.out; omega
     case rel => exact ⟨(y120), (ji26), (by first | rfl | (simp; done) | (simp only [← hji26] <;> (first | rfl | simp)) | (simp [*]; done)), H', ⟨by have := HK1.out; omega⟩, ⟨by exact HO_3.out⟩, ⟨by repeat (first | (with_reducible first | exact HB.out | apply below_alloc | apply pw_below_drewN | apply below_drew1) | exact HB.out)⟩⟩
    rw [if_neg c25] at H
    have c25b0 : decide ((Int.tmod x5_1 16) < 15) = false := decide_eq_false c25
    clear c25
    by_cases c69 : (wrap64 (Int.tdiv x5_1 16)) > 0
    ·
     rw [if_pos c69] at H
     have c69b0 : decide (0 < (wrap64 (Int.tdiv x5_1 16))) = true := decide_eq_true c69
     clear c69
     obtain ⟨ji70, hji70⟩ : ∃ j_ : Int, (wrap64 (x5_1 - 16)) = j_ := ⟨_, rfl⟩
     replace H : (if 0 ≤ (ji70) then (if (ji70) < (l0.length : Int) then (if rdOf false l0 (ji70) = true then (if x5_1 < (x3_1.length : Int) then (spec_grow.l0 k1 l0 (x3_1.set (x5_1 : Int).toNat true) 16 (wrap64 (x5_1 + 1))) else (none)) else (if (wrap64 (Int.tdiv x5_1 16)) < 15 then (if 0 ≤ (wrap64 (x5_1 + 16)) then (if (wrap64 (x5_1 + 16)) < (l0.length : Int) then (if x5_1 < (x3_1.length : Int) then (spec_grow.l0 k1 l0 (x3_1.set (x5_1 : Int).toNat (rdOf false l0 (wrap64 (x5_1 + 16)))) 16 (wrap64 (x5_1 + 1))) else (none)) else (none)) else (none)) else (if x5_1 < (x3_1.length : Int) then (spec_grow.l0 k1 l0 (x3_1.set (x5_1 : Int).toNat false) 16 (wrap64 (x5_1 + 1))) else (none)))) else (none)) else (none)) = some r := by first | (rw [hji70] at H; exact H) | (simp only [hji70] at H ⊢; exact H)
     have hji70w : (IntKind.i64.wrap (x5_1 - 16)) = ji70 := (i64_w _).trans hji70
     by_cases c71 : 0 ≤ (ji70)
     rotate_left
     ·
      rw [if_neg c71] at H
      exact absurd H (by simp)
     rw [if_pos c71] at H
     have c71b0 : decide (0 ≤ (ji70)) = true := decide_eq_true c71
     clear c71
     by_cases c72 : (ji70) < (l0.length : Int)
     rotate_left
     ·
      rw [if_neg c72] at H
      exact absurd H (by simp)
     rw [if_pos c72] at H
     have c72b0 : decide ((ji70) < (l0.length : Int)) = true := decide_eq_true c72
     clear c72
     obtain ⟨bq73, hbq73⟩ : ∃ b_ : Bool, b_ = (rdOf false l0 (ji70)) := ⟨_, rfl⟩
     replace H : (if bq73 = true then (if x5_1 < (x3_1.length : Int) then (spec_grow.l0 k1 l0 (x3_1.set (x5_1 : Int).toNat true) 16 (wrap64 (x5_1 + 1))) else (none)) else (if (wrap64 (Int.tdiv x5_1 16)) < 15 then (if 0 ≤ (wrap64 (x5_1 + 16)) then (if (wrap64 (x5_1 + 16)) < (l0.length : Int) then (if x5_1 < (x3_1.length : Int) then (spec_grow.l0 k1 l0 (x3_1.set (x5_1 : Int).toNat (rdOf false l0 (wrap64 (x5_1 + 16)))) 16 (wrap64 (x5_1 + 1))) else (none)) else (none)) else (none)) else (if x5_1 < (x3_1.length : Int) then (spec_grow.l0 k1 l0 (x3_1.set (x5_1 : Int).toNat false) 16 (wrap64 (x5_1 + 1))) else (none)))) = some r := by rw [← hbq73] at H; exact H
     have Nbq73 := Aside0.mk hbq73
     clear hbq73
     by_cases c74 : bq73 = true
     ·
      subst c74
      have H1 : (if x5_1 < (x3_1.length : Int) then (spec_grow.l0 k1 l0 (x3_1.set (x5_1 : Int).toNat true) 16 (wrap64 (x5_1 + 1))) else (none)) = some r := by rw [if_pos rfl] at H; exact H
      clear H
      have H := H1
      clear H1
      by_cases c75 : x5_1 < (x3_1.length : Int)
      rotate_left
      ·
       rw [if_neg c75] at H
       exact absurd H (by simp)
      rw [if_pos c75] at H
      have c75b0 : decide (x5_1 < (x3_1.length : Int)) = true := decide_eq_true c75
      clear c75
      obtain ⟨y122, hy122⟩ : ∃ y_ : List Bool, y_ = (x3_1.set (x5_1 : Int).toNat true) := ⟨_, rfl⟩
      replace H : (spec_grow.l0 k1 l0 y122 16 (wrap64 (x5_1 + 1))) = some r := by first | (rw [hy122]; with_reducible exact H) | (have H2_ := (Option.bind_some _ _).symm.trans H; rw [hy122]; with_reducible exact H2_) | (have H2_ := (Option.bind_some _ _).symm.trans H; with_reducible exact H2_) | with_reducible exact H | (rw [hy122]; exact H) | exact H
      have Ny122 := Aside0.mk hy122
      clear hy122
      have H' := Aside0.mk H
      clear H
      have p107 : 0 ≤ (x5_1 : Int) := of_decide_eq_true (by first | with_reducible assumption | assumption)
      have q107 : x5_1 < (l0.length : Int) := of_decide_eq_true (by first | with_reducible assumption | assumption)
      obtain ⟨ad107, e107, hx107_0⟩ := Kd.at_bool HR0.out x5_1 p107 q107
      (try rw [← Nbq9.out] at hx107_0)
      (try rw [← Nbq19.out] at hx107_0)
      (try rw [← Nbq73.out] at hx107_0)
      cases e107
      replace hx107_0 := (HB.out.cell (World.block_lt_of_cell? w _ hx107_0)).trans hx107_0
      replace p107 := eq_true p107
      replace q107 := eq_true q107
      have p109 : 0 ≤ ((ji16) : Int) := of_decide_eq_true (by first | with_reducible assumption | assumption)
      have q109 : (ji16) < (l0.length : Int) := of_decide_eq_true (by first | with_reducible assumption | assumption)
      obtain ⟨ad109, e109, hx109_0⟩ := Kd.at_bool HR0.out (ji16) p109 q109
      (try rw [← Nbq9.out] at hx109_0)
      (try rw [← Nbq19.out] at hx109_0)
      (try rw [← Nbq73.out] at hx109_0)
      obtain rfl : ad107 = ad109 := (by injection e109)
      replace hx109_0 := (HB.out.cell (World.block_lt_of_cell? w _ hx109_0)).trans hx109_0
      replace p109 := eq_true p109
      replace q109 := eq_true q109
      have p121 : 0 ≤ ((ji70) : Int) := of_decide_eq_true (by first | with_reducible assumption | assumption)
      have q121 : (ji70) < (l0.length : Int) := of_decide_eq_true (by first | with_reducible assumption | assumption)
      obtain ⟨ad121, e121, hx121_0⟩ := Kd.at_bool HR0.out (ji70) p121 q121
      (try rw [← Nbq9.out] at hx121_0)
      (try rw [← Nbq19.out] at hx121_0)
      (try rw [← Nbq73.out] at hx121_0)
      obtain rfl : ad107 = ad121 := (by injection e121)
      replace hx121_0 := (HB.out.cell (World.block_lt_of_cell? w _ hx121_0)).trans hx121_0
      replace p121 := eq_true p121
      replace q121 := eq_true q121
      have p76 : 0 ≤ (x5_1 : Int) := of_decide_eq_true (by first | with_reducible assumption | assumption)
      have q76 : (x5_1 : Int) < ((x3_1.length : Int) : Int) := of_decide_eq_true (by first | with_reducible assumption | assumption)
      obtain ⟨go76, co76, eo76, gb76, gl76, cl76, HG76⟩ := Kd.R_form HO_3.out (by omega)
      (first | cases eo76 | (injection eo76 with ea_ en_ ec_; (first | subst ea_ | (injection ea_ with ea_; subst ea_)); subst ec_; clear en_))
      have GB76 := Aside0.mk gb76
      have GG76 := Aside0.mk HG76
      clear gb76 gl76 HG76
      obtain ⟨hx76_0, hf76_0⟩ := Kd.R_celln false HO_3.out (x5_1 : Int) p76 q76
      replace p76 := eq_true p76
      replace q76 := eq_true q76
      have HP77 := Kd.R_putg HO_3.out (x5_1 : Int) true
      go_wp2_with (first | ((with_reducible refine gate_store (t := 4) (p := 79) rfl ?_); refine store_event (t := 4) (p := 79) (v := ?vo_w78) (w1 := (wr.setCell ⟨go76, (x5_1 : Int).toNat, none⟩ (.bool true))) ?hg ?ho ?hn ?hr ?_; (case ho => rfl); (case hg => rfl); (case hn => rfl); (case hr => first | (go_simp; done) | (go_simp; rfl)); intro w78 hw; have hg : wr.grownBy w78 (some go76) := (by rw [hw]; exact HP77.2); have hp_ : Kd.R Kd.bool 4 w78 w.heap.size (fun _ => True) (.slice (some ⟨go76, 0, none⟩) x3_1.length co76) y122 := (by rw [hw, Ny122.out]; exact HP77.1); clear HP77; replace HO_3 := am_ (hp_); replace HB := am_ ((by rw [hw]; exact below_set (HB.out) GB76.out : Below w.heap.size w w78)); clear hg hw hp_))
      go_roundg k1
      case measure => have := HK1.out; omega
      case rel => exact ⟨(y122), (wrap64 (x5_1 + 1)), (by first | rfl | (simp; done) | (simp [*]; done)), H', ⟨by have := HK1.out; omega⟩, ⟨by exact HO_3.out⟩, ⟨by repeat (first | (with_reducible first | exact HB.out | apply below_alloc | apply pw_below_drewN | apply below_drew1) | exact HB.out)⟩⟩
     replace c74 := Bool.eq_false_iff.mpr c74
     subst c74
     have H1 : (if (wrap64 (Int.tdiv x5_1 16)) < 15 then (if 0 ≤ (wrap64 (x5_1 + 16)) then (if (wrap64 (x5_1 + 16)) < (l0.length : Int) then (if x5_1 < (x3_1.length : Int) then (spec_grow.l0 k1 l0 (x3_1.set (x5_1 : Int).toNat (rdOf false l0 (wrap64 (x5_1 + 16)))) 16 (wrap64 (x5_1 + 1))) else (none)) else (none)) else (none)) else (if x5_1 < (x3_1.length : Int) then (spec_grow.l0 k1 l0 (x3_1.set (x5_1 : Int).toNat false) 16 (wrap64 (x5_1 + 1))) else (none))) = some r := by rw [if_neg (show ¬ (false = true) by decide)] at H; exact H
     clear H
     have H := H1
     clear H1
     by_cases c79 : (wrap64 (Int.tdiv x5_1 16)) < 15
     ·
      rw [if_pos c79] at H
      have c79b0 : decide ((wrap64 (Int.tdiv x5_1 16)) < 15) = true := decide_eq_true c79
      clear c79
      obtain ⟨ji80, hji80⟩ : ∃ j_ : Int, (wrap64 (x5_1 + 16)) = j_ := ⟨_, rfl⟩
      replace H : (if 0 ≤ (ji80) then (if (ji80) < (l0.length : Int) then (if x5_1 < (x3_1.length : Int) then (spec_grow.l0 k1 l0 (x3_1.set (x5_1 : Int).toNat (rdOf false l0 (ji80))) 16 (wrap64 (x5_1 + 1))) else (none)) else (none)) else (none)) = some r := by first | (rw [hji80] at H; exact H) | (simp only [hji80] at H ⊢; exact H)
      have hji80w : (IntKind.i64.wrap (x5_1 + 16)) = ji80 := (i64_w _).trans hji80
      by_cases c81 : 0 ≤ (ji80)
      rotate_left
      ·
       rw [if_neg c81] at H
       exact absurd H (by simp)
      rw [if_pos c81] at H
      have c81b0 : decide (0 ≤ (ji80)) = true := decide_eq_true c81
      clear c81
      by_cases c82 : (ji80) < (l0.length : Int)
      rotate_left
      ·
       rw [if_neg c82] at H
       exact absurd H (by simp)
      rw [if_pos c82] at H
      have c82b0 : decide ((ji80) < (l0.length : Int)) = true := decide_eq_true c82
      clear c82
      by_cases c83 : x5_1 < (x3_1.length : Int)
      rotate_left
      ·
       rw [if_neg c83] at H
       exact absurd H (by simp)
      rw [if_pos c83] at H
      have c83b0 : decide (x5_1 < (x3_1.length : Int)) = true := decide_eq_true c83
      clear c83
      obtain ⟨y124, hy124⟩ : ∃ y_ : List Bool, y_ = (x3_1.set (x5_1 : Int).toNat (rdOf false l0 (ji80))) := ⟨_, rfl⟩
      replace H : (spec_grow.l0 k1 l0 y124 16 (wrap64 (x5_1 + 1))) = some r := by first | (rw [hy124]; with_reducible exact H) | (have H2_ := (Option.bind_some _ _).symm.trans H; rw [hy124]; with_reducible exact H2_) | (have H2_ := (Option.bind_some _ _).symm.trans H; with_reducible exact H2_) | with_reducible exact H | (rw [hy124]; exact H) | exact H
      have Ny124 := Aside0.mk hy124
      clear hy124
      have H' := Aside0.mk H
      clear H
      have p107 : 0 ≤ (x5_1 : Int) := of_decide_eq_true (by first | with_reducible assumption | assumption)
      have q107 : x5_1 < (l0.length : Int) := of_decide_eq_true (by first | with_reducible assumption | assumption)
      obtain ⟨ad107, e107, hx107_0⟩ := Kd.at_bool HR0.out x5_1 p107 q107
      (try rw [← Nbq9.out] at hx107_0)
      (try rw [← Nbq19.out] at hx107_0)
      (try rw [← Nbq73.out] at hx107_0)
      cases e107
      replace hx107_0 := (HB.out.cell (World.block_lt_of_cell? w _ hx107_0)).trans hx107_0
      replace p107 := eq_true p107
      replace q107 := eq_true q107
      have p109 : 0 ≤ ((ji16) : Int) := of_decide_eq_true (by first | with_reducible assumption | assumption)
      have q109 : (ji16) < (l0.length : Int) := of_decide_eq_true (by first | with_reducible assumption | assumption)
      obtain ⟨ad109, e109, hx109_0⟩ := Kd.at_bool HR0.out (ji16) p109 q109
      (try rw [← Nbq9.out] at hx109_0)
      (try rw [← Nbq19.out] at hx109_0)
      (try rw [← Nbq73.out] at hx109_0)
      obtain rfl : ad107 = ad109 := (by injection e109)
      replace hx109_0 := (HB.out.cell (World.block_lt_of_cell? w _ hx109_0)).trans hx109_0
      replace p109 := eq_true p109
      replace q109 := eq_true q109
      have p121 : 0 ≤ ((ji70) : Int) := of_decide_eq_true (by first | with_reducible assumption | assumption)
      have q121 : (ji70) < (l0.length : Int) := of_decide_eq_true (by first | with_reducible assumption | assumption)
      obtain ⟨ad121, e121, hx121_0⟩ := Kd.at_bool HR0.out (ji70) p121 q121
      (try rw [← Nbq9.out] at hx121_0)
      (try rw [← Nbq19.out] at hx121_0)
      (try rw [← Nbq73.out] at hx121_0)
      obtain rfl : ad107 = ad121 := (by injection e121)
      replace hx121_0 := (HB.out.cell (World.block_lt_of_cell? w _ hx121_0)).trans hx121_0
      replace p121 := eq_true p121
      replace q121 := eq_true q121
      have p123 : 0 ≤ ((ji80) : Int) := of_decide_eq_true (by first | with_reducible assumption | assumption)
      have q123 : (ji80) < (l0.length : Int) := of_decide_eq_true (by first | with_reducible assumption | assumption)
      obtain ⟨ad123, e123, hx123_0⟩ := Kd.at_bool HR0.out (ji80) p123 q123
      (try rw [← Nbq9.out] at hx123_0)
      (try rw [← Nbq19.out] at hx123_0)
      (try rw [← Nbq73.out] at hx123_0)
      obtain rfl : ad107 = ad123 := (by injection e123)
      replace hx123_0 := (HB.out.cell (World.block_lt_of_cell? w _ hx123_0)).trans hx123_0
      replace p123 := eq_true p123
      replace q123 := eq_true q123
      have p84 : 0 ≤ (x5_1 : Int) := of_decide_eq_true (by first | with_reducible assumption | assumption)
      have q84 : (x5_1 : Int) < ((x3_1.length : Int) : Int) := of_decide_eq_true (by first | with_reducible assumption | assumption)
      obtain ⟨go84, co84, eo84, gb84, gl84, cl84, HG84⟩ := Kd.R_form HO_3.out (by omega)
      (first | cases eo84 | (injection eo84 with ea_ en_ ec_; (first | subst ea_ | (injection ea_ with ea_; subst ea_)); subst ec_; clear en_))
      have GB84 := Aside0.mk gb84
      have GG84 := Aside0.mk HG84
      clear gb84 gl84 HG84
      obtain ⟨hx84_0, hf84_0⟩ := Kd.R_celln false HO_3.out (x5_1 : Int) p84 q84
      replace p84 := eq_true p84
      replace q84 := eq_true q84
      have HP85 := Kd.R_putg HO_3.out (x5_1 : Int) (rdOf false l0 (ji80))
      go_wp2_with (first | ((with_reducible refine gate_store (t := 4) (p := 79) rfl ?_); refine store_event (t := 4) (p := 79) (v := ?vo_w86) (w1 := (wr.setCell ⟨go84, (x5_1 : Int).toNat, none⟩ (.bool (rdOf false l0 (ji80))))) ?hg ?ho ?hn ?hr ?_; (case ho => rfl); (case hg => rfl); (case hn => rfl); (case hr => first | (go_simp; done) | (go_simp; rfl)); intro w86 hw; have hg : wr.grownBy w86 (some go84) := (by rw [hw]; exact HP85.2); have hp_ : Kd.R Kd.bool 4 w86 w.heap.size (fun _ => True) (.slice (some ⟨go84, 0, none⟩) x3_1.length co84) y124 := (by rw [hw, Ny124.out]; exact HP85.1); clear HP85; replace HO_3 := am_ (hp_); replace HB := am_ ((by rw [hw]; exact below_set (HB.out) GB84.out : Below w.heap.size w w86)); clear hg hw hp_))
      go_roundg k1
      case measure => have := HK1.out; omega
      case rel => exact ⟨(y124), (wrap64 (x5_1 + 1)), (by first | rfl | (simp; done) | (simp [*]; done)), H', ⟨by have := HK1.out; omega⟩, ⟨by exact HO_3.out⟩, ⟨by repeat (first | (with_reducible first | exact HB.out | apply below_alloc | apply pw_below_drewN | apply below_drew1) | exact HB.out)⟩⟩
     rw [if_neg c79] at H
     have c79b0 : decide ((wrap64 (Int.tdiv x5_1 16)) < 15) = false := decide_eq_false c79
     clear c79
     by_cases c87 : x5_1 < (x3_1.length : Int)
     rotate_left
     ·
      rw [if_neg c87] at H
      exact absurd H (by simp)
     rw [if_pos c87] at H
     have c87b0 : decide (x5_1 < (x3_1.length : Int)) = true := decide_eq_true c87
     clear c87
     obtain ⟨y125, hy125⟩ : ∃ y_ : List Bool, y_ = (x3_1.set (x5_1 : Int).toNat false) := ⟨_, rfl⟩
     replace H : (spec_grow.l0 k1 l0 y125 16 (wrap64 (x5_1 + 1))) = some r := by first | (rw [hy125]; with_reducible exact H) | (have H2_ := (Option.bind_some _ _).symm.trans H; rw [hy125]; with_reducible exact H2_) | (have H2_ := (Option.bind_some _ _).symm.trans H; with_reducible exact H2_) | with_reducible exact H | (rw [hy125]; exact H) | exact H
     have Ny125 := Aside0.mk hy125
     clear hy125
     have H' := Aside0.mk H
     clear H
     have p107 : 0 ≤ (x5_1 : Int) := of_decide_eq_true (by first | with_reducible assumption | assumption)
     have q107 : x5_1 < (l0.length : Int) := of_decide_eq_true (by first | with_reducible assumption | assumption)
     obtain ⟨ad107, e107, hx107_0⟩ := Kd.at_bool HR0.out x5_1 p107 q107
     (try rw [← Nbq9.out] at hx107_0)
     (try rw [← Nbq19.out] at hx107_0)
     (try rw [← Nbq73.out] at hx107_0)
     cases e107
     replace hx107_0 := (HB.out.cell (World.block_lt_of_cell? w _ hx107_0)).trans hx107_0
     replace p107 := eq_true p107
     replace q107 := eq_true q107
     have p109 : 0 ≤ ((ji16) : Int) := of_decide_eq_true (by first | with_reducible assumption | assumption)
     have q109 : (ji16) < (l0.length : Int) := of_decide_eq_true (by first | with_reducible assumption | assumption)
     obtain ⟨ad109, e109, hx109_0⟩ := Kd.at_bool HR0.out (ji16) p109 q109
     (try rw [← Nbq9.out] at hx109_0)
     (try rw [← Nbq19.out] at hx109_0)
     (try rw [← Nbq73.out] at hx109_0)
     obtain rfl : ad107 = ad109 := (by injection e109)
     replace hx109_0 := (HB.out.cell (World.block_lt_of_cell? w _ hx109_0)).trans hx109_0
     replace p109 := eq_true p109
     replace q109 := eq_true q109
     have p121 : 0 ≤ ((ji70) : Int) := of_decide_eq_true (by first | with_reducible assumption | assumption)
     have q121 : (ji70) < (l0.length : Int) := of_decide_eq_true (by first | with_reducible assumption | assumption)
     obtain ⟨ad121, e121, hx121_0⟩ := Kd.at_bool HR0.out (ji70) p121 q121
     (try rw [← Nbq9.out] at hx121_0)
     (try rw [← Nbq19.out] at hx121_0)
     (try rw [← Nbq73.out] at hx121_0)
     obtain rfl : ad107 = ad121 := (by injection e121)
     replace hx121_0 := (HB.out.cell (World.block_lt_of_cell? w _ hx121_0)).trans hx121_0
     replace p121 := eq_true p121
     replace q121 := eq_true q121
     have p88 : 0 ≤ (x5_1 : Int) := of_decide_eq_true (by first | with_reducible assumption | assumption)
     have q88 : (x5_1 : Int) < ((x3_1.length : Int) : Int) := of_decide_eq_true (by first | with_reducible assumption | assumption)
     obtain ⟨go88, co88, eo88, gb88, gl88, cl88, HG88⟩ := Kd.R_form HO_3.out (by omega)
     (first | cases eo88 | (injection eo88 with ea_ en_ ec_; (first | subst ea_ | (injection ea_ with ea_; subst ea_)); subst ec_; clear en_))
     have GB88 := Aside0.mk gb88
     have GG88 := Aside0.mk HG88
     clear gb88 gl88 HG88
     obtain ⟨hx88_0, hf88_0⟩ := Kd.R_celln false HO_3.out (x5_1 : Int) p88 q88
     replace p88 := eq_true p88
     replace q88 := eq_true q88
     have HP89 := Kd.R_putg HO_3.out (x5_1 : Int) false
     go_wp2_with (first | ((with_reducible refine gate_store (t := 4) (p := 79) rfl ?_); refine store_event (t := 4) (p := 79) (v := ?vo_w90) (w1 := (wr.setCell ⟨go88, (x5_1 : Int).toNat, none⟩ (.bool false))) ?hg ?ho ?hn ?hr ?_; (case ho => rfl); (case hg => rfl); (case hn => rfl); (case hr => first | (go_simp; done) | (go_simp; rfl)); intro w90 hw; have hg : wr.grownBy w90 (some go88) := (by rw [hw]; exact HP89.2); have hp_ : Kd.R Kd.bool 4 w90 w.heap.size (fun _ => True) (.slice (some ⟨go88, 0, none⟩) x3_1.length co88) y125 := (by rw [hw, Ny125.out]; exact HP89.1); clear HP89; replace HO_3 := am_ (hp_); replace HB := am_ ((by rw [hw]; exact below_set (HB.out) GB88.out : Below w.heap.size w w90)); clear hg hw hp_))
     go_roundg k1
     case measure => have := HK1.out; omega
     case rel => exact ⟨(y125), (wrap64 (x5_1 + 1)), (by first | rfl | (simp; done) | (simp [*]; done)), H', ⟨by have := HK1.out; omega⟩, ⟨by exact HO_3.out⟩, ⟨by repeat (first | (with_reducible first | exact HB.out | apply below_alloc | apply pw_below_drewN | apply below_drew1) | exact HB.out)⟩⟩
    rw [if_neg c69] at H
    have c69b0 : decide (0 < (wrap64 (Int.tdiv x5_1 16))) = false := decide_eq_false c69
    clear c69
    by_cases c91 : (wrap64 (Int.tdiv x5_1 16)) < 15
    ·
     rw [if_pos c91] at H
     have c91b0 : decide ((wrap64 (Int.tdiv x5_1 16)) < 15) = true := decide_eq_true c91
     clear c91
     obtain ⟨ji92, hji92⟩ : ∃ j_ : Int, (wrap64 (x5_1 + 16)) = j_ := ⟨_, rfl⟩
     replace H : (if 0 ≤ (ji92) then (if (ji92) < (l0.length : Int) then (if x5_1 < (x3_1.length : Int) then (spec_grow.l0 k1 l0 (x3_1.set (x5_1 : Int).toNat (rdOf false l0 (ji92))) 16 (wrap64 (x5_1 + 1))) else (none)) else (none)) else (none)) = some r := by first | (rw [hji92] at H; exact H) | (simp only [hji92] at H ⊢; exact H)
     have hji92w : (IntKind.i64.wrap (x5_1 + 16)) = ji92 := (i64_w _).trans hji92
     by_cases c93 : 0 ≤ (ji92)
     rotate_left
     ·
      rw [if_neg c93] at H
      exact absurd H (by simp)
     rw [if_pos c93] at H
     have c93b0 : decide (0 ≤ (ji92)) = true := decide_eq_true c93
     clear c93
     by_cases c94 : (ji92) < (l0.length : Int)
     rotate_left
     ·
      rw [if_neg c94] at H
      exact absurd H (by simp)
     rw [if_pos c94] at H
     have c94b0 : decide ((ji92) < (l0.length : Int)) = true := decide_eq_true c94
     clear c94
     by_cases c95 : x5_1 < (x3_1.length : Int)
     rotate_left
     ·
      rw [if_neg c95] at H
      exact absurd H (by simp)
     rw [if_pos c95] at H
     have c95b0 : decide (x5_1 < (x3_1.length : Int)) = true := decide_eq_true c95
     clear c95
     obtain ⟨y127, hy127⟩ : ∃ y_ : List Bool, y_ = (x3_1.set (x5_1 : Int).toNat (rdOf false l0 (ji92))) := ⟨_, rfl⟩
     replace H : (spec_grow.l0 k1 l0 y127 16 (wrap64 (x5_1 + 1))) = some r := by first | (rw [hy127]; with_reducible exact H) | (have H2_ := (Option.bind_some _ _).symm.trans H; rw [hy127]; with_reducible exact H2_) | (have H2_ := (Option.bind_some _ _).symm.trans H; with_reducible exact H2_) | with_reducible exact H | (rw [hy127]; exact H) | exact H
     have Ny127 := Aside0.mk hy127
     clear hy127
     have H' := Aside0.mk H
     clear H
     have p107 : 0 ≤ (x5_1 : Int) := of_decide_eq_true (by first | with_reducible assumption | assumption)
     have q107 : x5_1 < (l0.length : Int) := of_decide_eq_true (by first | with_reducible assumption | assumption)
     obtain ⟨ad107, e107, hx107_0⟩ := Kd.at_bool HR0.out x5_1 p107 q107
     (try rw [← Nbq9.out] at hx107_0)
     (try rw [← Nbq19.out] at hx107_0)
     cases e107
     replace hx107_0 := (HB.out.cell (World.block_lt_of_cell? w _ hx107_0)).trans hx107_0
     replace p107 := eq_true p107
     replace q107 := eq_true q107
     have p109 : 0 ≤ ((ji16) : Int) := of_decide_eq_true (by first | with_reducible assumption | assumption)
     have q109 : (ji16) < (l0.length : Int) := of_decide_eq_true (by first | with_reducible assumption | assumption)
     obtain ⟨ad109, e109, hx109_0⟩ := Kd.at_bool HR0.out (ji16) p109 q109
     (try rw [← Nbq9.out] at hx109_0)
     (try rw [← Nbq19.out] at hx109_0)
     obtain rfl : ad107 = ad109 := (by injection e109)
     replace hx109_0 := (HB.out.cell (World.block_lt_of_cell? w _ hx109_0)).trans hx109_0
     replace p109 := eq_true p109
     replace q109 := eq_true q109
     have p126 : 0 ≤ ((ji92) : Int) := of_decide_eq_true (by first | with_reducible assumption | assumption)
     have q126 : (ji92) < (l0.length : Int) := of_decide_eq_true (by first | with_reducible assumption | assumption)
     obtain ⟨ad126, e126, hx126_0⟩ := Kd.at_bool HR0.out (ji92) p126 q126
     (try rw [← Nbq9.out] at hx126_0)
     (try rw [← Nbq19.out] at hx126_0)
     obtain rfl : ad107 = ad126 := (by injection e126)
     replace hx126_0 := (HB.out.cell (World.block_lt_of_cell? w _ hx126_0)).trans hx126_0
     replace p126 := eq_true p126
     replace q126 := eq_true q126
     have p96 : 0 ≤ (x5_1 : Int) := of_decide_eq_true (by first | with_reducible assumption | assumption)
     have q96 : (x5_1 : Int) < ((x3_1.length : Int) : Int) := of_decide_eq_true (by first | with_reducible assumption | assumption)
     obtain ⟨go96, co96, eo96, gb96, gl96, cl96, HG96⟩ := Kd.R_form HO_3.out (by omega)
     (first | cases eo96 | (injection eo96 with ea_ en_ ec_; (first | subst ea_ | (injection ea_ with ea_; subst ea_)); subst ec_; clear en_))
     have GB96 := Aside0.mk gb96
     have GG96 := Aside0.mk HG96
     clear gb96 gl96 HG96
     obtain ⟨hx96_0, hf96_0⟩ := Kd.R_celln false HO_3.out (x5_1 : Int) p96 q96
     replace p96 := eq_true p96
     replace q96 := eq_true q96
     have HP97 := Kd.R_putg HO_3.out (x5_1 : Int) (rdOf false l0 (ji92))
     go_wp2_with (first | ((with_reducible refine gate_store (t := 4) (p := 79) rfl ?_); refine store_event (t := 4) (p := 79) (v := ?vo_w98) (w1 := (wr.setCell ⟨go96, (x5_1 : Int).toNat, none⟩ (.bool (rdOf false l0 (ji92))))) ?hg ?ho ?hn ?hr ?_; (case ho => rfl); (case hg => rfl); (case hn => rfl); (case hr => first | (go_simp; done) | (go_simp; rfl)); intro w98 hw; have hg : wr.grownBy w98 (some go96) := (by rw [hw]; exact HP97.2); have hp_ : Kd.R Kd.bool 4 w98 w.heap.size (fun _ => True) (.slice (some ⟨go96, 0, none⟩) x3_1.length co96) y127 := (by rw [hw, Ny127.out]; exact HP97.1); clear HP97; replace HO_3 := am_ (hp_); replace HB := am_ ((by rw [hw]; exact below_set (HB.out) GB96.out : Below w.heap.size w w98)); clear hg hw hp_))
     go_roundg k1
     case measure => have := HK1.out; omega
     case rel => exact ⟨(y127), (wrap64 (x5_1 + 1)), (by first | rfl | (simp; done) | (simp [*]; done)), H', ⟨by have := HK1.out; omega⟩, ⟨by exact HO_3.out⟩, ⟨by repeat (first | (with_reducible first | exact HB.out | apply below_alloc | apply pw_below_drewN | apply below_drew1) | exact HB.out)⟩⟩
    rw [if_neg c91] at H
    have c91b0 : decide ((wrap64 (Int.tdiv x5_1 16)) < 15) = false := decide_eq_false c91
    clear c91
    by_cases c99 : x5_1 < (x3_1.length : Int)
    rotate_left
    ·
     rw [if_neg c99] at H
     exact absurd H (by simp)
    rw [if_pos c99] at H
    have c99b0 : decide (x5_1 < (x3_1.length : Int)) = true := decide_eq_true c99
    clear c99
    obtain ⟨y128, hy128⟩ : ∃ y_ : List Bool, y_ = (x3_1.set (x5_1 : Int).toNat false) := ⟨_, rfl⟩
    replace H : (spec_grow.l0 k1 l0 y128 16 (wrap64 (x5_1 + 1))) = some r := by first | (rw [hy128]; with_reducible exact H) | (have H2_ := (Option.bind_some _ _).symm.trans H; rw [hy128]; with_reducible exact H2_) | (have H2_ := (Option.bind_some _ _).symm.trans H; with_reducible exact H2_) | with_reducible exact H | (rw [hy128]; exact H) | exact H
    have Ny128 := Aside0.mk hy128
    clear hy128
    have H' := Aside0.mk H
    clear H
    have p107 : 0 ≤ (x5_1 : Int) := of_decide_eq_true (by first | with_reducible assumption | assumption)
    have q107 : x5_1 < (l0.length : Int) := of_decide_eq_true (by first | with_reducible assumption | assumption)
    obtain ⟨ad107, e107, hx107_0⟩ := Kd.at_bool HR0.out x5_1 p107 q107
    (try rw [← Nbq9.out] at hx107_0)
    (try rw [← Nbq19.out] at hx107_0)
    cases e107
    replace hx107_0 := (HB.out.cell (World.block_lt_of_cell? w _ hx107_0)).trans hx107_0
    replace p107 := eq_true p107
    replace q107 := eq_true q107
    have p109 : 0 ≤ ((ji16) : Int) := of_decide_eq_true (by first | with_reducible assumption | assumption)
    have q109 : (ji16) < (l0.length : Int) := of_decide_eq_true (by first | with_reducible assumption | assumption)
    obtain ⟨ad109, e109, hx109_0⟩ := Kd.at_bool HR0.out (ji16) p109 q109
    (try rw [← Nbq9.out] at hx109_0)
    (try rw [← Nbq19.out] at hx109_0)
    obtain rfl : ad107 = ad109 := (by injection e109)
    replace hx109_0 := (HB.out.cell (World.block_lt_of_cell? w _ hx109_0)).trans hx109_0
    replace p109 := eq_true p109
    replace q109 := eq_true q109
    have p100 : 0 ≤ (x5_1 : Int) := of_decide_eq_true (by first | with_reducible assumption | assumption)
    have q100 : (x5_1 : Int) < ((x3_1.length : Int) : Int) := of_decide_eq_true (by first | with_reducible assumption | assumption)
    obtain ⟨go100, co100, eo100, gb100, gl100, cl100, HG100⟩ := Kd.R_form HO_3.out (by omega)
    (first | cases eo100 | (injection eo100 with ea_ en_ ec_; (first | subst ea_ | (injection ea_ with ea_; subst ea_)); subst ec_; clear en_))
    have GB100 := Aside0.mk gb100
    have GG100 := Aside0.mk HG100
    clear gb100 gl100 HG100
    obtain ⟨hx100_0, hf100_0⟩ := Kd.R_celln false HO_3.out (x5_1 : Int) p100 q100
    replace p100 := eq_true p100
    replace q100 := eq_true q100
    have HP101 := Kd.R_putg HO_3.out (x5_1 : Int) false
    go_wp2_with (first | ((with_reducible refine gate_store (t := 4) (p := 79) rfl ?_); refine store_event (t := 4) (p := 79) (v := ?vo_w102) (w1 := (wr.setCell ⟨go100, (x5_1 : Int).toNat, none⟩ (.bool false))) ?hg ?ho ?hn ?hr ?_; (case ho => rfl); (case hg => rfl); (case hn => rfl); (case hr => first | (go_simp; done) | (go_simp; rfl)); intro w102 hw; have hg : wr.grownBy w102 (some go100) := (by rw [hw]; exact HP101.2); have hp_ : Kd.R Kd.bool 4 w102 w.heap.size (fun _ => True) (.slice (some ⟨go100, 0, none⟩) x3_1.length co100) y128 := (by rw [hw, Ny128.out]; exact HP101.1); clear HP101; replace HO_3 := am_ (hp_); replace HB := am_ ((by rw [hw]; exact below_set (HB.out) GB100.out : Below w.heap.size w w102)); clear hg hw hp_))
    go_roundg k1
    case measure => have := HK1.out; omega
    case rel => exact ⟨(y128), (wrap64 (x5_1 + 1)), (by first | rfl | (simp; done) | (simp [*]; done)), H', ⟨by have := HK1.out; omega⟩, ⟨by exact HO_3.out⟩, ⟨by repeat (first | (with_reducible first | exact HB.out | apply below_alloc | apply pw_below_drewN | apply below_drew1) | exact HB.out)⟩⟩
   rw [if_neg c15] at H
   have c15b0 : decide (0 < (Int.tmod x5_1 16)) = false := decide_eq_false c15
   clear c15
   by_cases c103 : (Int.tmod x5_1 16) < 15
   ·
    rw [if_pos c103] at H
    have c103b0 : decide ((Int.tmod x5_1 16) < 15) = true := decide_eq_true c103
    clear c103
    obtain ⟨ji104, hji104⟩ : ∃ j_ : Int, (wrap64 (x5_1 + 1)) = j_ := ⟨_, rfl⟩
    replace H : (if 0 ≤ (ji104) then (if (ji104) < (l0.length : Int) then (if rdOf false l0 (ji104) = true then (if x5_1 < (x3_1.length : Int) then (spec_grow.l0 k1 l0 (x3_1.set (x5_1 : Int).toNat true) 16 ji104) else (none)) else (if (wrap64 (Int.tdiv x5_1 16)) > 0 then (if 0 ≤ (wrap64 (x5_1 - 16)) then (if (wrap64 (x5_1 - 16)) < (l0.length : Int) then (if rdOf false l0 (wrap64 (x5_1 - 16)) = true then (if x5_1 < (x3_1.length : Int) then (spec_grow.l0 k1 l0 (x3_1.set (x5_1 : Int).toNat true) 16 ji104) else (none)) else (if (wrap64 (Int.tdiv x5_1 16)) < 15 then (if 0 ≤ (wrap64 (x5_1 + 16)) then (if (wrap64 (x5_1 + 16)) < (l0.length : Int) then (if x5_1 < (x3_1.length : Int) then (spec_grow.l0 k1 l0 (x3_1.set (x5_1 : Int).toNat (rdOf false l0 (wrap64 (x5_1 + 16)))) 16 ji104) else (none)) else (none)) else (none)) else (if x5_1 < (x3_1.length : Int) then (spec_grow.l0 k1 l0 (x3_1.set (x5_1 : Int).toNat false) 16 ji104) else (none)))) else (none)) else (none)) else (if (wrap64 (Int.tdiv x5_1 16)) < 15 then (if 0 ≤ (wrap64 (x5_1 + 16)) then (if (wrap64 (x5_1 + 16)) < (l0.length : Int) then (if x5_1 < (x3_1.length : Int) then (spec_grow.l0 k1 l0 (x3_1.set (x5_1 : Int).toNat (rdOf false l0 (wrap64 (x5_1 + 16)))) 16 ji104) else (none)) else (none)) else (none)) else (if x5_1 < (x3_1.length : Int) then (spec_grow.l0 k1 l0 (x3_1.set (x5_1 : Int).toNat false) 16 ji104) else (none))))) else (none)) else (none)) = some r := by first | (rw [hji104] at H; exact H) | (simp only [hji104] at H ⊢; exact H)
    have hji104w : (IntKind.i64.wrap (x5_1 + 1)) = ji104 := (i64_w _).trans hji104
    by_cases c105 : 0 ≤ (ji104)
    rotate_left
    ·
     rw [if_neg c105] at H
     exact absurd H (by simp)
    rw [if_pos c105] at H
    have c105b0 : decide (0 ≤ (ji104)) = true := decide_eq_true c105
    clear c105
    by_cases c106 : (ji104) < (l0.length : Int)
    rotate_left
    ·
     rw [if_neg c106] at H
     exact absurd H (by simp)
    rw [if_pos c106] at H
    have c106b0 : decide ((ji104) < (l0.length : Int)) = true := decide_eq_true c106
    clear c106
    obtain ⟨bq107, hbq107⟩ : ∃ b_ : Bool, b_ = (rdOf false l0 (ji104)) := ⟨_, rfl⟩
    replace H : (if bq107 = true then (if x5_1 < (x3_1.length : Int) then (spec_grow.l0 k1 l0 (x3_1.set (x5_1 : Int).toNat true) 16 ji104) else (none)) else (if (wrap64 (Int.tdiv x5_1 16)) > 0 then (if 0 ≤ (wrap64 (x5_1 - 16)) then (if (wrap64 (x5_1 - 16)) < (l0.length : Int) then (if rdOf false l0 (wrap64 (x5_1 - 16)) = true then (if x5_1 < (x3_1.length : Int) then (spec_grow.l0 k1 l0 (x3_1.set (x5_1 : Int).toNat true) 16 ji104) else (none)) else (if (wrap64 (Int.tdiv x5_1 16)) < 15 then (if 0 ≤ (wrap64 (x5_1 + 16)) then (if (wrap64 (x5_1 + 16)) < (l0.length : Int) then (if x5_1 < (x3_1.length : Int) then (spec_grow.l0 k1 l0 (x3_1.set (x5_1 : Int).toNat (rdOf false l0 (wrap64 (x5_1 + 16)))) 16 ji104) else (none)) else (none)) else (none)) else (if x5_1 < (x3_1.length : Int) then (spec_grow.l0 k1 l0 (x3_1.set (x5_1 : Int).toNat false) 16 ji104) else (none)))) else (none)) else (none)) else (if (wrap64 (Int.tdiv x5_1 16)) < 15 then (if 0 ≤ (wrap64 (x5_1 + 16)) then (if (wrap64 (x5_1 + 16)) < (l0.length : Int) then (if x5_1 < (x3_1.length : Int) then (spec_grow.l0 k1 l0 (x3_1.set (x5_1 : Int).toNat (rdOf false l0 (wrap64 (x5_1 + 16)))) 16 ji104) else (none)) else (none)) else (none)) else (if x5_1 < (x3_1.length : Int) then (spec_grow.l0 k1 l0 (x3_1.set (x5_1 : Int).toNat false) 16 ji104) else (none))))) = some r := by rw [← hbq107] at H; exact H
    have Nbq107 := Aside0.mk hbq107
    clear hbq107
    by_cases c108 : bq107 = true
    ·
     subst c108
     have H1 : (if x5_1 < (x3_1.length : Int) then (spec_grow.l0 k1 l0 (x3_1.set (x5_1 : Int).toNat true) 16 ji104) else (none)) = some r := by rw [if_pos rfl] at H; exact H
     clear H
     have H := H1
     clear H1
     by_cases c109 : x5_1 < (x3_1.length : Int)
     rotate_left
     ·
      rw [if_neg c109] at H
      exact absurd H (by simp)
     rw [if_pos c109] at H
     have c109b0 : decide (x5_1 < (x3_1.length : Int)) = true := decide_eq_true c109
     clear c109
     obtain ⟨y130, hy130⟩ : ∃ y_ : List Bool, y_ = (x3_1.set (x5_1 : Int).toNat true) := ⟨_, rfl⟩
     replace H : (spec_grow.l0 k1 l0 y130 16 ji104) = some r := by first | (rw [hy130]; with_reducible exact H) | (have H2_ := (Option.bind_some _ _).symm.trans H; rw [hy130]; with_reducible exact H2_) | (have H2_ := (Option.bind_some _ _).symm.trans H; with_reducible exact H2_) | with_reducible exact H | (rw [hy130]; exact H) | exact H
     have Ny130 := Aside0.mk hy130
     clear hy130
     have H' := Aside0.mk H
     clear H
     have p107 : 0 ≤ (x5_1 : Int) := of_decide_eq_true (by first | with_reducible assumption | assumption)
     have q107 : x5_1 < (l0.length : Int) := of_decide_eq_true (by first | with_reducible assumption | assumption)
     obtain ⟨ad107, e107, hx107_0⟩ := Kd.at_bool HR0.out x5_1 p107 q107
     (try rw [← Nbq9.out] at hx107_0)
     (try rw [← Nbq107.out] at hx107_0)
     cases e107
     replace hx107_0 := (HB.out.cell (World.block_lt_of_cell? w _ hx107_0)).trans hx107_0
     replace p107 := eq_true p107
     replace q107 := eq_true q107
     have p129 : 0 ≤ ((ji104) : Int) := of_decide_eq_true (by first | with_reducible assumption | assumption)
     have q129 : (ji104) < (l0.length : Int) := of_decide_eq_true (by first | with_reducible assumption | assumption)
     obtain ⟨ad129, e129, hx129_0⟩ := Kd.at_bool HR0.out (ji104) p129 q129
     (try rw [← Nbq9.out] at hx129_0)
     (try rw [← Nbq107.out] at hx129_0)
     obtain rfl : ad107 = ad129 := (by injection e129)
     replace hx129_0 := (HB.out.cell (World.block_lt_of_cell? w _ hx129_0)).trans hx129_0
     replace p129 := eq_true p129
     replace q129 := eq_true q129
     have p110 : 0 ≤ (x5_1 : Int) := of_decide_eq_true (by first | with_reducible assumption | assumption)
     have q110 : (x5_1 : Int) < ((x3_1.length : Int) : Int) := of_decide_eq_true (by first | with_reducible assumption | assumption)
     obtain ⟨go110, co110, eo110, gb110, gl110, cl110, HG110⟩ := Kd.R_form HO_3.out (by omega)
     (first | cases eo110 | (injection eo110 with ea_ en_ ec_; (first | subst ea_ | (injection ea_ with ea_; subst ea_)); subst ec_; clear en_))
     have GB110 := Aside0.mk gb110
     have GG110 := Aside0.mk HG110
     clear gb110 gl110 HG110
     obtain ⟨hx110_0, hf110_0⟩ := Kd.R_celln false HO_3.out (x5_1 : Int) p110 q110
     replace p110 := eq_true p110
     replace q110 := eq_true q110
     have HP111 := Kd.R_putg HO_3.out (x5_1 : Int) true
     go_wp2_with (first | ((with_reducible refine gate_store (t := 4) (p := 79) rfl ?_); refine store_event (t := 4) (p := 79) (v := ?vo_w112) (w1 := (wr.setCell ⟨go110, (x5_1 : Int).toNat, none⟩ (.bool true))) ?hg ?ho ?hn ?hr ?_; (case ho => rfl); (case hg => rfl); (case hn => rfl); (case hr => first | (go_simp; done) | (go_simp; rfl)); intro w112 hw; have hg : wr.grownBy w112 (some go110) := (by rw [hw]; exact HP111.2); have hp_ : Kd.R Kd.bool 4 w112 w.heap.size (fun _ => True) (.slice (some ⟨go110, 0, none⟩) x3_1.length co110) y130 := (by rw [hw, Ny130.out]; exact HP111.1); clear HP111; replace HO_3 := am_ (hp_); replace HB := am_ ((by rw [hw]; exact below_set (HB.out) GB110.out : Below w.heap.size w w112)); clear hg hw hp_))
     go_roundg k1
     case measure => have := HK1.out; omega
     case rel => exact ⟨(y130), (ji104), (by first | rfl | (simp; done) | (simp only [← hji104] <;> (first | rfl | simp)) | (simp [*]; done)), H', ⟨by have := HK1.out; omega⟩, ⟨by exact HO_3.out⟩, ⟨by repeat (first | (with_reducible first | exact HB.out | apply below_alloc | apply pw_below_drewN | apply below_drew1) | exact HB.out)⟩⟩
    replace c108 := Bool.eq_false_iff.mpr c108
    subst c108
    have H1 : (if (wrap64 (Int.tdiv x5_1 16)) > 0 then (if 0 ≤ (wrap64 (x5_1 - 16)) then (if (wrap64 (x5_1 - 16)) < (l0.length : Int) then (if rdOf false l0 (wrap64 (x5_1 - 16)) = true then (if x5_1 < (x3_1.length : Int) then (spec_grow.l0 k1 l0 (x3_1.set (x5_1 : Int).toNat true) 16 ji104) else (none)) else (if (wrap64 (Int.tdiv x5_1 16)) < 15 then (if 0 ≤ (wrap64 (x5_1 + 16)) then (if (wrap64 (x5_1 + 16)) < (l0.length : Int) then (if x5_1 < (x3_1.length : Int) then (spec_grow.l0 k1 l0 (x3_1.set (x5_1 : Int).toNat (rdOf false l0 (wrap64 (x5_1 + 16)))) 16 ji104) else (none)) else (none)) else (none)) else (if x5_1 < (x3_1.length : Int) then (spec_grow.l0 k1 l0 (x3_1.set (x5_1 : Int).toNat false) 16 ji104) else (none)))) else (none)) else (none)) else (if (wrap64 (Int.tdiv x5_1 16)) < 15 then (if 0 ≤ (wrap64 (x5_1 + 16)) then (if (wrap64 (x5_1 + 16)) < (l0.length : Int) then (if x5_1 < (x3_1.length : Int) then (spec_grow.l0 k1 l0 (x3_1.set (x5_1 : Int).toNat (rdOf false l0 (wrap64 (x5_1 + 16)))) 16 ji104) else (none)) else (none)) else (none)) else (if x5_1 < (x3_1.length : Int) then (spec_grow.l0 k1 l0 (x3_1.set (x5_1 : Int).toNat false) 16 ji104) else (none)))) = some r := by rw [if_neg (show ¬ (false = true) by decide)] at H; exact H
    clear H
    have H := H1
    clear H1
    by_cases c113 : (wrap64 (Int.tdiv x5_1 16)) > 0
    ·
     rw [if_pos c113] at H
     have c113b0 : decide (0 < (wrap64 (Int.tdiv x5_1 16))) = true := decide_eq_true c113
     clear c113
     obtain ⟨ji114, hji114⟩ : ∃ j_ : Int, (wrap64 (x5_1 - 16)) = j_ := ⟨_, rfl⟩
     replace H : (if 0 ≤ (ji114) then (if (ji114) < (l0.length : Int) then (if rdOf false l0 (ji114) = true then (if x5_1 < (x3_1.length : Int) then (spec_grow.l0 k1 l0 (x3_1.set (x5_1 : Int).toNat true) 16 ji104) else (none)) else (if (wrap64 (Int.tdiv x5_1 16)) < 15 then (if 0 ≤ (wrap64 (x5_1 + 16)) then (if (wrap64 (x5_1 + 16)) < (l0.length : Int) then (if x5_1 < (x3_1.length : Int) then (spec_grow.l0 k1 l0 (x3_1.set (x5_1 : Int).toNat (rdOf false l0 (wrap64 (x5_1 + 16)))) 16 ji104) else (none)) else (none)) else (none)) else (if x5_1 < (x3_1.length : Int) then (spec_grow.l0 k1 l0 (x3_1.set (x5_1 : Int).toNat false) 16 ji104) else (none)))) else (none)) else (none)) = some r := by first | (rw [hji114] at H; exact H) | (simp only [hji114] at H ⊢; exact H)
     have hji114w : (IntKind.i64.wrap (x5_1 - 16)) = ji114 := (i64_w _).trans hji114
     by_cases c115 : 0 ≤ (ji114)
     rotate_left
     ·
      rw [if_neg c115] at H
      exact absurd H (by simp)
     rw [if_pos c115] at H
     have c115b0 : decide (0 ≤ (ji114)) = true := decide_eq_true c115
     clear c115
     by_cases c116 : (ji114) < (l0.length : Int)
     rotate_left
     ·
      rw [if_neg c116] at H
      exact absurd H (by simp)
     rw [if_pos c116] at H
     have c116b0 : decide ((ji114) < (l0.length : Int)) = true := decide_eq_true c116
     clear c116
     obtain ⟨bq117, hbq117⟩ : ∃ b_ : Bool, b_ = (rdOf false l0 (ji114)) := ⟨_, rfl⟩
     replace H : (if bq117 = true then (if x5_1 < (x3_1.length : Int) then (spec_grow.l0 k1 l0 (x3_1.set (x5_1 : Int).toNat true) 16 ji104) else (none)) else (if (wrap64 (Int.tdiv x5_1 16)) < 15 then (if 0 ≤ (wrap64 (x5_1 + 16)) then (if (wrap64 (x5_1 + 16)) < (l0.length : Int) then (if x5_1 < (x3_1.length : Int) then (spec_grow.l0 k1 l0 (x3_1.set (x5_1 : Int).toNat (rdOf false l0 (wrap64 (x5_1 + 16)))) 16 ji104) else (none)) else (none)) else (none)) else (if x5_1 < (x3_1.length : Int) then (spec_grow.l0 k1 l0 (x3_1.set (x5_1 : Int).toNat false) 16 ji104) else (none)))) = some r := by rw [← hbq117] at H; exact H
     have Nbq117 := Aside0.mk hbq117
     clear hbq117
     by_cases c118 : bq117 = true
     ·
      subst c118
      have H1 : (if x5_1 < (x3_1.length : Int) then (spec_grow.l0 k1 l0 (x3_1.set (x5_1 : Int).toNat true) 16 ji104) else (none)) = some r := by rw [if_pos rfl] at H; exact H
      clear H
      have H := H1
      clear H1
      by_cases c119 : x5_1 < (x3_1.length : Int)
      rotate_left
      ·
       rw [if_neg c119] at H
       exact absurd H (by simp)
      rw [if_pos c119] at H
      have c119b0 : decide (x5_1 < (x3_1.length : Int)) = true := decide_eq_true c119
      clear c119
      obtain ⟨y132, hy132⟩ : ∃ y_ : List Bool, y_ = (x3_1.set (x5_1 : Int).toNat true) := ⟨_, rfl⟩
      replace H : (spec_grow.l0 k1 l0 y132 16 ji104) = some r := by first | (rw [hy132]; with_reducible exact H) | (have H2_ := (Option.bind_some _ _).symm.trans H; rw [hy132]; with_reducible exact H2_) | (have H2_ := (Option.bind_some _ _).symm.trans H; with_reducible exact H2_) | with_reducible exact H | (rw [hy132]; exact H) | exact H
      have Ny132 := Aside0.mk hy132
      clear hy132
      have H' := Aside0.mk H
      clear H
      have p107 : 0 ≤ (x5_1 : Int) := of_decide_eq_true (by first | with_reducible assumption | assumption)
      have q107 : x5_1 < (l0.length : Int) := of_decide_eq_true (by first | with_reducible assumption | assumption)
      obtain ⟨ad107, e107, hx107_0⟩ := Kd.at_bool HR0.out x5_1 p107 q107
      (try rw [← Nbq9.out] at hx107_0)
      (try rw [← Nbq107.out] at hx107_0)
      (try rw [← Nbq117.out] at hx107_0)
      cases e107
      replace hx107_0 := (HB.out.cell (World.block_lt_of_cell? w _ hx107_0)).trans hx107_0
      replace p107 := eq_true p107
      replace q107 := eq_true q107
      have p129 : 0 ≤ ((ji104) : Int) := of_decide_eq_true (by first | with_reducible assumption | assumption)
      have q129 : (ji104) < (l0.length : Int) := of_decide_eq_true (by first | with_reducible assumption | assumption)
      obtain ⟨ad129, e129, hx129_0⟩ := Kd.at_bool HR0.out (ji104) p129 q129
      (try rw [← Nbq9.out] at hx129_0)
      (try rw [← Nbq107.out] at hx129_0)
      (try rw [← Nbq117.out] at hx129_0)
      obtain rfl : ad107 = ad129 := (by injection e129)
      replace hx129_0 := (HB.out.cell (World.block_lt_of_cell? w _ hx129_0)).trans hx129_0
      replace p129 := eq_true p129
      replace q129 := eq_true q129
      have p131 : 0 ≤ ((ji114) : Int) := of_decide_eq_true (by first | with_reducible assumption | assumption)
      have q131 : (ji114) < (l0.length : Int) := of_decide_eq_true (by first | with_reducible assumption | assumption)
      obtain ⟨ad131, e131, hx131_0⟩ := Kd.at_bool HR0.out (ji114) p131 q131
      (try rw [← Nbq9.out] at hx131_0)
      (try rw [← Nbq107.out] at hx131_0)
      (try rw [← Nbq117.out] at hx131_0)
      obtain rfl : ad107 = ad131 := (by injection e131)
      replace hx131_0 := (HB.out.cell (World.block_lt_of_cell? w _ hx131_0)).trans hx131_0
      replace p131 := eq_true p131
      replace q131 := eq_true q131
      have p120 : 0 ≤ (x5_1 : Int) := of_decide_eq_true (by first | with_reducible assumption | assumption)
      have q120 : (x5_1 : Int) < ((x3_1.length : Int) : Int) := of_decide_eq_true (by first | with_reducible assumption | assumption)
      obtain ⟨go120, co120, eo120, gb120, gl120, cl120, HG120⟩ := Kd.R_form HO_3.out (by omega)
      (first | cases eo120 | (injection eo120 with ea_ en_ ec_; (first | subst ea_ | (injection ea_ with ea_; subst ea_)); subst ec_; clear en_))
      have GB120 := Aside0.mk gb120
      have GG120 := Aside0.mk HG120
      clear gb120 gl120 HG120
      obtain ⟨hx120_0, hf120_0⟩ := Kd.R_celln false HO_3.out (x5_1 : Int) p120 q120
      replace p120 := eq_true p120
      replace q120 := eq_true q120
      have HP121 := Kd.R_putg HO_3.out (x5_1 : Int) true
      go_wp2_with (first | ((with_reducible refine gate_store (t := 4) (p := 79) rfl ?_); refine store_event (t := 4) (p := 79) (v := ?vo_w122) (w1 := (wr.setCell ⟨go120, (x5_1 : Int).toNat, none⟩ (.bool true))) ?hg ?ho ?hn ?hr ?_; (case ho => rfl); (case hg => rfl); (case hn => rfl); (case hr => first | (go_simp; done) | (go_simp; rfl)); intro w122 hw; have hg : wr.grownBy w122 (some go120) := (by rw [hw]; exact HP121.2); have hp_ : Kd.R Kd.bool 4 w122 w.heap.size (fun _ => True) (.slice (some ⟨go120, 0, none⟩) x3_1.length co120) y132 := (by rw [hw, Ny132.out]; exact HP121.1); clear HP121; replace HO_3 := am_ (hp_); replace HB := am_ ((by rw [hw]; exact below_set (HB.out) GB120.out : Below w.heap.size w w122)); clear hg hw hp_))
      go_roundg k1
      case measure => have := HK1.out; omega
      case rel => exact ⟨(y132), (ji104), (by first | rfl | (simp; done) | (simp only [← hji104] <;> (first | rfl | simp)) | (simp [*]; done)), H', ⟨by have := HK1.out; omega⟩, ⟨by exact HO_3.out⟩, ⟨by repeat (first | (with_reducible first | exact HB.out | apply below_alloc | apply pw_below_drewN | apply below_drew1) | exact HB.out)⟩⟩
     replace c118 := Bool.eq_false_iff.mpr c118
     subst c118
     have H1 : (if (wrap64 (Int.tdiv x5_1 16)) < 15 then (if 0 ≤ (wrap64 (x5_1 + 16)) then (if (wrap64 (x5_1 + 16)) < (l0.length : Int) then (if x5_1 < (x3_1.length : Int) then (spec_grow.l0 k1 l0 (x3_1.set (x5_1 : Int).toNat (rdOf false l0 (wrap64 (x5_1 + 16)))) 16 ji104) else (none)) else (none)) else (none)) else (if x5_1 < (x3_1.length : Int) then (spec_grow.l0 k1 l0 (x3_1.set (x5_1 : Int).toNat false) 16 ji104) else (none))) = some r := by rw [if_neg (show ¬ (false = true) by decide)] at H; exact H
     clear H
     have H := H1
     clear H1
     by_cases c123 : (wrap64 (Int.tdiv x5_1 16)) < 15
     ·
      rw [if_pos c123] at H
      have c123b0 : decide ((wrap64 (Int.tdiv x5_1 16)) < 15) = true := decide_eq_true c123
      clear c123
      obtain ⟨ji124, hji124⟩ : ∃ j_ : Int, (wrap64 (x5_1 + 16)) = j_ := ⟨_, rfl⟩
      replace H : (if 0 ≤ (ji124) then (if (ji124) < (l0.length : Int) then (if x5_1 < (x3_1.length : Int) then (spec_grow.l0 k1 l0 (x3_1.set (x5_1 : Int).toNat (rdOf false l0 (ji124))) 16 ji104) else (none)) else (none)) else (none)) = some r := by first | (rw [hji124] at H; exact H) | (simp only [hji124] at H ⊢; exact H)
      have hji124w : (IntKind.i64.wrap (x5_1 + 16)) = ji124 := (i64_w _).trans hji124
      by_cases c125 : 0 ≤ (ji124)
      rotate_left
      ·
       rw [if_neg c125] at H
       exact absurd H (by simp)
      rw [if_pos c125] at H
      have c125b0 : decide (0 ≤ (ji124)) = true := decide_eq_true c125
      clear c125
      by_cases c126 : (ji124) < (l0.length : Int)
      rotate_left
      ·
       rw [if_neg c126] at H
       exact absurd H (by simp)
      rw [if_pos c126] at H
      have c126b0 : decide ((ji124) < (l0.length : Int)) = true := decide_eq_true c126
      clear c126
      by_cases c127 : x5_1 < (x3_1.length : Int)
      rotate_left
      ·
       rw [if_neg c127] at H
       exact absurd H (by simp)
      rw [if_pos c127] at H
      have c127b0 : decide (x5_1 < (x3_1.length : Int)) = true := decide_eq_true c127
      clear c127
      obtain ⟨y134, hy134⟩ : ∃ y_ : List Bool, y_ = (x3_1.set (x5_1 : Int).toNat (rdOf false l0 (ji124))) := ⟨_, rfl⟩
      replace H : (spec_grow.l0 k1 l0 y134 16 ji104) = some r := by first | (rw [hy134]; with_reducible exact H) | (have H2_ := (Option.bind_some _ _).symm.trans H; rw [hy134]; with_reducible exact H2_) | (have H2_ := (Option.bind_some _ _).symm.trans H; with_reducible exact H2_) | with_reducible exact H | (rw [hy134]; exact H) | exact H
      have Ny134 := Aside0.mk hy134
      clear hy134
      have H' := Aside0.mk H
      clear H
      have p107 : 0 ≤ (x5_1 : Int) := of_decide_eq_true (by first | with_reducible assumption | assumption)
      have q107 : x5_1 < (l0.length : Int) := of_decide_eq_true (by first | with_reducible assumption | assumption)
      obtain ⟨ad107, e107, hx107_0⟩ := Kd.at_bool HR0.out x5_1 p107 q107
      (try rw [← Nbq9.out] at hx107_0)
      (try rw [← Nbq107.out] at hx107_0)
      (try rw [← Nbq117.out] at hx107_0)
      cases e107
      replace hx107_0 := (HB.out.cell (World.block_lt_of_cell? w _ hx107_0)).trans hx107_0
      replace p107 := eq_true p107
      replace q107 := eq_true q107
      have p129 : 0 ≤ ((ji104) : Int) := of_decide_eq_true (by first | with_reducible assumption | assumption)
      have q129 : (ji104) < (l0.length : Int) := of_decide_eq_true (by first | with_reducible assumption | assumption)
      obtain ⟨ad129, e129, hx129_0⟩ := Kd.at_bool HR0.out (ji104) p129 q129
      (try rw [← Nbq9.out] at hx129_0)
      (try rw [← Nbq107.out] at hx129_0)
      (try rw [← Nbq117.out] at hx129_0)
      obtain rfl : ad107 = ad129 := (by injection e129)
      replace hx129_0 := (HB.out.cell (World.block_lt_of_cell? w _ hx129_0)).trans hx129_0
      replace p129 := eq_true p129
      replace q129 := eq_true q129
      have p131 : 0 ≤ ((ji114) : Int) := of_decide_eq_true (by first | with_reducible assumption | assumption)
      have q131 : (ji114) < (l0.length : Int) := of_decide_eq_true (by first | with_reducible assumption | assumption)
      obtain ⟨ad131, e131, hx131_0⟩ := Kd.at_bool HR0.out (ji114) p131 q131
      (try rw [← Nbq9.out] at hx131_0)
      (try rw [← Nbq107.out] at hx131_0)
      (try rw [← Nbq117.out] at hx131_0)
      obtain rfl : ad107 = ad131 := (by injection e131)
      replace hx131_0 := (HB.out.cell (World.block_lt_of_cell? w _ hx131_0)).trans hx131_0
      replace p131 := eq_true p131
      replace q131 := eq_true q131
      have p133 : 0 ≤ ((ji124) : Int) := of_decide_eq_true (by first | with_reducible assumption | assumption)
      have q133 : (ji124) < (l0.length : Int) := of_decide_eq_true (by first | with_reducible assumption | assumption)
      obtain ⟨ad133, e133, hx133_0⟩ := Kd.at_bool HR0.out (ji124) p133 q133
      (try rw [← Nbq9.out] at hx133_0)
      (try rw [← Nbq107.out] at hx133_0)
      (try rw [← Nbq117.out] at hx133_0)
      obtain rfl : ad107 = ad133 := (by injection e133)
      replace hx133_0 := (HB.out.cell (World.block_lt_of_cell? w _ hx133_0)).trans hx133_0
      replace p133 := eq_true p133
      replace q133 := eq_true q133
      have p128 : 0 ≤ (x5_1 : Int) := of_decide_eq_true (by first | with_reducible assumption | assumption)
      have q128 : (x5_1 : Int) < ((x3_1.length : Int) : Int) := of_decide_eq_true (by first | with_reducible assumption | assumption)
      obtain ⟨go128, co128, eo128, gb128, gl128, cl128, HG128⟩ := Kd.R_form HO_3.out (by omega)
      (first | cases eo128 | (injection eo128 with ea_ en_ ec_; (first | subst ea_ | (injection ea_ with ea_; subst ea_)); subst ec_; clear en_))
      have GB128 := Aside0.mk gb128
      have GG128 := Aside0.mk HG128
      clear gb128 gl128 HG128
      obtain ⟨hx128_0, hf128_0⟩ := Kd.R_celln false HO_3.out (x5_1 : Int) p128 q128
      replace p128 := eq_true p128
      replace q128 := eq_true q128
      have HP129 := Kd.R_putg HO_3.out (x5_1 : Int) (rdOf false l0 (ji124))
      go_wp2_with (first | ((with_reducible refine gate_store (t := 4) (p := 79) rfl ?_); refine store_event (t := 4) (p := 79) (v := ?vo_w130) (w1 := (wr.setCell ⟨go128, (x5_1 : Int).toNat, none⟩ (.bool (rdOf false l0 (ji124))))) ?hg ?ho ?hn ?hr ?_; (case ho => rfl); (case hg => rfl); (case hn => rfl); (case hr => first | (go_simp; done) | (go_simp; rfl)); intro w130 hw; have hg : wr.grownBy w130 (some go128) := (by rw [hw]; exact HP129.2); have hp_ : Kd.R Kd.bool 4 w130 w.heap.size (fun _ => True) (.slice (some ⟨go128, 0, none⟩) x3_1.length co128) y134 := (by rw [hw, Ny134.out]; exact HP129.1); clear HP129; replace HO_3 := am_ (hp_); replace HB := am_ ((by rw [hw]; exact below_set (HB.out) GB128.out : Below w.heap.size w w130)); clear hg hw hp_))
      go_roundg k1
      case measure => have := HK1.out; omega
      case rel => exact ⟨(y134), (ji104), (by first | rfl | (simp; done) | (simp only [← hji104] <;> (first | rfl | simp)) | (simp [*]; done)), H', ⟨by have := HK1.out; omega⟩, ⟨by exact HO_3.out⟩, ⟨by repeat (first | (with_reducible first | exact HB.out | apply below_alloc | apply pw_below_drewN | apply below_drew1) | exact HB.out)⟩⟩
     rw [if_neg c123] at H
     have c123b0 : decide ((wrap64 (Int.tdiv x5_1 16)) < 15) = false := decide_eq_false c123
     clear c123
     by_cases c131 : x5_1 < (x3_1.length : Int)
     rotate_left
     ·
      rw [if_neg c131] at H
      exact absurd H (by simp)
     rw [if_pos c131] at H
     have c131b0 : decide (x5_1 < (x3_1.length : Int)) = true := decide_eq_true c131
     clear c131
     obtain ⟨y135, hy135⟩ : ∃ y_ : List Bool, y_ = (x3_1.set (x5_1 : Int).toNat false) := ⟨_, rfl⟩
     replace H : (spec_grow.l0 k1 l0 y135 16 ji104) = some r := by first | (rw [hy135]; with_reducible exact H) | (have H2_ := (Option.bind_some _ _).symm.trans H; rw [hy135]; with_reducible exact H2_) | (have H2_ := (Option.bind_some _ _).symm.trans H; with_reducible exact H2_) | with_reducible exact H | (rw [hy135]; exact H) | exact H
     have Ny135 := Aside0.mk hy135
     clear hy135
     have H' := Aside0.mk H
     clear H
     have p107 : 0 ≤ (x5_1 : Int) := of_decide_eq_true (by first | with_reducible assumption | assumption)
     have q107 : x5_1 < (l0.length : Int) := of_decide_eq_true (by first | with_reducible assumption | assumption)
     obtain ⟨ad107, e107, hx107_0⟩ := Kd.at_bool HR0.out x5_1 p107 q107
     (try rw [← Nbq9.out] at hx107_0)
     (try rw [← Nbq107.out] at hx107_0)
     (try rw [← Nbq117.out] at hx107_0)
     cases e107
     replace hx107_0 := (HB.out.cell (World.block_lt_of_cell? w _ hx107_0)).trans hx107_0
     replace p107 := eq_true p107
     replace q107 := eq_true q107
     have p129 : 0 ≤ ((ji104) : Int) := of_decide_eq_true (by first | with_reducible assumption | assumption)
     have q129 : (ji104) < (l0.length : Int) := of_decide_eq_true (by first | with_reducible assumption | assumption)
     obtain ⟨ad129, e129, hx129_0⟩ := Kd.at_bool HR0.out (ji104) p129 q129
     (try rw [← Nbq9.out] at hx129_0)
     (try rw [← Nbq107.out] at hx129_0)
     (try rw [← Nbq117.out] at hx129_0)
     obtain rfl : ad107 = ad129 := (by injection e129)
     replace hx129_0 := (HB.out.cell (World.block_lt_of_cell? w _ hx129_0)).trans hx129_0
     replace p129 := eq_true p129
     replace q129 := eq_true q129
     have p131 : 0 ≤ ((ji114) : Int) := of_decide_eq_true (by first | with_reducible assumption | assumption)
     have q131 : (ji114) < (l0.length : Int) := of_decide_eq_true (by first | with_reducible assumption | assumption)
     obtain ⟨ad131, e131, hx131_0⟩ := Kd.at_bool HR0.out (ji114) p131 q131
     (try rw [← Nbq9.out] at hx131_0)
     (try rw [← Nbq107.out] at hx131_0)
     (try rw [← Nbq117.out] at hx131_0)
     obtain rfl : ad107 = ad131 := (by injection e131)
     replace hx131_0 := (HB.out.cell (World.block_lt_of_cell? w _ hx131_0)).trans hx131_0
     replace p131 := eq_true p131
     replace q131 := eq_true q131
     have p132 : 0 ≤ (x5_1 : Int) := of_decide_eq_true (by first | with_reducible assumption | assumption)
     have q132 : (x5_1 : Int) < ((x3_1.length : Int) : Int) := of_decide_eq_true (by first | with_reducible assumption | assumption)
     obtain ⟨go132, co132, eo132, gb132, gl132, cl132, HG132⟩ := Kd.R_form HO_3.out (by omega)
     (first | cases eo132 | (injection eo132 with ea_ en_ ec_; (first | subst ea_ | (injection ea_ with ea_; subst ea_)); subst ec_; clear en_))
     have GB132 := Aside0.mk gb132
     have GG132 := Aside0.mk HG132
     clear gb132 gl132 HG132
     obtain ⟨hx132_0, hf132_0⟩ := Kd.R_celln false HO_3.out (x5_1 : Int) p132 q132
     replace p132 := eq_true p132
     replace q132 := eq_true q132
     have HP133 := Kd.R_putg HO_3.out (x5_1 : Int) false
     go_wp2_with (first | ((with_reducible refine gate_store (t := 4) (p := 79) rfl ?_); refine store_event (t := 4) (p := 79) (v := ?vo_w134) (w1 := (wr.setCell ⟨go132, (x5_1 : Int).toNat, none⟩ (.bool false))) ?hg ?ho ?hn ?hr ?_; (case ho => rfl); (case hg => rfl); (case hn => rfl); (case hr => first | (go_simp; done) | (go_simp; rfl)); intro w134 hw; have hg : wr.grownBy w134 (some go132) := (by rw [hw]; exact HP133.2); have hp_ : Kd.R Kd.bool 4 w134 w.heap.size (fun _ => True) (.slice (some ⟨go132, 0, none⟩) x3_1.length co132) y135 := (by rw [hw, Ny135.out]; exact HP133.1); clear HP133; replace HO_3 := am_ (hp_); replace HB := am_ ((by rw [hw]; exact below_set (HB.out) GB132.out : Below w.heap.size w w134)); clear hg hw hp_))
     go_roundg k1
     case measure => have := HK1.out; omega
     case rel => exact ⟨(y135), (ji104), (by first | rfl | (simp; done) | (simp only [← hji104] <;> (first | rfl | simp)) | (simp [*]; done)), H', ⟨by have := HK1.out; omega⟩, ⟨by exact HO_3.out⟩, ⟨by repeat (first | (with_reducible first | exact HB.out | apply below_alloc | apply pw_below_drewN | apply below_drew1) | exact HB.out)⟩⟩
    rw [if_neg c113] at H
    have c113b0 : decide (0 < (wrap64 (Int.tdiv x5_1 16))) = false := decide_eq_false c113
    clear c113
    by_cases c135 : (wrap64 (Int.tdiv x5_1 16)) < 15
    ·
     rw [if_pos c135] at H
     have c135b0 : decide ((wrap64 (Int.tdiv x5_1 16)) < 15) = true := decide_eq_true c135
     clear c135
     obtain ⟨ji136, hji136⟩ : ∃ j_ : Int, (wrap64 (x5_1 + 16)) = j_ := ⟨_, rfl⟩
     replace H : (if 0 ≤ (ji136) then (if (ji136) < (l0.length : Int) then (if x5_1 < (x3_1.length : Int) then (spec_grow.l0 k1 l0 (x3_1.set (x5_1 : Int).toNat (rdOf false l0 (ji136))) 16 ji104) else (none)) else (none)) else (none)) = some r := by first | (rw [hji136] at H; exact H) | (simp only [hji136] at H ⊢; exact H)
     have hji136w : (IntKind.i64.wrap (x5_1 + 16)) = ji136 := (i64_w _).trans hji136
     by_cases c137 : 0 ≤ (ji136)
     rotate_left
     ·
      rw [if_neg c137] at H
      exact absurd H (by simp)
     rw [if_pos c137] at H
     have c137b0 : decide (0 ≤ (ji136)) = true := decide_eq_true c137
     clear c137
     by_cases c138 : (ji136) < (l0.length : Int)
     rotate_left
     ·
      rw [if_neg c138] at H
      exact absurd H (by simp)
     rw [if_pos c138] at H
     have c138b0 : decide ((ji136) < (l0.length : Int)) = true := decide_eq_true c138
     clear c138
     by_cases c139 : x5_1 < (x3_1.length : Int)
     rotate_left
     ·
      rw [if_neg c139] at H
      exact absurd H (by simp)
     rw [if_pos c139] at H
     have c139b0 : decide (x5_1 < (x3_1.length : Int)) = true := decide_eq_true c139
     clear c139
     obtain ⟨y137, hy137⟩ : ∃ y_ : List Bool, y_ = (x3_1.set (x5_1 : Int).toNat (rdOf false l0 (ji136))) := ⟨_, rfl⟩
     replace H : (spec_grow.l0 k1 l0 y137 16 ji104) = some r := by first | (rw [hy137]; with_reducible exact H) | (have H2_ := (Option.bind_some _ _).symm.trans H; rw [hy137]; with_reducible exact H2_) | (have H2_ := (Option.bind_some _ _).symm.trans H; with_reducible exact H2_) | with_reducible exact H | (rw [hy137]; exact H) | exact H
     have Ny137 := Aside0.mk hy137
     clear hy137
     have H' := Aside0.mk H
     clear H
     have p107 : 0 ≤ (x5_1 : Int) := of_decide_eq_true (by first | with_reducible assumption | assumption)
     have q107 : x5_1 < (l0.length : Int) := of_decide_eq_true (by first | with_reducible assumption | assumption)
     obtain ⟨ad107, e107, hx107_0⟩ := Kd.at_bool HR0.out x5_1 p107 q107
     (try rw [← Nbq9.out] at hx107_0)
     (try rw [← Nbq107.out] at hx107_0)
     cases e107
     replace hx107_0 := (HB.out.cell (World.block_lt_of_cell? w _ hx107_0)).trans hx107_0
     replace p107 := eq_true p107
     replace q107 := eq_true q107
     have p129 : 0 ≤ ((ji104) : Int) := of_decide_eq_true (by first | with_reducible assumption | assumption)
     have q129 : (ji104) < (l0.length : Int) := of_decide_eq_true (by first | with_reducible assumption | assumption)
     obtain ⟨ad129, e129, hx129_0⟩ := Kd.at_bool HR0.out (ji104) p129 q129
     (try rw [← Nbq9.out] at hx129_0)
     (try rw [← Nbq107.out] at hx129_0)
     obtain rfl : ad107 = ad129 := (by injection e129)
     replace hx129_0 := (HB.out.cell (World.block_lt_of_cell? w _ hx129_0)).trans hx129_0
     replace p129 := eq_true p129
     replace q129 := eq_true q129
     have p136 : 0 ≤ ((ji136) : Int) := of_decide_eq_true (by first | with_reducible assumption | assumption)
     have q136 : (ji136) < (l0.length : Int) := of_decide_eq_true (by first | with_reducible assumption | assumption)
     obtain ⟨ad136, e136, hx136_0⟩ := Kd.at_bool HR0.out (ji136) p136 q136
     (try rw [← Nbq9.out] at hx136_0)
     (try rw [← Nbq107.out] at hx136_0)
     obtain rfl : ad107 = ad136 := (by injection e136)
     replace hx136_0 := (HB.out.cell (World.block_lt_of_cell? w _ hx136_0)).trans hx136_0
     replace p136 := eq_true p136
     replace q136 := eq_true q136
     have p140 : 0 ≤ (x5_1 : Int) := of_decide_eq_true (by first | with_reducible assumption | assumption)
     have q140 : (x5_1 : Int) < ((x3_1.length : Int) : Int) := of_decide_eq_true (by first | with_reducible assumption | assumption)
     obtain ⟨go140, co140, eo140, gb140, gl140, cl140, HG140⟩ := Kd.R_form HO_3.out (by omega)
     (first | cases eo140 | (injection eo140 with ea_ en_ ec_; (first | subst ea_ | (injection ea_ with ea_; subst ea_)); subst ec_; clear en_))
     have GB140 := Aside0.mk gb140
     have GG140 := Aside0.mk HG140
     clear gb140 gl140 HG140
     obtain ⟨hx140_0, hf140_0⟩ := Kd.R_celln false HO_3.out (x5_1 : Int) p140 q140
     replace p140 := eq_true p140
     replace q140 := eq_true q140
     have HP141 := Kd.R_putg HO_3.out (x5_1 : Int) (rdOf false l0 (ji136))
     go_wp2_with (first | ((with_reducible refine gate_store (t := 4) (p := 79) rfl ?_); refine store_event (t := 4) (p := 79) (v := ?vo_w142) (w1 := (wr.setCell ⟨go140, (x5_1 : Int).toNat, none⟩ (.bool (rdOf false l0 (ji136))))) ?hg ?ho ?hn ?hr ?_; (case ho => rfl); (case hg => rfl); (case hn => rfl); (case hr => first | (go_simp; done) | (go_simp; rfl)); intro w142 hw; have hg : wr.grownBy w142 (some go140) := (by rw [hw]; exact HP141.2); have hp_ : Kd.R Kd.bool 4 w142 w.heap.size (fun _ => True) (.slice (some ⟨go140, 0, none⟩) x3_1.length co140) y137 := (by rw [hw, Ny137.out]; exact HP141.1); clear HP141; replace HO_3 := am_ (hp_); replace HB := am_ ((by rw [hw]; exact below_set (HB.out) GB140.out : Below w.heap.size w w142)); clear hg hw hp_))
     go_roundg k1
     case measure => have := HK1.out; omega
     case rel => exact ⟨(y137), (ji104), (by first | rfl | (simp; done) | (simp only [← hji104] <;> (first | rfl | simp)) | (simp [*]; done)), H', ⟨by have := HK1.out; omega⟩, ⟨by exact HO_3.out⟩, ⟨by repeat (first | (with_reducible first | exact HB.out | apply below_alloc | apply pw_below_drewN | apply below_drew1) | exact HB.out)⟩⟩
    rw [if_neg c135] at H
    have c135b0 : decide ((wrap64 (Int.tdiv x5_1 16)) < 15) = false := decide_eq_false c135
    clear c135
    by_cases c143 : x5_1 < (x3_1.length : Int)
    rotate_left
    ·
     rw [if_neg c143] at H
     exact absurd H (by simp)
    rw [if_pos c143] at H
    have c143b0 : decide (x5_1 < (x3_1.length : Int)) = true := decide_eq_true c143
    clear c143
    obtain ⟨y138, hy138⟩ : ∃ y_ : List Bool, y_ = (x3_1.set (x5_1 : Int).toNat false) := ⟨_, rfl⟩
    replace H : (spec_grow.l0 k1 l0 y138 16 ji104) = some r := by first | (rw [hy138]; with_reducible exact H) | (have H2_ := (Option.bind_some _ _).symm.trans H; rw [hy138]; with_reducible exact H2_) | (have H2_ := (Option.bind_some _ _).symm.trans H; with_reducible exact H2_) | with_reducible exact H | (rw [hy138]; exact H) | exact H
    have Ny138 := Aside0.mk hy138
    clear hy138
    have H' := Aside0.mk H
    clear H
    have p107 : 0 ≤ (x5_1 : Int) := of_decide_eq_true (by first | with_reducible assumption | assumption)
    have q107 : x5_1 < (l0.length : Int) := of_decide_eq_true (by first | with_reducible assumption | assumption)
    obtain ⟨ad107, e107, hx107_0⟩ := Kd.at_bool HR0.out x5_1 p107 q107
    (try rw [← Nbq9.out] at hx107_0)
    (try rw [← Nbq107.out] at hx107_0)
    cases e107
    replace hx107_0 := (HB.out.cell (World.block_lt_of_cell? w _ hx107_0)).trans hx107_0
    replace p107 := eq_true p107
    replace q107 := eq_true q107
    have p129 : 0 ≤ ((ji104) : Int) := of_decide_eq_true (by first | with_reducible assumption | assumption)
    have q129 : (ji104) < (l0.length : Int) := of_decide_eq_true (by first | with_reducible assumption | assumption)
    obtain ⟨ad129, e129, hx129_0⟩ := Kd.at_bool HR0.out (ji104) p129 q129
    (try rw [← Nbq9.out] at hx129_0)
    (try rw [← Nbq107.out] at hx129_0)
    obtain rfl : ad107 = ad129 := (by injection e129)
    replace hx129_0 := (HB.out.cell (World.block_lt_of_cell? w _ hx129_0)).trans hx129_0
    replace p129 := eq_true p129
    replace q129 := eq_true q129
    have p144 : 0 ≤ (x5_1 : Int) := of_decide_eq_true (by first | with_reducible assumption | assumption)
    have q144 : (x5_1 : Int) < ((x3_1.length : Int) : Int) := of_decide_eq_true (by first | with_reducible assumption | assumption)
    obtain ⟨go144, co144, eo144, gb144, gl144, cl144, HG144⟩ := Kd.R_form HO_3.out (by omega)
    (first | cases eo144 | (injection eo144 with ea_ en_ ec_; (first | subst ea_ | (injection ea_ with ea_; subst ea_)); subst ec_; clear en_))
    have GB144 := Aside0.mk gb144
    have GG144 := Aside0.mk HG144
    clear gb144 gl144 HG144
    obtain ⟨hx144_0, hf144_0⟩ := Kd.R_celln false HO_3.out (x5_1 : Int) p144 q144
    replace p144 := eq_true p144
    replace q144 := eq_true q144
    have HP145 := Kd.R_putg HO_3.out (x5_1 : Int) false
    go_wp2_with (first | ((with_reducible refine gate_store (t := 4) (p := 79) rfl ?_); refine store_event (t := 4) (p := 79) (v := ?vo_w146) (w1 := (wr.setCell ⟨go144, (x5_1 : Int).toNat, none⟩ (.bool false))) ?hg ?ho ?hn ?hr ?_; (case ho => rfl); (case hg => rfl); (case hn => rfl); (case hr => first | (go_simp; done) | (go_simp; rfl)); intro w146 hw; have hg : wr.grownBy w146 (some go144) := (by rw [hw]; exact HP145.2); have hp_ : Kd.R Kd.bool 4 w146 w.heap.size (fun _ => True) (.slice (some ⟨go144, 0, none⟩) x3_1.length co144) y138 := (by rw [hw, Ny138.out]; exact HP145.1); clear HP145; replace HO_3 := am_ (hp_); replace HB := am_ ((by rw [hw]; exact below_set (HB.out) GB144.out : Below w.heap.size w w146)); clear hg hw hp_))
    go_roundg k1
    case measure => have := HK1.out; omega
    case rel => exact ⟨(y138), (ji104), (by first | rfl | (simp; done) | (simp only [← hji104] <;> (first | rfl | simp)) | (simp [*]; done)), H', ⟨by have := HK1.out; omega⟩, ⟨by exact HO_3.out⟩, ⟨by repeat (first | (with_reducible first | exact HB.out | apply below_alloc | apply pw_below_drewN | apply below_drew1) | exact HB.out)⟩⟩
   rw [if_neg c103] at H
   have c103b0 : decide ((Int.tmod x5_1 16) < 15) = false := decide_eq_false c103
   clear c103
   by_cases c147 : (wrap64 (Int.tdiv x5_1 16)) > 0
   ·
    rw [if_pos c147] at H
    have c147b0 : decide (0 < (wrap64 (Int.tdiv x5_1 16))) = true := decide_eq_true c147
    clear c147
    obtain ⟨ji148, hji148⟩ : ∃ j_ : Int, (wrap64 (x5_1 - 16)) = j_ := ⟨_, rfl⟩
    replace H : (if 0 ≤ (ji148) then (if (ji148) < (l0.length : Int) then (if rdOf false l0 (ji148) = true then (if x5_1 < (x3_1.length : Int) then (spec_grow.l0 k1 l0 (x3_1.set (x5_1 : Int).toNat true) 16 (wrap64 (x5_1 + 1))) else (none)) else (if (wrap64 (Int.tdiv x5_1 16)) < 15 then (if 0 ≤ (wrap64 (x5_1 + 16)) then (if (wrap64 (x5_1 + 16)) < (l0.length : Int) then (if x5_1 < (x3_1.length : Int) then (spec_grow.l0 k1 l0 (x3_1.set (x5_1 : Int).toNat (rdOf false l0 (wrap64 (x5_1 + 16)))) 16 (wrap64 (x5_1 + 1))) else (none)) else (none)) else (none)) else (if x5_1 < (x3_1.length : Int) then (spec_grow.l0 k1 l0 (x3_1.set (x5_1 : Int).toNat false) 16 (wrap64 (x5_1 + 1))) else (none)))) else (none)) else (none)) = some r := by first | (rw [hji148] at H; exact H) | (simp only [hji148] at H ⊢; exact H)
    have hji148w : (IntKind.i64.wrap (x5_1 - 16)) = ji148 := (i64_w _).trans hji148
    by_cases c149 : 0 ≤ (ji148)
    rotate_left
    ·
     rw [if_neg c149] at H
     exact absurd H (by simp)
    rw [if_pos c149] at H
    have c149b0 : decide (0 ≤ (ji148)) = true := decide_eq_true c149
    clear c149
    by_cases c150 : (ji148) < (l0.length : Int)
    rotate_left
    ·
     rw [if_neg c150] at H
     exact absurd H (by simp)
    rw [if_pos c150] at H
    have c150b0 : decide ((ji148) < (l0.length : Int)) = true := decide_eq_true c150
    clear c150
    obtain ⟨bq151, hbq151⟩ : ∃ b_ : Bool, b_ = (rdOf false l0 (ji148)) := ⟨_, rfl⟩
    replace H : (if bq151 = true then (if x5_1 < (x3_1.length : Int) then (spec_grow.l0 k1 l0 (x3_1.set (x5_1 : Int).toNat true) 16 (wrap64 (x5_1 + 1))) else (none)) else (if (wrap64 (Int.tdiv x5_1 16)) < 15 then (if 0 ≤ (wrap64 (x5_1 + 16)) then (if (wrap64 (x5_1 + 16)) < (l0.length : Int) then (if x5_1 < (x3_1.length : Int) then (spec_grow.l0 k1 l0 (x3_1.set (x5_1 : Int).toNat (rdOf false l0 (wrap64 (x5_1 + 16)))) 16 (wrap64 (x5_1 + 1))) else (none)) else (none)) else (none)) else (if x5_1 < (x3_1.length : Int) then (spec_grow.l0 k1 l0 (x3_1.set (x5_1 : Int).toNat false) 16 (wrap64 (x5_1 + 1))) else (none)))) = some r := by rw [← hbq151] at H; exact H
    have Nbq151 := Aside0.mk hbq151
    clear hbq151
    by_cases c152 : bq151 = true
    ·
     subst c152
     have H1 : (if x5_1 < (x3_1.length : Int) then (spec_grow.l0 k1 l0 (x3_1.set (x5_1 : Int).toNat true) 16 (wrap64 (x5_1 + 1))) else (none)) = some r := by rw [if_pos rfl] at H; exact H
     clear H
     have H := H1
     clear H1
     by_cases c153 : x5_1 < (x3_1.length : Int)
     rotate_left
     ·
      rw [if_neg c153] at H
      exact absurd H (by simp)
     rw [if_pos c153] at H
     have c153b0 : decide (x5_1 < (x3_1.length : Int)) = true := decide_eq_true c153
     clear c153
     obtain ⟨y140, hy140⟩ : ∃ y_ : List Bool, y_ = (x3_1.set (x5_1 : Int).toNat true) := ⟨_, rfl⟩
     replace H : (spec_grow.l0 k1 l0 y140 16 (wrap64 (x5_1 + 1))) = some r := by first | (rw [hy140]; with_reducible exact H) | (have H2_ := (Option.bind_some _ _).symm.trans H; rw [hy140]; with_reducible exact H2_) | (have H2_ := (Option.bind_some _ _).symm.trans H; with_reducible exact H2_) | with_reducible exact H | (rw [hy140]; exact H) | exact H
     have Ny140 := Aside0.mk hy140
     clear hy140
     have H' := Aside0.mk H
     clear H
     have p107 : 0 ≤ (x5_1 : Int) := of_decide_eq_true (by first | with_reducible assumption | assumption)
     have q107 : x5_1 < (l0.length : Int) := of_decide_eq_true (by first | with_reducible assumption | assumption)
     obtain ⟨ad107, e107, hx107_0⟩ := Kd.at_bool HR0.out x5_1 p107 q107
     (try rw [← Nbq9.out] at hx107_0)
     (try rw [← Nbq151.out] at hx107_0)
     cases e107
     replace hx107_0 := (HB.out.cell (World.block_lt_of_cell? w _ hx107_0)).trans hx107_0
     replace p107 := eq_true p107
     replace q107 := eq_true q107
     have p139 : 0 ≤ ((ji148) : Int) := of_decide_eq_true (by first | with_reducible assumption | assumption)
     have q139 : (ji148) < (l0.length : Int) := of_decide_eq_true (by first | with_reducible assumption | assumption)
     obtain ⟨ad139, e139, hx139_0⟩ := Kd.at_bool HR0.out (ji148) p139 q139
     (try rw [← Nbq9.out] at hx139_0)
     (try rw [← Nbq151.out] at hx139_0)
     obtain rfl : ad107 = ad139 := (by injection e139)
     replace hx139_0 := (HB.out.cell (World.block_lt_of_cell? w _ hx139_0)).trans hx139_0
     replace p139 := eq_true p139
     replace q139 := eq_true q139
     have p154 : 0 ≤ (x5_1 : Int) := of_decide_eq_true (by first | with_reducible assumption | assumption)
     have q154 : (x5_1 : Int) < ((x3_1.length : Int) : Int) := of_decide_eq_true (by first | with_reducible assumption | assumption)
     obtain ⟨go154, co154, eo154, gb154, gl154, cl154, HG154⟩ := Kd.R_form HO_3.out (by omega)
     (first | cases eo154 | (injection eo154 with ea_ en_ ec_; (first | subst ea_ | (injection ea_ with ea_; subst ea_)); subst ec_; clear en_))
     have GB154 := Aside0.mk gb154
     have GG154 := Aside0.mk HG154
     clear gb154 gl154 HG154
     obtain ⟨hx154_0, hf154_0⟩ := Kd.R_celln false HO_3.out (x5_1 : Int) p154 q154
     replace p154 := eq_true p154
     replace q154 := eq_true q154
     have HP155 := Kd.R_putg HO_3.out (x5_1 : Int) true
     go_wp2_with (first | ((with_reducible refine gate_store (t := 4) (p := 79) rfl ?_); refine store_event (t := 4) (p := 79) (v := ?vo_w156) (w1 := (wr.setCell ⟨go154, (x5_1 : Int).toNat, none⟩ (.bool true))) ?hg ?ho ?hn ?hr ?_; (case ho => rfl); (case hg => rfl); (case hn => rfl); (case hr => first | (go_simp; done) | (go_simp; rfl)); intro w156 hw; have hg : wr.grownBy w156 (some go154) := (by rw [hw]; exact HP155.2); have hp_ : Kd.R Kd.bool 4 w156 w.heap.size (fun _ => True) (.slice (some ⟨go154, 0, none⟩) x3_1.length co154) y140 := (by rw [hw, Ny140.out]; exact HP155.1); clear HP155; replace HO_3 := am_ (hp_); replace HB := am_ ((by rw [hw]; exact below_set (HB.out) GB154.out : Below w.heap.size w w156)); clear hg hw hp_))
     go_roundg k1
     case measure => have := HK1.out; omega
     case rel => exact ⟨(y140), (wrap64 (x5_1 + 1)), (by first | rfl | (simp; done) | (simp [*]; done)), H', ⟨by have := HK1.out; omega⟩, ⟨by exact HO_3.out⟩, ⟨by repeat (first | (with_reducible first | exact HB.out | apply below_alloc | apply pw_below_drewN | apply below_drew1) | exact HB.out)⟩⟩
    replace c152 := Bool.eq_false_iff.mpr c152
    subst c152
    have H1 : (if (wrap64 (Int.tdiv x5_1 16)) < 15 then (if 0 ≤ (wrap64 (x5_1 + 16)) then (if (wrap64 (x5_1 + 16)) < (l0.length : Int) then (if x5_1 < (x3_1.length : Int) then (spec_grow.l0 k1 l0 (x3_1.set (x5_1 : Int).toNat (rdOf false l0 (wrap64 (x5_1 + 16)))) 16 (wrap64 (x5_1 + 1))) else (none)) else (none)) else (none)) else (if x5_1 < (x3_1.length : Int) then (spec_grow.l0 k1 l0 (x3_1.set (x5_1 : Int).toNat false) 16 (wrap64 (x5_1 + 1))) else (none))) = some r := by rw [if_neg (show ¬ (false = true) by decide)] at H; exact H
    clear H
    have H := H1
    clear H1
    by_cases c157 : (wrap64 (Int.tdiv x5_1 16)) < 15
    ·
     rw [if_pos c157] at H
     have c157b0 : decide ((wrap64 (Int.tdiv x5_1 16)) < 15) = true := decide_eq_true c157
     clear c157
     obtain ⟨ji158, hji158⟩ : ∃ j_ : Int, (wrap64 (x5_1 + 16)) = j_ := ⟨_, rfl⟩
     replace H : (if 0 ≤ (ji158) then (if (ji158) < (l0.length : Int) then (if x5_1 < (x3_1.length : Int) then (spec_grow.l0 k1 l0 (x3_1.set (x5_1 : Int).toNat (rdOf false l0 (ji158))) 16 (wrap64 (x5_1 + 1))) else (none)) else (none)) else (none)) = some r := by first | (rw [hji158] at H; exact H) | (simp only [hji158] at H ⊢; exact H)
     have hji158w : (IntKind.i64.wrap (x5_1 + 16)) = ji158 := (i64_w _).trans hji158
     by_cases c159 : 0 ≤ (ji158)
     rotate_left
     ·
      rw [if_neg c159] at H
      exact absurd H (by simp)
     rw [if_pos c159] at H
     have c159b0 : decide (0 ≤ (ji158)) = true := decide_eq_true c159
     clear c159
     by_cases c160 : (ji158) < (l0.length : Int)
     rotate_left
     ·
      rw [if_neg c160] at H
      exact absurd H (by simp)
     rw [if_pos c160] at H
     have c160b0 : decide ((ji158) < (l0.length : Int)) = true := decide_eq_true c160
     clear c160
     by_cases c161 : x5_1 < (x3_1.length : Int)
     rotate_left
     ·
      rw [if_neg c161] at H
      exact absurd H (by simp)
     rw [if_pos c161] at H
     have c161b0 : decide (x5_1 < (x3_1.length : Int)) = true := decide_eq_true c161
     clear c161
     obtain ⟨y142, hy142⟩ : ∃ y_ : List Bool, y_ = (x3_1.set (x5_1 : Int).toNat (rdOf false l0 (ji158))) := ⟨_, rfl⟩
     replace H : (spec_grow.l0 k1 l0 y142 16 (wrap64 (x5_1 + 1))) = some r := by first | (rw [hy142]; with_reducible exact H) | (have H2_ := (Option.bind_some _ _).symm.trans H; rw [hy142]; with_reducible exact H2_) | (have H2_ := (Option.bind_some _ _).symm.trans H; with_reducible exact H2_) | with_reducible exact H | (rw [hy142]; exact H) | exact H
     have Ny142 := Aside0.mk hy142
     clear hy142
     have H' := Aside0.mk H
     clear H
     have p107 : 0 ≤ (x5_1 : Int) := of_decide_eq_true (by first | with_reducible assumption | assumption)
     have q107 : x5_1 < (l0.length : Int) := of_decide_eq_true (by first | with_reducible assumption | assumption)
     obtain ⟨ad107, e107, hx107_0⟩ := Kd.at_bool HR0.out x5_1 p107 q107
     (try rw [← Nbq9.out] at hx107_0)
     (try rw [← Nbq151.out] at hx107_0)
     cases e107
     replace hx107_0 := (HB.out.cell (World.block_lt_of_cell? w _ hx107_0)).trans hx107_0
     replace p107 := eq_true p107
     replace q107 := eq_true q107
     have p139 : 0 ≤ ((ji148) : Int) := of_decide_eq_true (by first | with_reducible assumption | assumption)
     have q139 : (ji148) < (l0.length : Int) := of_decide_eq_true (by first | with_reducible assumption | assumption)
     obtain ⟨ad139, e139, hx139_0⟩ := Kd.at_bool HR0.out (ji148) p139 q139
     (try rw [← Nbq9.out] at hx139_0)
     (try rw [← Nbq151.out] at hx139_0)
     obtain rfl : ad107 = ad139 := (by injection e139)
     replace hx139_0 := (HB.out.cell (World.block_lt_of_cell? w _ hx139_0)).trans hx139_0
     replace p139 := eq_true p139
     replace q139 := eq_true q139
     have p141 : 0 ≤ ((ji158) : Int) := of_decide_eq_true (by first | with_reducible assumption | assumption)
     have q141 : (ji158) < (l0.length : Int) := of_decide_eq_true (by first | with_reducible assumption | assumption)
     obtain ⟨ad141, e141, hx141_0⟩ := Kd.at_bool HR0.out (ji158) p141 q141
     (try rw [← Nbq9.out] at hx141_0)
     (try rw [← Nbq151.out] at hx141_0)
     obtain rfl : ad107 = ad141 := (by injection e141)
     replace hx141_0 := (HB.out.cell (World.block_lt_of_cell? w _ hx141_0)).trans hx141_0
     replace p141 := eq_true p141
     replace q141 := eq_true q141
     have p162 : 0 ≤ (x5_1 : Int) := of_decide_eq_true (by first | with_reducible assumption | assumption)
     have q162 : (x5_1 : Int) < ((x3_1.length : Int) : Int) := of_decide_eq_true (by first | with_reducible assumption | assumption)
     obtain ⟨go162, co162, eo162, gb162, gl162, cl162, HG162⟩ := Kd.R_form HO_3.out (by omega)
     (first | cases eo162 | (injection eo162 with ea_ en_ ec_; (first | subst ea_ | (injection ea_ with ea_; subst ea_)); subst ec_; clear en_))
     have GB162 := Aside0.mk gb162
     have GG162 := Aside0.mk HG162
     clear gb162 gl162 HG162
     obtain ⟨hx162_0, hf162_0⟩ := Kd.R_celln false HO_3.out (x5_1 : Int) p162 q162
     replace p162 := eq_true p162
     replace q162 := eq_true q162
     have HP163 := Kd.R_putg HO_3.out (x5_1 : Int) (rdOf false l0 (ji158))
     go_wp2_with (first | ((with_reducible refine gate_store (t := 4) (p := 79) rfl ?_); refine store_event (t := 4) (p := 79) (v := ?vo_w164) (w1 := (wr.setCell ⟨go162, (x5_1 : Int).toNat, none⟩ (.bool (rdOf false l0 (ji158))))) ?hg ?ho ?hn ?hr ?_; (case ho => rfl); (case hg => rfl); (case hn => rfl); (case hr => first | (go_simp; done) | (go_simp; rfl)); intro w164 hw; have hg : wr.grownBy w164 (some go162) := (by rw [hw]; exact HP163.2); have hp_ : Kd.R Kd.bool 4 w164 w.heap.size (fun _ => True) (.slice (some ⟨go162, 0, none⟩) x3_1.length co162) y142 := (by rw [hw, Ny142.out]; exact HP163.1); clear HP163; replace HO_3 := am_ (hp_); replace HB := am_ ((by rw [hw]; exact below_set (HB.out) GB162.out : Below w.heap.size w w164)); clear hg hw hp_))
     go_roundg k1
     case measure => have := HK1.out; omega
     case rel => exact ⟨(y142), (wrap64 (x5_1 + 1)), (by first | rfl | (simp; done) | (simp [*]; done)), H', ⟨by have := HK1.out; omega⟩, ⟨by exact HO_3.out⟩, ⟨by repeat (first | (with_reducible first | exact HB.out | apply below_alloc | apply pw_below_drewN | apply below_drew1) | exact HB.out)⟩⟩
    rw [if_neg c157] at H
    have c157b0 : decide ((wrap64 (Int.tdiv x5_1 16)) < 15) = false := decide_eq_false c157
    clear c157
    by_cases c165 : x5_1 < (x3_1.length : Int)
    rotate_left
    ·
     rw [if_neg c165] at H
     exact absurd H (by simp)
    rw [if_pos c165] at H
    have c165b0 : decide (x5_1 < (x3_1.length : Int)) = true := decide_eq_true c165
    clear c165
    obtain ⟨y143, hy143⟩ : ∃ y_ : List Bool, y_ = (x3_1.set (x5_1 : Int).toNat false) := ⟨_, rfl⟩
    replace H : (spec_grow.l0 k1 l0 y143 16 (wrap64 (x5_1 + 1))) = some r := by first | (rw [hy143]; with_reducible exact H) | (have H2_ := (Option.bind_some _ _).symm.trans H; rw [hy143]; with_reducible exact H2_) | (have H2_ := (Option.bind_some _ _).symm.trans H; with_reducible exact H2_) | with_reducible exact H | (rw [hy143]; exact H) | exact H
    have Ny143 := Aside0.mk hy143
    clear hy143
    have H' := Aside0.mk H
    clear H
    have p107 : 0 ≤ (x5_1 : Int) := of_decide_eq_true (by first | with_reducible assumption | assumption)
    have q107 : x5_1 < (l0.length : Int) := of_decide_eq_true (by first | with_reducible assumption | assumption)
    obtain ⟨ad107, e107, hx107_0⟩ := Kd.at_bool HR0.out x5_1 p107 q107
    (try rw [← Nbq9.out] at hx107_0)
    (try rw [← Nbq151.out] at hx107_0)
    cases e107
    replace hx107_0 := (HB.out.cell (World.block_lt_of_cell? w _ hx107_0)).trans hx107_0
    replace p107 := eq_true p107
    replace q107 := eq_true q107
    have p139 : 0 ≤ ((ji148) : Int) := of_decide_eq_true (by first | with_reducible assumption | assumption)
    have q139 : (ji148) < (l0.length : Int) := of_decide_eq_true (by first | with_reducible assumption | assumption)
    obtain ⟨ad139, e139, hx139_0⟩ := Kd.at_bool HR0.out (ji148) p139 q139
    (try rw [← Nbq9.out] at hx139_0)
    (try rw [← Nbq151.out] at hx139_0)
    obtain rfl : ad107 = ad139 := (by injection e139)
    replace hx139_0 := (HB.out.cell (World.block_lt_of_cell? w _ hx139_0)).trans hx139_0
    replace p139 := eq_true p139
    replace q139 := eq_true q139
    have p166 : 0 ≤ (x5_1 : Int) := of_decide_eq_true (by first | with_reducible assumption | assumption)
    have q166 : (x5_1 : Int) < ((x3_1.length : Int) : Int) := of_decide_eq_true (by first | with_reducible assumption | assumption)
    obtain ⟨go166, co166, eo166, gb166, gl166, cl166, HG166⟩ := Kd.R_form HO_3.out (by omega)
    (first | cases eo166 | (injection eo166 with ea_ en_ ec_; (first | subst ea_ | (injection ea_ with ea_; subst ea_)); subst ec_; clear en_))
    have GB166 := Aside0.mk gb166
    have GG166 := Aside0.mk HG166
    clear gb166 gl166 HG166
    obtain ⟨hx166_0, hf166_0⟩ := Kd.R_celln false HO_3.out (x5_1 : Int) p166 q166
    replace p166 := eq_true p166
    replace q166 := eq_true q166
    have HP167 := Kd.R_putg HO_3.out (x5_1 : Int) false
    go_wp2_with (first | ((with_reducible refine gate_store (t := 4) (p := 79) rfl ?_); refine store_event (t := 4) (p := 79) (v := ?vo_w168) (w1 := (wr.setCell ⟨go166, (x5_1 : Int).toNat, none⟩ (.bool false))) ?hg ?ho ?hn ?hr ?_; (case ho => rfl); (case hg => rfl); (case hn => rfl); (case hr => first | (go_simp; done) | (go_simp; rfl)); intro w168 hw; have hg : wr.grownBy w168 (some go166) := (by rw [hw]; exact HP167.2); have hp_ : Kd.R Kd.bool 4 w168 w.heap.size (fun _ => True) (.slice (some ⟨go166, 0, none⟩) x3_1.length co166) y143 := (by rw [hw, Ny143.out]; exact HP167.1); clear HP167; replace HO_3 := am_ (hp_); replace HB := am_ ((by rw [hw]; exact below_set (HB.out) GB166.out : Below w.heap.size w w168)); clear hg hw hp_))
    go_roundg k1
    case measure => have := HK1.out; omega
    case rel => exact ⟨(y143), (wrap64 (x5_1 + 1)), (by first | rfl | (simp; done) | (simp [*]; done)), H', ⟨by have := HK1.out; omega⟩, ⟨by exact HO_3.out⟩, ⟨by repeat (first | (with_reducible first | exact HB.out | apply below_alloc | apply pw_below_drewN | apply below_drew1) | exact HB.out)⟩⟩
   rw [if_neg c147] at H
   have c147b0 : decide (0 < (wrap64 (Int.tdiv x5_1 16))) = false := decide_eq_false c147
   clear c147
   by_cases c169 : (wrap64 (Int.tdiv x5_1 16)) < 15
   ·
    rw [if_pos c169] at H
    have c169b0 : decide ((wrap64 (Int.tdiv x5_1 16)) < 15) = true := decide_eq_true c169
    clear c169
    obtain ⟨ji170, hji170⟩ : ∃ j_ : Int, (wrap64 (x5_1 + 16)) = j_ := ⟨_, rfl⟩
    replace H : (if 0 ≤ (ji170) then (if (ji170) < (l0.length : Int) then (if x5_1 < (x3_1.length : Int) then (spec_grow.l0 k1 l0 (x3_1.set (x5_1 : Int).toNat (rdOf false l0 (ji170))) 16 (wrap64 (x5_1 + 1))) else (none)) else (none)) else (none)) = some r := by first | (rw [hji170] at H; exact H) | (simp only [hji170] at H ⊢; exact H)
    have hji170w : (IntKind.i64.wrap (x5_1 + 16)) = ji170 := (i64_w _).trans hji170
    by_cases c171 : 0 ≤ (ji170)
    rotate_left
    ·
     rw [if_neg c171] at H
     exact absurd H (by simp)
    rw [if_pos c171] at H
    have c171b0 : decide (0 ≤ (ji170)) = true := decide_eq_true c171
    clear c171
    by_cases c172 : (ji170) < (l0.length : Int)
    rotate_left
    ·
     rw [if_neg c172] at H
     exact absurd H (by simp)
    rw [if_pos c172] at H
    have c172b0 : decide ((ji170) < (l0.length : Int)) = true := decide_eq_true c172
    clear c172
    by_cases c173 : x5_1 < (x3_1.length : Int)
    rotate_left
    ·
     rw [if_neg c173] at H
     exact absurd H (by simp)
    rw [if_pos c173] at H
    have c173b0 : decide (x5_1 < (x3_1.length : Int)) = true := decide_eq_true c173
    clear c173
    obtain ⟨y145, hy145⟩ : ∃ y_ : List Bool, y_ = (x3_1.set (x5_1 : Int).toNat (rdOf false l0 (ji170))) := ⟨_, rfl⟩
    replace H : (spec_grow.l0 k1 l0 y145 16 (wrap64 (x5_1 + 1))) = some r := by first | (rw [hy145]; with_reducible exact H) | (have H2_ := (Option.bind_some _ _).symm.trans H; rw [hy145]; with_reducible exact H2_) | (have H2_ := (Option.bind_some _ _).symm.trans H; with_reducible exact H2_) | with_reducible exact H | (rw [hy145]; exact H) | exact H
    have Ny145 := Aside0.mk hy145
    clear hy145
    have H' := Aside0.mk H
    clear H
    have p107 : 0 ≤ (x5_1 : Int) := of_decide_eq_true (by first | with_reducible assumption | assumption)
    have q107 : x5_1 < (l0.length : Int) := of_decide_eq_true (by first | with_reducible assumption | assumption)
    obtain ⟨ad107, e107, hx107_0⟩ := Kd.at_bool HR0.out x5_1 p107 q107
    (try rw [← Nbq9.out] at hx107_0)
    cases e107
    replace hx107_0 := (HB.out.cell (World.block_lt_of_cell? w _ hx107_0)).trans hx107_0
    replace p107 := eq_true p107
    replace q107 := eq_true q107
    have p144 : 0 ≤ ((ji170) : Int) := of_decide_eq_true (by first | with_reducible assumption | assumption)
    have q144 : (ji170) < (l0.length : Int) := of_decide_eq_true (by first | with_reducible assumption | assumption)
    obtain ⟨ad144, e144, hx144_0⟩ := Kd.at_bool HR0.out (ji170) p144 q144
    (try rw [← Nbq9.out] at hx144_0)
    obtain rfl : ad107 = ad144 := (by injection e144)
    replace hx144_0 := (HB.out.cell (World.block_lt_of_cell? w _ hx144_0)).trans hx144_0
    replace p144 := eq_true p144
    replace q144 := eq_true q144
    have p174 : 0 ≤ (x5_1 : Int) := of_decide_eq_true (by first | with_reducible assumption | assumption)
    have q174 : (x5_1 : Int) < ((x3_1.length : Int) : Int) := of_decide_eq_true (by first | with_reducible assumption | assumption)
    obtain ⟨go174, co174, eo174, gb174, gl174, cl174, HG174⟩ := Kd.R_form HO_3.out (by omega)
    (first | cases eo174 | (injection eo174 with ea_ en_ ec_; (first | subst ea_ | (injection ea_ with ea_; subst ea_)); subst ec_; clear en_))
    have GB174 := Aside0.mk gb174
    have GG174 := Aside0.mk HG174
    clear gb174 gl174 HG174
    obtain ⟨hx174_0, hf174_0⟩ := Kd.R_celln false HO_3.out (x5_1 : Int) p174 q174
    replace p174 := eq_true p174
    replace q174 := eq_true q174
    have HP175 := Kd.R_putg HO_3.out (x5_1 : Int) (rdOf false l0 (ji170))
    go_wp2_with (first | ((with_reducible refine gate_store (t := 4) (p := 79) rfl ?_); refine store_event (t := 4) (p := 79) (v := ?vo_w176) (w1 := (wr.setCell ⟨go174, (x5_1 : Int).toNat, none⟩ (.bool (rdOf false l0 (ji170))))) ?hg ?ho ?hn ?hr ?_; (case ho => rfl); (case hg => rfl); (case hn => rfl); (case hr => first | (go_simp; done) | (go_simp; rfl)); intro w176 hw; have hg : wr.grownBy w176 (some go174) := (by rw [hw]; exact HP175.2); have hp_ : Kd.R Kd.bool 4 w176 w.heap.size (fun _ => True) (.slice (some ⟨go174, 0, none⟩) x3_1.length co174) y145 := (by rw [hw, Ny145.out]; exact HP175.1); clear HP175; replace HO_3 := am_ (hp_); replace HB := am_ ((by rw [hw]; exact below_set (HB.out) GB174.out : Below w.heap.size w w176)); clear hg hw hp_))
    go_roundg k1
    case measure => have := HK1.out; omega
    case rel => exact ⟨(y145), (wrap64 (x5_1 + 1)), (by first | rfl | (simp; done) | (simp [*]; done)), H', ⟨by have := HK1.out; omega⟩, ⟨by exact HO_3.out⟩, ⟨by repeat (first | (with_reducible first | exact HB.out | apply below_alloc | apply pw_below_drewN | apply below_drew1) | exact HB.out)⟩⟩
   rw [if_neg c169] at H
   have c169b0 : decide ((wrap64 (Int.tdiv x5_1 16)) < 15) = false := decide_eq_false c169
   clear c169
   by_cases c177 : x5_1 < (x3_1.length : Int)
   rotate_left
   ·
    rw [if_neg c177] at H
    exact absurd H (by simp)
   rw [if_pos c177] at H
   have c177b0 : decide (x5_1 < (x3_1.length : Int)) = true := decide_eq_true c177
   clear c177
   obtain ⟨y146, hy146⟩ : ∃ y_ : List Bool, y_ = (x3_1.set (x5_1 : Int).toNat false) := ⟨_, rfl⟩
   replace H : (spec_grow.l0 k1 l0 y146 16 (wrap64 (x5_1 + 1))) = some r := by first | (rw [hy146]; with_reducible exact H) | (have H2_ := (Option.bind_some _ _).symm.trans H; rw [hy146]; with_reducible exact H2_) | (have H2_ := (Option.bind_some _ _).symm.trans H; with_reducible exact H2_) | with_reducible exact H | (rw [hy146]; exact H) | exact H
   have Ny146 := Aside0.mk hy146
   clear hy146
   have H' := Aside0.mk H
   clear H
   have p107 : 0 ≤ (x5_1 : Int) := of_decide_eq_true (by first | with_reducible assumption | assumption)
   have q107 : x5_1 < (l0.length : Int) := of_decide_eq_true (by first | with_reducible assumption | assumption)
   obtain ⟨ad107, e107, hx107_0⟩ := Kd.at_bool HR0.out x5_1 p107 q107
   (try rw [← Nbq9.out] at hx107_0)
   cases e107
   replace hx107_0 := (HB.out.cell (World.block_lt_of_cell? w _ hx107_0)).trans hx107_0
   replace p107 := eq_true p107
   replace q107 := eq_true q107
   have p178 : 0 ≤ (x5_1 : Int) := of_decide_eq_true (by first | with_reducible assumption | assumption)
   have q178 : (x5_1 : Int) < ((x3_1.length : Int) : Int) := of_decide_eq_true (by first | with_reducible assumption | assumption)
   obtain ⟨go178, co178, eo178, gb178, gl178, cl178, HG178⟩ := Kd.R_form HO_3.out (by omega)
   (first | cases eo178 | (injection eo178 with ea_ en_ ec_; (first | subst ea_ | (injection ea_ with ea_; subst ea_)); subst ec_; clear en_))
   have GB178 := Aside0.mk gb178
   have GG178 := Aside0.mk HG178
   clear gb178 gl178 HG178
   obtain ⟨hx178_0, hf178_0⟩ := Kd.R_celln false HO_3.out (x5_1 : Int) p178 q178
   replace p178 := eq_true p178
   replace q178 := eq_true q178
   have HP179 := Kd.R_putg HO_3.out (x5_1 : Int) false
   go_wp2_with (first | ((with_reducible refine gate_store (t := 4) (p := 79) rfl ?_); refine store_event (t := 4) (p := 79) (v := ?vo_w180) (w1 := (wr.setCell ⟨go178, (x5_1 : Int).toNat, none⟩ (.bool false))) ?hg ?ho ?hn ?hr ?_; (case ho => rfl); (case hg => rfl); (case hn => rfl); (case hr => first | (go_simp; done) | (go_simp; rfl)); intro w180 hw; have hg : wr.grownBy w180 (some go178) := (by rw [hw]; exact HP179.2); have hp_ : Kd.R Kd.bool 4 w180 w.heap.size (fun _ => True) (.slice (some ⟨go178, 0, none⟩) x3_1.length co178) y146 := (by rw [hw, Ny146.out]; exact HP179.1); clear HP179; replace HO_3 := am_ (hp_); replace HB := am_ ((by rw [hw]; exact below_set (HB.out) GB178.out : Below w.heap.size w w180)); clear hg hw hp_))
   go_roundg k1
   case measure => have := HK1.out; omega
   case rel => exact ⟨(y146), (wrap64 (x5_1 + 1)), (by first | rfl | (simp; done) | (simp [*]; done)), H', ⟨by have := HK1.out; omega⟩, ⟨by exact HO_3.out⟩, ⟨by repeat (first | (with_reducible first | exact HB.out | apply below_alloc | apply pw_below_drewN | apply below_drew1) | exact HB.out)⟩⟩

end Go.Proofs.Ytllodpaghkohbaa.Print
