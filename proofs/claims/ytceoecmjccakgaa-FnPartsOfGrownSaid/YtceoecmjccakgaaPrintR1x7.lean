-- laid by hp.py (a program of this work over the kit's print), with contracts by hand for what the print does not take
import Derived.Test.YtceoecmjccakgaaPrint0
import Derived.Test.YtceoecmjccakgaaPrintHx0
import Derived.Test.YtceoecmjccakgaaPrintR0x0
namespace Go.Proofs.Ytceoecmjccakgaa.Print
open Go.RowKit Go.Proofs.YtceoecmjccakgaaW.PrintWords Go.Proofs.YtceoecmjccakgaaW.PrintLast Go.Proofs.YtceoecmjccakgaaW.PrintMore
attribute [local go_sem] max2_int min2_int max_two min_two max_three min_three max_four min_four   -- for this text's walks alone
set_option linter.unusedVariables false
set_option linter.unusedSimpArgs false

/-! ### spec_spreadFrom: function 46 -/
mutual
def spec_spreadFrom.l0 : Nat → List Bool → List Bool → List Int → Int → Option (List Bool)
 | 0, _, _, _, _ => none
 | k + 1, x0, x5, x6, x7 => if (x6.length : Int) > 0 then (if 0 ≤ (wrap64 ((x6.length : Int) - 1)) then (if (wrap64 ((x6.length : Int) - 1)) < (x6.length : Int) then (if (wrap64 ((x6.length : Int) - 1)) ≤ (x6.length : Int) then (if x7 = 0 then (none) else (spec_spreadFrom.l1 k x0 x5 (x6.take ((wrap64 ((x6.length : Int) - 1)) : Int).toNat) x7 (Int.tmod (rd x6 (wrap64 ((x6.length : Int) - 1))) x7) (wrap64 (Int.tdiv (rd x6 (wrap64 ((x6.length : Int) - 1))) x7)) 0)) else (none)) else (none)) else (none)) else (some x5)
def spec_spreadFrom.l1 : Nat → List Bool → List Bool → List Int → Int → Int → Int → Int → Option (List Bool)
 | 0, _, _, _, _, _, _, _ => none
 | k + 1, x0, x5, x6, x7, x9, x10, x11 => if x11 < 4 then ((some (([1, (-1), 0, 0] : List Int) : List Int)).bind fun y112 => (if 0 ≤ x11 then (if x11 < (y112.length : Int) then ((some (([0, 0, 1, (-1)] : List Int) : List Int)).bind fun y116 => (if x11 < (y116.length : Int) then ((spec_inRange.f (wrap64 (x9 + (rd y112 x11))) 0 (wrap64 (x7 - 1))).bind fun t120 => (if t120 = true then ((spec_inRange.f (wrap64 (x10 + (rd y116 x11))) 0 (wrap64 (x7 - 1))).bind fun t121 => (if t121 = true then (if 0 ≤ (wrap64 ((wrap64 ((wrap64 (x10 + (rd y116 x11))) * x7)) + (wrap64 (x9 + (rd y112 x11))))) then (if (wrap64 ((wrap64 ((wrap64 (x10 + (rd y116 x11))) * x7)) + (wrap64 (x9 + (rd y112 x11))))) < (x0.length : Int) then (if rdOf false x0 (wrap64 ((wrap64 ((wrap64 (x10 + (rd y116 x11))) * x7)) + (wrap64 (x9 + (rd y112 x11))))) = true then (if (wrap64 ((wrap64 ((wrap64 (x10 + (rd y116 x11))) * x7)) + (wrap64 (x9 + (rd y112 x11))))) < (x5.length : Int) then (if (rdOf false x5 (wrap64 ((wrap64 ((wrap64 (x10 + (rd y116 x11))) * x7)) + (wrap64 (x9 + (rd y112 x11))))) = true) then (spec_spreadFrom.l1 k x0 x5 x6 x7 x9 x10 (wrap64 (x11 + 1))) else (if x6.length < 17592186044416 then (spec_spreadFrom.l1 k x0 (x5.set ((wrap64 ((wrap64 ((wrap64 (x10 + (rd y116 x11))) * x7)) + (wrap64 (x9 + (rd y112 x11))))) : Int).toNat true) (x6 ++ [wrap64 ((wrap64 ((wrap64 (x10 + (rd y116 x11))) * x7)) + (wrap64 (x9 + (rd y112 x11))))]) x7 x9 x10 (wrap64 (x11 + 1))) else (none))) else (none)) else (spec_spreadFrom.l1 k x0 x5 x6 x7 x9 x10 (wrap64 (x11 + 1)))) else (none)) else (none)) else (spec_spreadFrom.l1 k x0 x5 x6 x7 x9 x10 (wrap64 (x11 + 1))))) else (spec_spreadFrom.l1 k x0 x5 x6 x7 x9 x10 (wrap64 (x11 + 1))))) else (none))) else (none)) else (none))) else (spec_spreadFrom.l0 k x0 x5 x6 x7)
end
def spec_spreadFrom.f (k : Nat) (l0 : List Bool) (a1 : Int) : Option (List Bool) := if 0 ≤ (l0.length : Int) then (if ((l0.length : Int) : Int).toNat ≤ 281474976710656 then ((some (List.replicate ((l0.length : Int) : Int).toNat false : List Bool)).bind fun y101 => (if 0 ≤ a1 then (if a1 < (y101.length : Int) then (spec_spreadFrom.l0 k l0 (y101.set (a1 : Int).toNat true) (([a1] : List Int)) 16) else (none)) else (none))) else (none)) else (none)
theorem spec_spreadFrom.mono_l : ∀ k, (∀ y0 y1 y2 y3, LeO (spec_spreadFrom.l0 k y0 y1 y2 y3) (spec_spreadFrom.l0 (k + 1) y0 y1 y2 y3)) ∧ (∀ y0 y1 y2 y3 y4 y5 y6, LeO (spec_spreadFrom.l1 k y0 y1 y2 y3 y4 y5 y6) (spec_spreadFrom.l1 (k + 1) y0 y1 y2 y3 y4 y5 y6))
 | 0 => ⟨fun _ _ _ _ r h => by simp [spec_spreadFrom.l0] at h, fun _ _ _ _ _ _ _ r h => by simp [spec_spreadFrom.l1] at h⟩
 | k + 1 => by
  obtain ⟨ih0, ih1⟩ := spec_spreadFrom.mono_l k
  refine ⟨?_, ?_⟩
  ·
   intro y0 y1 y2 y3
   unfold spec_spreadFrom.l0
   repeat' first
   | (with_reducible exact ih0 _ _ _ _)
   | (with_reducible exact ih1 _ _ _ _ _ _ _)
   | (with_reducible exact LeO.refl _)
   | (with_reducible exact LeO.none _)
   | (with_reducible refine LeO.ite ?_ ?_)
   | (with_reducible refine LeO.bind ?_ (fun _ => ?_))
   | exact ih0 _ _ _ _
   | exact ih1 _ _ _ _ _ _ _
   | exact LeO.none _
   | refine LeO.ite ?_ ?_
   | refine LeO.bind ?_ (fun _ => ?_)
  intro y0 y1 y2 y3 y4 y5 y6
  unfold spec_spreadFrom.l1
  repeat' first
  | (with_reducible exact ih0 _ _ _ _)
  | (with_reducible exact ih1 _ _ _ _ _ _ _)
  | (with_reducible exact LeO.refl _)
  | (with_reducible exact LeO.none _)
  | (with_reducible refine LeO.ite ?_ ?_)
  | (with_reducible refine LeO.bind ?_ (fun _ => ?_))
  | exact ih0 _ _ _ _
  | exact ih1 _ _ _ _ _ _ _
  | exact LeO.none _
  | refine LeO.ite ?_ ?_
  | refine LeO.bind ?_ (fun _ => ?_)
theorem spec_spreadFrom.mono : ∀ a0 a1 k, LeO (spec_spreadFrom.f k a0 a1) (spec_spreadFrom.f (k + 1) a0 a1) := by
 intro a0 a1 k
 obtain ⟨ih0, ih1⟩ := spec_spreadFrom.mono_l k
 unfold spec_spreadFrom.f
 repeat' first
   | (with_reducible exact ih0 _ _ _ _)
   | (with_reducible exact ih1 _ _ _ _ _ _ _)
   | (with_reducible exact LeO.refl _)
   | (with_reducible exact LeO.none _)
   | (with_reducible refine LeO.ite ?_ ?_)
   | (with_reducible refine LeO.bind ?_ (fun _ => ?_))
   | exact ih0 _ _ _ _
   | exact ih1 _ _ _ _ _ _ _
   | exact LeO.none _
   | refine LeO.ite ?_ ?_
   | refine LeO.bind ?_ (fun _ => ?_)
set_option maxHeartbeats 8000000 in
set_option maxRecDepth 100000 in
theorem spec_spreadFrom.calls (k : Nat) (A0 : Option Addr) (c0 : Nat) (l0 : List Bool) (a1 : Int) (r : List Bool) (w : World) (hr0 : Kd.C Kd.bool w A0 l0.length l0) (hc0 : l0.length ≤ c0) (h : spec_spreadFrom.f k l0 a1 = some r) :
  Calls Try.prog 46 #[.slice A0 l0.length c0, .int .i64 a1] w fun e w' => ∃ v0_ : Value, e = .returned (v0_) ∧ Kd.R Kd.bool 4 w' w.heap.size (fun _ => True) v0_ r ∧ Below w.heap.size w w' := by
 have HR0 := Aside0.mk hr0
 have HC0 := Aside0.mk hc0
 clear hr0 hc0
 have HB := Aside0.mk (Below.refl w.heap.size w)
 have H : (if 0 ≤ (l0.length : Int) then (if ((l0.length : Int) : Int).toNat ≤ 281474976710656 then ((some (List.replicate ((l0.length : Int) : Int).toNat false : List Bool)).bind fun y101 => (if 0 ≤ a1 then (if a1 < (y101.length : Int) then (spec_spreadFrom.l0 k l0 (y101.set (a1 : Int).toNat true) (([a1] : List Int)) 16) else (none)) else (none))) else (none)) else (none)) = some r := h
 clear h
 by_cases c3 : 0 ≤ (l0.length : Int)
 rotate_left
 ·
  rw [if_neg c3] at H
  exact absurd H (by simp)
 rw [if_pos c3] at H
 have c3b0 := eq_true c3
 have c3b1 : decide (0 ≤ (l0.length : Int)) = true := decide_eq_true c3
 clear c3
 by_cases c4 : ((l0.length : Int) : Int).toNat ≤ 281474976710656
 rotate_left
 ·
  rw [if_neg c4] at H
  exact absurd H (by simp)
 rw [if_pos c4] at H
 have c4b0 := eq_true c4
 have c4b1 : decide (((l0.length : Int) : Int).toNat ≤ 281474976710656) = true := decide_eq_true c4
 clear c4
 obtain ⟨y101, hy101⟩ : ∃ y_ : List Bool, y_ = (List.replicate ((l0.length : Int) : Int).toNat false) := ⟨_, rfl⟩
 replace H : (if 0 ≤ a1 then (if a1 < (y101.length : Int) then (spec_spreadFrom.l0 k l0 (y101.set (a1 : Int).toNat true) (([a1] : List Int)) 16) else (none)) else (none)) = some r := by first | (rw [hy101]; with_reducible exact H) | (have H2_ := (Option.bind_some _ _).symm.trans H; rw [hy101]; with_reducible exact H2_) | (have H2_ := (Option.bind_some _ _).symm.trans H; with_reducible exact H2_) | with_reducible exact H | (rw [hy101]; exact H) | exact H
 have Ny101 := Aside0.mk hy101
 clear hy101
 obtain ⟨y104, hy104⟩ : ∃ y_ : List Int, y_ = (([a1] : List Int)) := ⟨_, rfl⟩
 replace H : (if 0 ≤ a1 then (if a1 < (y101.length : Int) then (spec_spreadFrom.l0 k l0 (y101.set (a1 : Int).toNat true) y104 16) else (none)) else (none)) = some r := by first | (rw [hy104]; with_reducible exact H) | (have H2_ := (Option.bind_some _ _).symm.trans H; rw [hy104]; with_reducible exact H2_) | (have H2_ := (Option.bind_some _ _).symm.trans H; with_reducible exact H2_) | with_reducible exact H | (rw [hy104]; exact H) | exact H
 have Ny104 := Aside0.mk hy104
 clear hy104
 by_cases c5 : 0 ≤ a1
 rotate_left
 ·
  rw [if_neg c5] at H
  exact absurd H (by simp)
 rw [if_pos c5] at H
 have c5b0 : decide (0 ≤ a1) = true := decide_eq_true c5
 clear c5
 by_cases c6 : a1 < (y101.length : Int)
 rotate_left
 ·
  rw [if_neg c6] at H
  exact absurd H (by simp)
 rw [if_pos c6] at H
 have c6b0 : decide (a1 < (y101.length : Int)) = true := decide_eq_true c6
 clear c6
 obtain ⟨y107, hy107⟩ : ∃ y_ : List Bool, y_ = (y101.set (a1 : Int).toNat true) := ⟨_, rfl⟩
 replace H : (spec_spreadFrom.l0 k l0 y107 y104 16) = some r := by first | (rw [hy107]; with_reducible exact H) | (have H2_ := (Option.bind_some _ _).symm.trans H; rw [hy107]; with_reducible exact H2_) | (have H2_ := (Option.bind_some _ _).symm.trans H; with_reducible exact H2_) | with_reducible exact H | (rw [hy107]; exact H) | exact H
 have Ny107 := Aside0.mk hy107
 clear hy107
 have H' := Aside0.mk H
 clear H
 go_enter Try.func46, Try.ntmps46
 go_wp2_with (first | ((with_reducible refine gate_dst (N := 16) rfl ?_); refine Kd.R_make Kd.bool _ 4 rfl (N := 16) rfl 58 _ _ rfl (l0.length : Int) rfl rfl Try.underlying58 (.bool false) 1 info4 rfl (by decide) (by omega) false (ok := fun _ => True) (okp := fun _ => True) rfl (fun _ hk => hk) trivial (of_decide_eq_true (by first | with_reducible assumption | assumption)) (Nat.le_trans (Nat.mul_le_mul_right _ (of_decide_eq_true (by first | with_reducible assumption | assumption) : (l0.length : Int).toNat ≤ 281474976710656)) (by omega)) (Below.refl _ _) (Nat.le_refl _) ?_; intro v102 w8 ho9 hb hg_ hnew_; clear hg_ hnew_; (first | rw [← Ny101.out] at ho9 | (simp only [Int.reduceToNat] at ho9; rw [← Ny101.out] at ho9)); have HO103 := am_ (Kd.R_lower ho9 (below_size (by repeat (first | (with_reducible first | exact HB.out | apply below_alloc | apply pw_below_drewN | apply below_drew1) | exact HB.out)))); replace HB := am_ (below_step (by repeat (first | (with_reducible first | exact HB.out | apply below_alloc | apply pw_below_drewN | apply below_drew1) | exact HB.out)) hb); clear hb ho9) | ((with_reducible refine gate_dst (N := 18) rfl ?_); refine Kd.R_lit (Kd.int .i64) _ 3 ?hg (N := 18) ?hd (xs := ([a1] : List Int)) (inner := [.int .i64 a1]) (ok := fun _ => True) (okp := fun _ => True) ?hr ?hp (fun _ hk => hk) trivial (Below.refl _ _) (Nat.le_refl _) (by simp) ?_; (case hd => rfl); (case hg => rfl); (case hr => first | (go_simp; done) | (go_simp; rfl)); (case hp => exact (Reps.one (show Kd.M (Kd.int .i64) _ _ _ a1 [.int .i64 a1] from rfl) (Reps.none _ _))); intro v105 w10 ho11 hb hg_ hnew_; clear hg_ hnew_; (first | rw [← Ny104.out] at ho11 | (simp only [Int.reduceToNat] at ho11; rw [← Ny104.out] at ho11)); replace HO103 := am_ (Kd.R_below (by exact HO103.out) hb); have HO106 := am_ (Kd.R_lower ho11 (below_size (by repeat (first | (with_reducible first | exact HB.out | apply below_alloc | apply pw_below_drewN | apply below_drew1) | exact HB.out)))); replace HB := am_ (below_step (by repeat (first | (with_reducible first | exact HB.out | apply below_alloc | apply pw_below_drewN | apply below_drew1) | exact HB.out)) hb); clear hb ho11; have p7 : 0 ≤ (a1 : Int) := of_decide_eq_true (by first | with_reducible assumption | assumption); have q7 : (a1 : Int) < ((y101.length : Int) : Int) := of_decide_eq_true (by first | with_reducible assumption | assumption); obtain ⟨go7, co7, eo7, gb7, gl7, cl7, HG7⟩ := Kd.R_form HO103.out (by omega); (first | cases eo7 | (injection eo7 with ea_ en_ ec_; (first | subst ea_ | (injection ea_ with ea_; subst ea_)); subst ec_; clear en_)); have GB7 := Aside0.mk gb7; have GG7 := Aside0.mk HG7; clear gb7 gl7 HG7; obtain ⟨hx7_0, hf7_0⟩ := Kd.R_celln false HO103.out (a1 : Int) p7 q7; replace p7 := eq_true p7; replace q7 := eq_true q7; obtain ⟨hy12_, hz12_⟩ := Kd.R_celln false HO103.out (a1 : Int) (of_decide_eq_true (by first | with_reducible assumption | assumption)) (of_decide_eq_true (by first | with_reducible assumption | assumption)); have HP12 := Kd.R_putg HO103.out (a1 : Int) true) | ((with_reducible refine gate_store (t := 4) (p := 21) rfl ?_); refine store_event (t := 4) (p := 21) (v := ?vo_w13) (w1 := (w10.setCell ⟨go7, (a1 : Int).toNat, none⟩ (.bool true))) ?hg ?ho ?hn ?hr ?_; (case ho => rfl); (case hg => rfl); (case hn => rfl); (case hr => first | (go_simp; done) | (go_simp; rfl)); intro w13 hw; have hg : w10.grownBy w13 (some go7) := (by rw [hw]; exact HP12.2); have hp_ : Kd.R Kd.bool 4 w13 w.heap.size (fun _ => True) (.slice (some ⟨go7, 0, none⟩) y101.length co7) y107 := (by rw [hw, Ny107.out]; exact HP12.1); clear HP12; replace HO106 := am_ (Kd.R_over' (v := (.slice (some ⟨go7, 0, none⟩) y101.length co7)) (by exact HO106.out) (Kd.R_typed HO103.out) (by decide) hg); replace HO103 := am_ (hp_); replace HB := am_ ((by rw [hw]; exact below_set (HB.out) GB7.out : Below w.heap.size w w13)); clear hg hw hp_))
 go_loopg [6] k (fun kq v6 w' => ∃ (x5_1 : List Bool) (x6_1 : List Int), Aside0 (spec_spreadFrom.l0 kq l0 x5_1 x6_1 16 = some r) ∧ Aside0 (kq ≤ k) ∧ Aside0 (Kd.R Kd.bool 4 w' w.heap.size (fun _ => True) (.slice (some ⟨go7, 0, none⟩) y101.length co7) x5_1) ∧ Aside0 (Kd.R (Kd.int .i64) 3 w' w.heap.size (fun _ => True) v6 x6_1) ∧ Aside0 (Below w.heap.size w w'))
 case atStart => exact ⟨(y107), (y104), H', ⟨Nat.le_refl _⟩, ⟨by exact HO103.out⟩, ⟨by exact HO106.out⟩, ⟨by repeat (first | (with_reducible first | exact HB.out | apply below_alloc | apply pw_below_drewN | apply below_drew1) | exact HB.out)⟩⟩
 case round =>
  clear H'
  try clear p2
  try clear c3
  try clear c3b0
  try clear c3b1
  try clear c4
  try clear c4b0
  try clear c4b1
  try clear c5
  try clear c5b0
  try clear c6
  try clear c6b0
  try clear p7
  try clear q7
  try clear hx7
  try clear hf7
  try clear hx7_0
  try clear p7
  try clear q7
  obtain ⟨x5_1, x6_1, HA, HK1, HO_5, HO_6, HB⟩ := hrel
  have hl5_1 := (Kd.R_reads' HO_5.out).1
  rw [hl5_1] at HO_5
  (try simp only [hl5_1])
  (try simp only [hl5_1] at HO_6)
  cases gk with
  | zero => exact absurd HA.out (by simp [spec_spreadFrom.l0])
  | succ k1 =>
   have H := HA.out
   clear HA
   simp only [spec_spreadFrom.l0, show wrap64 (16 - 1) = 15 from (by unfold wrap64; omega)] at H
   by_cases c14 : (x6_1.length : Int) > 0
   rotate_left
   ·
    rw [if_neg c14] at H
    have c14b0 : decide (0 < (x6_1.length : Int)) = false := decide_eq_false c14
    have c14b1 : decide (0 < x6_1.length) = false := decide_eq_false (by omega)
    clear c14
    obtain rfl := Option.some.inj H
    obtain ⟨Ao73, co73, eo73⟩ := Kd.R_slice HO_6.out
    subst eo73
    go_wp2
    go_ret
    exact ⟨_, by first | rfl | (simp [errW_none, errW_some] <;> rfl) | (simp [*, errW_none, errW_some] <;> rfl), by exact HO_5.out, by repeat (first | (with_reducible first | exact HB.out | apply below_alloc | apply pw_below_drewN | apply below_drew1) | exact HB.out)⟩
   rw [if_pos c14] at H
   have c14b0 : decide (0 < (x6_1.length : Int)) = true := decide_eq_true c14
   have c14b1 : decide (0 < x6_1.length) = true := decide_eq_true (by omega)
   clear c14
   obtain ⟨ji15, hji15⟩ : ∃ j_ : Int, (wrap64 ((x6_1.length : Int) - 1)) = j_ := ⟨_, rfl⟩
   replace H : (if 0 ≤ (ji15) then (if (ji15) < (x6_1.length : Int) then (if (ji15) ≤ (x6_1.length : Int) then (if (16 : Int) = 0 then (none) else (spec_spreadFrom.l1 k1 l0 x5_1 (x6_1.take ((ji15) : Int).toNat) 16 (Int.tmod (rd x6_1 (ji15)) 16) (wrap64 (Int.tdiv (rd x6_1 (ji15)) 16)) 0)) else (none)) else (none)) else (none)) = some r := by first | (rw [hji15] at H; exact H) | (simp only [hji15] at H ⊢; exact H)
   have hji15w : (IntKind.i64.wrap ((x6_1.length : Int) - 1)) = ji15 := (i64_w _).trans hji15
   by_cases c16 : 0 ≤ (ji15)
   rotate_left
   ·
    rw [if_neg c16] at H
    exact absurd H (by simp)
   rw [if_pos c16] at H
   have c16b0 : decide (0 ≤ (ji15)) = true := decide_eq_true c16
   clear c16
   by_cases c17 : (ji15) < (x6_1.length : Int)
   rotate_left
   ·
    rw [if_neg c17] at H
    exact absurd H (by simp)
   rw [if_pos c17] at H
   have c17b0 : decide ((ji15) < (x6_1.length : Int)) = true := decide_eq_true c17
   clear c17
   by_cases c18 : (ji15) ≤ (x6_1.length : Int)
   rotate_left
   ·
    rw [if_neg c18] at H
    exact absurd H (by simp)
   rw [if_pos c18] at H
   have c18b0 := eq_true c18
   have c18b1 : decide ((ji15) ≤ (x6_1.length : Int)) = true := decide_eq_true c18
   clear c18
   obtain ⟨y109, hy109⟩ : ∃ y_ : List Int, y_ = (x6_1.take ((ji15) : Int).toNat) := ⟨_, rfl⟩
   replace H : (if (16 : Int) = 0 then (none) else (spec_spreadFrom.l1 k1 l0 x5_1 y109 16 (Int.tmod (rd x6_1 (ji15)) 16) (wrap64 (Int.tdiv (rd x6_1 (ji15)) 16)) 0)) = some r := by first | (rw [hy109]; with_reducible exact H) | (have H2_ := (Option.bind_some _ _).symm.trans H; rw [hy109]; with_reducible exact H2_) | (have H2_ := (Option.bind_some _ _).symm.trans H; with_reducible exact H2_) | with_reducible exact H | (rw [hy109]; exact H) | exact H
   have Ny109 := Aside0.mk hy109
   clear hy109
   by_cases c19 : (16 : Int) = 0
   ·
    rw [if_pos c19] at H
    exact absurd H (by simp)
   rw [if_neg c19] at H
   have c19b0 : ((16 : Int) == 0) = false := beq_eq_false_iff_ne.mpr c19
   have c19b1 : ((16 : Int) != 0) = true := bne_iff_ne.mpr c19
   have H' := Aside0.mk H
   clear H
   obtain ⟨Ao20, co20, eo20⟩ := Kd.R_slice HO_6.out
   subst eo20
   have p108 : 0 ≤ ((ji15) : Int) := of_decide_eq_true (by first | with_reducible assumption | assumption)
   have q108 : (ji15) < (x6_1.length : Int) := of_decide_eq_true (by first | with_reducible assumption | assumption)
   obtain ⟨ad108, e108, hx108_0⟩ := Kd.at_int (Kd.R_reads' HO_6.out).2.2 (ji15) p108 q108
   cases e108
   replace p108 := eq_true p108
   replace q108 := eq_true q108
   have q21 : ((ji15) : Int) ≤ ((x6_1.length : Int) : Int) := of_decide_eq_true (by first | with_reducible assumption | assumption)
   obtain ⟨i021, hi021, _, hsz21, _⟩ := info_parts info3
   have hcut21 := cut_to (P := Try.prog) 55 3 .i64 Try.underlying55 hi021 (some ad108) x6_1.length co20 (ji15) (of_decide_eq_true (by first | with_reducible assumption | assumption)) q21 (Kd.R_reads' HO_6.out).2.1
   have hr21 := Kd.R_take (m := ((ji15) : Int).toNat) HO_6.out (by omega)
   have hy21 : y109.length = ((ji15) : Int).toNat := (by rw [Ny109.out, List.length_take]; omega)
   rw [← Ny109.out] at hr21
   rw [← hy21] at hr21 hcut21
   clear hy21 hi021 hsz21 HO_6
   have HO111 := Aside0.mk hr21
   clear hr21
   replace q21 := eq_true q21
   go_wp2
   go_loopg [6, 11] k1 (fun kq v6 v11 w' => ∃ (x5_2 : List Bool) (x6_2 : List Int) (x11_2 : Int), v11 = .int .i64 x11_2 ∧ Aside0 (spec_spreadFrom.l1 kq l0 x5_2 x6_2 16 (Int.tmod (rd x6_1 (ji15)) 16) (wrap64 (Int.tdiv (rd x6_1 (ji15)) 16)) x11_2 = some r) ∧ Aside0 (kq ≤ k1) ∧ Aside0 (Kd.R Kd.bool 4 w' w.heap.size (fun _ => True) (.slice (some ⟨go7, 0, none⟩) x5_1.length co7) x5_2) ∧ Aside0 (Kd.R (Kd.int .i64) 3 w' w.heap.size (fun _ => True) v6 x6_2) ∧ Aside0 (Below w.heap.size w w'))
   case atStart => exact ⟨(x5_1), (y109), (0), (by first | rfl | (simp; done) | (simp [*]; done)), H', ⟨Nat.le_refl _⟩, ⟨by (try simp only [hl5_1]); (with_reducible repeat (first | apply Kd.R_alloc | apply Kd.R_drewN | apply Kd.R_drew)); exact HO_5.out⟩, ⟨by (try simp only [hl5_1]); (with_reducible repeat (first | apply Kd.R_alloc | apply Kd.R_drewN | apply Kd.R_drew)); exact HO111.out⟩, ⟨by repeat (first | (with_reducible first | exact HB.out | apply below_alloc | apply pw_below_drewN | apply below_drew1) | exact HB.out)⟩⟩
   case round =>
    clear H'
    try clear c1
    try clear p1
    try clear q1
    try clear hx1
    try clear p2
    try clear q2
    try clear c3
    try clear c3b0
    try clear c3b1
    try clear c4
    try clear c4b0
    try clear c4b1
    try clear c5
    try clear c5b0
    try clear c6
    try clear c6b0
    try clear p6
    try clear p7
    try clear q7
    try clear hx7
    try clear hf7
    try clear p10
    try clear q10
    try clear hx10
    try clear c14
    try clear c14b0
    try clear c14b1
    try clear c16
    try clear c16b0
    try clear c17
    try clear c17b0
    try clear c18
    try clear c18b0
    try clear c18b1
    try clear c19
    try clear c19b0
    try clear c19b1
    try clear q21
    try clear hx108_0
    try clear hx7_0
    try clear p108
    try clear p2
    try clear p7
    try clear q108
    try clear q21
    try clear q7
    obtain ⟨x5_2, x6_2, x11_2, rfl, HA, HK2, HO_5, HO_6, HB⟩ := hrel
    have hl5_2 := (Kd.R_reads' HO_5.out).1
    rw [hl5_2] at HO_5
    (try simp only [hl5_2])
    (try simp only [hl5_2] at HO_6)
    cases gk with
    | zero => exact absurd HA.out (by simp [spec_spreadFrom.l1])
    | succ k2 =>
     have H := HA.out
     clear HA
     simp only [spec_spreadFrom.l1, show wrap64 (16 - 1) = 15 from (by unfold wrap64; omega)] at H
     by_cases c22 : x11_2 < 4
     rotate_left
     ·
      rw [if_neg c22] at H
      have c22b0 : decide (x11_2 < 4) = false := decide_eq_false c22
      clear c22
      have H' := Aside0.mk H
      clear H
      go_wp2
      (try simp only [← hl5_1, ← hl5_2])
      go_roundg k2
      case measure => have := HK1.out; have := HK2.out; omega
      case rel => exact ⟨(x5_2), (x6_2), H', ⟨by have := HK1.out; have := HK2.out; omega⟩, ⟨by (try simp only [hl5_1]); (try simp only [hl5_2]); (with_reducible repeat (first | apply Kd.R_alloc | apply Kd.R_drewN | apply Kd.R_drew)); exact HO_5.out⟩, ⟨by (try simp only [hl5_1]); (try simp only [hl5_2]); (with_reducible repeat (first | apply Kd.R_alloc | apply Kd.R_drewN | apply Kd.R_drew)); exact HO_6.out⟩, ⟨by repeat (first | (with_reducible first | exact HB.out | apply below_alloc | apply pw_below_drewN | apply below_drew1) | exact HB.out)⟩⟩
     rw [if_pos c22] at H
     have c22b0 : decide (x11_2 < 4) = true := decide_eq_true c22
     clear c22
     obtain ⟨y112, hy112⟩ : ∃ y_ : List Int, y_ = (([1, (-1), 0, 0] : List Int)) := ⟨_, rfl⟩
     replace H : (if 0 ≤ x11_2 then (if x11_2 < (y112.length : Int) then ((some (([0, 0, 1, (-1)] : List Int) : List Int)).bind fun y116 => (if x11_2 < (y116.length : Int) then ((spec_inRange.f (wrap64 ((Int.tmod (rd x6_1 (ji15)) 16) + (rd y112 x11_2))) 0 15).bind fun t120 => (if t120 = true then ((spec_inRange.f (wrap64 ((wrap64 (Int.tdiv (rd x6_1 (ji15)) 16)) + (rd y116 x11_2))) 0 15).bind fun t121 => (if t121 = true then (if 0 ≤ (wrap64 ((wrap64 ((wrap64 ((wrap64 (Int.tdiv (rd x6_1 (ji15)) 16)) + (rd y116 x11_2))) * 16)) + (wrap64 ((Int.tmod (rd x6_1 (ji15)) 16) + (rd y112 x11_2))))) then (if (wrap64 ((wrap64 ((wrap64 ((wrap64 (Int.tdiv (rd x6_1 (ji15)) 16)) + (rd y116 x11_2))) * 16)) + (wrap64 ((Int.tmod (rd x6_1 (ji15)) 16) + (rd y112 x11_2))))) < (l0.length : Int) then (if rdOf false l0 (wrap64 ((wrap64 ((wrap64 ((wrap64 (Int.tdiv (rd x6_1 (ji15)) 16)) + (rd y116 x11_2))) * 16)) + (wrap64 ((Int.tmod (rd x6_1 (ji15)) 16) + (rd y112 x11_2))))) = true then (if (wrap64 ((wrap64 ((wrap64 ((wrap64 (Int.tdiv (rd x6_1 (ji15)) 16)) + (rd y116 x11_2))) * 16)) + (wrap64 ((Int.tmod (rd x6_1 (ji15)) 16) + (rd y112 x11_2))))) < (x5_2.length : Int) then (if (rdOf false x5_2 (wrap64 ((wrap64 ((wrap64 ((wrap64 (Int.tdiv (rd x6_1 (ji15)) 16)) + (rd y116 x11_2))) * 16)) + (wrap64 ((Int.tmod (rd x6_1 (ji15)) 16) + (rd y112 x11_2))))) = true) then (spec_spreadFrom.l1 k2 l0 x5_2 x6_2 16 (Int.tmod (rd x6_1 (ji15)) 16) (wrap64 (Int.tdiv (rd x6_1 (ji15)) 16)) (wrap64 (x11_2 + 1))) else (if x6_2.length < 17592186044416 then (spec_spreadFrom.l1 k2 l0 (x5_2.set ((wrap64 ((wrap64 ((wrap64 ((wrap64 (Int.tdiv (rd x6_1 (ji15)) 16)) + (rd y116 x11_2))) * 16)) + (wrap64 ((Int.tmod (rd x6_1 (ji15)) 16) + (rd y112 x11_2))))) : Int).toNat true) (x6_2 ++ [wrap64 ((wrap64 ((wrap64 ((wrap64 (Int.tdiv (rd x6_1 (ji15)) 16)) + (rd y116 x11_2))) * 16)) + (wrap64 ((Int.tmod (rd x6_1 (ji15)) 16) + (rd y112 x11_2))))]) 16 (Int.tmod (rd x6_1 (ji15)) 16) (wrap64 (Int.tdiv (rd x6_1 (ji15)) 16)) (wrap64 (x11_2 + 1))) else (none))) else (none)) else (spec_spreadFrom.l1 k2 l0 x5_2 x6_2 16 (Int.tmod (rd x6_1 (ji15)) 16) (wrap64 (Int.tdiv (rd x6_1 (ji15)) 16)) (wrap64 (x11_2 + 1)))) else (none)) else (none)) else (spec_spreadFrom.l1 k2 l0 x5_2 x6_2 16 (Int.tmod (rd x6_1 (ji15)) 16) (wrap64 (Int.tdiv (rd x6_1 (ji15)) 16)) (wrap64 (x11_2 + 1))))) else (spec_spreadFrom.l1 k2 l0 x5_2 x6_2 16 (Int.tmod (rd x6_1 (ji15)) 16) (wrap64 (Int.tdiv (rd x6_1 (ji15)) 16)) (wrap64 (x11_2 + 1))))) else (none))) else (none)) else (none)) = some r := by first | (rw [hy112]; with_reducible exact H) | (have H2_ := (Option.bind_some _ _).symm.trans H; rw [hy112]; with_reducible exact H2_) | (have H2_ := (Option.bind_some _ _).symm.trans H; with_reducible exact H2_) | with_reducible exact H | (rw [hy112]; exact H) | exact H
     have Ny112 := Aside0.mk hy112
     clear hy112
     by_cases c23 : 0 ≤ x11_2
     rotate_left
     ·
      rw [if_neg c23] at H
      exact absurd H (by simp)
     rw [if_pos c23] at H
     have c23b0 : decide (0 ≤ x11_2) = true := decide_eq_true c23
     clear c23
     by_cases c24 : x11_2 < (y112.length : Int)
     rotate_left
     ·
      rw [if_neg c24] at H
      exact absurd H (by simp)
     rw [if_pos c24] at H
     have c24b0 : decide (x11_2 < (y112.length : Int)) = true := decide_eq_true c24
     clear c24
     obtain ⟨y116, hy116⟩ : ∃ y_ : List Int, y_ = (([0, 0, 1, (-1)] : List Int)) := ⟨_, rfl⟩
     replace H : (if x11_2 < (y116.length : Int) then ((spec_inRange.f (wrap64 ((Int.tmod (rd x6_1 (ji15)) 16) + (rd y112 x11_2))) 0 15).bind fun t120 => (if t120 = true then ((spec_inRange.f (wrap64 ((wrap64 (Int.tdiv (rd x6_1 (ji15)) 16)) + (rd y116 x11_2))) 0 15).bind fun t121 => (if t121 = true then (if 0 ≤ (wrap64 ((wrap64 ((wrap64 ((wrap64 (Int.tdiv (rd x6_1 (ji15)) 16)) + (rd y116 x11_2))) * 16)) + (wrap64 ((Int.tmod (rd x6_1 (ji15)) 16) + (rd y112 x11_2))))) then (if (wrap64 ((wrap64 ((wrap64 ((wrap64 (Int.tdiv (rd x6_1 (ji15)) 16)) + (rd y116 x11_2))) * 16)) + (wrap64 ((Int.tmod (rd x6_1 (ji15)) 16) + (rd y112 x11_2))))) < (l0.length : Int) then (if rdOf false l0 (wrap64 ((wrap64 ((wrap64 ((wrap64 (Int.tdiv (rd x6_1 (ji15)) 16)) + (rd y116 x11_2))) * 16)) + (wrap64 ((Int.tmod (rd x6_1 (ji15)) 16) + (rd y112 x11_2))))) = true then (if (wrap64 ((wrap64 ((wrap64 ((wrap64 (Int.tdiv (rd x6_1 (ji15)) 16)) + (rd y116 x11_2))) * 16)) + (wrap64 ((Int.tmod (rd x6_1 (ji15)) 16) + (rd y112 x11_2))))) < (x5_2.length : Int) then (if (rdOf false x5_2 (wrap64 ((wrap64 ((wrap64 ((wrap64 (Int.tdiv (rd x6_1 (ji15)) 16)) + (rd y116 x11_2))) * 16)) + (wrap64 ((Int.tmod (rd x6_1 (ji15)) 16) + (rd y112 x11_2))))) = true) then (spec_spreadFrom.l1 k2 l0 x5_2 x6_2 16 (Int.tmod (rd x6_1 (ji15)) 16) (wrap64 (Int.tdiv (rd x6_1 (ji15)) 16)) (wrap64 (x11_2 + 1))) else (if x6_2.length < 17592186044416 then (spec_spreadFrom.l1 k2 l0 (x5_2.set ((wrap64 ((wrap64 ((wrap64 ((wrap64 (Int.tdiv (rd x6_1 (ji15)) 16)) + (rd y116 x11_2))) * 16)) + (wrap64 ((Int.tmod (rd x6_1 (ji15)) 16) + (rd y112 x11_2))))) : Int).toNat true) (x6_2 ++ [wrap64 ((wrap64 ((wrap64 ((wrap64 (Int.tdiv (rd x6_1 (ji15)) 16)) + (rd y116 x11_2))) * 16)) + (wrap64 ((Int.tmod (rd x6_1 (ji15)) 16) + (rd y112 x11_2))))]) 16 (Int.tmod (rd x6_1 (ji15)) 16) (wrap64 (Int.tdiv (rd x6_1 (ji15)) 16)) (wrap64 (x11_2 + 1))) else (none))) else (none)) else (spec_spreadFrom.l1 k2 l0 x5_2 x6_2 16 (Int.tmod (rd x6_1 (ji15)) 16) (wrap64 (Int.tdiv (rd x6_1 (ji15)) 16)) (wrap64 (x11_2 + 1)))) else (none)) else (none)) else (spec_spreadFrom.l1 k2 l0 x5_2 x6_2 16 (Int.tmod (rd x6_1 (ji15)) 16) (wrap64 (Int.tdiv (rd x6_1 (ji15)) 16)) (wrap64 (x11_2 + 1))))) else (spec_spreadFrom.l1 k2 l0 x5_2 x6_2 16 (Int.tmod (rd x6_1 (ji15)) 16) (wrap64 (Int.tdiv (rd x6_1 (ji15)) 16)) (wrap64 (x11_2 + 1))))) else (none)) = some r := by first | (rw [hy116]; with_reducible exact H) | (have H2_ := (Option.bind_some _ _).symm.trans H; rw [hy116]; with_reducible exact H2_) | (have H2_ := (Option.bind_some _ _).symm.trans H; with_reducible exact H2_) | with_reducible exact H | (rw [hy116]; exact H) | exact H
     have Ny116 := Aside0.mk hy116
     clear hy116
     by_cases c25 : x11_2 < (y116.length : Int)
     rotate_left
     ·
      rw [if_neg c25] at H
      exact absurd H (by simp)
     rw [if_pos c25] at H
     have c25b0 : decide (x11_2 < (y116.length : Int)) = true := decide_eq_true c25
     clear c25
     replace H := Option.bind_eq_some_iff.mp H
     obtain ⟨t120, A260, H⟩ := H
     replace H : (if t120 = true then ((spec_inRange.f (wrap64 ((wrap64 (Int.tdiv (rd x6_1 (ji15)) 16)) + (rd y116 x11_2))) 0 15).bind fun t121 => (if t121 = true then (if 0 ≤ (wrap64 ((wrap64 ((wrap64 ((wrap64 (Int.tdiv (rd x6_1 (ji15)) 16)) + (rd y116 x11_2))) * 16)) + (wrap64 ((Int.tmod (rd x6_1 (ji15)) 16) + (rd y112 x11_2))))) then (if (wrap64 ((wrap64 ((wrap64 ((wrap64 (Int.tdiv (rd x6_1 (ji15)) 16)) + (rd y116 x11_2))) * 16)) + (wrap64 ((Int.tmod (rd x6_1 (ji15)) 16) + (rd y112 x11_2))))) < (l0.length : Int) then (if rdOf false l0 (wrap64 ((wrap64 ((wrap64 ((wrap64 (Int.tdiv (rd x6_1 (ji15)) 16)) + (rd y116 x11_2))) * 16)) + (wrap64 ((Int.tmod (rd x6_1 (ji15)) 16) + (rd y112 x11_2))))) = true then (if (wrap64 ((wrap64 ((wrap64 ((wrap64 (Int.tdiv (rd x6_1 (ji15)) 16)) + (rd y116 x11_2))) * 16)) + (wrap64 ((Int.tmod (rd x6_1 (ji15)) 16) + (rd y112 x11_2))))) < (x5_2.length : Int) then (if (rdOf false x5_2 (wrap64 ((wrap64 ((wrap64 ((wrap64 (Int.tdiv (rd x6_1 (ji15)) 16)) + (rd y116 x11_2))) * 16)) + (wrap64 ((Int.tmod (rd x6_1 (ji15)) 16) + (rd y112 x11_2))))) = true) then (spec_spreadFrom.l1 k2 l0 x5_2 x6_2 16 (Int.tmod (rd x6_1 (ji15)) 16) (wrap64 (Int.tdiv (rd x6_1 (ji15)) 16)) (wrap64 (x11_2 + 1))) else (if x6_2.length < 17592186044416 then (spec_spreadFrom.l1 k2 l0 (x5_2.set ((wrap64 ((wrap64 ((wrap64 ((wrap64 (Int.tdiv (rd x6_1 (ji15)) 16)) + (rd y116 x11_2))) * 16)) + (wrap64 ((Int.tmod (rd x6_1 (ji15)) 16) + (rd y112 x11_2))))) : Int).toNat true) (x6_2 ++ [wrap64 ((wrap64 ((wrap64 ((wrap64 (Int.tdiv (rd x6_1 (ji15)) 16)) + (rd y116 x11_2))) * 16)) + (wrap64 ((Int.tmod (rd x6_1 (ji15)) 16) + (rd y112 x11_2))))]) 16 (Int.tmod (rd x6_1 (ji15)) 16) (wrap64 (Int.tdiv (rd x6_1 (ji15)) 16)) (wrap64 (x11_2 + 1))) else (none))) else (none)) else (spec_spreadFrom.l1 k2 l0 x5_2 x6_2 16 (Int.tmod (rd x6_1 (ji15)) 16) (wrap64 (Int.tdiv (rd x6_1 (ji15)) 16)) (wrap64 (x11_2 + 1)))) else (none)) else (none)) else (spec_spreadFrom.l1 k2 l0 x5_2 x6_2 16 (Int.tmod (rd x6_1 (ji15)) 16) (wrap64 (Int.tdiv (rd x6_1 (ji15)) 16)) (wrap64 (x11_2 + 1))))) else (spec_spreadFrom.l1 k2 l0 x5_2 x6_2 16 (Int.tmod (rd x6_1 (ji15)) 16) (wrap64 (Int.tdiv (rd x6_1 (ji15)) 16)) (wrap64 (x11_2 + 1)))) = some r := H
     have A26 := Aside0.mk A260
     clear A260
     by_cases c27 : t120 = true
     rotate_left
     ·
      replace c27 := Bool.eq_false_iff.mpr c27
      subst c27
      have H1 : (spec_spreadFrom.l1 k2 l0 x5_2 x6_2 16 (Int.tmod (rd x6_1 (ji15)) 16) (wrap64 (Int.tdiv (rd x6_1 (ji15)) 16)) (wrap64 (x11_2 + 1))) = some r := by rw [if_neg (show ¬ (false = true) by decide)] at H; exact H
      clear H
      have H := H1
      clear H1
      have H' := Aside0.mk H
      clear H
      go_wp2_with (first | ((with_reducible refine gate_dst (N := 47) rfl ?_); refine Kd.R_lit (Kd.int .i64) _ 3 ?hg (N := 47) ?hd (xs := ([1, (-1), 0, 0] : List Int)) (inner := [.int .i64 1, .int .i64 (-1), .int .i64 0, .int .i64 0]) (ok := fun _ => True) (okp := fun _ => True) ?hr ?hp (fun _ hk => hk) trivial (Below.refl _ _) (Nat.le_refl _) (by simp) ?_; (case hd => rfl); (case hg => rfl); (case hr => first | (go_simp; done) | (go_simp; rfl)); (case hp => exact (Reps.one (show Kd.M (Kd.int .i64) _ _ _ 1 [.int .i64 1] from rfl) (Reps.one (show Kd.M (Kd.int .i64) _ _ _ (-1) [.int .i64 (-1)] from rfl) (Reps.one (show Kd.M (Kd.int .i64) _ _ _ 0 [.int .i64 0] from rfl) (Reps.one (show Kd.M (Kd.int .i64) _ _ _ 0 [.int .i64 0] from rfl) (Reps.none _ _)))))); intro v113 w67 ho68 hb hg_ hnew_; clear hg_ hnew_; (first | rw [← Ny112.out] at ho68 | (simp only [Int.reduceToNat] at ho68; rw [← Ny112.out] at ho68)); replace HO_5 := am_ (Kd.R_below (by exact HO_5.out) hb); have HO114 := am_ (Kd.R_lower (Kd.R_new' ho68 (Kd.R_lt (by exact HO_6.out))) (below_size (by repeat (first | (with_reducible first | exact HB.out | apply below_alloc | apply pw_below_drewN | apply below_drew1) | exact HB.out)))); replace HO_6 := am_ (Kd.R_elder' (by exact HO_6.out) (Kd.R_base ho68) hb); replace HB := am_ (below_step (by repeat (first | (with_reducible first | exact HB.out | apply below_alloc | apply pw_below_drewN | apply below_drew1) | exact HB.out)) hb); clear hb ho68; obtain ⟨Ao69, co69, eo69⟩ := Kd.R_slice HO114.out; subst eo69; have p115 : 0 ≤ (x11_2 : Int) := of_decide_eq_true (by first | with_reducible assumption | assumption); have q115 : x11_2 < (y112.length : Int) := of_decide_eq_true (by first | with_reducible assumption | assumption); obtain ⟨ad115, e115, hx115_0⟩ := Kd.at_int (Kd.R_reads' HO114.out).2.2 x11_2 p115 q115; cases e115; replace p115 := eq_true p115; replace q115 := eq_true q115) | ((with_reducible refine gate_dst (N := 53) rfl ?_); refine Kd.R_lit (Kd.int .i64) _ 3 ?hg (N := 53) ?hd (xs := ([0, 0, 1, (-1)] : List Int)) (inner := [.int .i64 0, .int .i64 0, .int .i64 1, .int .i64 (-1)]) (ok := fun _ => True) (okp := fun _ => True) ?hr ?hp (fun _ hk => hk) trivial (Below.refl _ _) (Nat.le_refl _) (by simp) ?_; (case hd => rfl); (case hg => rfl); (case hr => first | (go_simp; done) | (go_simp; rfl)); (case hp => exact (Reps.one (show Kd.M (Kd.int .i64) _ _ _ 0 [.int .i64 0] from rfl) (Reps.one (show Kd.M (Kd.int .i64) _ _ _ 0 [.int .i64 0] from rfl) (Reps.one (show Kd.M (Kd.int .i64) _ _ _ 1 [.int .i64 1] from rfl) (Reps.one (show Kd.M (Kd.int .i64) _ _ _ (-1) [.int .i64 (-1)] from rfl) (Reps.none _ _)))))); intro v117 w70 ho71 hb hg_ hnew_; clear hg_ hnew_; (first | rw [← Ny116.out] at ho71 | (simp only [Int.reduceToNat] at ho71; rw [← Ny116.out] at ho71)); replace HO_5 := am_ (Kd.R_below (by exact HO_5.out) hb); have HO118 := am_ (Kd.R_lower (Kd.R_new' (Kd.R_new' ho71 (Kd.R_lt (by exact HO_6.out))) (Kd.R_lt (by exact HO114.out))) (below_size (by repeat (first | (with_reducible first | exact HB.out | apply below_alloc | apply pw_below_drewN | apply below_drew1) | exact HB.out)))); replace HO_6 := am_ (Kd.R_elder' (by exact HO_6.out) (Kd.R_base ho71) hb); replace HO114 := am_ (Kd.R_elder' (by exact HO114.out) (Kd.R_base ho71) hb); replace HB := am_ (below_step (by repeat (first | (with_reducible first | exact HB.out | apply below_alloc | apply pw_below_drewN | apply below_drew1) | exact HB.out)) hb); clear hb ho71; obtain ⟨Ao72, co72, eo72⟩ := Kd.R_slice HO118.out; subst eo72; have p119 : 0 ≤ (x11_2 : Int) := of_decide_eq_true (by first | with_reducible assumption | assumption); have q119 : x11_2 < (y116.length : Int) := of_decide_eq_true (by first | with_reducible assumption | assumption); obtain ⟨ad119, e119, hx119_0⟩ := Kd.at_int (Kd.R_reads' HO118.out).2.2 x11_2 p119 q119; cases e119; replace p119 := eq_true p119; replace q119 := eq_true q119) | ((with_reducible refine gate_callee (f := 37) rfl ?_); refine goesL_ (some 61) rfl rfl Try.func37 (by kernel_rfl) rfl #[.int .i64 (wrap64 ((Int.tmod (rd x6_1 (ji15)) 16) + (rd y112 x11_2))), .int .i64 0, .int .i64 15] rfl (by (try simp only [List.map_toArray, List.map_cons, List.map_nil]); first | done | (simp only [hji15]; rfl) | rfl | (simp only [List.length_drop, List.length_take]; rfl)) ?_; (with_reducible refine (spec_inRange.calls (wrap64 ((Int.tmod (rd x6_1 (ji15)) 16) + (rd y112 x11_2))) 0 15 false _ A26.out).mono ?_); rintro e w' ⟨rfl, ⟨nd, rfl⟩⟩; refine ⟨_, rfl, ?_⟩))
      (try simp only [← hl5_2])
      go_roundg k2
      case measure => have := HK1.out; have := HK2.out; omega
      case rel => exact ⟨(x5_2), (x6_2), (wrap64 (x11_2 + 1)), (by first | rfl | (simp; done) | (simp [*]; done)), H', ⟨by have := HK1.out; have := HK2.out; omega⟩, ⟨by (try simp only [hl5_1]); (try simp only [hl5_2]); (with_reducible repeat (first | apply Kd.R_alloc | apply Kd.R_drewN | apply Kd.R_drew)); exact HO_5.out⟩, ⟨by (try simp only [hl5_1]); (try simp only [hl5_2]); (with_reducible repeat (first | apply Kd.R_alloc | apply Kd.R_drewN | apply Kd.R_drew)); exact Kd.R_mono HO_6.out (fun _ hk => trivial)⟩, ⟨by repeat (first | (with_reducible first | exact HB.out | apply below_alloc | apply pw_below_drewN | apply below_drew1) | exact HB.out)⟩⟩
     subst c27
     have H1 : ((spec_inRange.f (wrap64 ((wrap64 (Int.tdiv (rd x6_1 (ji15)) 16)) + (rd y116 x11_2))) 0 15).bind fun t121 => (if t121 = true then (if 0 ≤ (wrap64 ((wrap64 ((wrap64 ((wrap64 (Int.tdiv (rd x6_1 (ji15)) 16)) + (rd y116 x11_2))) * 16)) + (wrap64 ((Int.tmod (rd x6_1 (ji15)) 16) + (rd y112 x11_2))))) then (if (wrap64 ((wrap64 ((wrap64 ((wrap64 (Int.tdiv (rd x6_1 (ji15)) 16)) + (rd y116 x11_2))) * 16)) + (wrap64 ((Int.tmod (rd x6_1 (ji15)) 16) + (rd y112 x11_2))))) < (l0.length : Int) then (if rdOf false l0 (wrap64 ((wrap64 ((wrap64 ((wrap64 (Int.tdiv (rd x6_1 (ji15)) 16)) + (rd y116 x11_2))) * 16)) + (wrap64 ((Int.tmod (rd x6_1 (ji15)) 16) + (rd y112 x11_2))))) = true then (if (wrap64 ((wrap64 ((wrap64 ((wrap64 (Int.tdiv (rd x6_1 (ji15)) 16)) + (rd y116 x11_2))) * 16)) + (wrap64 ((Int.tmod (rd x6_1 (ji15)) 16) + (rd y112 x11_2))))) < (x5_2.length : Int) then (if (rdOf false x5_2 (wrap64 ((wrap64 ((wrap64 ((wrap64 (Int.tdiv (rd x6_1 (ji15)) 16)) + (rd y116 x11_2))) * 16)) + (wrap64 ((Int.tmod (rd x6_1 (ji15)) 16) + (rd y112 x11_2))))) = true) then (spec_spreadFrom.l1 k2 l0 x5_2 x6_2 16 (Int.tmod (rd x6_1 (ji15)) 16) (wrap64 (Int.tdiv (rd x6_1 (ji15)) 16)) (wrap64 (x11_2 + 1))) else (if x6_2.length < 17592186044416 then (spec_spreadFrom.l1 k2 l0 (x5_2.set ((wrap64 ((wrap64 ((wrap64 ((wrap64 (Int.tdiv (rd x6_1 (ji15)) 16)) + (rd y116 x11_2))) * 16)) + (wrap64 ((Int.tmod (rd x6_1 (ji15)) 16) + (rd y112 x11_2))))) : Int).toNat true) (x6_2 ++ [wrap64 ((wrap64 ((wrap64 ((wrap64 (Int.tdiv (rd x6_1 (ji15)) 16)) + (rd y116 x11_2))) * 16)) + (wrap64 ((Int.tmod (rd x6_1 (ji15)) 16) + (rd y112 x11_2))))]) 16 (Int.tmod (rd x6_1 (ji15)) 16) (wrap64 (Int.tdiv (rd x6_1 (ji15)) 16)) (wrap64 (x11_2 + 1))) else (none))) else (none)) else (spec_spreadFrom.l1 k2 l0 x5_2 x6_2 16 (Int.tmod (rd x6_1 (ji15)) 16) (wrap64 (Int.tdiv (rd x6_1 (ji15)) 16)) (wrap64 (x11_2 + 1)))) else (none)) else (none)) else (spec_spreadFrom.l1 k2 l0 x5_2 x6_2 16 (Int.tmod (rd x6_1 (ji15)) 16) (wrap64 (Int.tdiv (rd x6_1 (ji15)) 16)) (wrap64 (x11_2 + 1))))) = some r := by rw [if_pos rfl] at H; exact H
     clear H
     have H := H1
     clear H1
     replace H := Option.bind_eq_some_iff.mp H
     obtain ⟨t121, A280, H⟩ := H
     replace H : (if t121 = true then (if 0 ≤ (wrap64 ((wrap64 ((wrap64 ((wrap64 (Int.tdiv (rd x6_1 (ji15)) 16)) + (rd y116 x11_2))) * 16)) + (wrap64 ((Int.tmod (rd x6_1 (ji15)) 16) + (rd y112 x11_2))))) then (if (wrap64 ((wrap64 ((wrap64 ((wrap64 (Int.tdiv (rd x6_1 (ji15)) 16)) + (rd y116 x11_2))) * 16)) + (wrap64 ((Int.tmod (rd x6_1 (ji15)) 16) + (rd y112 x11_2))))) < (l0.length : Int) then (if rdOf false l0 (wrap64 ((wrap64 ((wrap64 ((wrap64 (Int.tdiv (rd x6_1 (ji15)) 16)) + (rd y116 x11_2))) * 16)) + (wrap64 ((Int.tmod (rd x6_1 (ji15)) 16) + (rd y112 x11_2))))) = true then (if (wrap64 ((wrap64 ((wrap64 ((wrap64 (Int.tdiv (rd x6_1 (ji15)) 16)) + (rd y116 x11_2))) * 16)) + (wrap64 ((Int.tmod (rd x6_1 (ji15)) 16) + (rd y112 x11_2))))) < (x5_2.length : Int) then (if (rdOf false x5_2 (wrap64 ((wrap64 ((wrap64 ((wrap64 (Int.tdiv (rd x6_1 (ji15)) 16)) + (rd y116 x11_2))) * 16)) + (wrap64 ((Int.tmod (rd x6_1 (ji15)) 16) + (rd y112 x11_2))))) = true) then (spec_spreadFrom.l1 k2 l0 x5_2 x6_2 16 (Int.tmod (rd x6_1 (ji15)) 16) (wrap64 (Int.tdiv (rd x6_1 (ji15)) 16)) (wrap64 (x11_2 + 1))) else (if x6_2.length < 17592186044416 then (spec_spreadFrom.l1 k2 l0 (x5_2.set ((wrap64 ((wrap64 ((wrap64 ((wrap64 (Int.tdiv (rd x6_1 (ji15)) 16)) + (rd y116 x11_2))) * 16)) + (wrap64 ((Int.tmod (rd x6_1 (ji15)) 16) + (rd y112 x11_2))))) : Int).toNat true) (x6_2 ++ [wrap64 ((wrap64 ((wrap64 ((wrap64 (Int.tdiv (rd x6_1 (ji15)) 16)) + (rd y116 x11_2))) * 16)) + (wrap64 ((Int.tmod (rd x6_1 (ji15)) 16) + (rd y112 x11_2))))]) 16 (Int.tmod (rd x6_1 (ji15)) 16) (wrap64 (Int.tdiv (rd x6_1 (ji15)) 16)) (wrap64 (x11_2 + 1))) else (none))) else (none)) else (spec_spreadFrom.l1 k2 l0 x5_2 x6_2 16 (Int.tmod (rd x6_1 (ji15)) 16) (wrap64 (Int.tdiv (rd x6_1 (ji15)) 16)) (wrap64 (x11_2 + 1)))) else (none)) else (none)) else (spec_spreadFrom.l1 k2 l0 x5_2 x6_2 16 (Int.tmod (rd x6_1 (ji15)) 16) (wrap64 (Int.tdiv (rd x6_1 (ji15)) 16)) (wrap64 (x11_2 + 1)))) = some r := H
     have A28 := Aside0.mk A280
     clear A280
     by_cases c29 : t121 = true
     rotate_left
     ·
      replace c29 := Bool.eq_false_iff.mpr c29
      subst c29
      have H1 : (spec_spreadFrom.l1 k2 l0 x5_2 x6_2 16 (Int.tmod (rd x6_1 (ji15)) 16) (wrap64 (Int.tdiv (rd x6_1 (ji15)) 16)) (wrap64 (x11_2 + 1))) = some r := by rw [if_neg (show ¬ (false = true) by decide)] at H; exact H
      clear H
      have H := H1
      clear H1
      have H' := Aside0.mk H
      clear H
      go_wp2_with (first | ((with_reducible refine gate_dst (N := 47) rfl ?_); refine Kd.R_lit (Kd.int .i64) _ 3 ?hg (N := 47) ?hd (xs := ([1, (-1), 0, 0] : List Int)) (inner := [.int .i64 1, .int .i64 (-1), .int .i64 0, .int .i64 0]) (ok := fun _ => True) (okp := fun _ => True) ?hr ?hp (fun _ hk => hk) trivial (Below.refl _ _) (Nat.le_refl _) (by simp) ?_; (case hd => rfl); (case hg => rfl); (case hr => first | (go_simp; done) | (go_simp; rfl)); (case hp => exact (Reps.one (show Kd.M (Kd.int .i64) _ _ _ 1 [.int .i64 1] from rfl) (Reps.one (show Kd.M (Kd.int .i64) _ _ _ (-1) [.int .i64 (-1)] from rfl) (Reps.one (show Kd.M (Kd.int .i64) _ _ _ 0 [.int .i64 0] from rfl) (Reps.one (show Kd.M (Kd.int .i64) _ _ _ 0 [.int .i64 0] from rfl) (Reps.none _ _)))))); intro v113 w61 ho62 hb hg_ hnew_; clear hg_ hnew_; (first | rw [← Ny112.out] at ho62 | (simp only [Int.reduceToNat] at ho62; rw [← Ny112.out] at ho62)); replace HO_5 := am_ (Kd.R_below (by exact HO_5.out) hb); have HO114 := am_ (Kd.R_lower (Kd.R_new' ho62 (Kd.R_lt (by exact HO_6.out))) (below_size (by repeat (first | (with_reducible first | exact HB.out | apply below_alloc | apply pw_below_drewN | apply below_drew1) | exact HB.out)))); replace HO_6 := am_ (Kd.R_elder' (by exact HO_6.out) (Kd.R_base ho62) hb); replace HB := am_ (below_step (by repeat (first | (with_reducible first | exact HB.out | apply below_alloc | apply pw_below_drewN | apply below_drew1) | exact HB.out)) hb); clear hb ho62; obtain ⟨Ao63, co63, eo63⟩ := Kd.R_slice HO114.out; subst eo63; have p115 : 0 ≤ (x11_2 : Int) := of_decide_eq_true (by first | with_reducible assumption | assumption); have q115 : x11_2 < (y112.length : Int) := of_decide_eq_true (by first | with_reducible assumption | assumption); obtain ⟨ad115, e115, hx115_0⟩ := Kd.at_int (Kd.R_reads' HO114.out).2.2 x11_2 p115 q115; cases e115; replace p115 := eq_true p115; replace q115 := eq_true q115) | ((with_reducible refine gate_dst (N := 53) rfl ?_); refine Kd.R_lit (Kd.int .i64) _ 3 ?hg (N := 53) ?hd (xs := ([0, 0, 1, (-1)] : List Int)) (inner := [.int .i64 0, .int .i64 0, .int .i64 1, .int .i64 (-1)]) (ok := fun _ => True) (okp := fun _ => True) ?hr ?hp (fun _ hk => hk) trivial (Below.refl _ _) (Nat.le_refl _) (by simp) ?_; (case hd => rfl); (case hg => rfl); (case hr => first | (go_simp; done) | (go_simp; rfl)); (case hp => exact (Reps.one (show Kd.M (Kd.int .i64) _ _ _ 0 [.int .i64 0] from rfl) (Reps.one (show Kd.M (Kd.int .i64) _ _ _ 0 [.int .i64 0] from rfl) (Reps.one (show Kd.M (Kd.int .i64) _ _ _ 1 [.int .i64 1] from rfl) (Reps.one (show Kd.M (Kd.int .i64) _ _ _ (-1) [.int .i64 (-1)] from rfl) (Reps.none _ _)))))); intro v117 w64 ho65 hb hg_ hnew_; clear hg_ hnew_; (first | rw [← Ny116.out] at ho65 | (simp only [Int.reduceToNat] at ho65; rw [← Ny116.out] at ho65)); replace HO_5 := am_ (Kd.R_below (by exact HO_5.out) hb); have HO118 := am_ (Kd.R_lower (Kd.R_new' (Kd.R_new' ho65 (Kd.R_lt (by exact HO_6.out))) (Kd.R_lt (by exact HO114.out))) (below_size (by repeat (first | (with_reducible first | exact HB.out | apply below_alloc | apply pw_below_drewN | apply below_drew1) | exact HB.out)))); replace HO_6 := am_ (Kd.R_elder' (by exact HO_6.out) (Kd.R_base ho65) hb); replace HO114 := am_ (Kd.R_elder' (by exact HO114.out) (Kd.R_base ho65) hb); replace HB := am_ (below_step (by repeat (first | (with_reducible first | exact HB.out | apply below_alloc | apply pw_below_drewN | apply below_drew1) | exact HB.out)) hb); clear hb ho65; obtain ⟨Ao66, co66, eo66⟩ := Kd.R_slice HO118.out; subst eo66; have p119 : 0 ≤ (x11_2 : Int) := of_decide_eq_true (by first | with_reducible assumption | assumption); have q119 : x11_2 < (y116.length : Int) := of_decide_eq_true (by first | with_reducible assumption | assumption); obtain ⟨ad119, e119, hx119_0⟩ := Kd.at_int (Kd.R_reads' HO118.out).2.2 x11_2 p119 q119; cases e119; replace p119 := eq_true p119; replace q119 := eq_true q119) | ((with_reducible refine gate_callee (f := 37) rfl ?_); refine goesL_ (some 61) rfl rfl Try.func37 (by kernel_rfl) rfl #[.int .i64 (wrap64 ((Int.tmod (rd x6_1 (ji15)) 16) + (rd y112 x11_2))), .int .i64 0, .int .i64 15] rfl (by (try simp only [List.map_toArray, List.map_cons, List.map_nil]); first | done | (simp only [hji15]; rfl) | rfl | (simp only [List.length_drop, List.length_take]; rfl)) ?_; (with_reducible refine (spec_inRange.calls (wrap64 ((Int.tmod (rd x6_1 (ji15)) 16) + (rd y112 x11_2))) 0 15 true _ A26.out).mono ?_); rintro e w' ⟨rfl, ⟨nd, rfl⟩⟩; refine ⟨_, rfl, ?_⟩) | (go_at_call 37; (with_reducible refine (spec_inRange.calls (wrap64 ((wrap64 (Int.tdiv (rd x6_1 (ji15)) 16)) + (rd y116 x11_2))) 0 15 false _ A28.out).mono ?_); rintro e w' ⟨rfl, ⟨nd, rfl⟩⟩))
      (try simp only [← hl5_2])
      go_roundg k2
      case measure => have := HK1.out; have := HK2.out; omega
      case rel => exact ⟨(x5_2), (x6_2), (wrap64 (x11_2 + 1)), (by first | rfl | (simp; done) | (simp [*]; done)), H', ⟨by have := HK1.out; have := HK2.out; omega⟩, ⟨by (try simp only [hl5_1]); (try simp only [hl5_2]); (with_reducible repeat (first | apply Kd.R_alloc | apply Kd.R_drewN | apply Kd.R_drew)); exact HO_5.out⟩, ⟨by (try simp only [hl5_1]); (try simp only [hl5_2]); (with_reducible repeat (first | apply Kd.R_alloc | apply Kd.R_drewN | apply Kd.R_drew)); exact Kd.R_mono HO_6.out (fun _ hk => trivial)⟩, ⟨by repeat (first | (with_reducible first | exact HB.out | apply below_alloc | apply pw_below_drewN | apply below_drew1) | exact HB.out)⟩⟩
     subst c29
     have H1 : (if 0 ≤ (wrap64 ((wrap64 ((wrap64 ((wrap64 (Int.tdiv (rd x6_1 (ji15)) 16)) + (rd y116 x11_2))) * 16)) + (wrap64 ((Int.tmod (rd x6_1 (ji15)) 16) + (rd y112 x11_2))))) then (if (wrap64 ((wrap64 ((wrap64 ((wrap64 (Int.tdiv (rd x6_1 (ji15)) 16)) + (rd y116 x11_2))) * 16)) + (wrap64 ((Int.tmod (rd x6_1 (ji15)) 16) + (rd y112 x11_2))))) < (l0.length : Int) then (if rdOf false l0 (wrap64 ((wrap64 ((wrap64 ((wrap64 (Int.tdiv (rd x6_1 (ji15)) 16)) + (rd y116 x11_2))) * 16)) + (wrap64 ((Int.tmod (rd x6_1 (ji15)) 16) + (rd y112 x11_2))))) = true then (if (wrap64 ((wrap64 ((wrap64 ((wrap64 (Int.tdiv (rd x6_1 (ji15)) 16)) + (rd y116 x11_2))) * 16)) + (wrap64 ((Int.tmod (rd x6_1 (ji15)) 16) + (rd y112 x11_2))))) < (x5_2.length : Int) then (if (rdOf false x5_2 (wrap64 ((wrap64 ((wrap64 ((wrap64 (Int.tdiv (rd x6_1 (ji15)) 16)) + (rd y116 x11_2))) * 16)) + (wrap64 ((Int.tmod (rd x6_1 (ji15)) 16) + (rd y112 x11_2))))) = true) then (spec_spreadFrom.l1 k2 l0 x5_2 x6_2 16 (Int.tmod (rd x6_1 (ji15)) 16) (wrap64 (Int.tdiv (rd x6_1 (ji15)) 16)) (wrap64 (x11_2 + 1))) else (if x6_2.length < 17592186044416 then (spec_spreadFrom.l1 k2 l0 (x5_2.set ((wrap64 ((wrap64 ((wrap64 ((wrap64 (Int.tdiv (rd x6_1 (ji15)) 16)) + (rd y116 x11_2))) * 16)) + (wrap64 ((Int.tmod (rd x6_1 (ji15)) 16) + (rd y112 x11_2))))) : Int).toNat true) (x6_2 ++ [wrap64 ((wrap64 ((wrap64 ((wrap64 (Int.tdiv (rd x6_1 (ji15)) 16)) + (rd y116 x11_2))) * 16)) + (wrap64 ((Int.tmod (rd x6_1 (ji15)) 16) + (rd y112 x11_2))))]) 16 (Int.tmod (rd x6_1 (ji15)) 16) (wrap64 (Int.tdiv (rd x6_1 (ji15)) 16)) (wrap64 (x11_2 + 1))) else (none))) else (none)) else (spec_spreadFrom.l1 k2 l0 x5_2 x6_2 16 (Int.tmod (rd x6_1 (ji15)) 16) (wrap64 (Int.tdiv (rd x6_1 (ji15)) 16)) (wrap64 (x11_2 + 1)))) else (none)) else (none)) = some r := by rw [if_pos rfl] at H; exact H
     clear H
     have H := H1
     clear H1
     obtain ⟨ji30, hji30⟩ : ∃ j_ : Int, (wrap64 ((wrap64 ((wrap64 ((wrap64 (Int.tdiv (rd x6_1 (ji15)) 16)) + (rd y116 x11_2))) * 16)) + (wrap64 ((Int.tmod (rd x6_1 (ji15)) 16) + (rd y112 x11_2))))) = j_ := ⟨_, rfl⟩
     replace H : (if 0 ≤ (ji30) then (if (ji30) < (l0.length : Int) then (if rdOf false l0 (ji30) = true then (if (ji30) < (x5_2.length : Int) then (if (rdOf false x5_2 (ji30) = true) then (spec_spreadFrom.l1 k2 l0 x5_2 x6_2 16 (Int.tmod (rd x6_1 (ji15)) 16) (wrap64 (Int.tdiv (rd x6_1 (ji15)) 16)) (wrap64 (x11_2 + 1))) else (if x6_2.length < 17592186044416 then (spec_spreadFrom.l1 k2 l0 (x5_2.set ((ji30) : Int).toNat true) (x6_2 ++ [ji30]) 16 (Int.tmod (rd x6_1 (ji15)) 16) (wrap64 (Int.tdiv (rd x6_1 (ji15)) 16)) (wrap64 (x11_2 + 1))) else (none))) else (none)) else (spec_spreadFrom.l1 k2 l0 x5_2 x6_2 16 (Int.tmod (rd x6_1 (ji15)) 16) (wrap64 (Int.tdiv (rd x6_1 (ji15)) 16)) (wrap64 (x11_2 + 1)))) else (none)) else (none)) = some r := by first | (rw [hji30] at H; exact H) | (simp only [hji30] at H ⊢; exact H)
     (try rw [hji30] at A26)
     (try rw [hji30] at A28)
     have hji30w : (IntKind.i64.wrap ((wrap64 ((wrap64 ((wrap64 (Int.tdiv (rd x6_1 (ji15)) 16)) + (rd y116 x11_2))) * 16)) + (wrap64 ((Int.tmod (rd x6_1 (ji15)) 16) + (rd y112 x11_2))))) = ji30 := (i64_w _).trans hji30
     by_cases c31 : 0 ≤ (ji30)
     rotate_left
     ·
      rw [if_neg c31] at H
      exact absurd H (by simp)
     rw [if_pos c31] at H
     have c31b0 : decide (0 ≤ (ji30)) = true := decide_eq_true c31
     clear c31
     by_cases c32 : (ji30) < (l0.length : Int)
     rotate_left
     ·
      rw [if_neg c32] at H
      exact absurd H (by simp)
     rw [if_pos c32] at H
     have c32b0 : decide ((ji30) < (l0.length : Int)) = true := decide_eq_true c32
     clear c32
     obtain ⟨bq33, hbq33⟩ : ∃ b_ : Bool, b_ = (rdOf false l0 (ji30)) := ⟨_, rfl⟩
     replace H : (if bq33 = true then (if (ji30) < (x5_2.length : Int) then (if (rdOf false x5_2 (ji30) = true) then (spec_spreadFrom.l1 k2 l0 x5_2 x6_2 16 (Int.tmod (rd x6_1 (ji15)) 16) (wrap64 (Int.tdiv (rd x6_1 (ji15)) 16)) (wrap64 (x11_2 + 1))) else (if x6_2.length < 17592186044416 then (spec_spreadFrom.l1 k2 l0 (x5_2.set ((ji30) : Int).toNat true) (x6_2 ++ [ji30]) 16 (Int.tmod (rd x6_1 (ji15)) 16) (wrap64 (Int.tdiv (rd x6_1 (ji15)) 16)) (wrap64 (x11_2 + 1))) else (none))) else (none)) else (spec_spreadFrom.l1 k2 l0 x5_2 x6_2 16 (Int.tmod (rd x6_1 (ji15)) 16) (wrap64 (Int.tdiv (rd x6_1 (ji15)) 16)) (wrap64 (x11_2 + 1)))) = some r := by rw [← hbq33] at H; exact H
     have Nbq33 := Aside0.mk hbq33
     clear hbq33
     by_cases c34 : bq33 = true
     rotate_left
     ·
      replace c34 := Bool.eq_false_iff.mpr c34
      subst c34
      have H1 : (spec_spreadFrom.l1 k2 l0 x5_2 x6_2 16 (Int.tmod (rd x6_1 (ji15)) 16) (wrap64 (Int.tdiv (rd x6_1 (ji15)) 16)) (wrap64 (x11_2 + 1))) = some r := by rw [if_neg (show ¬ (false = true) by decide)] at H; exact H
      clear H
      have H := H1
      clear H1
      have H' := Aside0.mk H
      clear H
      go_wp2_with (first | ((with_reducible refine gate_dst (N := 47) rfl ?_); refine Kd.R_lit (Kd.int .i64) _ 3 ?hg (N := 47) ?hd (xs := ([1, (-1), 0, 0] : List Int)) (inner := [.int .i64 1, .int .i64 (-1), .int .i64 0, .int .i64 0]) (ok := fun _ => True) (okp := fun _ => True) ?hr ?hp (fun _ hk => hk) trivial (Below.refl _ _) (Nat.le_refl _) (by simp) ?_; (case hd => rfl); (case hg => rfl); (case hr => first | (go_simp; done) | (go_simp; rfl)); (case hp => exact (Reps.one (show Kd.M (Kd.int .i64) _ _ _ 1 [.int .i64 1] from rfl) (Reps.one (show Kd.M (Kd.int .i64) _ _ _ (-1) [.int .i64 (-1)] from rfl) (Reps.one (show Kd.M (Kd.int .i64) _ _ _ 0 [.int .i64 0] from rfl) (Reps.one (show Kd.M (Kd.int .i64) _ _ _ 0 [.int .i64 0] from rfl) (Reps.none _ _)))))); intro v113 w55 ho56 hb hg_ hnew_; clear hg_ hnew_; (first | rw [← Ny112.out] at ho56 | (simp only [Int.reduceToNat] at ho56; rw [← Ny112.out] at ho56)); replace HO_5 := am_ (Kd.R_below (by exact HO_5.out) hb); have HO114 := am_ (Kd.R_lower (Kd.R_new' ho56 (Kd.R_lt (by exact HO_6.out))) (below_size (by repeat (first | (with_reducible first | exact HB.out | apply below_alloc | apply pw_below_drewN | apply below_drew1) | exact HB.out)))); replace HO_6 := am_ (Kd.R_elder' (by exact HO_6.out) (Kd.R_base ho56) hb); replace HB := am_ (below_step (by repeat (first | (with_reducible first | exact HB.out | apply below_alloc | apply pw_below_drewN | apply below_drew1) | exact HB.out)) hb); clear hb ho56; obtain ⟨Ao57, co57, eo57⟩ := Kd.R_slice HO114.out; subst eo57; have p115 : 0 ≤ (x11_2 : Int) := of_decide_eq_true (by first | with_reducible assumption | assumption); have q115 : x11_2 < (y112.length : Int) := of_decide_eq_true (by first | with_reducible assumption | assumption); obtain ⟨ad115, e115, hx115_0⟩ := Kd.at_int (Kd.R_reads' HO114.out).2.2 x11_2 p115 q115; cases e115; replace p115 := eq_true p115; replace q115 := eq_true q115) | ((with_reducible refine gate_dst (N := 53) rfl ?_); refine Kd.R_lit (Kd.int .i64) _ 3 ?hg (N := 53) ?hd (xs := ([0, 0, 1, (-1)] : List Int)) (inner := [.int .i64 0, .int .i64 0, .int .i64 1, .int .i64 (-1)]) (ok := fun _ => True) (okp := fun _ => True) ?hr ?hp (fun _ hk => hk) trivial (Below.refl _ _) (Nat.le_refl _) (by simp) ?_; (case hd => rfl); (case hg => rfl); (case hr => first | (go_simp; done) | (go_simp; rfl)); (case hp => exact (Reps.one (show Kd.M (Kd.int .i64) _ _ _ 0 [.int .i64 0] from rfl) (Reps.one (show Kd.M (Kd.int .i64) _ _ _ 0 [.int .i64 0] from rfl) (Reps.one (show Kd.M (Kd.int .i64) _ _ _ 1 [.int .i64 1] from rfl) (Reps.one (show Kd.M (Kd.int .i64) _ _ _ (-1) [.int .i64 (-1)] from rfl) (Reps.none _ _)))))); intro v117 w58 ho59 hb hg_ hnew_; clear hg_ hnew_; (first | rw [← Ny116.out] at ho59 | (simp only [Int.reduceToNat] at ho59; rw [← Ny116.out] at ho59)); replace HO_5 := am_ (Kd.R_below (by exact HO_5.out) hb); have HO118 := am_ (Kd.R_lower (Kd.R_new' (Kd.R_new' ho59 (Kd.R_lt (by exact HO_6.out))) (Kd.R_lt (by exact HO114.out))) (below_size (by repeat (first | (with_reducible first | exact HB.out | apply below_alloc | apply pw_below_drewN | apply below_drew1) | exact HB.out)))); replace HO_6 := am_ (Kd.R_elder' (by exact HO_6.out) (Kd.R_base ho59) hb); replace HO114 := am_ (Kd.R_elder' (by exact HO114.out) (Kd.R_base ho59) hb); replace HB := am_ (below_step (by repeat (first | (with_reducible first | exact HB.out | apply below_alloc | apply pw_below_drewN | apply below_drew1) | exact HB.out)) hb); clear hb ho59; obtain ⟨Ao60, co60, eo60⟩ := Kd.R_slice HO118.out; subst eo60; have p119 : 0 ≤ (x11_2 : Int) := of_decide_eq_true (by first | with_reducible assumption | assumption); have q119 : x11_2 < (y116.length : Int) := of_decide_eq_true (by first | with_reducible assumption | assumption); obtain ⟨ad119, e119, hx119_0⟩ := Kd.at_int (Kd.R_reads' HO118.out).2.2 x11_2 p119 q119; cases e119; replace p119 := eq_true p119; replace q119 := eq_true q119) | ((with_reducible refine gate_callee (f := 37) rfl ?_); refine goesL_ (some 61) rfl rfl Try.func37 (by kernel_rfl) rfl #[.int .i64 (wrap64 ((Int.tmod (rd x6_1 (ji15)) 16) + (rd y112 x11_2))), .int .i64 0, .int .i64 15] rfl (by (try simp only [List.map_toArray, List.map_cons, List.map_nil]); first | done | (simp only [hji15]; rfl) | rfl | (simp only [List.length_drop, List.length_take]; rfl)) ?_; (with_reducible refine (spec_inRange.calls (wrap64 ((Int.tmod (rd x6_1 (ji15)) 16) + (rd y112 x11_2))) 0 15 true _ A26.out).mono ?_); rintro e w' ⟨rfl, ⟨nd, rfl⟩⟩; refine ⟨_, rfl, ?_⟩) | (go_at_call 37; (with_reducible refine (spec_inRange.calls (wrap64 ((wrap64 (Int.tdiv (rd x6_1 (ji15)) 16)) + (rd y116 x11_2))) 0 15 true _ A28.out).mono ?_); rintro e w' ⟨rfl, ⟨nd, rfl⟩⟩; have p122 : 0 ≤ ((ji30) : Int) := of_decide_eq_true (by first | with_reducible assumption | assumption); have q122 : (ji30) < (l0.length : Int) := of_decide_eq_true (by first | with_reducible assumption | assumption); obtain ⟨ad122, e122, hx122_0⟩ := Kd.at_bool HR0.out (ji30) p122 q122; (try rw [← Nbq33.out] at hx122_0); cases e122; replace hx122_0 := (HB.out.cell (World.block_lt_of_cell? w _ hx122_0)).trans hx122_0; replace p122 := eq_true p122; replace q122 := eq_true q122))
      (try simp only [← hl5_2])
      go_roundg k2
      case measure => have := HK1.out; have := HK2.out; omega
      case rel => exact ⟨(x5_2), (x6_2), (wrap64 (x11_2 + 1)), (by first | rfl | (simp; done) | (simp [*]; done)), H', ⟨by have := HK1.out; have := HK2.out; omega⟩, ⟨by (try simp only [hl5_1]); (try simp only [hl5_2]); (with_reducible repeat (first | apply Kd.R_alloc | apply Kd.R_drewN | apply Kd.R_drew)); exact HO_5.out⟩, ⟨by (try simp only [hl5_1]); (try simp only [hl5_2]); (with_reducible repeat (first | apply Kd.R_alloc | apply Kd.R_drewN | apply Kd.R_drew)); exact Kd.R_mono HO_6.out (fun _ hk => trivial)⟩, ⟨by repeat (first | (with_reducible first | exact HB.out | apply below_alloc | apply pw_below_drewN | apply below_drew1) | exact HB.out)⟩⟩
     subst c34
     have H1 : (if (ji30) < (x5_2.length : Int) then (if (rdOf false x5_2 (ji30) = true) then (spec_spreadFrom.l1 k2 l0 x5_2 x6_2 16 (Int.tmod (rd x6_1 (ji15)) 16) (wrap64 (Int.tdiv (rd x6_1 (ji15)) 16)) (wrap64 (x11_2 + 1))) else (if x6_2.length < 17592186044416 then (spec_spreadFrom.l1 k2 l0 (x5_2.set ((ji30) : Int).toNat true) (x6_2 ++ [ji30]) 16 (Int.tmod (rd x6_1 (ji15)) 16) (wrap64 (Int.tdiv (rd x6_1 (ji15)) 16)) (wrap64 (x11_2 + 1))) else (none))) else (none)) = some r := by rw [if_pos rfl] at H; exact H
     clear H
     have H := H1
     clear H1
     by_cases c35 : (ji30) < (x5_2.length : Int)
     rotate_left
     ·
      rw [if_neg c35] at H
      exact absurd H (by simp)
     rw [if_pos c35] at H
     have c35b0 : decide ((ji30) < (x5_2.length : Int)) = true := decide_eq_true c35
     clear c35
     obtain ⟨bq36, hbq36⟩ : ∃ b_ : Bool, b_ = (rdOf false x5_2 (ji30)) := ⟨_, rfl⟩
     replace H : (if (bq36 = true) then (spec_spreadFrom.l1 k2 l0 x5_2 x6_2 16 (Int.tmod (rd x6_1 (ji15)) 16) (wrap64 (Int.tdiv (rd x6_1 (ji15)) 16)) (wrap64 (x11_2 + 1))) else (if x6_2.length < 17592186044416 then (spec_spreadFrom.l1 k2 l0 (x5_2.set ((ji30) : Int).toNat true) (x6_2 ++ [ji30]) 16 (Int.tmod (rd x6_1 (ji15)) 16) (wrap64 (Int.tdiv (rd x6_1 (ji15)) 16)) (wrap64 (x11_2 + 1))) else (none))) = some r := by rw [← hbq36] at H; exact H
     have Nbq36 := Aside0.mk hbq36
     clear hbq36
     by_cases c37 : (bq36 = true)
     ·
      subst c37
      have H1 : (spec_spreadFrom.l1 k2 l0 x5_2 x6_2 16 (Int.tmod (rd x6_1 (ji15)) 16) (wrap64 (Int.tdiv (rd x6_1 (ji15)) 16)) (wrap64 (x11_2 + 1))) = some r := by rw [if_pos rfl] at H; exact H
      clear H
      have H := H1
      clear H1
      have H' := Aside0.mk H
      clear H
      go_wp2_with (first | ((with_reducible refine gate_dst (N := 47) rfl ?_); refine Kd.R_lit (Kd.int .i64) _ 3 ?hg (N := 47) ?hd (xs := ([1, (-1), 0, 0] : List Int)) (inner := [.int .i64 1, .int .i64 (-1), .int .i64 0, .int .i64 0]) (ok := fun _ => True) (okp := fun _ => True) ?hr ?hp (fun _ hk => hk) trivial (Below.refl _ _) (Nat.le_refl _) (by simp) ?_; (case hd => rfl); (case hg => rfl); (case hr => first | (go_simp; done) | (go_simp; rfl)); (case hp => exact (Reps.one (show Kd.M (Kd.int .i64) _ _ _ 1 [.int .i64 1] from rfl) (Reps.one (show Kd.M (Kd.int .i64) _ _ _ (-1) [.int .i64 (-1)] from rfl) (Reps.one (show Kd.M (Kd.int .i64) _ _ _ 0 [.int .i64 0] from rfl) (Reps.one (show Kd.M (Kd.int .i64) _ _ _ 0 [.int .i64 0] from rfl) (Reps.none _ _)))))); intro v113 w38 ho39 hb hg_ hnew_; clear hg_ hnew_; (first | rw [← Ny112.out] at ho39 | (simp only [Int.reduceToNat] at ho39; rw [← Ny112.out] at ho39)); replace HO_5 := am_ (Kd.R_below (by exact HO_5.out) hb); have HO114 := am_ (Kd.R_lower (Kd.R_new' ho39 (Kd.R_lt (by exact HO_6.out))) (below_size (by repeat (first | (with_reducible first | exact HB.out | apply below_alloc | apply pw_below_drewN | apply below_drew1) | exact HB.out)))); replace HO_6 := am_ (Kd.R_elder' (by exact HO_6.out) (Kd.R_base ho39) hb); replace HB := am_ (below_step (by repeat (first | (with_reducible first | exact HB.out | apply below_alloc | apply pw_below_drewN | apply below_drew1) | exact HB.out)) hb); clear hb ho39; obtain ⟨Ao40, co40, eo40⟩ := Kd.R_slice HO114.out; subst eo40; have p115 : 0 ≤ (x11_2 : Int) := of_decide_eq_true (by first | with_reducible assumption | assumption); have q115 : x11_2 < (y112.length : Int) := of_decide_eq_true (by first | with_reducible assumption | assumption); obtain ⟨ad115, e115, hx115_0⟩ := Kd.at_int (Kd.R_reads' HO114.out).2.2 x11_2 p115 q115; cases e115; replace p115 := eq_true p115; replace q115 := eq_true q115) | ((with_reducible refine gate_dst (N := 53) rfl ?_); refine Kd.R_lit (Kd.int .i64) _ 3 ?hg (N := 53) ?hd (xs := ([0, 0, 1, (-1)] : List Int)) (inner := [.int .i64 0, .int .i64 0, .int .i64 1, .int .i64 (-1)]) (ok := fun _ => True) (okp := fun _ => True) ?hr ?hp (fun _ hk => hk) trivial (Below.refl _ _) (Nat.le_refl _) (by simp) ?_; (case hd => rfl); (case hg => rfl); (case hr => first | (go_simp; done) | (go_simp; rfl)); (case hp => exact (Reps.one (show Kd.M (Kd.int .i64) _ _ _ 0 [.int .i64 0] from rfl) (Reps.one (show Kd.M (Kd.int .i64) _ _ _ 0 [.int .i64 0] from rfl) (Reps.one (show Kd.M (Kd.int .i64) _ _ _ 1 [.int .i64 1] from rfl) (Reps.one (show Kd.M (Kd.int .i64) _ _ _ (-1) [.int .i64 (-1)] from rfl) (Reps.none _ _)))))); intro v117 w41 ho42 hb hg_ hnew_; clear hg_ hnew_; (first | rw [← Ny116.out] at ho42 | (simp only [Int.reduceToNat] at ho42; rw [← Ny116.out] at ho42)); replace HO_5 := am_ (Kd.R_below (by exact HO_5.out) hb); have HO118 := am_ (Kd.R_lower (Kd.R_new' (Kd.R_new' ho42 (Kd.R_lt (by exact HO_6.out))) (Kd.R_lt (by exact HO114.out))) (below_size (by repeat (first | (with_reducible first | exact HB.out | apply below_alloc | apply pw_below_drewN | apply below_drew1) | exact HB.out)))); replace HO_6 := am_ (Kd.R_elder' (by exact HO_6.out) (Kd.R_base ho42) hb); replace HO114 := am_ (Kd.R_elder' (by exact HO114.out) (Kd.R_base ho42) hb); replace HB := am_ (below_step (by repeat (first | (with_reducible first | exact HB.out | apply below_alloc | apply pw_below_drewN | apply below_drew1) | exact HB.out)) hb); clear hb ho42; obtain ⟨Ao43, co43, eo43⟩ := Kd.R_slice HO118.out; subst eo43; have p119 : 0 ≤ (x11_2 : Int) := of_decide_eq_true (by first | with_reducible assumption | assumption); have q119 : x11_2 < (y116.length : Int) := of_decide_eq_true (by first | with_reducible assumption | assumption); obtain ⟨ad119, e119, hx119_0⟩ := Kd.at_int (Kd.R_reads' HO118.out).2.2 x11_2 p119 q119; cases e119; replace p119 := eq_true p119; replace q119 := eq_true q119) | ((with_reducible refine gate_callee (f := 37) rfl ?_); refine goesL_ (some 61) rfl rfl Try.func37 (by kernel_rfl) rfl #[.int .i64 (wrap64 ((Int.tmod (rd x6_1 (ji15)) 16) + (rd y112 x11_2))), .int .i64 0, .int .i64 15] rfl (by (try simp only [List.map_toArray, List.map_cons, List.map_nil]); first | done | (simp only [hji15]; rfl) | rfl | (simp only [List.length_drop, List.length_take]; rfl)) ?_; (with_reducible refine (spec_inRange.calls (wrap64 ((Int.tmod (rd x6_1 (ji15)) 16) + (rd y112 x11_2))) 0 15 true _ A26.out).mono ?_); rintro e w' ⟨rfl, ⟨nd, rfl⟩⟩; refine ⟨_, rfl, ?_⟩) | (go_at_call 37; (with_reducible refine (spec_inRange.calls (wrap64 ((wrap64 (Int.tdiv (rd x6_1 (ji15)) 16)) + (rd y116 x11_2))) 0 15 true _ A28.out).mono ?_); rintro e w' ⟨rfl, ⟨nd, rfl⟩⟩; have p122 : 0 ≤ ((ji30) : Int) := of_decide_eq_true (by first | with_reducible assumption | assumption); have q122 : (ji30) < (l0.length : Int) := of_decide_eq_true (by first | with_reducible assumption | assumption); obtain ⟨ad122, e122, hx122_0⟩ := Kd.at_bool HR0.out (ji30) p122 q122; (try rw [← Nbq33.out] at hx122_0); (try rw [← Nbq36.out] at hx122_0); cases e122; replace hx122_0 := (HB.out.cell (World.block_lt_of_cell? w _ hx122_0)).trans hx122_0; replace p122 := eq_true p122; replace q122 := eq_true q122; have p123 : 0 ≤ ((ji30) : Int) := of_decide_eq_true (by first | with_reducible assumption | assumption); have q123 : (ji30) < (x5_2.length : Int) := of_decide_eq_true (by first | with_reducible assumption | assumption); obtain ⟨ad123, e123, hx123_0⟩ := Kd.at_bool (Kd.R_reads' HO_5.out).2.2 (ji30) p123 q123; (try rw [← Nbq33.out] at hx123_0); (try rw [← Nbq36.out] at hx123_0); obtain rfl : (⟨go7, 0, none⟩ : Addr) = ad123 := (by injection e123); (first | simp only [add_plain] at hx123_0 | simp only [add_at] at hx123_0 | simp only [Addr.add, Nat.zero_add] at hx123_0 | skip); replace p123 := eq_true p123; replace q123 := eq_true q123))
      (try simp only [← hl5_2])
      go_roundg k2
      case measure => have := HK1.out; have := HK2.out; omega
      case rel => exact ⟨(x5_2), (x6_2), (wrap64 (x11_2 + 1)), (by first | rfl | (simp; done) | (simp [*]; done)), H', ⟨by have := HK1.out; have := HK2.out; omega⟩, ⟨by (try simp only [hl5_1]); (try simp only [hl5_2]); (with_reducible repeat (first | apply Kd.R_alloc | apply Kd.R_drewN | apply Kd.R_drew)); exact HO_5.out⟩, ⟨by (try simp only [hl5_1]); (try simp only [hl5_2]); (with_reducible repeat (first | apply Kd.R_alloc | apply Kd.R_drewN | apply Kd.R_drew)); exact Kd.R_mono HO_6.out (fun _ hk => trivial)⟩, ⟨by repeat (first | (with_reducible first | exact HB.out | apply below_alloc | apply pw_below_drewN | apply below_drew1) | exact HB.out)⟩⟩
     replace c37 := Bool.eq_false_iff.mpr c37
     subst c37
     have H1 : (if x6_2.length < 17592186044416 then (spec_spreadFrom.l1 k2 l0 (x5_2.set ((ji30) : Int).toNat true) (x6_2 ++ [ji30]) 16 (Int.tmod (rd x6_1 (ji15)) 16) (wrap64 (Int.tdiv (rd x6_1 (ji15)) 16)) (wrap64 (x11_2 + 1))) else (none)) = some r := by rw [if_neg (show ¬ (false = true) by decide)] at H; exact H
     clear H
     have H := H1
     clear H1
     obtain ⟨y124, hy124⟩ : ∃ y_ : List Bool, y_ = (x5_2.set ((ji30) : Int).toNat true) := ⟨_, rfl⟩
     replace H : (if x6_2.length < 17592186044416 then (spec_spreadFrom.l1 k2 l0 y124 (x6_2 ++ [ji30]) 16 (Int.tmod (rd x6_1 (ji15)) 16) (wrap64 (Int.tdiv (rd x6_1 (ji15)) 16)) (wrap64 (x11_2 + 1))) else (none)) = some r := by first | (rw [hy124]; with_reducible exact H) | (have H2_ := (Option.bind_some _ _).symm.trans H; rw [hy124]; with_reducible exact H2_) | (have H2_ := (Option.bind_some _ _).symm.trans H; with_reducible exact H2_) | with_reducible exact H | (rw [hy124]; exact H) | exact H
     have Ny124 := Aside0.mk hy124
     clear hy124
     by_cases c45 : x6_2.length < 17592186044416
     rotate_left
     ·
      rw [if_neg c45] at H
      exact absurd H (by simp)
     rw [if_pos c45] at H
     have LMc45 := Aside0.mk c45
     clear c45
     obtain ⟨y125, hy125⟩ : ∃ y_ : List Int, y_ = (x6_2 ++ [ji30]) := ⟨_, rfl⟩
     replace H : (spec_spreadFrom.l1 k2 l0 y124 y125 16 (Int.tmod (rd x6_1 (ji15)) 16) (wrap64 (Int.tdiv (rd x6_1 (ji15)) 16)) (wrap64 (x11_2 + 1))) = some r := by first | (rw [hy125]; with_reducible exact H) | (have H2_ := (Option.bind_some _ _).symm.trans H; rw [hy125]; with_reducible exact H2_) | (have H2_ := (Option.bind_some _ _).symm.trans H; with_reducible exact H2_) | with_reducible exact H | (rw [hy125]; exact H) | exact H
     have Ny125 := Aside0.mk hy125
     clear hy125
     have H' := Aside0.mk H
     clear H
     go_wp2_with (first | ((with_reducible refine gate_dst (N := 47) rfl ?_); refine Kd.R_lit (Kd.int .i64) _ 3 ?hg (N := 47) ?hd (xs := ([1, (-1), 0, 0] : List Int)) (inner := [.int .i64 1, .int .i64 (-1), .int .i64 0, .int .i64 0]) (ok := fun _ => True) (okp := fun _ => True) ?hr ?hp (fun _ hk => hk) trivial (Below.refl _ _) (Nat.le_refl _) (by simp) ?_; (case hd => rfl); (case hg => rfl); (case hr => first | (go_simp; done) | (go_simp; rfl)); (case hp => exact (Reps.one (show Kd.M (Kd.int .i64) _ _ _ 1 [.int .i64 1] from rfl) (Reps.one (show Kd.M (Kd.int .i64) _ _ _ (-1) [.int .i64 (-1)] from rfl) (Reps.one (show Kd.M (Kd.int .i64) _ _ _ 0 [.int .i64 0] from rfl) (Reps.one (show Kd.M (Kd.int .i64) _ _ _ 0 [.int .i64 0] from rfl) (Reps.none _ _)))))); intro v113 w46 ho47 hb hg_ hnew_; clear hg_ hnew_; (first | rw [← Ny112.out] at ho47 | (simp only [Int.reduceToNat] at ho47; rw [← Ny112.out] at ho47)); replace HO_5 := am_ (Kd.R_below (by exact HO_5.out) hb); have HO114 := am_ (Kd.R_lower (Kd.R_new' ho47 (Kd.R_lt (by exact HO_6.out))) (below_size (by repeat (first | (with_reducible first | exact HB.out | apply below_alloc | apply pw_below_drewN | apply below_drew1) | exact HB.out)))); replace HO_6 := am_ (Kd.R_elder' (by exact HO_6.out) (Kd.R_base ho47) hb); replace HB := am_ (below_step (by repeat (first | (with_reducible first | exact HB.out | apply below_alloc | apply pw_below_drewN | apply below_drew1) | exact HB.out)) hb); clear hb ho47; obtain ⟨Ao48, co48, eo48⟩ := Kd.R_slice HO114.out; subst eo48; have p115 : 0 ≤ (x11_2 : Int) := of_decide_eq_true (by first | with_reducible assumption | assumption); have q115 : x11_2 < (y112.length : Int) := of_decide_eq_true (by first | with_reducible assumption | assumption); obtain ⟨ad115, e115, hx115_0⟩ := Kd.at_int (Kd.R_reads' HO114.out).2.2 x11_2 p115 q115; cases e115; replace p115 := eq_true p115; replace q115 := eq_true q115) | ((with_reducible refine gate_dst (N := 53) rfl ?_); refine Kd.R_lit (Kd.int .i64) _ 3 ?hg (N := 53) ?hd (xs := ([0, 0, 1, (-1)] : List Int)) (inner := [.int .i64 0, .int .i64 0, .int .i64 1, .int .i64 (-1)]) (ok := fun _ => True) (okp := fun _ => True) ?hr ?hp (fun _ hk => hk) trivial (Below.refl _ _) (Nat.le_refl _) (by simp) ?_; (case hd => rfl); (case hg => rfl); (case hr => first | (go_simp; done) | (go_simp; rfl)); (case hp => exact (Reps.one (show Kd.M (Kd.int .i64) _ _ _ 0 [.int .i64 0] from rfl) (Reps.one (show Kd.M (Kd.int .i64) _ _ _ 0 [.int .i64 0] from rfl) (Reps.one (show Kd.M (Kd.int .i64) _ _ _ 1 [.int .i64 1] from rfl) (Reps.one (show Kd.M (Kd.int .i64) _ _ _ (-1) [.int .i64 (-1)] from rfl) (Reps.none _ _)))))); intro v117 w49 ho50 hb hg_ hnew_; clear hg_ hnew_; (first | rw [← Ny116.out] at ho50 | (simp only [Int.reduceToNat] at ho50; rw [← Ny116.out] at ho50)); replace HO_5 := am_ (Kd.R_below (by exact HO_5.out) hb); have HO118 := am_ (Kd.R_lower (Kd.R_new' (Kd.R_new' ho50 (Kd.R_lt (by exact HO_6.out))) (Kd.R_lt (by exact HO114.out))) (below_size (by repeat (first | (with_reducible first | exact HB.out | apply below_alloc | apply pw_below_drewN | apply below_drew1) | exact HB.out)))); replace HO_6 := am_ (Kd.R_elder' (by exact HO_6.out) (Kd.R_base ho50) hb); replace HO114 := am_ (Kd.R_elder' (by exact HO114.out) (Kd.R_base ho50) hb); replace HB := am_ (below_step (by repeat (first | (with_reducible first | exact HB.out | apply below_alloc | apply pw_below_drewN | apply below_drew1) | exact HB.out)) hb); clear hb ho50; obtain ⟨Ao51, co51, eo51⟩ := Kd.R_slice HO118.out; subst eo51; have p119 : 0 ≤ (x11_2 : Int) := of_decide_eq_true (by first | with_reducible assumption | assumption); have q119 : x11_2 < (y116.length : Int) := of_decide_eq_true (by first | with_reducible assumption | assumption); obtain ⟨ad119, e119, hx119_0⟩ := Kd.at_int (Kd.R_reads' HO118.out).2.2 x11_2 p119 q119; cases e119; replace p119 := eq_true p119; replace q119 := eq_true q119) | ((with_reducible refine gate_callee (f := 37) rfl ?_); refine goesL_ (some 61) rfl rfl Try.func37 (by kernel_rfl) rfl #[.int .i64 (wrap64 ((Int.tmod (rd x6_1 (ji15)) 16) + (rd y112 x11_2))), .int .i64 0, .int .i64 15] rfl (by (try simp only [List.map_toArray, List.map_cons, List.map_nil]); first | done | (simp only [hji15]; rfl) | rfl | (simp only [List.length_drop, List.length_take]; rfl)) ?_; (with_reducible refine (spec_inRange.calls (wrap64 ((Int.tmod (rd x6_1 (ji15)) 16) + (rd y112 x11_2))) 0 15 true _ A26.out).mono ?_); rintro e w' ⟨rfl, ⟨nd, rfl⟩⟩; refine ⟨_, rfl, ?_⟩; (try (rw [drewN_self w49]; generalize hq_ : World.drewN w49 _ = w49; have n0_ : Aside0 (Kd.R (Kd.int .i64) 3 w49 w.heap.size (fun k_ => some k_ ≠ (.slice (some ad119) y116.length co51 : Value).ownBlock ∧ some k_ ≠ (u6 : Value).ownBlock) (.slice (some ad115) y112.length co48) y112) := ⟨by rw [← hq_]; exact (by exact Kd.R_mono HO114.out (fun _ hk => by first | exact ⟨hk.2, hk.1.2⟩ | exact hk | simp only [hk, ne_eq, not_false_eq_true, and_self]))⟩; have n1_ : Aside0 (Kd.R (Kd.int .i64) 3 w49 w.heap.size (fun k_ => some k_ ≠ (.slice (some ad115) y112.length co48 : Value).ownBlock ∧ some k_ ≠ (u6 : Value).ownBlock) (.slice (some ad119) y116.length co51) y116) := ⟨by rw [← hq_]; exact (by exact Kd.R_mono HO118.out (fun _ hk => by first | exact ⟨hk.2, hk.1.2⟩ | exact hk | simp only [hk, ne_eq, not_false_eq_true, and_self]))⟩; have n2_ : Aside0 (Kd.R Kd.bool 4 w49 w.heap.size (fun _ => True) (.slice (some ⟨go7, 0, none⟩) x5_2.length co7) x5_2) := ⟨by rw [← hq_]; exact (by exact HO_5.out)⟩; have n3_ : Aside0 (Kd.R (Kd.int .i64) 3 w49 w.heap.size (fun k_ => some k_ ≠ (.slice (some ad115) y112.length co48 : Value).ownBlock ∧ some k_ ≠ (.slice (some ad119) y116.length co51 : Value).ownBlock) u6 x6_2) := ⟨by rw [← hq_]; exact (by exact Kd.R_mono HO_6.out (fun _ hk => by first | exact ⟨hk.1.2, hk.2⟩ | exact hk | simp only [hk, ne_eq, not_false_eq_true, and_self]))⟩; have n4_ : Aside0 (Below w.heap.size w w49) := ⟨by rw [← hq_]; exact (by repeat (first | (with_reducible first | exact HB.out | apply below_alloc | apply pw_below_drewN | apply below_drew1) | exact HB.out))⟩; clear HO114 HO118 HO_5 HO_6 HB hq_; have HO114 := n0_; have HO118 := n1_; have HO_5 := n2_; have HO_6 := n3_; have HB := n4_; clear n0_ n1_ n2_ n3_ n4_))) | (go_at_call 37; (with_reducible refine (spec_inRange.calls (wrap64 ((wrap64 (Int.tdiv (rd x6_1 (ji15)) 16)) + (rd y116 x11_2))) 0 15 true _ A28.out).mono ?_); rintro e w' ⟨rfl, ⟨nd, rfl⟩⟩; (try (rw [drewN_self w49]; generalize hq_ : World.drewN w49 _ = w49; have n0_ : Aside0 (Kd.R (Kd.int .i64) 3 w49 w.heap.size (fun k_ => some k_ ≠ (.slice (some ad119) y116.length co51 : Value).ownBlock ∧ some k_ ≠ (u6 : Value).ownBlock) (.slice (some ad115) y112.length co48) y112) := ⟨by rw [← hq_]; exact (by exact Kd.R_mono HO114.out (fun _ hk => by first | exact ⟨hk.2, hk.1.2⟩ | exact hk | simp only [hk, ne_eq, not_false_eq_true, and_self]))⟩; have n1_ : Aside0 (Kd.R (Kd.int .i64) 3 w49 w.heap.size (fun k_ => some k_ ≠ (.slice (some ad115) y112.length co48 : Value).ownBlock ∧ some k_ ≠ (u6 : Value).ownBlock) (.slice (some ad119) y116.length co51) y116) := ⟨by rw [← hq_]; exact (by exact Kd.R_mono HO118.out (fun _ hk => by first | exact ⟨hk.2, hk.1.2⟩ | exact hk | simp only [hk, ne_eq, not_false_eq_true, and_self]))⟩; have n2_ : Aside0 (Kd.R Kd.bool 4 w49 w.heap.size (fun _ => True) (.slice (some ⟨go7, 0, none⟩) x5_2.length co7) x5_2) := ⟨by rw [← hq_]; exact (by exact HO_5.out)⟩; have n3_ : Aside0 (Kd.R (Kd.int .i64) 3 w49 w.heap.size (fun k_ => some k_ ≠ (.slice (some ad115) y112.length co48 : Value).ownBlock ∧ some k_ ≠ (.slice (some ad119) y116.length co51 : Value).ownBlock) u6 x6_2) := ⟨by rw [← hq_]; exact (by exact Kd.R_mono HO_6.out (fun _ hk => by first | exact ⟨hk.1.2, hk.2⟩ | exact hk | simp only [hk, ne_eq, not_false_eq_true, and_self]))⟩; have n4_ : Aside0 (Below w.heap.size w w49) := ⟨by rw [← hq_]; exact (by repeat (first | (with_reducible first | exact HB.out | apply below_alloc | apply pw_below_drewN | apply below_drew1) | exact HB.out))⟩; clear HO114 HO118 HO_5 HO_6 HB hq_; have HO114 := n0_; have HO118 := n1_; have HO_5 := n2_; have HO_6 := n3_; have HB := n4_; clear n0_ n1_ n2_ n3_ n4_)); have p122 : 0 ≤ ((ji30) : Int) := of_decide_eq_true (by first | with_reducible assumption | assumption); have q122 : (ji30) < (l0.length : Int) := of_decide_eq_true (by first | with_reducible assumption | assumption); obtain ⟨ad122, e122, hx122_0⟩ := Kd.at_bool HR0.out (ji30) p122 q122; (try rw [← Nbq33.out] at hx122_0); (try rw [← Nbq36.out] at hx122_0); cases e122; replace hx122_0 := (HB.out.cell (World.block_lt_of_cell? w _ hx122_0)).trans hx122_0; replace p122 := eq_true p122; replace q122 := eq_true q122; have p123 : 0 ≤ ((ji30) : Int) := of_decide_eq_true (by first | with_reducible assumption | assumption); have q123 : (ji30) < (x5_2.length : Int) := of_decide_eq_true (by first | with_reducible assumption | assumption); obtain ⟨ad123, e123, hx123_0⟩ := Kd.at_bool (Kd.R_reads' HO_5.out).2.2 (ji30) p123 q123; (try rw [← Nbq33.out] at hx123_0); (try rw [← Nbq36.out] at hx123_0); obtain rfl : (⟨go7, 0, none⟩ : Addr) = ad123 := (by injection e123); (first | simp only [add_plain] at hx123_0 | simp only [add_at] at hx123_0 | simp only [Addr.add, Nat.zero_add] at hx123_0 | skip); replace p123 := eq_true p123; replace q123 := eq_true q123; have p44 : 0 ≤ ((ji30) : Int) := of_decide_eq_true (by first | with_reducible assumption | assumption); have q44 : ((ji30) : Int) < ((x5_2.length : Int) : Int) := of_decide_eq_true (by first | with_reducible assumption | assumption); obtain ⟨hx44_0, hf44_0⟩ := Kd.R_celln false HO_5.out ((ji30) : Int) p44 q44; replace p44 := eq_true p44; replace q44 := eq_true q44; obtain ⟨hy52_, hz52_⟩ := Kd.R_celln false HO_5.out ((ji30) : Int) (of_decide_eq_true (by first | with_reducible assumption | assumption)) (of_decide_eq_true (by first | with_reducible assumption | assumption)); have HP52 := Kd.R_putg HO_5.out ((ji30) : Int) true) | ((with_reducible refine gate_store (t := 4) (p := 95) rfl ?_); refine store_event (t := 4) (p := 95) (v := ?vo_w53) (w1 := (w49.setCell ⟨go7, ((ji30) : Int).toNat, none⟩ (.bool true))) ?hg ?ho ?hn ?hr ?_; (case ho => rfl); (case hg => rfl); (case hn => rfl); (case hr => first | (go_simp; done) | (go_simp; rfl)); intro w53 hw; have hg : w49.grownBy w53 (some go7) := (by rw [hw]; exact HP52.2); have hp_ : Kd.R Kd.bool 4 w53 w.heap.size (fun _ => True) (.slice (some ⟨go7, 0, none⟩) x5_2.length co7) y124 := (by rw [hw, Ny124.out]; exact HP52.1); clear HP52; replace HO_6 := am_ (Kd.R_over' (v := (.slice (some ⟨go7, 0, none⟩) x5_2.length co7)) (by exact HO_6.out) (Kd.R_typed HO_5.out) (by decide) hg); replace HO114 := am_ (Kd.R_over' (v := (.slice (some ⟨go7, 0, none⟩) x5_2.length co7)) (by exact HO114.out) (Kd.R_typed HO_5.out) (by decide) hg); replace HO118 := am_ (Kd.R_over' (v := (.slice (some ⟨go7, 0, none⟩) x5_2.length co7)) (by exact HO118.out) (Kd.R_typed HO_5.out) (by decide) hg); replace HO_5 := am_ (hp_); replace HB := am_ ((by rw [hw]; exact below_set (HB.out) GB7.out : Below w.heap.size w w53)); clear hg hw hp_) | ((with_reducible refine gate_builtin (b := .append) (xs := #[.tmp 96, .tmp 102]) rfl ?_); at_builtin; refine Kd.R_append (Kd.int .i64) (w0 := w) w.heap.size rfl (.tmp 96) (.tmp 102) 55 3 (.int .i64 0) 8 rfl Try.underlying55 info3 rfl (by decide) (by omega) u6 x6_2 ji30 [.int .i64 ji30] (fun k_ => some k_ ≠ (.slice (some ad115) y112.length co48 : Value).ownBlock ∧ some k_ ≠ (.slice (some ad119) y116.length co51 : Value).ownBlock) (fun _ => False) rfl rfl ?aP (fun _ hk => hk.elim) ?aF ?aO ?aB ?aS ?aL ?_; (case aP => exact rfl); (case aB => exact (by repeat (first | (with_reducible first | exact HB.out | apply below_alloc | apply pw_below_drewN | apply below_drew1) | exact HB.out))); (case aF => exact (fun k_ hk => ⟨Kd.fresh' (Kd.R_lt (by exact HO114.out)) k_ hk, Kd.fresh' (Kd.R_lt (by exact HO118.out)) k_ hk⟩)); (case aO => exact (by exact Kd.R_mono HO_6.out (fun _ hk => by first | exact ⟨hk.1.2, hk.2⟩ | exact hk | simp only [hk, ne_eq, not_false_eq_true, and_self]))); (case aS => exact (below_size (by repeat (first | (with_reducible first | exact HB.out | apply below_alloc | apply pw_below_drewN | apply below_drew1) | exact HB.out)))); (case aL => have := LMc45.out; omega); intro v126 w54 ho hb hg hat; rw [← Ny125.out] at ho; replace HO_5 := am_ (Kd.R_over' (by exact HO_5.out) (Kd.R_typed (by exact HO_6.out)) (by decide) hg); replace HO114 := am_ (Kd.R_after (ok := (fun k_ => some k_ ≠ (.slice (some ad119) y116.length co51 : Value).ownBlock)) (by exact Kd.R_mono HO114.out (fun _ hk => by first | exact ⟨hk.2, hk.1.2⟩ | exact hk | simp only [hk, ne_eq, not_false_eq_true, and_self])) hg hat); replace HO118 := am_ (Kd.R_after (ok := (fun k_ => some k_ ≠ (.slice (some ad115) y112.length co48 : Value).ownBlock)) (by exact Kd.R_mono HO118.out (fun _ hk => by first | exact ⟨hk.2, hk.1.2⟩ | exact hk | simp only [hk, ne_eq, not_false_eq_true, and_self])) hg hat); replace HB := am_ (hb); have HO127 := am_ (ho); clear HO_6; clear ho hb hg hat))
     (try simp only [← hl5_2])
     go_roundg k2
     case measure => have := HK1.out; have := HK2.out; omega
     case rel => exact ⟨(y124), (y125), (wrap64 (x11_2 + 1)), (by first | rfl | (simp; done) | (simp [*]; done)), H', ⟨by have := HK1.out; have := HK2.out; omega⟩, ⟨by (try simp only [hl5_1]); (try simp only [hl5_2]); (with_reducible repeat (first | apply Kd.R_alloc | apply Kd.R_drewN | apply Kd.R_drew)); exact HO_5.out⟩, ⟨by (try simp only [hl5_1]); (try simp only [hl5_2]); (with_reducible repeat (first | apply Kd.R_alloc | apply Kd.R_drewN | apply Kd.R_drew)); exact Kd.R_mono HO127.out (fun _ hk => trivial)⟩, ⟨by repeat (first | (with_reducible first | exact HB.out | apply below_alloc | apply pw_below_drewN | apply below_drew1) | exact HB.out)⟩⟩

end Go.Proofs.Ytceoecmjccakgaa.Print
