-- laid by hp.py (a program of this work over the kit's print), with contracts by hand for what the print does not take
import Derived.Test.YtllodpaghkohbaaPrint0
import Derived.Test.YtllodpaghkohbaaPrintHx0
import Derived.Test.YtllodpaghkohbaaPrintR0x0
import Derived.Test.YtllodpaghkohbaaPrintR1x2
import Derived.Test.YtllodpaghkohbaaPrintR1x5
namespace Go.Proofs.Ytllodpaghkohbaa.Print
open Go.RowKit Go.Proofs.YtllodpaghkohbaaW.PrintWords Go.Proofs.YtllodpaghkohbaaW.PrintLast Go.Proofs.YtllodpaghkohbaaW.PrintMore
attribute [local go_sem] max2_int min2_int max_two min_two max_three min_three max_four min_four   -- for this text's walks alone
set_option linter.unusedVariables false
set_option linter.unusedSimpArgs false

/-! ### spec_gridOf: function 53 -/
mutual
def spec_gridOf.l0 : Nat → List (S62) → List Bool → Int → Option (List Bool)
 | 0, _, _, _ => none
 | k + 1, x0, x3, x4 => if x4 < (x0.length : Int) then (if 0 ≤ x4 then (spec_gridOf.l1 k x0 x3 x4 ((rd_T62 x0 x4).f1)) else (none)) else (some x3)
def spec_gridOf.l1 : Nat → List (S62) → List Bool → Int → Int → Option (List Bool)
 | 0, _, _, _, _ => none
 | k + 1, x0, x3, x4, x5 => if 0 ≤ x4 then (if x4 < (x0.length : Int) then (if x5 < ((rd_T62 x0 x4).f2) then (if 0 ≤ (wrap64 ((wrap64 (((rd_T62 x0 x4).f0) * 16)) + x5)) then (if (wrap64 ((wrap64 (((rd_T62 x0 x4).f0) * 16)) + x5)) < (x3.length : Int) then (spec_gridOf.l1 k x0 (x3.set ((wrap64 ((wrap64 (((rd_T62 x0 x4).f0) * 16)) + x5)) : Int).toNat true) x4 (wrap64 (x5 + 1))) else (none)) else (none)) else (spec_gridOf.l0 k x0 x3 (wrap64 (x4 + 1)))) else (none)) else (none)
end
def spec_gridOf.f (k : Nat) (l0 : List (S62)) : Option (List Bool) := if 256 ≤ 281474976710656 then (spec_gridOf.l0 k l0 (List.replicate 256 false) 0) else (none)
theorem spec_gridOf.mono_l : ∀ k, (∀ y0 y1 y2, LeO (spec_gridOf.l0 k y0 y1 y2) (spec_gridOf.l0 (k + 1) y0 y1 y2)) ∧ (∀ y0 y1 y2 y3, LeO (spec_gridOf.l1 k y0 y1 y2 y3) (spec_gridOf.l1 (k + 1) y0 y1 y2 y3))
 | 0 => ⟨fun _ _ _ r h => by simp [spec_gridOf.l0] at h, fun _ _ _ _ r h => by simp [spec_gridOf.l1] at h⟩
 | k + 1 => by
  obtain ⟨ih0, ih1⟩ := spec_gridOf.mono_l k
  refine ⟨?_, ?_⟩
  ·
   intro y0 y1 y2
   unfold spec_gridOf.l0
   repeat' first
   | (with_reducible exact ih0 _ _ _)
   | (with_reducible exact ih1 _ _ _ _)
   | (with_reducible exact LeO.refl _)
   | (with_reducible exact LeO.none _)
   | (with_reducible refine LeO.ite ?_ ?_)
   | (with_reducible refine LeO.bind ?_ (fun _ => ?_))
   | exact ih0 _ _ _
   | exact ih1 _ _ _ _
   | exact LeO.none _
   | refine LeO.ite ?_ ?_
   | refine LeO.bind ?_ (fun _ => ?_)
  intro y0 y1 y2 y3
  unfold spec_gridOf.l1
  repeat' first
  | (with_reducible exact ih0 _ _ _)
  | (with_reducible exact ih1 _ _ _ _)
  | (with_reducible exact LeO.refl _)
  | (with_reducible exact LeO.none _)
  | (with_reducible refine LeO.ite ?_ ?_)
  | (with_reducible refine LeO.bind ?_ (fun _ => ?_))
  | exact ih0 _ _ _
  | exact ih1 _ _ _ _
  | exact LeO.none _
  | refine LeO.ite ?_ ?_
  | refine LeO.bind ?_ (fun _ => ?_)
theorem spec_gridOf.mono : ∀ a0 k, LeO (spec_gridOf.f k a0) (spec_gridOf.f (k + 1) a0) := by
 intro a0 k
 obtain ⟨ih0, ih1⟩ := spec_gridOf.mono_l k
 unfold spec_gridOf.f
 repeat' first
   | (with_reducible exact ih0 _ _ _)
   | (with_reducible exact ih1 _ _ _ _)
   | (with_reducible exact LeO.refl _)
   | (with_reducible exact LeO.none _)
   | (with_reducible refine LeO.ite ?_ ?_)
   | (with_reducible refine LeO.bind ?_ (fun _ => ?_))
   | exact ih0 _ _ _
   | exact ih1 _ _ _ _
   | exact LeO.none _
   | refine LeO.ite ?_ ?_
   | refine LeO.bind ?_ (fun _ => ?_)
set_option maxHeartbeats 8000000 in
set_option maxRecDepth 100000 in
theorem spec_gridOf.calls (k : Nat) (A0 : Option Addr) (c0 : Nat) (l0 : List (S62)) (r : List Bool) (w : World) (hr0 : Kd.C k62 w A0 l0.length l0) (hc0 : l0.length ≤ c0) (h : spec_gridOf.f k l0 = some r) :
  Calls Try.prog 53 #[.slice A0 l0.length c0] w fun e w' => ∃ v0_ : Value, e = .returned (v0_) ∧ Kd.R Kd.bool 4 w' w.heap.size (fun _ => True) v0_ r ∧ Below w.heap.size w w' := by
 have HR0 := Aside0.mk hr0
 have HC0 := Aside0.mk hc0
 clear hr0 hc0
 have HB := Aside0.mk (Below.refl w.heap.size w)
 have H : (if 256 ≤ 281474976710656 then (spec_gridOf.l0 k l0 (List.replicate 256 false) 0) else (none)) = some r := h
 clear h
 by_cases c2 : 256 ≤ 281474976710656
 rotate_left
 ·
  rw [if_neg c2] at H
  exact absurd H (by simp)
 rw [if_pos c2] at H
 have c2b0 := eq_true c2
 have c2b1 : decide (256 ≤ 281474976710656) = true := decide_eq_true c2
 clear c2
 obtain ⟨y101, hy101⟩ : ∃ y_ : List Bool, y_ = (List.replicate 256 false) := ⟨_, rfl⟩
 replace H : (spec_gridOf.l0 k l0 y101 0) = some r := by first | (rw [hy101]; with_reducible exact H) | (have H2_ := (Option.bind_some _ _).symm.trans H; rw [hy101]; with_reducible exact H2_) | (have H2_ := (Option.bind_some _ _).symm.trans H; with_reducible exact H2_) | with_reducible exact H | (rw [hy101]; exact H) | exact H
 have Ny101 := Aside0.mk hy101
 clear hy101
 have H' := Aside0.mk H
 clear H
 go_enter Try.func53, Try.ntmps53
 go_wp2_with (first | ((with_reducible refine gate_dst (N := 6) rfl ?_); refine Kd.R_make Kd.bool _ 4 rfl (N := 6) rfl 32 _ _ rfl 256 rfl rfl Try.underlying32 (.bool false) 1 info4 rfl (by decide) (by omega) false (ok := fun _ => True) (okp := fun _ => True) rfl (fun _ hk => hk) trivial (by omega) (by omega) (Below.refl _ _) (Nat.le_refl _) ?_; intro v102 w3 ho4 hb hg_ hnew_; clear hg_ hnew_; (first | rw [← Ny101.out] at ho4 | (simp only [Int.reduceToNat] at ho4; rw [← Ny101.out] at ho4)); have HO103 := am_ (Kd.R_lower ho4 (below_size (by repeat (first | (with_reducible first | exact HB.out | apply below_alloc | apply pw_below_drewN | apply below_drew1) | exact HB.out)))); replace HB := am_ (below_step (by repeat (first | (with_reducible first | exact HB.out | apply below_alloc | apply pw_below_drewN | apply below_drew1) | exact HB.out)) hb); clear hb ho4))
 go_loopg [4] k (fun kq v4 w' => ∃ (x3_1 : List Bool) (x4_1 : Int), v4 = .int .i64 x4_1 ∧ Aside0 (spec_gridOf.l0 kq l0 x3_1 x4_1 = some r) ∧ Aside0 (kq ≤ k) ∧ Aside0 (Kd.R Kd.bool 4 w' w.heap.size (fun _ => True) v102 x3_1) ∧ Aside0 (Below w.heap.size w w'))
 case atStart => exact ⟨(y101), (0), (by first | rfl | (simp; done) | (simp [*]; done)), H', ⟨Nat.le_refl _⟩, ⟨by exact HO103.out⟩, ⟨by repeat (first | (with_reducible first | exact HB.out | apply below_alloc | apply pw_below_drewN | apply below_drew1) | exact HB.out)⟩⟩
 case round =>
  clear H'
  try clear c2
  try clear c2b0
  try clear c2b1
  try clear p2
  obtain ⟨x3_1, x4_1, rfl, HA, HK1, HO_3, HB⟩ := hrel
  cases gk with
  | zero => exact absurd HA.out (by simp [spec_gridOf.l0])
  | succ k1 =>
   have H := HA.out
   clear HA
   simp only [spec_gridOf.l0] at H
   by_cases c5 : x4_1 < (l0.length : Int)
   rotate_left
   ·
    rw [if_neg c5] at H
    have c5b0 : decide (x4_1 < (l0.length : Int)) = false := decide_eq_false c5
    clear c5
    obtain rfl := Option.some.inj H
    go_wp2
    go_ret
    exact ⟨_, by first | rfl | (simp [errW_none, errW_some] <;> rfl) | (simp [*, errW_none, errW_some] <;> rfl), by exact HO_3.out, by repeat (first | (with_reducible first | exact HB.out | apply below_alloc | apply pw_below_drewN | apply below_drew1) | exact HB.out)⟩
   rw [if_pos c5] at H
   have c5b0 : decide (x4_1 < (l0.length : Int)) = true := decide_eq_true c5
   clear c5
   by_cases c6 : 0 ≤ x4_1
   rotate_left
   ·
    rw [if_neg c6] at H
    exact absurd H (by simp)
   rw [if_pos c6] at H
   have c6b0 : decide (0 ≤ x4_1) = true := decide_eq_true c6
   clear c6
   have H' := Aside0.mk H
   clear H
   have p104 : 0 ≤ (x4_1 : Int) := of_decide_eq_true (by first | with_reducible assumption | assumption)
   have q104 : x4_1 < (l0.length : Int) := of_decide_eq_true (by first | with_reducible assumption | assumption)
   obtain ⟨ad104, e104, hx104_0, hx104_1, hx104_2⟩ := at_T62 HR0.out x4_1 p104 q104
   cases e104
   replace hx104_0 := (HB.out.cell (World.block_lt_of_cell? w _ hx104_0)).trans hx104_0
   replace hx104_1 := (HB.out.cell (World.block_lt_of_cell? w _ hx104_1)).trans hx104_1
   replace hx104_2 := (HB.out.cell (World.block_lt_of_cell? w _ hx104_2)).trans hx104_2
   replace p104 := eq_true p104
   replace q104 := eq_true q104
   go_wp2
   go_loopg [5] k1 (fun kq v5 w' => ∃ (x3_2 : List Bool) (x5_2 : Int), v5 = .int .i64 x5_2 ∧ Aside0 (spec_gridOf.l1 kq l0 x3_2 x4_1 x5_2 = some r) ∧ Aside0 (kq ≤ k1) ∧ Aside0 (Kd.R Kd.bool 4 w' w.heap.size (fun _ => True) v102 x3_2) ∧ Aside0 (Below w.heap.size w w'))
   case atStart => exact ⟨(x3_1), ((rd_T62 l0 x4_1).f1), (by first | rfl | (simp; done) | (simp [*]; done)), H', ⟨Nat.le_refl _⟩, ⟨by exact HO_3.out⟩, ⟨by repeat (first | (with_reducible first | exact HB.out | apply below_alloc | apply pw_below_drewN | apply below_drew1) | exact HB.out)⟩⟩
   case round =>
    clear H'
    try clear p1
    try clear q1
    try clear hx1
    try clear c2
    try clear c2b0
    try clear c2b1
    try clear p2
    try clear c5
    try clear c5b0
    try clear c6
    try clear c6b0
    try clear hx104_0
    try clear hx104_1
    try clear hx104_2
    try clear p104
    try clear p2
    try clear q104
    obtain ⟨x3_2, x5_2, rfl, HA, HK2, HO_3, HB⟩ := hrel
    cases gk with
    | zero => exact absurd HA.out (by simp [spec_gridOf.l1])
    | succ k2 =>
     have H := HA.out
     clear HA
     simp only [spec_gridOf.l1] at H
     by_cases c7 : 0 ≤ x4_1
     rotate_left
     ·
      rw [if_neg c7] at H
      exact absurd H (by simp)
     rw [if_pos c7] at H
     have c7b0 : decide (0 ≤ x4_1) = true := decide_eq_true c7
     clear c7
     by_cases c8 : x4_1 < (l0.length : Int)
     rotate_left
     ·
      rw [if_neg c8] at H
      exact absurd H (by simp)
     rw [if_pos c8] at H
     have c8b0 : decide (x4_1 < (l0.length : Int)) = true := decide_eq_true c8
     clear c8
     by_cases c9 : x5_2 < ((rd_T62 l0 x4_1).f2)
     rotate_left
     ·
      rw [if_neg c9] at H
      have c9b0 : decide (x5_2 < ((rd_T62 l0 x4_1).f2)) = false := decide_eq_false c9
      clear c9
      have H' := Aside0.mk H
      clear H
      have p105 : 0 ≤ (x4_1 : Int) := of_decide_eq_true (by first | with_reducible assumption | assumption)
      have q105 : x4_1 < (l0.length : Int) := of_decide_eq_true (by first | with_reducible assumption | assumption)
      obtain ⟨ad105, e105, hx105_0, hx105_1, hx105_2⟩ := at_T62 HR0.out x4_1 p105 q105
      obtain rfl : ad104 = ad105 := (by injection e105)
      replace hx105_0 := (HB.out.cell (World.block_lt_of_cell? w _ hx105_0)).trans hx105_0
      replace hx105_1 := (HB.out.cell (World.block_lt_of_cell? w _ hx105_1)).trans hx105_1
      replace hx105_2 := (HB.out.cell (World.block_lt_of_cell? w _ hx105_2)).trans hx105_2
      replace p105 := eq_true p105
      replace q105 := eq_true q105
      go_wp2
      go_roundg k2
      case measure => have := HK1.out; have := HK2.out; omega
      case rel => exact ⟨(x3_2), (wrap64 (x4_1 + 1)), (by first | rfl | (simp; done) | (simp [*]; done)), H', ⟨by have := HK1.out; have := HK2.out; omega⟩, ⟨by exact HO_3.out⟩, ⟨by repeat (first | (with_reducible first | exact HB.out | apply below_alloc | apply pw_below_drewN | apply below_drew1) | exact HB.out)⟩⟩
     rw [if_pos c9] at H
     have c9b0 : decide (x5_2 < ((rd_T62 l0 x4_1).f2)) = true := decide_eq_true c9
     clear c9
     obtain ⟨ji10, hji10⟩ : ∃ j_ : Int, (wrap64 ((wrap64 (((rd_T62 l0 x4_1).f0) * 16)) + x5_2)) = j_ := ⟨_, rfl⟩
     replace H : (if 0 ≤ (ji10) then (if (ji10) < (x3_2.length : Int) then (spec_gridOf.l1 k2 l0 (x3_2.set ((ji10) : Int).toNat true) x4_1 (wrap64 (x5_2 + 1))) else (none)) else (none)) = some r := by first | (rw [hji10] at H; exact H) | (simp only [hji10] at H ⊢; exact H)
     have hji10w : (IntKind.i64.wrap ((wrap64 (((rd_T62 l0 x4_1).f0) * 16)) + x5_2)) = ji10 := (i64_w _).trans hji10
     by_cases c11 : 0 ≤ (ji10)
     rotate_left
     ·
      rw [if_neg c11] at H
      exact absurd H (by simp)
     rw [if_pos c11] at H
     have c11b0 : decide (0 ≤ (ji10)) = true := decide_eq_true c11
     clear c11
     by_cases c12 : (ji10) < (x3_2.length : Int)
     rotate_left
     ·
      rw [if_neg c12] at H
      exact absurd H (by simp)
     rw [if_pos c12] at H
     have c12b0 : decide ((ji10) < (x3_2.length : Int)) = true := decide_eq_true c12
     clear c12
     obtain ⟨y107, hy107⟩ : ∃ y_ : List Bool, y_ = (x3_2.set ((ji10) : Int).toNat true) := ⟨_, rfl⟩
     replace H : (spec_gridOf.l1 k2 l0 y107 x4_1 (wrap64 (x5_2 + 1))) = some r := by first | (rw [hy107]; with_reducible exact H) | (have H2_ := (Option.bind_some _ _).symm.trans H; rw [hy107]; with_reducible exact H2_) | (have H2_ := (Option.bind_some _ _).symm.trans H; with_reducible exact H2_) | with_reducible exact H | (rw [hy107]; exact H) | exact H
     have Ny107 := Aside0.mk hy107
     clear hy107
     have H' := Aside0.mk H
     clear H
     have p105 : 0 ≤ (x4_1 : Int) := of_decide_eq_true (by first | with_reducible assumption | assumption)
     have q105 : x4_1 < (l0.length : Int) := of_decide_eq_true (by first | with_reducible assumption | assumption)
     obtain ⟨ad105, e105, hx105_0, hx105_1, hx105_2⟩ := at_T62 HR0.out x4_1 p105 q105
     obtain rfl : ad104 = ad105 := (by injection e105)
     replace hx105_0 := (HB.out.cell (World.block_lt_of_cell? w _ hx105_0)).trans hx105_0
     replace hx105_1 := (HB.out.cell (World.block_lt_of_cell? w _ hx105_1)).trans hx105_1
     replace hx105_2 := (HB.out.cell (World.block_lt_of_cell? w _ hx105_2)).trans hx105_2
     replace p105 := eq_true p105
     replace q105 := eq_true q105
     have p106 : 0 ≤ (x4_1 : Int) := of_decide_eq_true (by first | with_reducible assumption | assumption)
     have q106 : x4_1 < (l0.length : Int) := of_decide_eq_true (by first | with_reducible assumption | assumption)
     obtain ⟨ad106, e106, hx106_0, hx106_1, hx106_2⟩ := at_T62 HR0.out x4_1 p106 q106
     obtain rfl : ad104 = ad106 := (by injection e106)
     replace hx106_0 := (HB.out.cell (World.block_lt_of_cell? w _ hx106_0)).trans hx106_0
     replace hx106_1 := (HB.out.cell (World.block_lt_of_cell? w _ hx106_1)).trans hx106_1
     replace hx106_2 := (HB.out.cell (World.block_lt_of_cell? w _ hx106_2)).trans hx106_2
     replace p106 := eq_true p106
     replace q106 := eq_true q106
     have p13 : 0 ≤ ((ji10) : Int) := of_decide_eq_true (by first | with_reducible assumption | assumption)
     have q13 : ((ji10) : Int) < ((x3_2.length : Int) : Int) := of_decide_eq_true (by first | with_reducible assumption | assumption)
     obtain ⟨go13, co13, eo13, gb13, gl13, cl13, HG13⟩ := Kd.R_form HO_3.out (by omega)
     (first | cases eo13 | (injection eo13 with ea_ en_ ec_; (first | subst ea_ | (injection ea_ with ea_; subst ea_)); subst ec_; clear en_))
     have GB13 := Aside0.mk gb13
     have GG13 := Aside0.mk HG13
     clear gb13 gl13 HG13
     obtain ⟨hx13_0, hf13_0⟩ := Kd.R_celln false HO_3.out ((ji10) : Int) p13 q13
     replace p13 := eq_true p13
     replace q13 := eq_true q13
     have HP14 := Kd.R_putg HO_3.out ((ji10) : Int) true
     go_wp2_with (first | ((with_reducible refine gate_store (t := 4) (p := 36) rfl ?_); refine store_event (t := 4) (p := 36) (v := ?vo_w15) (w1 := (wr.setCell ⟨go13, ((ji10) : Int).toNat, none⟩ (.bool true))) ?hg ?ho ?hn ?hr ?_; (case ho => rfl); (case hg => rfl); (case hn => rfl); (case hr => first | (go_simp; done) | (go_simp; rfl)); intro w15 hw; have hg : wr.grownBy w15 (some go13) := (by rw [hw]; exact HP14.2); have hp_ : Kd.R Kd.bool 4 w15 w.heap.size (fun _ => True) (.slice (some ⟨go13, 0, none⟩) x3_2.length co13) y107 := (by rw [hw, Ny107.out]; exact HP14.1); clear HP14; replace HO_3 := am_ (hp_); replace HB := am_ ((by rw [hw]; exact below_set (HB.out) GB13.out : Below w.heap.size w w15)); clear hg hw hp_))
     go_roundg k2
     case measure => have := HK1.out; have := HK2.out; omega
     case rel => exact ⟨(y107), (wrap64 (x5_2 + 1)), (by first | rfl | (simp; done) | (simp [*]; done)), H', ⟨by have := HK1.out; have := HK2.out; omega⟩, ⟨by exact HO_3.out⟩, ⟨by repeat (first | (with_reducible first | exact HB.out | apply below_alloc | apply pw_below_drewN | apply below_drew1) | exact HB.out)⟩⟩

/-! ### spec_ShiftRegion: function 25 -/
mutual
def spec_ShiftRegion.j0 : Nat → List (S62) → Int → Int → List Bool → Bool → Option ((List (S62)))
 | 0, _, _, _, _, _ => none
 | k + 1, x0, x1, x2, x7, x25 => if x25 = true then (some ([] : List (S62))) else ((spec_gridOf.f k x0).bind fun t107 => (spec_ShiftRegion.l0 k x1 x2 x7 t107 0))
def spec_ShiftRegion.l0 : Nat → Int → Int → List Bool → List Bool → Int → Option ((List (S62)))
 | 0, _, _, _, _, _ => none
 | k + 1, x1, x2, x7, x8, x9 => if x9 < (x8.length : Int) then (if 0 ≤ x9 then (if rdOf false x8 x9 = true then ((spec_inRange.f (wrap64 ((Int.tmod x9 16) + x1)) 0 15).bind fun t114 => (if t114 = true then ((spec_inRange.f (wrap64 ((wrap64 (Int.tdiv x9 16)) + x2)) 0 15).bind fun t115 => (if t115 = true then (if 0 ≤ (wrap64 ((wrap64 ((wrap64 ((wrap64 (Int.tdiv x9 16)) + x2)) * 16)) + (wrap64 ((Int.tmod x9 16) + x1)))) then (if (wrap64 ((wrap64 ((wrap64 ((wrap64 (Int.tdiv x9 16)) + x2)) * 16)) + (wrap64 ((Int.tmod x9 16) + x1)))) < (x7.length : Int) then (spec_ShiftRegion.l0 k x1 x2 (x7.set ((wrap64 ((wrap64 ((wrap64 ((wrap64 (Int.tdiv x9 16)) + x2)) * 16)) + (wrap64 ((Int.tmod x9 16) + x1)))) : Int).toNat true) x8 (wrap64 (x9 + 1))) else (none)) else (none)) else (spec_ShiftRegion.l0 k x1 x2 x7 x8 (wrap64 (x9 + 1))))) else (spec_ShiftRegion.l0 k x1 x2 x7 x8 (wrap64 (x9 + 1))))) else (spec_ShiftRegion.l0 k x1 x2 x7 x8 (wrap64 (x9 + 1)))) else (none)) else ((spec_runsOf.f k x7).bind fun t110 => (some t110))
end
def spec_ShiftRegion.f (k : Nat) (l0 : List (S62)) (a1 : Int) (a2 : Int) : Option ((List (S62))) := if 256 ≤ 281474976710656 then ((some (List.replicate 256 false : List Bool)).bind fun y101 => ((spec_validRuns.f k l0).bind fun t104 => (if t104 = true then ((spec_inRange.f a1 (-16) 16).bind fun t105 => (if t105 = true then ((spec_inRange.f a2 (-16) 16).bind fun t106 => (spec_ShiftRegion.j0 k l0 a1 a2 y101 (!t106))) else (spec_ShiftRegion.j0 k l0 a1 a2 y101 true))) else (spec_ShiftRegion.j0 k l0 a1 a2 y101 true)))) else (none)
theorem spec_ShiftRegion.mono_l : ∀ k, (∀ y0 y1 y2 y3 y4, LeO (spec_ShiftRegion.j0 k y0 y1 y2 y3 y4) (spec_ShiftRegion.j0 (k + 1) y0 y1 y2 y3 y4)) ∧ (∀ y0 y1 y2 y3 y4, LeO (spec_ShiftRegion.l0 k y0 y1 y2 y3 y4) (spec_ShiftRegion.l0 (k + 1) y0 y1 y2 y3 y4))
 | 0 => ⟨fun _ _ _ _ _ r h => by simp [spec_ShiftRegion.j0] at h, fun _ _ _ _ _ r h => by simp [spec_ShiftRegion.l0] at h⟩
 | k + 1 => by
  obtain ⟨ih0, ih1⟩ := spec_ShiftRegion.mono_l k
  refine ⟨?_, ?_⟩
  ·
   intro y0 y1 y2 y3 y4
   unfold spec_ShiftRegion.j0
   repeat' first
   | (with_reducible exact ih0 _ _ _ _ _)
   | (with_reducible exact ih1 _ _ _ _ _)
   | (with_reducible exact spec_gridOf.mono _ _)
   | (with_reducible exact spec_runsOf.mono _ _)
   | (with_reducible exact spec_validRuns.mono _ _)
   | (with_reducible exact LeO.refl _)
   | (with_reducible exact LeO.none _)
   | (with_reducible refine LeO.ite ?_ ?_)
   | (with_reducible refine LeO.bind ?_ (fun _ => ?_))
   | exact ih0 _ _ _ _ _
   | exact ih1 _ _ _ _ _
   | exact spec_gridOf.mono _ _
   | exact spec_runsOf.mono _ _
   | exact spec_validRuns.mono _ _
   | exact LeO.none _
   | refine LeO.ite ?_ ?_
   | refine LeO.bind ?_ (fun _ => ?_)
  intro y0 y1 y2 y3 y4
  unfold spec_ShiftRegion.l0
  repeat' first
  | (with_reducible exact ih0 _ _ _ _ _)
  | (with_reducible exact ih1 _ _ _ _ _)
  | (with_reducible exact spec_gridOf.mono _ _)
  | (with_reducible exact spec_runsOf.mono _ _)
  | (with_reducible exact spec_validRuns.mono _ _)
  | (with_reducible exact LeO.refl _)
  | (with_reducible exact LeO.none _)
  | (with_reducible refine LeO.ite ?_ ?_)
  | (with_reducible refine LeO.bind ?_ (fun _ => ?_))
  | exact ih0 _ _ _ _ _
  | exact ih1 _ _ _ _ _
  | exact spec_gridOf.mono _ _
  | exact spec_runsOf.mono _ _
  | exact spec_validRuns.mono _ _
  | exact LeO.none _
  | refine LeO.ite ?_ ?_
  | refine LeO.bind ?_ (fun _ => ?_)
theorem spec_ShiftRegion.mono : ∀ a0 a1 a2 k, LeO (spec_ShiftRegion.f k a0 a1 a2) (spec_ShiftRegion.f (k + 1) a0 a1 a2) := by
 intro a0 a1 a2 k
 obtain ⟨ih0, ih1⟩ := spec_ShiftRegion.mono_l k
 unfold spec_ShiftRegion.f
 repeat' first
   | (with_reducible exact ih0 _ _ _ _ _)
   | (with_reducible exact ih1 _ _ _ _ _)
   | (with_reducible exact spec_gridOf.mono _ _)
   | (with_reducible exact spec_runsOf.mono _ _)
   | (with_reducible exact spec_validRuns.mono _ _)
   | (with_reducible exact LeO.refl _)
   | (with_reducible exact LeO.none _)
   | (with_reducible refine LeO.ite ?_ ?_)
   | (with_reducible refine LeO.bind ?_ (fun _ => ?_))
   | exact ih0 _ _ _ _ _
   | exact ih1 _ _ _ _ _
   | exact spec_gridOf.mono _ _
   | exact spec_runsOf.mono _ _
   | exact spec_validRuns.mono _ _
   | exact LeO.none _
   | refine LeO.ite ?_ ?_
   | refine LeO.bind ?_ (fun _ => ?_)
set_option maxHeartbeats 8000000 in
set_option maxRecDepth 100000 in
theorem spec_ShiftRegion.calls (k : Nat) (A0 : Option Addr) (c0 : Nat) (l0 : List (S62)) (a1 : Int) (a2 : Int) (r : List (S62)) (w : World) (hr0 : Kd.C k62 w A0 l0.length l0) (hc0 : l0.length ≤ c0) (h : spec_ShiftRegion.f k l0 a1 a2 = some r) :
  Calls Try.prog 25 #[.slice A0 l0.length c0, .int .i64 a1, .int .i64 a2] w fun e w' => ∃ v0_ : Value, e = .returned (v0_) ∧ Kd.R k62 62 w' w.heap.size (fun _ => True) v0_ r ∧ Below w.heap.size w w' := by
 have HR0 := Aside0.mk hr0
 have HC0 := Aside0.mk hc0
 clear hr0 hc0
 have HB := Aside0.mk (Below.refl w.heap.size w)
 have H : (if 256 ≤ 281474976710656 then ((some (List.replicate 256 false : List Bool)).bind fun y101 => ((spec_validRuns.f k l0).bind fun t104 => (if t104 = true then ((spec_inRange.f a1 (-16) 16).bind fun t105 => (if t105 = true then ((spec_inRange.f a2 (-16) 16).bind fun t106 => (spec_ShiftRegion.j0 k l0 a1 a2 y101 (!t106))) else (spec_ShiftRegion.j0 k l0 a1 a2 y101 true))) else (spec_ShiftRegion.j0 k l0 a1 a2 y101 true)))) else (none)) = some r := h
 clear h
 by_cases c4 : 256 ≤ 281474976710656
 rotate_left
 ·
  rw [if_neg c4] at H
  exact absurd H (by simp)
 rw [if_pos c4] at H
 have c4b0 := eq_true c4
 have c4b1 : decide (256 ≤ 281474976710656) = true := decide_eq_true c4
 clear c4
 obtain ⟨y101, hy101⟩ : ∃ y_ : List Bool, y_ = (List.replicate 256 false) := ⟨_, rfl⟩
 replace H : ((spec_validRuns.f k l0).bind fun t104 => (if t104 = true then ((spec_inRange.f a1 (-16) 16).bind fun t105 => (if t105 = true then ((spec_inRange.f a2 (-16) 16).bind fun t106 => (spec_ShiftRegion.j0 k l0 a1 a2 y101 (!t106))) else (spec_ShiftRegion.j0 k l0 a1 a2 y101 true))) else (spec_ShiftRegion.j0 k l0 a1 a2 y101 true))) = some r := by first | (rw [hy101]; with_reducible exact H) | (have H2_ := (Option.bind_some _ _).symm.trans H; rw [hy101]; with_reducible exact H2_) | (have H2_ := (Option.bind_some _ _).symm.trans H; with_reducible exact H2_) | with_reducible exact H | (rw [hy101]; exact H) | exact H
 have Ny101 := Aside0.mk hy101
 clear hy101
 have HC5 := Aside0.mk H
 clear H
 go_enter Try.func25, Try.ntmps25
 go_upto_region 2 with (first | ((with_reducible refine gate_dst (N := 12) rfl ?_); refine Kd.R_make Kd.bool _ 4 rfl (N := 12) rfl 32 _ _ rfl 256 rfl rfl Try.underlying32 (.bool false) 1 info4 rfl (by decide) (by omega) false (ok := fun _ => True) (okp := fun _ => True) rfl (fun _ hk => hk) trivial (by omega) (by omega) (Below.refl _ _) (Nat.le_refl _) ?_; intro v102 w6 ho7 hb hg_ hnew_; clear hg_ hnew_; (first | rw [← Ny101.out] at ho7 | (simp only [Int.reduceToNat] at ho7; rw [← Ny101.out] at ho7)); have HO103 := am_ (Kd.R_lower ho7 (below_size (by repeat (first | (with_reducible first | exact HB.out | apply below_alloc | apply pw_below_drewN | apply below_drew1) | exact HB.out)))); replace HB := am_ (below_step (by repeat (first | (with_reducible first | exact HB.out | apply below_alloc | apply pw_below_drewN | apply below_drew1) | exact HB.out)) hb); clear hb ho7))
 (try simp only [Act.put, List.setIfInBounds_toArray, List.set_cons_zero, List.set_cons_succ])
 go_cut [25] (fun v25 wc => ∃ (kq : Nat) (x25_4 : Bool), v25 = .bool x25_4 ∧ Aside0 (spec_ShiftRegion.j0 kq l0 a1 a2 y101 x25_4 = some r) ∧ Aside0 (kq ≤ k) ∧ Aside0 (Kd.R Kd.bool 4 wc w.heap.size (fun _ => True) v102 y101) ∧ Aside0 (Below w.heap.size w wc))
 case first =>
  have H := HC5.out
  clear HC5
  replace H := Option.bind_eq_some_iff.mp H
  obtain ⟨t104, A80, H⟩ := H
  replace H : (if t104 = true then ((spec_inRange.f a1 (-16) 16).bind fun t105 => (if t105 = true then ((spec_inRange.f a2 (-16) 16).bind fun t106 => (spec_ShiftRegion.j0 k l0 a1 a2 y101 (!t106))) else (spec_ShiftRegion.j0 k l0 a1 a2 y101 true))) else (spec_ShiftRegion.j0 k l0 a1 a2 y101 true)) = some r := H
  have A8 := Aside0.mk A80
  clear A80
  by_cases c9 : t104 = true
  rotate_left
  ·
   replace c9 := Bool.eq_false_iff.mpr c9
   subst c9
   have H1 : (spec_ShiftRegion.j0 k l0 a1 a2 y101 true) = some r := by rw [if_neg (show ¬ (false = true) by decide)] at H; exact H
   clear H
   have H := H1
   clear H1
   have H' := Aside0.mk H
   clear H
   go_wp2_with (first | ((with_reducible refine gate_callee (f := 48) rfl ?_); refine goesL_ (some 14) rfl rfl Try.func48 (by kernel_rfl) rfl #[.slice A0 l0.length c0] rfl (by simp only [List.map_toArray, List.map_cons, List.map_nil]; rfl) ?_; (with_reducible refine (spec_validRuns.calls k _ _ l0 false _ ?side1 ?side2 A8.out).mono ?_); (case side1 => repeat (first | exact (Kd.C_below HR0.out HB.out) | (with_reducible refine Kd.C_alloc ?_ _) | (with_reducible refine Kd.C_drewN ?_ _) | (with_reducible refine Kd.C_drew ?_))); (case side2 => exact HC0.out); rintro e w15 ⟨rfl, hb⟩; refine ⟨_, rfl, ?_⟩; replace HO103 := am_ (Kd.R_below (by exact HO103.out) hb); replace HB := am_ (below_step (by repeat (first | (with_reducible first | exact HB.out | apply below_alloc | apply pw_below_drewN | apply below_drew1) | exact HB.out)) hb); (try clear hb); (try clear hb2); (try clear hk); (try clear hi)))
   go_meet
   case rel => exact ⟨_, (true), (by first | rfl | (simp; done) | (simp [*]; done)), H', ⟨by first | omega | exact Nat.le_refl _⟩, ⟨by exact HO103.out⟩, ⟨by repeat (first | (with_reducible first | exact HB.out | apply below_alloc | apply pw_below_drewN | apply below_drew1) | exact HB.out)⟩⟩
  subst c9
  have H1 : ((spec_inRange.f a1 (-16) 16).bind fun t105 => (if t105 = true then ((spec_inRange.f a2 (-16) 16).bind fun t106 => (spec_ShiftRegion.j0 k l0 a1 a2 y101 (!t106))) else (spec_ShiftRegion.j0 k l0 a1 a2 y101 true))) = some r := by rw [if_pos rfl] at H; exact H
  clear H
  have H := H1
  clear H1
  replace H := Option.bind_eq_some_iff.mp H
  obtain ⟨t105, A100, H⟩ := H
  replace H : (if t105 = true then ((spec_inRange.f a2 (-16) 16).bind fun t106 => (spec_ShiftRegion.j0 k l0 a1 a2 y101 (!t106))) else (spec_ShiftRegion.j0 k l0 a1 a2 y101 true)) = some r := H
  have A10 := Aside0.mk A100
  clear A100
  by_cases c11 : t105 = true
  ·
   subst c11
   have H1 : ((spec_inRange.f a2 (-16) 16).bind fun t106 => (spec_ShiftRegion.j0 k l0 a1 a2 y101 (!t106))) = some r := by rw [if_pos rfl] at H; exact H
   clear H
   have H := H1
   clear H1
   replace H := Option.bind_eq_some_iff.mp H
   obtain ⟨t106, A120, H⟩ := H
   replace H : (spec_ShiftRegion.j0 k l0 a1 a2 y101 (!t106)) = some r := H
   have A12 := Aside0.mk A120
   clear A120
   have H' := Aside0.mk H
   clear H
   go_wp2_with (first | ((with_reducible refine gate_callee (f := 48) rfl ?_); refine goesL_ (some 14) rfl rfl Try.func48 (by kernel_rfl) rfl #[.slice A0 l0.length c0] rfl (by simp only [List.map_toArray, List.map_cons, List.map_nil]; rfl) ?_; (with_reducible refine (spec_validRuns.calls k _ _ l0 true _ ?side1 ?side2 A8.out).mono ?_); (case side1 => repeat (first | exact (Kd.C_below HR0.out HB.out) | (with_reducible refine Kd.C_alloc ?_ _) | (with_reducible refine Kd.C_drewN ?_ _) | (with_reducible refine Kd.C_drew ?_))); (case side2 => exact HC0.out); rintro e w13 ⟨rfl, hb⟩; refine ⟨_, rfl, ?_⟩; replace HO103 := am_ (Kd.R_below (by exact HO103.out) hb); replace HB := am_ (below_step (by repeat (first | (with_reducible first | exact HB.out | apply below_alloc | apply pw_below_drewN | apply below_drew1) | exact HB.out)) hb); (try clear hb); (try clear hb2); (try clear hk); (try clear hi)) | (go_at_call 49; (with_reducible refine (spec_inRange.calls a1 (-16) 16 true _ A10.out).mono ?_); rintro e w' ⟨rfl, ⟨nd, rfl⟩⟩) | (go_at_call 49; (with_reducible refine (spec_inRange.calls a2 (-16) 16 t106 _ A12.out).mono ?_); rintro e w' ⟨rfl, ⟨nd, rfl⟩⟩))
   go_meet
   case rel => exact ⟨_, (!t106), (by first | rfl | (simp; done) | (simp [*]; done)), H', ⟨by first | omega | exact Nat.le_refl _⟩, ⟨by exact HO103.out⟩, ⟨by repeat (first | (with_reducible first | exact HB.out | apply below_alloc | apply pw_below_drewN | apply below_drew1) | exact HB.out)⟩⟩
  replace c11 := Bool.eq_false_iff.mpr c11
  subst c11
  have H1 : (spec_ShiftRegion.j0 k l0 a1 a2 y101 true) = some r := by rw [if_neg (show ¬ (false = true) by decide)] at H; exact H
  clear H
  have H := H1
  clear H1
  have H' := Aside0.mk H
  clear H
  go_wp2_with (first | ((with_reducible refine gate_callee (f := 48) rfl ?_); refine goesL_ (some 14) rfl rfl Try.func48 (by kernel_rfl) rfl #[.slice A0 l0.length c0] rfl (by simp only [List.map_toArray, List.map_cons, List.map_nil]; rfl) ?_; (with_reducible refine (spec_validRuns.calls k _ _ l0 true _ ?side1 ?side2 A8.out).mono ?_); (case side1 => repeat (first | exact (Kd.C_below HR0.out HB.out) | (with_reducible refine Kd.C_alloc ?_ _) | (with_reducible refine Kd.C_drewN ?_ _) | (with_reducible refine Kd.C_drew ?_))); (case side2 => exact HC0.out); rintro e w14 ⟨rfl, hb⟩; refine ⟨_, rfl, ?_⟩; replace HO103 := am_ (Kd.R_below (by exact HO103.out) hb); replace HB := am_ (below_step (by repeat (first | (with_reducible first | exact HB.out | apply below_alloc | apply pw_below_drewN | apply below_drew1) | exact HB.out)) hb); (try clear hb); (try clear hb2); (try clear hk); (try clear hi)) | (go_at_call 49; (with_reducible refine (spec_inRange.calls a1 (-16) 16 false _ A10.out).mono ?_); rintro e w' ⟨rfl, ⟨nd, rfl⟩⟩))
  go_meet
  case rel => exact ⟨_, (true), (by first | rfl | (simp; done) | (simp [*]; done)), H', ⟨by first | omega | exact Nat.le_refl _⟩, ⟨by exact HO103.out⟩, ⟨by repeat (first | (with_reducible first | exact HB.out | apply below_alloc | apply pw_below_drewN | apply below_drew1) | exact HB.out)⟩⟩
 case rest =>
  clear HC5
  try clear c1
  try clear c2
  try clear p2
  try clear c4
  try clear c4b0
  try clear c4b1
  try clear c9
  try clear c11
  obtain ⟨kq, x25_4, rfl, HA, HJ4, HO_7, HB⟩ := hcut
  cases kq with
  | zero => exact absurd HA.out (by simp [spec_ShiftRegion.j0])
  | succ kj4 =>
   have H := HA.out
   clear HA
   simp only [spec_ShiftRegion.j0] at H
   by_cases c16 : x25_4 = true
   ·
    subst c16
    have H1 : (some ([] : List (S62))) = some r := by rw [if_pos rfl] at H; exact H
    clear H
    have H := H1
    clear H1
    obtain rfl := Option.some.inj H
    go_wp2
    go_ret
    exact ⟨_, by first | rfl | (simp [errW_none, errW_some] <;> rfl) | (simp [*, errW_none, errW_some] <;> rfl), by first | exact Kd.R_nil _ _ _ _ _ | exact Kd.N_nil _ _ _ _ _ | exact Kd.V_nil _ _ _ _ _ | exact Kd.Q_nil _ _ _ _ _ | exact Kd.S_nil _ _ _ _ _, by repeat (first | (with_reducible first | exact HB.out | apply below_alloc | apply pw_below_drewN | apply below_drew1) | exact HB.out)⟩
   replace c16 := Bool.eq_false_iff.mpr c16
   subst c16
   have H1 : ((spec_gridOf.f kj4 l0).bind fun t107 => (spec_ShiftRegion.l0 kj4 a1 a2 y101 t107 0)) = some r := by rw [if_neg (show ¬ (false = true) by decide)] at H; exact H
   clear H
   have H := H1
   clear H1
   replace H := Option.bind_eq_some_iff.mp H
   obtain ⟨t107, A170, H⟩ := H
   replace H : (spec_ShiftRegion.l0 kj4 a1 a2 y101 t107 0) = some r := H
   have A17 := Aside0.mk A170
   clear A170
   have H' := Aside0.mk H
   clear H
   go_wp2_with (first | ((with_reducible refine gate_callee (f := 53) rfl ?_); refine goesL_ (some 27) rfl rfl Try.func53 (by kernel_rfl) rfl #[.slice A0 l0.length c0] rfl (by simp only [List.map_toArray, List.map_cons, List.map_nil]; rfl) ?_; (with_reducible refine (spec_gridOf.calls kj4 _ _ l0 t107 _ ?side1 ?side2 A17.out).mono ?_); (case side1 => repeat (first | exact (Kd.C_below HR0.out HB.out) | (with_reducible refine Kd.C_alloc ?_ _) | (with_reducible refine Kd.C_drewN ?_ _) | (with_reducible refine Kd.C_drew ?_))); (case side2 => exact HC0.out); rintro e w18 ⟨v108, rfl, ho0, hb⟩; refine ⟨_, rfl, ?_⟩; have HO109 := am_ (Kd.R_lower (Kd.R_new' ho0 (Kd.R_lt (by exact HO_7.out))) (below_size (by repeat (first | (with_reducible first | exact HB.out | apply below_alloc | apply pw_below_drewN | apply below_drew1) | exact HB.out)))); replace HO_7 := am_ (Kd.R_elder' (by exact HO_7.out) (Kd.R_base ho0) hb); replace HB := am_ (below_step (by repeat (first | (with_reducible first | exact HB.out | apply below_alloc | apply pw_below_drewN | apply below_drew1) | exact HB.out)) hb); (try clear hb); (try clear hb2); (try clear hk); (try clear hi); (try clear ho0)))
   go_loopg [9] kj4 (fun kq v9 w' => ∃ (x7_2 : List Bool) (x9_2 : Int), v9 = .int .i64 x9_2 ∧ Aside0 (spec_ShiftRegion.l0 kq a1 a2 x7_2 t107 x9_2 = some r) ∧ Aside0 (kq ≤ kj4) ∧ Aside0 (Kd.R Kd.bool 4 w' w.heap.size (fun k_ => some k_ ≠ (v108 : Value).ownBlock) v102 x7_2) ∧ Aside0 (Kd.R Kd.bool 4 w' w.heap.size (fun k_ => some k_ ≠ (v102 : Value).ownBlock) v108 t107) ∧ Aside0 (Below w.heap.size w w'))
   case atStart => exact ⟨(y101), (0), (by first | rfl | (simp; done) | (simp [*]; done)), H', ⟨Nat.le_refl _⟩, ⟨by exact Kd.R_mono HO_7.out (fun _ hk => hk.2)⟩, ⟨by exact Kd.R_mono HO109.out (fun _ hk => hk.2)⟩, ⟨by repeat (first | (with_reducible first | exact HB.out | apply below_alloc | apply pw_below_drewN | apply below_drew1) | exact HB.out)⟩⟩
   case round =>
    clear H'
    try clear c1
    try clear c2
    try clear p2
    try clear c4
    try clear c4b0
    try clear c4b1
    try clear c5
    try clear c9
    try clear c11
    try clear c16
    try clear p2
    obtain ⟨x7_2, x9_2, rfl, HA, HK2, HO_7, HO_8, HB⟩ := hrel
    cases gk with
    | zero => exact absurd HA.out (by simp [spec_ShiftRegion.l0])
    | succ k2 =>
     have H := HA.out
     clear HA
     simp only [spec_ShiftRegion.l0] at H
     by_cases c19 : x9_2 < (t107.length : Int)
     rotate_left
     ·
      rw [if_neg c19] at H
      have c19b0 : decide (x9_2 < (t107.length : Int)) = false := decide_eq_false c19
      clear c19
      replace H := Option.bind_eq_some_iff.mp H
      obtain ⟨t110, A370, H⟩ := H
      replace H : (some t110) = some r := H
      have A37 := Aside0.mk A370
      clear A370
      obtain rfl := Option.some.inj H
      obtain ⟨Ao38, co38, eo38⟩ := Kd.R_slice HO_8.out
      subst eo38
      obtain ⟨Ao39, co39, eo39⟩ := Kd.R_slice HO_7.out
      subst eo39
      go_wp2_with (first | ((with_reducible refine gate_callee (f := 54) rfl ?_); refine goesL_ (some 61) rfl rfl Try.func54 (by kernel_rfl) rfl #[.slice Ao39 x7_2.length co39] rfl (by simp only [List.map_toArray, List.map_cons, List.map_nil]; rfl) ?_; (with_reducible refine (spec_runsOf.calls k2 _ _ x7_2 t110 _ ?side1 ?side2 A37.out).mono ?_); (case side1 => repeat (first | exact (Kd.R_reads' HO_7.out).2.2 | (with_reducible refine Kd.C_alloc ?_ _) | (with_reducible refine Kd.C_drewN ?_ _) | (with_reducible refine Kd.C_drew ?_))); (case side2 => exact (Kd.R_reads' HO_7.out).2.1); rintro e w40 ⟨v111, rfl, ho0, hb⟩; refine ⟨_, rfl, ?_⟩; replace HO_7 := am_ (Kd.R_below (by exact HO_7.out) hb); replace HO_8 := am_ (Kd.R_below (by exact HO_8.out) hb); have HO112 := am_ (Kd.R_lower ho0 (below_size (by repeat (first | (with_reducible first | exact HB.out | apply below_alloc | apply pw_below_drewN | apply below_drew1) | exact HB.out)))); replace HB := am_ (below_step (by repeat (first | (with_reducible first | exact HB.out | apply below_alloc | apply pw_below_drewN | apply below_drew1) | exact HB.out)) hb); (try clear hb); (try clear hb2); (try clear hk); (try clear hi); (try clear ho0)))
      go_ret
      exact ⟨_, by first | rfl | (simp [errW_none, errW_some] <;> rfl) | (simp [*, errW_none, errW_some] <;> rfl), by exact HO112.out, by repeat (first | (with_reducible first | exact HB.out | apply below_alloc | apply pw_below_drewN | apply below_drew1) | exact HB.out)⟩
     rw [if_pos c19] at H
     have c19b0 : decide (x9_2 < (t107.length : Int)) = true := decide_eq_true c19
     clear c19
     by_cases c20 : 0 ≤ x9_2
     rotate_left
     ·
      rw [if_neg c20] at H
      exact absurd H (by simp)
     rw [if_pos c20] at H
     have c20b0 : decide (0 ≤ x9_2) = true := decide_eq_true c20
     clear c20
     obtain ⟨bq21, hbq21⟩ : ∃ b_ : Bool, b_ = (rdOf false t107 x9_2) := ⟨_, rfl⟩
     replace H : (if bq21 = true then ((spec_inRange.f (wrap64 ((Int.tmod x9_2 16) + a1)) 0 15).bind fun t114 => (if t114 = true then ((spec_inRange.f (wrap64 ((wrap64 (Int.tdiv x9_2 16)) + a2)) 0 15).bind fun t115 => (if t115 = true then (if 0 ≤ (wrap64 ((wrap64 ((wrap64 ((wrap64 (Int.tdiv x9_2 16)) + a2)) * 16)) + (wrap64 ((Int.tmod x9_2 16) + a1)))) then (if (wrap64 ((wrap64 ((wrap64 ((wrap64 (Int.tdiv x9_2 16)) + a2)) * 16)) + (wrap64 ((Int.tmod x9_2 16) + a1)))) < (x7_2.length : Int) then (spec_ShiftRegion.l0 k2 a1 a2 (x7_2.set ((wrap64 ((wrap64 ((wrap64 ((wrap64 (Int.tdiv x9_2 16)) + a2)) * 16)) + (wrap64 ((Int.tmod x9_2 16) + a1)))) : Int).toNat true) t107 (wrap64 (x9_2 + 1))) else (none)) else (none)) else (spec_ShiftRegion.l0 k2 a1 a2 x7_2 t107 (wrap64 (x9_2 + 1))))) else (spec_ShiftRegion.l0 k2 a1 a2 x7_2 t107 (wrap64 (x9_2 + 1))))) else (spec_ShiftRegion.l0 k2 a1 a2 x7_2 t107 (wrap64 (x9_2 + 1)))) = some r := by rw [← hbq21] at H; exact H
     have Nbq21 := Aside0.mk hbq21
     clear hbq21
     by_cases c22 : bq21 = true
     rotate_left
     ·
      replace c22 := Bool.eq_false_iff.mpr c22
      subst c22
      have H1 : (spec_ShiftRegion.l0 k2 a1 a2 x7_2 t107 (wrap64 (x9_2 + 1))) = some r := by rw [if_neg (show ¬ (false = true) by decide)] at H; exact H
      clear H
      have H := H1
      clear H1
      have H' := Aside0.mk H
      clear H
      obtain ⟨Ao36, co36, eo36⟩ := Kd.R_slice HO_8.out
      subst eo36
      have p113 : 0 ≤ (x9_2 : Int) := of_decide_eq_true (by first | with_reducible assumption | assumption)
      have q113 : x9_2 < (t107.length : Int) := of_decide_eq_true (by first | with_reducible assumption | assumption)
      obtain ⟨ad113, e113, hx113_0⟩ := Kd.at_bool (Kd.R_reads' HO_8.out).2.2 x9_2 p113 q113
      (try rw [← Nbq21.out] at hx113_0)
      cases e113
      replace p113 := eq_true p113
      replace q113 := eq_true q113
      go_wp2
      go_roundg k2
      case measure => have := HJ4.out; have := HK2.out; omega
      case rel => exact ⟨(x7_2), (wrap64 (x9_2 + 1)), (by first | rfl | (simp; done) | (simp [*]; done)), H', ⟨by have := HJ4.out; have := HK2.out; omega⟩, ⟨by exact HO_7.out⟩, ⟨by exact HO_8.out⟩, ⟨by repeat (first | (with_reducible first | exact HB.out | apply below_alloc | apply pw_below_drewN | apply below_drew1) | exact HB.out)⟩⟩
     subst c22
     have H1 : ((spec_inRange.f (wrap64 ((Int.tmod x9_2 16) + a1)) 0 15).bind fun t114 => (if t114 = true then ((spec_inRange.f (wrap64 ((wrap64 (Int.tdiv x9_2 16)) + a2)) 0 15).bind fun t115 => (if t115 = true then (if 0 ≤ (wrap64 ((wrap64 ((wrap64 ((wrap64 (Int.tdiv x9_2 16)) + a2)) * 16)) + (wrap64 ((Int.tmod x9_2 16) + a1)))) then (if (wrap64 ((wrap64 ((wrap64 ((wrap64 (Int.tdiv x9_2 16)) + a2)) * 16)) + (wrap64 ((Int.tmod x9_2 16) + a1)))) < (x7_2.length : Int) then (spec_ShiftRegion.l0 k2 a1 a2 (x7_2.set ((wrap64 ((wrap64 ((wrap64 ((wrap64 (Int.tdiv x9_2 16)) + a2)) * 16)) + (wrap64 ((Int.tmod x9_2 16) + a1)))) : Int).toNat true) t107 (wrap64 (x9_2 + 1))) else (none)) else (none)) else (spec_ShiftRegion.l0 k2 a1 a2 x7_2 t107 (wrap64 (x9_2 + 1))))) else (spec_ShiftRegion.l0 k2 a1 a2 x7_2 t107 (wrap64 (x9_2 + 1))))) = some r := by rw [if_pos rfl] at H; exact H
     clear H
     have H := H1
     clear H1
     replace H := Option.bind_eq_some_iff.mp H
     obtain ⟨t114, A230, H⟩ := H
     replace H : (if t114 = true then ((spec_inRange.f (wrap64 ((wrap64 (Int.tdiv x9_2 16)) + a2)) 0 15).bind fun t115 => (if t115 = true then (if 0 ≤ (wrap64 ((wrap64 ((wrap64 ((wrap64 (Int.tdiv x9_2 16)) + a2)) * 16)) + (wrap64 ((Int.tmod x9_2 16) + a1)))) then (if (wrap64 ((wrap64 ((wrap64 ((wrap64 (Int.tdiv x9_2 16)) + a2)) * 16)) + (wrap64 ((Int.tmod x9_2 16) + a1)))) < (x7_2.length : Int) then (spec_ShiftRegion.l0 k2 a1 a2 (x7_2.set ((wrap64 ((wrap64 ((wrap64 ((wrap64 (Int.tdiv x9_2 16)) + a2)) * 16)) + (wrap64 ((Int.tmod x9_2 16) + a1)))) : Int).toNat true) t107 (wrap64 (x9_2 + 1))) else (none)) else (none)) else (spec_ShiftRegion.l0 k2 a1 a2 x7_2 t107 (wrap64 (x9_2 + 1))))) else (spec_ShiftRegion.l0 k2 a1 a2 x7_2 t107 (wrap64 (x9_2 + 1)))) = some r := H
     have A23 := Aside0.mk A230
     clear A230
     by_cases c24 : t114 = true
     rotate_left
     ·
      replace c24 := Bool.eq_false_iff.mpr c24
      subst c24
      have H1 : (spec_ShiftRegion.l0 k2 a1 a2 x7_2 t107 (wrap64 (x9_2 + 1))) = some r := by rw [if_neg (show ¬ (false = true) by decide)] at H; exact H
      clear H
      have H := H1
      clear H1
      have H' := Aside0.mk H
      clear H
      obtain ⟨Ao35, co35, eo35⟩ := Kd.R_slice HO_8.out
      subst eo35
      have p113 : 0 ≤ (x9_2 : Int) := of_decide_eq_true (by first | with_reducible assumption | assumption)
      have q113 : x9_2 < (t107.length : Int) := of_decide_eq_true (by first | with_reducible assumption | assumption)
      obtain ⟨ad113, e113, hx113_0⟩ := Kd.at_bool (Kd.R_reads' HO_8.out).2.2 x9_2 p113 q113
      (try rw [← Nbq21.out] at hx113_0)
      cases e113
      replace p113 := eq_true p113
      replace q113 := eq_true q113
      go_wp2_with (first | (go_at_call 49; (with_reducible refine (spec_inRange.calls (wrap64 ((Int.tmod x9_2 16) + a1)) 0 15 false _ A23.out).mono ?_); rintro e w' ⟨rfl, ⟨nd, rfl⟩⟩))
      go_roundg k2
      case measure => have := HJ4.out; have := HK2.out; omega
      case rel => exact ⟨(x7_2), (wrap64 (x9_2 + 1)), (by first | rfl | (simp; done) | (simp [*]; done)), H', ⟨by have := HJ4.out; have := HK2.out; omega⟩, ⟨by exact HO_7.out⟩, ⟨by exact HO_8.out⟩, ⟨by repeat (first | (with_reducible first | exact HB.out | apply below_alloc | apply pw_below_drewN | apply below_drew1) | exact HB.out)⟩⟩
     subst c24
     have H1 : ((spec_inRange.f (wrap64 ((wrap64 (Int.tdiv x9_2 16)) + a2)) 0 15).bind fun t115 => (if t115 = true then (if 0 ≤ (wrap64 ((wrap64 ((wrap64 ((wrap64 (Int.tdiv x9_2 16)) + a2)) * 16)) + (wrap64 ((Int.tmod x9_2 16) + a1)))) then (if (wrap64 ((wrap64 ((wrap64 ((wrap64 (Int.tdiv x9_2 16)) + a2)) * 16)) + (wrap64 ((Int.tmod x9_2 16) + a1)))) < (x7_2.length : Int) then (spec_ShiftRegion.l0 k2 a1 a2 (x7_2.set ((wrap64 ((wrap64 ((wrap64 ((wrap64 (Int.tdiv x9_2 16)) + a2)) * 16)) + (wrap64 ((Int.tmod x9_2 16) + a1)))) : Int).toNat true) t107 (wrap64 (x9_2 + 1))) else (none)) else (none)) else (spec_ShiftRegion.l0 k2 a1 a2 x7_2 t107 (wrap64 (x9_2 + 1))))) = some r := by rw [if_pos rfl] at H; exact H
     clear H
     have H := H1
     clear H1
     replace H := Option.bind_eq_some_iff.mp H
     obtain ⟨t115, A250, H⟩ := H
     replace H : (if t115 = true then (if 0 ≤ (wrap64 ((wrap64 ((wrap64 ((wrap64 (Int.tdiv x9_2 16)) + a2)) * 16)) + (wrap64 ((Int.tmod x9_2 16) + a1)))) then (if (wrap64 ((wrap64 ((wrap64 ((wrap64 (Int.tdiv x9_2 16)) + a2)) * 16)) + (wrap64 ((Int.tmod x9_2 16) + a1)))) < (x7_2.length : Int) then (spec_ShiftRegion.l0 k2 a1 a2 (x7_2.set ((wrap64 ((wrap64 ((wrap64 ((wrap64 (Int.tdiv x9_2 16)) + a2)) * 16)) + (wrap64 ((Int.tmod x9_2 16) + a1)))) : Int).toNat true) t107 (wrap64 (x9_2 + 1))) else (none)) else (none)) else (spec_ShiftRegion.l0 k2 a1 a2 x7_2 t107 (wrap64 (x9_2 + 1)))) = some r := H
     have A25 := Aside0.mk A250
     clear A250
     by_cases c26 : t115 = true
     ·
      subst c26
      have H1 : (if 0 ≤ (wrap64 ((wrap64 ((wrap64 ((wrap64 (Int.tdiv x9_2 16)) + a2)) * 16)) + (wrap64 ((Int.tmod x9_2 16) + a1)))) then (if (wrap64 ((wrap64 ((wrap64 ((wrap64 (Int.tdiv x9_2 16)) + a2)) * 16)) + (wrap64 ((Int.tmod x9_2 16) + a1)))) < (x7_2.length : Int) then (spec_ShiftRegion.l0 k2 a1 a2 (x7_2.set ((wrap64 ((wrap64 ((wrap64 ((wrap64 (Int.tdiv x9_2 16)) + a2)) * 16)) + (wrap64 ((Int.tmod x9_2 16) + a1)))) : Int).toNat true) t107 (wrap64 (x9_2 + 1))) else (none)) else (none)) = some r := by rw [if_pos rfl] at H; exact H
      clear H
      have H := H1
      clear H1
      obtain ⟨ji27, hji27⟩ : ∃ j_ : Int, (wrap64 ((wrap64 ((wrap64 ((wrap64 (Int.tdiv x9_2 16)) + a2)) * 16)) + (wrap64 ((Int.tmod x9_2 16) + a1)))) = j_ := ⟨_, rfl⟩
      replace H : (if 0 ≤ (ji27) then (if (ji27) < (x7_2.length : Int) then (spec_ShiftRegion.l0 k2 a1 a2 (x7_2.set ((ji27) : Int).toNat true) t107 (wrap64 (x9_2 + 1))) else (none)) else (none)) = some r := by first | (rw [hji27] at H; exact H) | (simp only [hji27] at H ⊢; exact H)
      (try rw [hji27] at A23)
      (try rw [hji27] at A25)
      have hji27w : (IntKind.i64.wrap ((wrap64 ((wrap64 ((wrap64 (Int.tdiv x9_2 16)) + a2)) * 16)) + (wrap64 ((Int.tmod x9_2 16) + a1)))) = ji27 := (i64_w _).trans hji27
      by_cases c28 : 0 ≤ (ji27)
      rotate_left
      ·
       rw [if_neg c28] at H
       exact absurd H (by simp)
      rw [if_pos c28] at H
      have c28b0 : decide (0 ≤ (ji27)) = true := decide_eq_true c28
      clear c28
      by_cases c29 : (ji27) < (x7_2.length : Int)
      rotate_left
      ·
       rw [if_neg c29] at H
       exact absurd H (by simp)
      rw [if_pos c29] at H
      have c29b0 : decide ((ji27) < (x7_2.length : Int)) = true := decide_eq_true c29
      clear c29
      obtain ⟨y116, hy116⟩ : ∃ y_ : List Bool, y_ = (x7_2.set ((ji27) : Int).toNat true) := ⟨_, rfl⟩
      replace H : (spec_ShiftRegion.l0 k2 a1 a2 y116 t107 (wrap64 (x9_2 + 1))) = some r := by first | (rw [hy116]; with_reducible exact H) | (have H2_ := (Option.bind_some _ _).symm.trans H; rw [hy116]; with_reducible exact H2_) | (have H2_ := (Option.bind_some _ _).symm.trans H; with_reducible exact H2_) | with_reducible exact H | (rw [hy116]; exact H) | exact H
      have Ny116 := Aside0.mk hy116
      clear hy116
      have H' := Aside0.mk H
      clear H
      obtain ⟨Ao31, co31, eo31⟩ := Kd.R_slice HO_8.out
      subst eo31
      have p113 : 0 ≤ (x9_2 : Int) := of_decide_eq_true (by first | with_reducible assumption | assumption)
      have q113 : x9_2 < (t107.length : Int) := of_decide_eq_true (by first | with_reducible assumption | assumption)
      obtain ⟨ad113, e113, hx113_0⟩ := Kd.at_bool (Kd.R_reads' HO_8.out).2.2 x9_2 p113 q113
      (try rw [← Nbq21.out] at hx113_0)
      cases e113
      replace p113 := eq_true p113
      replace q113 := eq_true q113
      go_wp2_with (first | (go_at_call 49; (with_reducible refine (spec_inRange.calls (wrap64 ((Int.tmod x9_2 16) + a1)) 0 15 true _ A23.out).mono ?_); rintro e w' ⟨rfl, ⟨nd, rfl⟩⟩; (try (rw [drewN_self wr]; generalize hq_ : World.drewN wr _ = wr; have n0_ : Aside0 (Kd.R Kd.bool 4 wr w.heap.size (fun k_ => some k_ ≠ (.slice (some ad113) t107.length co31 : Value).ownBlock) v102 x7_2) := ⟨by rw [← hq_]; exact (by exact HO_7.out)⟩; have n1_ : Aside0 (Kd.R Kd.bool 4 wr w.heap.size (fun k_ => some k_ ≠ (v102 : Value).ownBlock) (.slice (some ad113) t107.length co31) t107) := ⟨by rw [← hq_]; exact (by exact HO_8.out)⟩; have n2_ : Aside0 (Below w.heap.size w wr) := ⟨by rw [← hq_]; exact (by repeat (first | (with_reducible first | exact HB.out | apply below_alloc | apply pw_below_drewN | apply below_drew1) | exact HB.out))⟩; clear HO_7 HO_8 HB hq_; have HO_7 := n0_; have HO_8 := n1_; have HB := n2_; clear n0_ n1_ n2_))) | (go_at_call 49; (with_reducible refine (spec_inRange.calls (wrap64 ((wrap64 (Int.tdiv x9_2 16)) + a2)) 0 15 true _ A25.out).mono ?_); rintro e w' ⟨rfl, ⟨nd, rfl⟩⟩; (try (rw [drewN_self wr]; generalize hq_ : World.drewN wr _ = wr; have n0_ : Aside0 (Kd.R Kd.bool 4 wr w.heap.size (fun k_ => some k_ ≠ (.slice (some ad113) t107.length co31 : Value).ownBlock) v102 x7_2) := ⟨by rw [← hq_]; exact (by exact HO_7.out)⟩; have n1_ : Aside0 (Kd.R Kd.bool 4 wr w.heap.size (fun k_ => some k_ ≠ (v102 : Value).ownBlock) (.slice (some ad113) t107.length co31) t107) := ⟨by rw [← hq_]; exact (by exact HO_8.out)⟩; have n2_ : Aside0 (Below w.heap.size w wr) := ⟨by rw [← hq_]; exact (by repeat (first | (with_reducible first | exact HB.out | apply below_alloc | apply pw_below_drewN | apply below_drew1) | exact HB.out))⟩; clear HO_7 HO_8 HB hq_; have HO_7 := n0_; have HO_8 := n1_; have HB := n2_; clear n0_ n1_ n2_)); have p30 : 0 ≤ ((ji27) : Int) := of_decide_eq_true (by first | with_reducible assumption | assumption); have q30 : ((ji27) : Int) < ((x7_2.length : Int) : Int) := of_decide_eq_true (by first | with_reducible assumption | assumption); obtain ⟨go30, co30, eo30, gb30, gl30, cl30, HG30⟩ := Kd.R_form HO_7.out (by omega); (first | cases eo30 | (injection eo30 with ea_ en_ ec_; (first | subst ea_ | (injection ea_ with ea_; subst ea_)); subst ec_; clear en_)); have GB30 := Aside0.mk gb30; have GG30 := Aside0.mk HG30; clear gb30 gl30 HG30; obtain ⟨hx30_0, hf30_0⟩ := Kd.R_celln false HO_7.out ((ji27) : Int) p30 q30; replace p30 := eq_true p30; replace q30 := eq_true q30; obtain ⟨hy32_, hz32_⟩ := Kd.R_celln false HO_7.out ((ji27) : Int) (of_decide_eq_true (by first | with_reducible assumption | assumption)) (of_decide_eq_true (by first | with_reducible assumption | assumption)); have HP32 := Kd.R_putg HO_7.out ((ji27) : Int) true) | ((with_reducible refine gate_store (t := 4) (p := 59) rfl ?_); refine store_event (t := 4) (p := 59) (v := ?vo_w33) (w1 := (wr.setCell ⟨go30, ((ji27) : Int).toNat, none⟩ (.bool true))) ?hg ?ho ?hn ?hr ?_; (case ho => rfl); (case hg => rfl); (case hn => rfl); (case hr => first | (go_simp; done) | (go_simp; rfl)); intro w33 hw; have hg : wr.grownBy w33 (some go30) := (by rw [hw]; exact HP32.2); have hp_ : Kd.R Kd.bool 4 w33 w.heap.size (fun k_ => some k_ ≠ (.slice (some ad113) t107.length co31 : Value).ownBlock) (.slice (some ⟨go30, 0, none⟩) x7_2.length co30) y116 := (by rw [hw, Ny116.out]; exact HP32.1); clear HP32; replace HO_7 := am_ (hp_); replace HO_8 := am_ (Kd.R_after (v := (.slice (some ⟨go30, 0, none⟩) x7_2.length co30)) (v1 := (.slice (some ⟨go30, 0, none⟩) x7_2.length co30)) (ok := (fun _ => True)) (by exact Kd.R_mono HO_8.out (fun _ hk => ⟨trivial, hk⟩)) hg (.inl rfl)); replace HB := am_ ((by rw [hw]; exact below_set (HB.out) GB30.out : Below w.heap.size w w33)); clear hg hw hp_))
      go_roundg k2
      case measure => have := HJ4.out; have := HK2.out; omega
      case rel => exact ⟨(y116), (wrap64 (x9_2 + 1)), (by first | rfl | (simp; done) | (simp [*]; done)), H', ⟨by have := HJ4.out; have := HK2.out; omega⟩, ⟨by exact HO_7.out⟩, ⟨by exact Kd.R_mono HO_8.out (fun _ hk => hk.2)⟩, ⟨by repeat (first | (with_reducible first | exact HB.out | apply below_alloc | apply pw_below_drewN | apply below_drew1) | exact HB.out)⟩⟩
     replace c26 := Bool.eq_false_iff.mpr c26
     subst c26
     have H1 : (spec_ShiftRegion.l0 k2 a1 a2 x7_2 t107 (wrap64 (x9_2 + 1))) = some r := by rw [if_neg (show ¬ (false = true) by decide)] at H; exact H
     clear H
     have H := H1
     clear H1
     have H' := Aside0.mk H
     clear H
     obtain ⟨Ao34, co34, eo34⟩ := Kd.R_slice HO_8.out
     subst eo34
     have p113 : 0 ≤ (x9_2 : Int) := of_decide_eq_true (by first | with_reducible assumption | assumption)
     have q113 : x9_2 < (t107.length : Int) := of_decide_eq_true (by first | with_reducible assumption | assumption)
     obtain ⟨ad113, e113, hx113_0⟩ := Kd.at_bool (Kd.R_reads' HO_8.out).2.2 x9_2 p113 q113
     (try rw [← Nbq21.out] at hx113_0)
     cases e113
     replace p113 := eq_true p113
     replace q113 := eq_true q113
     go_wp2_with (first | (go_at_call 49; (with_reducible refine (spec_inRange.calls (wrap64 ((Int.tmod x9_2 16) + a1)) 0 15 true _ A23.out).mono ?_); rintro e w' ⟨rfl, ⟨nd, rfl⟩⟩) | (go_at_call 49; (with_reducible refine (spec_inRange.calls (wrap64 ((wrap64 (Int.tdiv x9_2 16)) + a2)) 0 15 false _ A25.out).mono ?_); rintro e w' ⟨rfl, ⟨nd, rfl⟩⟩))
     go_roundg k2
     case measure => have := HJ4.out; have := HK2.out; omega
     case rel => exact ⟨(x7_2), (wrap64 (x9_2 + 1)), (by first | rfl | (simp; done) | (simp [*]; done)), H', ⟨by have := HJ4.out; have := HK2.out; omega⟩, ⟨by exact HO_7.out⟩, ⟨by exact HO_8.out⟩, ⟨by repeat (first | (with_reducible first | exact HB.out | apply below_alloc | apply pw_below_drewN | apply below_drew1) | exact HB.out)⟩⟩

end Go.Proofs.Ytllodpaghkohbaa.Print
